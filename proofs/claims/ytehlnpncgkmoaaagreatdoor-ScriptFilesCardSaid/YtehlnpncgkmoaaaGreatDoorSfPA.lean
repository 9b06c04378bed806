/- A part of a proof (see the text that ends in Proof). No conditions. -/
import Derived.Test.YtehlnpncgkmoaaaGreatDoorSfBA
set_option linter.unusedVariables false
namespace Go.Pl
open Go Go.Lv
abbrev LB:=List UInt8
abbrev LI:=List Int
abbrev LX:=List Int32
abbrev LU:=List UInt32
abbrev LQ:=List UInt64
variable(x d l:Int)(z C:LB)(e:LX)(N:List LB)(l8:LB)(O:Bool)(c j t J:Int)(P x9:LB)(B:LX)(o9:List LB)(p8:LB)(X:Bool)(r:Int)(s:LI)(E:Int)(L:LB)(Y:Bool)(R Ak9:Int)(Akw Alc:LB)(Ald:Bool)(Ale:Int)(Alf:LB)(Ak3:LX)(Alg:LB)(Ala:List LB)(i:UInt64)(D:UInt32)(F:UInt64)(l6:LB)(p9:UInt64->Option UInt64)(q9:UInt64->Int->Option UInt64)(M:Int)(Akx:LB)(Ak7:Int)(Z:UInt64)(T:Int)(r9:Option Int)(y5:Int->Option Int)(q Ak0:Int32)(l9:LX)(A:Int)(U V:LX)(Aky:Int32)(Akz Ak1:UInt64)(y7:Int->Int->Option Int)(Ak4:LI)(l7 w9:Int)(Alh:Int->Option Int)(Ak8:LI)(Ak2 Ak5:Int)(y8:UInt8)(Alb:UInt64)(o7:Int)(G:LU)(I:List (UInt8×Int×Unit))(l5 o8:Int)(Ak6:LX)(y9:Bool)(Ali:LQ)
def DF:Option (Int×Int):=
some (1,8)
def Ps:Option Bool:=
if y9 then
some ((Jd o7 0)&&(rQ o7 100000))
else
if(geq y8 3)then
some (geq o7 0)
else
some false
def MA:=Ps
def LO(j2:UInt8->Int->Bool->Option Bool)(a:UInt8)(b:Int):Option Bool:=
if(geq a 1)then
j2 a b (geq a 1)
else
j2 a b (geq a 2)
def KH:=LO MA
def Tm:Option Bool:=
(KH y8 o7).bind λx=>
some (!x)
def cD:Option Int:=
some 0
def dN:=cD
def dQ:Option Int:=
if y9 then
some 2
else
r9
def dV:=dQ dN
def cL(j19:Bool->Option Int)(f:Bool):Option Int:=
j19 f
def GV:=cL dV
def dB(j18:Bool->Option Int):Option Int:=
j18 (Jd (-1:Int) (0:Int))
def HE:=dB GV
def GU(vg:Int->Option Int)(a:List (UInt8×Int×Unit))(b:Int):Option Int:=
vg (Ad b 1)
def IK vg:=GU vg
def HO(j18:Bool->Option Int)(j15:Int->Option Int)(a:List (UInt8×Int×Unit))(b:Int)(g:Bool):Option Int:=
if g then
j18 (Jd b 0)
else
j15 b
def Vw vg a:=HO GV (IK vg a) a
def Oa(j14:Int->Bool->Option Int)(j17:Option Int)(a:List (UInt8×Int×Unit))(b:Int):Option Int:=
if(Ci b (Ac a))then
(Af a b).bind λh=>
(Tm h.1 h.2.1).bind λg=>
j14 b g
else
j17
def Ih:Nat->Int->Option Int
|0,_=>none
|x+1,z=>Oa (Vw (Ih x) I) HE I z
def dG a:=Ih a As
def Yy(j11:(List (UInt8×Int×Unit))->Int->Option Int)(a:List (UInt8×Int×Unit)):Option Int:=
if(Ep (Ac a) 200)then
some 4
else
j11 a 0
def AA:=Yy dG
def Nv:Option (Int×Int):=
if((Ci x 1)||(Ep x 1048576))then
some (0,2)
else
some ((aA 1 (Bs (Bq 256 x) 245)),0)
abbrev FA:=Option (Int32×Int32×Int)
def PO:FA:=
if O then
(Gu (Jd (Ag x 1) 0)).bind λ_=>
some ((qF (Cr (1:Int32) (GI.toZ (Ag x 1)).toNat)),(Ag (Cr (1:Int32) (GI.toZ (Ag x 1)).toNat) 1),0)
else
some (0,0,2)
def SD:=PO
def QU(j2:Int->Bool->FA)(a:Int):FA:=
if(geq a 8)then
j2 a (geq a 8)
else
if(geq a 16)then
j2 a (geq a 16)
else
j2 a (geq a 24)
def Kx:=QU SD
def Mc:Option Int:=
(Kx d).bind λ(z,c,e)=>
if(((Bp e 0)||(Ci x 1))||(Ep x 6))then
some 2
else
some 0
def Pj:Option (Int×Bool):=
(Nv l).bind λ(c,e)=>
(Mc x d).bind λi=>
some (c,(((geq i 0)&&(geq e 0))&&(rQ (Ac z) 64)))
def Yc:Option (Int×Int×Int×LB×LB×LX×(List LB)×LB×Bool×Int×Int):=
(Pj x d l z).bind λ(c,e)=>
if(!e)then
some (0,0,0,([]:LB),([]:LB),([]:LX),([]:List LB),([]:LB),false,0,2)
else
some (x,d,l,z,([]:LB),([]:LX),([]:List LB),([]:LB),false,0,0)
def Sg:Option Int:=
some (Bs (Bq x d) 8)
def lQ:Option Int:=
some 0
def RB:=lQ
def Sa:Option Int:=
if(Ci A (Ac l9))then
(Af l9 A).bind λx=>
if((Ci x q)||(Ep x Ak0))then
some 16
else
y5 (Ad A 1)
else
r9
def Kg:Nat->Int->Option Int
|0,_=>none
|x+1,z=>Sa RB (Kg x) q Ak0 l9 z
def iM b f a:=Kg b f a As
def BZ(j4:Int32->Int32->LX->Int->Option Int)(m:Int)(a:LX):Option Int:=
(Kx m).bind λ(b,f,k)=>
if(Bp k 0)then
some k
else
if(Ep (Ac a) 4000)then
some 4
else
j4 b f a 0
def Kw:=BZ iM
def Ma(a h k:Int)(m n:LB)(b:LX)(f:List LB)(o:LB)(p:Bool)(u g:Int):Option Int:=
(Gu (Bp a 0)).bind λ_=>
some (Ad (Bq (Ac f) g) (Bs (Ac b) a))
def Lo(a g h:Int)(k m:LB)(n:LX)(o:List LB)(p:LB)(u:Bool)(v b f:Int):Option Bool:=
some ((rQ b 1000)&&(rQ (Bq f a) 4000))
def UY:Option Bool:=
some (!O)
def VC:=UY
def UB(j24:Bool->Option Bool)(y:Bool):Option Bool:=
j24 y
def Zt:=UB VC
def UU(j23:Bool->Option Bool):Option Bool:=
j23 (Jd (-1:Int) (0:Int))
def Zh:=UU Zt
def Zo(Ex:Int->Option Bool)(b:List LB)(f a h:Int):Option Bool:=
Ex (Ad h 1)
def Zj Ex:=Zo Ex
def Zs(j23:Bool->Option Bool)(j20:Int->Option Bool)(b:List LB)(f a h:Int)(w:LB):Option Bool:=
if((Ci (Ac w) 5)||(Ep (Ac w) (Ad (Bs (Ad (Bq (Bq 81 f) a) 7) 8) 4)))then
j23 (Jd h 0)
else
j20 h
def Oi Ex b f a:=Zs Zt (Zj Ex b f a) b f a
def Jx(j19:Int->LB->Option Bool)(j22:Option Bool)(b:List LB)(f a h:Int):Option Bool:=
if(Ci h (Ac b))then
(Af b h).bind λw=>
j19 h w
else
j22
def Gi:Nat->Int->Option Bool
|0,_=>none
|x+1,z=>Jx (Oi (Gi x) N c j) Zh N c j z
def Ok b f a:=Gi b f a As
def Jv(j16:(List LB)->Int->Int->Int->Option Bool)(f a k o:Int)(p m:LB)(g:LX)(b:List LB)(n:LB)(u:Bool)(v:Int):Option Bool:=
j16 b f a 0
def Oy:=Jv Ok
def Jw(j15:Int->Int->Int->Int->LB->LB->LX-> (List LB)->LB->Bool->Int->Option Bool)(f a k o:Int)(p m:LB)(g:LX)(b:List LB)(n:LB)(u:Bool)(v aa:Int):Option Bool:=
(Ma a k o p m g b n u v f).bind λab=>
(Lo a k o p m g b n u v aa ab).bind λac=>
if(!ac)then
some false
else
j15 f a k o p m g b n u v
def On:=Jw Oy
def Oq(j14:Int->Int->Int->Int->LB->LB->LX-> (List LB)->LB->Bool->Int->Int->Option Bool)(f a k o:Int)(p m:LB)(g:LX)(b:List LB)(n:LB)(u:Bool)(v:Int):Option Bool:=
(Kw k g).bind λad=>
if(Bp ad 0)then
some false
else
if(Ep (Ac g) 0)then
j14 f a k o p m g b n u v (Ad (Ac b) 1)
else
j14 f a k o p m g b n u v (Ac b)
def Om:=Oq On
def Qe(j13:Int->Int->Int->Int->LB->LB->LX-> (List LB)->LB->Bool->Int->Option Bool)(a k o:Int)(p m:LB)(g:LX)(b:List LB)(n:LB)(u:Bool)(v f:Int):Option Bool:=
if(Ep (Ac n) 0)then
if true then
if true then
if(true||(Ep (Ac b) 1000))then
some false
else
j13 f a k o p m g b n u v
else
(Gu (Bp a 0)).bind λ_=>
if((Jd (Bs (Ac g) a) f)||(Ep (Ac b) 1000))then
some false
else
j13 f a k o p m g b n u v
else
(Gu (Bp a 0)).bind λ_=>
if(Bp (Ip (Ac g) a) 0)then
if(true||(Ep (Ac b) 1000))then
some false
else
j13 f a k o p m g b n u v
else
(Gu (Bp a 0)).bind λ_=>
if((Jd (Bs (Ac g) a) f)||(Ep (Ac b) 1000))then
some false
else
j13 f a k o p m g b n u v
else
(Sg a k).bind λae=>
if(Jd (Ac m) ae)then
if true then
if(true||(Ep (Ac b) 1000))then
some false
else
j13 f a k o p m g b n u v
else
(Gu (Bp a 0)).bind λ_=>
if((Jd (Bs (Ac g) a) f)||(Ep (Ac b) 1000))then
some false
else
j13 f a k o p m g b n u v
else
(Gu (Bp a 0)).bind λ_=>
if(Bp (Ip (Ac g) a) 0)then
if(true||(Ep (Ac b) 1000))then
some false
else
j13 f a k o p m g b n u v
else
(Gu (Bp a 0)).bind λ_=>
if((Jd (Bs (Ac g) a) f)||(Ep (Ac b) 1000))then
some false
else
j13 f a k o p m g b n u v
def Pu:=Qe Om
def Ic:Option Int:=
(Pj x d l z).bind λ(i,j)=>
if(!j)then
some 8
else
if(Bp c 0)then
if(!(((((geq c 18)||(geq c 24))&&(!O))&&(geq (Ad (Ad (Ac C) (Ac e)) (Ac N)) 0))&&(geq (Ac l8) 0)))then
some 8
else
some 0
else
if O then
if(!((geq (Ad (Ad (Ac C) (Ac e)) (Ac N)) 0)&&(rQ (Ac l8) 100000)))then
some 8
else
some 0
else
(Pu x d l z C e N l8 O c i).bind λq=>
if(!q)then
some 8
else
some 0
def Ax:Option (LB):=
(
(Ch ([]:LB) z).bind λx=>
some x)
def By:Option (LX):=
(
(Ch ([]:LX) e).bind λx=>
some x)
abbrev Gb:=Option (Int×Int×Int×LB×LB×LX×(List LB)×LB×Bool×Int)
def gI(b f g:Int)(h:LB)(a:List LB)(k:Bool)(m:Int)(u:List LB)(n:LB)(o:LX)(p:LB):Gb:=
some (b,f,g,h,n,o,u,p,k,m)
def MC:=gI
def Py(j8:Int->Int->Int->LB-> (List LB)->Bool->Int-> (List LB)->LB->LX->LB->Gb)(nI:Int-> (List LB)->Gb)(w a:List LB)(b f g:Int)(h:LB)(k:Bool)(m:Int)(n:LB)(o:LX)(p:LB)(v:Int)(u:List LB):Gb:=
if(Ci v (Ac (IB w a)))then
(Af u v).bind λ_=>
(Af u v).bind λy=>
(Ax y).bind λaa=>
(Af u v).bind λ_=>
(Iy u v aa).bind λab=>
nI (Ad v 1) ab
else
j8 b f g h a k m u n o p
def Jk:Nat->Int-> (List LB)->Gb
|0,_,_=>none
|x+1,z,c=>Py MC (Jk x) N o9 r E R Akw Ald Ale Alf Ak3 Alg z c
def fY w a b f g h k m n o p:=Jk w a b f g h k m n o p As
def Yw(j6:(List LB)-> (List LB)->Int->Int->Int->LB->Bool->Int->LB->LX->LB->Int-> (List LB)->Gb)(b f g:Int)(h:LB)(a:List LB)(k:Bool)(m:Int)(n:LB)(o:LX)(p:LB):Gb:=
(S6 (Ac a) ([]:LB)).bind λw=>
(Gu (geq (Ac a) (Ac a))).bind λ_=>
j6 w a b f g h k m n o p 0 (IB w a)
def ME:=Yw fY
def Ys(j5:Int->Int->Int->LB-> (List LB)->Bool->Int->LB->LX->LB->Gb)(b f g:Int)(h ac:LB)(ad:LX)(a:List LB)(ae:LB)(k:Bool)(m:Int):Gb:=
(Ax ac).bind λn=>
(By ad).bind λo=>
(Ax ae).bind λp=>
j5 b f g h a k m n o p
def Tn:=Ys ME
abbrev Yt:=Option (Int×Int×Int×LB×LB×LX×(List LB)×LB×Bool×Int×Int×Int)
def Kf:Yt:=
(Tn d l c P x9 B o9 p8 X r).bind λ(z,e,i,j,q,s,t,A,C,D)=>
some (z,e,i,j,q,s,t,A,C,D,x,E)
def Ks:=Kf
def Vt(j2:Int->Int->Int->Int->LB->LB->LX-> (List LB)->LB->Bool->Int->Int->Yt)(g h b:Int)(k m:LB)(n:LX)(o:List LB)(p:LB)(f:Bool)(a:Int):Yt:=
(Ic g h b k m n o p f a).bind λv=>
if(Bp v 0)then
some (0,0,0,([]:LB),([]:LB),([]:LX),([]:List LB),([]:LB),false,0,0,v)
else
(Nv b).bind λ(u,aj)=>
if(Bp a 0)then
j2 u g h b k m n o p f a a
else
if f then
j2 u g h b k m n o p f a 36
else
j2 u g h b k m n o p f a aj
def Jr:=Vt Ks
abbrev Bm:=Option (LX×Int)
def aZ:Bm:=
some (e,0)
def DS:=aZ
def Mr(Ex:Int->LX->Bm)(a:Int)(b:LB)(f:Int)(o:LX):Bm:=
Ex (Ad f (Bs a 8)) o
def Fy Ex:=Mr Ex
def Rt(j28:Int->LX->Bm)(a:Int)(b:LB)(f:Int)(k:Int32)(g:LX):Bm:=
(Gu (Jd (Ag 32 a) 0)).bind λ_=>
(Gu (Jd (Ag 32 a) 0)).bind λ_=>
(Ch g ([(Bo (Cr k (GI.toZ (Ag 32 a)).toNat) (GI.toZ (Ag 32 a)).toNat)]:LX)).bind λp=>
j28 f p
def Mx Ex a b:=Rt (Fy Ex a b) a b
def Di(j27:Int->Int32->LX->Bm)(Aht:Int32->Int->Bm)(a:Int)(b:LB)(f:Int)(g:LX)(k:Int32)(h:Int):Bm:=
if(Ci h (Bs a 8))then
(Af b (Ad f h)).bind λm=>
(Gu (Jd (Bq 8 h) 0)).bind λ_=>
Aht (rX k (Cr (Ae m:Int32) (GI.toZ (Bq 8 h)).toNat)) (Ad h 1)
else
j27 f k g
def Ct(Ex:Int->LX->Bm)(a:Int)(b:LB)(f:Int)(g:LX):Nat->Int32->Int->Bm
|0,_,_=>none
|q+1,k,h=>Di (Mx Ex a b) (Ct Ex a b f g q) a b f g k h
def Ho Ex a b f g:=Ct Ex a b f g As
def Ds(j28:Int->LX->Bm)(j25:Int->LX->Int32->Int->Bm)(j30:LX->Bm)(a:Int)(b:LB)(f:Int)(g:LX):Bm:=
if(Ci f (Ac b))then
if(geq a 8)then
(Af b f).bind λm=>
(Ch g ([(Ag (Ae m:Int32) 128)]:LX)).bind λu=>
j28 f u
else
j25 f g 0 0
else
j30 g
def Cg:Nat->Int->LX->Bm
|0,_,_=>none
|c+1,d,e=>Ds (Fy (Cg c) x z) (Ho (Cg c) x z) DS x z d e
def EB a b:=Cg a b As
def Wg(j16:Int->LB->Int->LX->Bm)(a:Int)(b:LB):Bm:=
(Kx a).bind λ(v,w,n)=>
if(Bp n 0)then
some (([]:LX),n)
else
(Gu (Bp (Bs a 8) 0)).bind λ_=>
if(Bp (Ip (Ac b) (Bs a 8)) 0)then
some (([]:LX),12)
else
(Gu (Bp (Bs a 8) 0)).bind λ_=>
if(Ep (Bs (Ac b) (Bs a 8)) 4000)then
some (([]:LX),4)
else
j16 a b 0 ([]:LX)
def Wr:=Wg EB
abbrev Bi:=Option (UInt64×Int)
def QR:Bi:=
some (i,0)
def QT:=QR
def PA(j30:UInt64->Bi)(h b:UInt64)(a:LB)(f:LQ):Bi:=
j30 h
def BY:=PA QT
def Td(j29:UInt64->UInt64->LB->LQ->Bi)(LN:UInt64->Int->Bi)(a:LB)(b:UInt64)(f:LQ)(h:UInt64)(m:Int):Bi:=
if(Ci m (Ac a))then
(Af a m).bind λp=>
Option.bind (Af f (GI.toZ (Pn (Ae (Bo h (GI.toZ (56:UInt64)).toNat):UInt8) p))) λ_=>
Option.bind (Af f (GI.toZ (Pn (Ae (Bo h (GI.toZ (56:UInt64)).toNat):UInt8) p))) λu=>
LN (Pn (Cr h (GI.toZ (8:UInt64)).toNat) u) (Ad m 1)
else
j29 h b a f
def Kh:Nat->UInt64->Int->Bi
|0,_,_=>none
|x+1,c,d=>Td BY (Kh x) z i Ali c d
def AZ a b f:=Kh a b f As
def AR(j27:LB->UInt64->LQ->UInt64->Int->Bi)(b:UInt64)(a:LB)(f:LQ):Bi:=
j27 a b f b 0
def BR:=AR AZ
def OQ(Ex:Int->LQ->Bi)(b:UInt64)(a:LB)(g:Int)(o:LQ):Bi:=
Ex (Ad g 1) o
def PT Ex:=OQ Ex
def PK(j24:Int->LQ->Bi)(b:UInt64)(a:LB)(g:Int)(k:UInt64)(f:LQ):Bi:=
(Af f g).bind λ_=>
(Iy f g k).bind λo=>
j24 g o
def Sn Ex b a:=PK (PT Ex b a) b a
def Rw(j23:Int->UInt64->LQ->Bi)(Aev:UInt64->Int->Bi)(b:UInt64)(a:LB)(g:Int)(f:LQ)(k:UInt64)(n:Int):Bi:=
if(Ci n 8)then
Aev (Pn (Cr k (GI.toZ (1:UInt64)).toNat) (Bq 4823603603198064275 (Bo k (GI.toZ (63:UInt64)).toNat))) (Ad n 1)
else
j23 g k f
def Kl(Ex:Int->LQ->Bi)(b:UInt64)(a:LB)(g:Int)(f:LQ):Nat->UInt64->Int->Bi
|0,_,_=>none
|q+1,k,n=>Rw (Sn Ex b a) (Kl Ex b a g f q) b a g f k n
def CM Ex b a g f:=Kl Ex b a g f As
def Te(j21:Int->LQ->UInt64->Int->Bi)(j26:UInt64->LB->LQ->Bi)(b:UInt64)(a:LB)(g:Int)(f:LQ):Bi:=
if(Ci g 256)then
j21 g f (Cr (Ae g:UInt64) (GI.toZ (56:UInt64)).toNat) 0
else
j26 b a f
def Iw:Nat->Int->LQ->Bi
|0,_,_=>none
|x+1,z,c=>Te (CM (Iw x) i l6) BR i l6 z c
def QG b a:=Iw b a As
def FB(j16:UInt64->LB->Int->LQ->Bi)(b:UInt64)(a:LB):Bi:=
if(Ep (Ac a) 100000)then
some (0,4)
else
j16 b a 0 (List.replicate 256 (0:UInt64))
def KJ:=FB QG
def GP:Option (UInt64×Int):=
(KJ 0 z).bind λ(x,c)=>
some (x,c)
def D6:Option (LX):=
some e
def jI:=D6
def LK(j6:LX->Option (LX))(Na:Int->LX->Option (LX))(f:UInt64)(a:Int)(b:LX):Option (LX):=
if(Ci a 8)then
(Gu (Jd (Bq 8 a) 0)).bind λ_=>
(Af b a).bind λ_=>
(Iy b a (Ae (Ae (Bo f (GI.toZ (Bq 8 a)).toNat):Int8):Int32)).bind λg=>
Na (Ad a 1) g
else
j6 b
def Wh:Nat->Int->LX->Option (LX)
|0,_,_=>none
|x+1,z,c=>LK jI (Wh x) i z c
def D8 f:=Wh f As
def lL(j4:UInt64->Int->LX->Option (LX))(f:UInt64):Option (LX):=
j4 f 0 (List.replicate 16 (0:Int32))
def qC:=lL D8
def HV:Option (LX×Int):=
if(Ep (Ac z) 64)then
some (([(0:Int32),(0:Int32),(0:Int32),(0:Int32),(0:Int32),(0:Int32),(0:Int32),(0:Int32),(0:Int32),(0:Int32),(0:Int32),(0:Int32),(0:Int32),(0:Int32),(0:Int32),(0:Int32)]:LX),2)
else
(GP z).bind λ(x,c)=>
if(Bp c 0)then
some (([(0:Int32),(0:Int32),(0:Int32),(0:Int32),(0:Int32),(0:Int32),(0:Int32),(0:Int32),(0:Int32),(0:Int32),(0:Int32),(0:Int32),(0:Int32),(0:Int32),(0:Int32),(0:Int32)]:LX),c)
else
(qC x).bind λd=>
some (d,0)
def Wq:Option Int:=
(Mc x d).bind λz=>
if(Bp z 0)then
some z
else
(Kw d e).bind λc=>
if(Bp c 0)then
some c
else
if(geq (Ac e) 0)then
some 2
else
(Gu (Bp x 0)).bind λ_=>
if(Bp (Ip (Ac e) x) 0)then
some 2
else
some 0
def HK:Option Int:=
if((Ci x 1)||(Ep x 6))then
some 2
else
if(Ep (Ac e) 4000)then
some 4
else
(Gu (Bp x 0)).bind λ_=>
if(Bp (Ip (Ac e) x) 0)then
some 2
else
some 0
abbrev Gj:=Option (LX×Int)
def vT:Gj:=
some (e,0)
def eH:=vT
def PC(FK:Int->LX->Gj)(b a:Int)(u:LX):Gj:=
FK (Ad a b) u
def RJ FK:=PC FK
def fP(j20:Int->LX->Gj)(b a:Int)(g:LX):Gj:=
if(Ep (Ag ((Ad a b)-a) 1) 0)then
(Gu (decide (0<= (Ag ((Ad a b)-a) 1)/\ (Ag ((Ad a b)-a) 1)<((Ad a b)-a)))).bind λ_=>
Option.bind (Gu (decide (0<= (Ag (Ag ((Ad a b)-a) 1) 1)/\ (Ag (Ag ((Ad a b)-a) 1) 1)<((Ad a b)-a)))) λ_=>
(Af g (a+(Ag ((Ad a b)-a) 1))).bind λk=>
(Af g (a+(Ag (Ag ((Ad a b)-a) 1) 1))).bind λm=>
(Gu (decide (0<= (Ag ((Ad a b)-a) 1)/\ (Ag ((Ad a b)-a) 1)<((Ad a b)-a)))).bind λ_=>
(Iy g (a+(Ag ((Ad a b)-a) 1)) (Ag k (Bs m 2))).bind λn=>
j20 a n
else
j20 a g
def OP FK b:=fP (RJ FK b) b
def CZ(j19:Int->LX->Gj)(mH:Int->LX->Gj)(b a f:Int)(g:LX):Gj:=
if(Ci f (Ag ((Ad a b)-a) 1))then
(Gu (decide (0<= (Ad f 1)/\ (Ad f 1)<((Ad a b)-a)))).bind λ_=>
(Gu (decide (0<=f/\f<((Ad a b)-a)))).bind λ_=>
(Af g (a+(Ad f 1))).bind λk=>
(Af g (a+f)).bind λm=>
(Gu (decide (0<=f/\f<((Ad a b)-a)))).bind λ_=>
(Iy g (a+f) (Ag k m)).bind λn=>
mH (Ad f 1) n
else
j19 a g
def Rl(FK:Int->LX->Gj)(b a:Int):Nat->Int->LX->Gj
|0,_,_=>none
|q+1,f,g=>CZ (OP FK b) (Rl FK b a q) b a f g
def eR FK b a:=Rl FK b a As
def OY(j17:Int->Int->LX->Gj)(j22:LX->Gj)(b a:Int)(h:LX):Gj:=
if(Ci a (Ac h))then
(ZD (Ac h) a (Ad a b)).bind λ_=>
j17 a 0 h
else
j22 h
def Rr:Nat->Int->LX->Gj
|0,_,_=>none
|z+1,c,d=>OY (eR (Rr z) x) eH x c d
def eM b:=Rr b As
def XT(j12:Int->Int->LX->Gj)(b:Int)(o:LX):Gj:=
(HK b o).bind λp=>
if(Bp p 0)then
some (([]:LX),p)
else
(By o).bind λv=>
j12 b 0 v
def hJ:=XT eM
abbrev XL:=Option (Int×LX×LX×Int)
def xM:XL:=
if O then
some (10,e,(List.replicate 16 (0:Int32)),0)
else
if(geq x 16)then
some (9,e,(List.replicate 16 (0:Int32)),0)
else
some (0,(List.replicate 16 (0:Int32)),(List.replicate 16 (0:Int32)),2)
def uY:=xM
def wE(j2:Int->LX->Bool->XL)(a:Int)(b:LX):XL:=
if(geq a 8)then
j2 a b (geq a 8)
else
j2 a b (geq a 24)
def aV:=wE uY
def eC:Option (Int×Int32×Int×LX×LX×Int):=
(aV x e).bind λ(z,c,d,i)=>
if(Bp i 0)then
some (0,0,0,(List.replicate 16 (0:Int32)),(List.replicate 16 (0:Int32)),i)
else
some (x,0,z,c,d,0)
def Rf(a:Int)(k:Int32)(b:Int)(f m:LX):Option Int:=
(aV a f).bind λ(g,n,o,h)=>
if((Bp h 0)||(Bp g b))then
some 8
else
some 0
def QJ:Option (Int×Int):=
if(geq x 8)then
some (4,0)
else
if(geq x 16)then
if(geq x 16)then
some (5,0)
else
some (0,2)
else
if(geq x 24)then
some (5,0)
else
some (0,2)
def DA:Option Int32:=
(Gu (Jd x 0)).bind λ_=>
(Gu (Jd x 0)).bind λ_=>
some (Ae (sI (Ag (Cr (Ae q:Int) (GI.toZ x).toNat) (Ae q:Int)) (GI.toZ x).toNat):Int32)
def Rh:Option (Int32×Int):=
(QJ x).bind λ(z,c)=>
if(Bp c 0)then
some (0,c)
else
(DA z q).bind λd=>
some (d,0)
def Wf(a:Int)(b f:LX):Option Int:=
if((Bp a 9)&&(Bp a 10))then
some 8
else
some 0
abbrev Li:=Option (Int32×Int)
def WR(h:Int32)(a:Int)(b f:LX):Li:=
(Gu (Jd a 0)).bind λ_=>
some ((Bo h (GI.toZ a).toNat),0)
def ER:=WR
def Wu(j6:Int32->Int->LX->LX->Li)(Na:Int32->Int->Li)(b:LX)(a:Int)(f:LX)(h:Int32)(g:Int):Li:=
if(Ci g 16)then
(Af b g).bind λm=>
(Af f g).bind λ_=>
(Af f g).bind λn=>
Na (Ad h (Bq m n)) (Ad g 1)
else
j6 h a b f
def Md:Nat->Int32->Int->Li
|0,_,_=>none
|x+1,z,d=>Wu ER (Md x) e c B z d
def WJ b a f:=Md b a f As
def EP(j4:LX->Int->LX->Int32->Int->Li)(a:Int)(b f:LX):Li:=
(Wf a b f).bind λk=>
if(Bp k 0)then
some (0,k)
else
(Gu (Jd (Ag a 1) 0)).bind λ_=>
j4 b a f (Cr (1:Int32) (GI.toZ (Ag a 1)).toNat) 0
def BU:=EP WJ
def GF:Option Int32:=
if(geq x 0)then
some 4
else
if(Ci x 4)then
some 2
else
some 1
abbrev Ky:=Option (Int×LX×LX×Int)
def nF:Ky:=
some (x,e,B,0)
def WK:=nF
def Wv(j6:Int->LX->LX->Ky)(Na:Int->LX->Ky)(h:Int32)(f:LX)(g a:Int)(b:LX):Ky:=
if(Ci a 16)then
(Af f a).bind λm=>
if(geq m 0)then
Na (Ad a 1) b
else
if((Ci m 0)==(Ci h 0))then
(Af b a).bind λ_=>
(Af b a).bind λo=>
(GF a).bind λp=>
(Af b a).bind λ_=>
(Iy b a (Ad o p)).bind λu=>
Na (Ad a 1) u
else
(Af b a).bind λ_=>
(Af b a).bind λv=>
(GF a).bind λw=>
(Af b a).bind λ_=>
(Iy b a (Ag v w)).bind λy=>
Na (Ad a 1) y
else
j6 g b f
def Lz:Nat->Int->LX->Ky
|0,_,_=>none
|x+1,z,c=>Wv WK (Lz x) q l9 A z c
def mS h f g:=Lz h f g As
def EZ(j4:Int32->LX->Int->Int->LX->Ky)(g:Int)(k f:LX)(h:Int32):Ky:=
(Wf g k f).bind λn=>
if(Bp n 0)then
some (0,(List.replicate 16 (0:Int32)),(List.replicate 16 (0:Int32)),n)
else
if(geq h 0)then
some (g,k,f,0)
else
j4 h f g 0 k
def LM:=EZ mS
abbrev RX:=Option (Int×LX×LX×Int)
def ZS:RX:=
(Af (Qc V 1 ((16:Int)-(1:Int)) (NR V 0 ((16:Int)-(0:Int)))) 0).bind λ_=>
(Iy (Qc V 1 ((16:Int)-(1:Int)) (NR V 0 ((16:Int)-(0:Int)))) 0 q).bind λx=>
some (A,U,x,0)
def KA:=ZS
def Zz(j2:Int32->Int->LX->LX->RX)(b:Int)(f a:LX)(g:Int32):RX:=
(Wf b f a).bind λh=>
if(Bp h 0)then
some (0,(List.replicate 16 (0:Int32)),(List.replicate 16 (0:Int32)),h)
else
(
(ZD 16 1 16).bind λ_=>
(ZD 16 0 16).bind λ_=>
j2 g b f a)
def TK:=Zz KA
def IZ:Option (Int×LX×LX):=
(LM x e B Ak0).bind λ(z,c,d,i)=>
(TK z c d q).bind λ(j,l,r,s)=>
some (j,l,r)
def EH:Option (Int32×Int×LX×LX×Int):=
(BU x e B).bind λ(z,c)=>
if(Bp c 0)then
some (0,0,(List.replicate 16 (0:Int32)),(List.replicate 16 (0:Int32)),c)
else
(IZ x e B q (Ag q z)).bind λ(d,i,j)=>
some ((Ag q z),d,i,j,0)
def Ly:Option (Int32×Int×Int32×Int×LX×LX×Int):=
(Rf x q A U V).bind λz=>
if(Bp z 0)then
some (0,0,0,0,(List.replicate 16 (0:Int32)),(List.replicate 16 (0:Int32)),z)
else
(Rh x q).bind λ(c,d)=>
(EH A U V (Ag Aky c)).bind λ(e,i,j,l,r)=>
(
some (e,x,Aky,i,j,l,r))
def SW:Option UInt32:=
some (Pn (Cr (Ae q:UInt32) (GI.toZ (1:UInt64)).toNat) (Ae (Bo q (GI.toZ (31:UInt64)).toNat):UInt32))
abbrev Bz:=Option (LU×Int)
def YK:Bz:=
some (G,0)
def CT:=YK
def Lm(j12:LU->Bz)(tS:Int-> (List (Int×Int32×(Int×LX×LX×Unit)×Unit))->LU->Bz)(b:LX)(a f g:Int)(k:List (Int×Int32×(Int×LX×LX×Unit)×Unit))(h:LU):Bz:=
if(Ci g (Ac b))then
(Af b g).bind λ_=>
(Af b g).bind λac=>
(Gu (Bp a 0)).bind λ_=>
(Af k (Ip g a)).bind λ_=>
(Af k (Ip g a)).bind λp=>
(Ly p.1 p.2.1 p.2.2.1.1 p.2.2.1.2.1 p.2.2.1.2.2.1 ac).bind λ(u,ad,ae,v,af,ag,w)=>
if(Bp w 0)then
some (([]:LU),w)
else
(Iy k (Ip g a) (ad,ae,(v,af,ag,()),())).bind λah=>
(SW u).bind λai=>
(Ch h ([ai]:LU)).bind λaj=>
tS (Ad g 1) ah aj
else
j12 h
def Gy:Nat->Int-> (List (Int×Int32×(Int×LX×LX×Unit)×Unit))->LU->Bz
|0,_,_,_=>none
|x+1,z,d,i=>Lm CT (Gy x) e c j z d i
def AU b a f:=Gy b a f As
def CX(j10:LX->Int->Int->Int-> (List (Int×Int32×(Int×LX×LX×Unit)×Unit))->LU->Bz)(a f:Int)(b:LX)(m:List (Int×Int32×(Int×LX×LX×Unit)×Unit)):Bz:=
j10 b a f 0 m ([]:LU)
def CY:=CX AU
def DC(j9:Int->Int->LX-> (List (Int×Int32×(Int×LX×LX×Unit)×Unit))->Bz)(bk7:Int-> (List (Int×Int32×(Int×LX×LX×Unit)×Unit))->Bz)(a f:Int)(n b:LX)(o:Int)(m:List (Int×Int32×(Int×LX×LX×Unit)×Unit)):Bz:=
if(Ci o 6)then
(eC f n).bind λ(ak,al,u,am,an,v)=>
(Af m o).bind λ_=>
(Iy m o (ak,al,(u,am,an,()),())).bind λao=>
bk7 (Ad o 1) ao
else
j9 a f b m
def Tf:Nat->Int-> (List (Int×Int32×(Int×LX×LX×Unit)×Unit))->Bz
|0,_,_=>none
|z+1,c,i=>DC CY (Tf z) x d e B c i
def Uq a f n b:=Tf a f n b As
def Sr(j7:Int->Int->LX->LX->Int-> (List (Int×Int32×(Int×LX×LX×Unit)×Unit))->Bz)(a f:Int)(n y:LX):Bz:=
(Wq a f y).bind λaa=>
if(Bp aa 0)then
some (([]:LU),aa)
else
(hJ a y).bind λ(b,ab)=>
if(Bp ab 0)then
some (([]:LU),ab)
else
j7 a f n b 0 (List.replicate 6 ((0:Int),(0:Int32),((0:Int),(List.replicate 16 (0:Int32)),(List.replicate 16 (0:Int32)),()),()))
def Sp:=Sr Uq
def ZA:Option (Int×Int×UInt64×UInt64):=
some (10,10,16384,16384)
abbrev Gx:=Option ((List (Int×Int×UInt64×UInt64×Unit)))
def bA(a:List (Int×Int×UInt64×UInt64×Unit)):Gx:=
some a
def DZ:=bA
def EC(j6:(List (Int×Int×UInt64×UInt64×Unit))->Gx)(Na:Int-> (List (Int×Int×UInt64×UInt64×Unit))->Gx)(b:Int)(a:List (Int×Int×UInt64×UInt64×Unit)):Gx:=
if(Ci b 6)then
(ZA).bind λ(f,g,h,k)=>
(Af a b).bind λ_=>
(Iy a b (f,g,h,k,())).bind λm=>
Na (Ad b 1) m
else
j6 a
def Rs:Nat->Int-> (List (Int×Int×UInt64×UInt64×Unit))->Gx
|0,_,_=>none
|q+1,b,a=>EC DZ (Rs q) b a
def DV:=Rs As
def Sk(j4:Int-> (List (Int×Int×UInt64×UInt64×Unit))->Gx):Gx:=
j4 0 (List.replicate 6 ((0:Int),(0:Int),(0:UInt64),(0:UInt64),()))
def Tl:=Sk DV
def Gz:Option Int:=
if(((Ci c 0)||(Ep c 330000))||(Bp (Ac z) (sI (Ad c 7) (GI.toZ (3:UInt64)).toNat)))then
some 8
else
if(Ep (Dq c 7) 0)then
(Af z (Ag (Ac z) 1)).bind λx=>
(Gu (Jd (Dq c 7) 0)).bind λ_=>
if(Bp (Bo x (GI.toZ (Dq c 7)).toNat) 0)then
some 8
else
some 0
else
some 0
def WC:Option Int:=
if(!((geq (Er (aA x 0) 24) x)&&((geq (Er (aA d 0) 24) d)&&((geq (Er i 68719476735) i)&&((geq (Er F 68719476735) F)&&true)))))then
some 8
else
some 0
def EL:=WC
def Wp(j4:Int->Int->UInt64->UInt64->Option Int)(a b:Int)(f g:UInt64):Option Int:=
(
(
j4 a b f g))
def FG:=Wp EL
def Wx(j3:Int->Int->UInt64->UInt64->Option Int)(a b:Int)(f g:UInt64):Option Int:=
(
(
j3 a b f g))
def CF:=Wx FG
def Wi(a f:Int)(g h:UInt64)(b:UInt32):Option (Int×UInt32):=
(Gu (Jd a 0)).bind λ_=>
if(geq (Bo b (GI.toZ a).toNat) 0)then
some (0,b)
else
(Gu (Jd a 0)).bind λ_=>
some (1,(Ag b (Cr (1:UInt32) (GI.toZ a).toNat)))
def GM:Option (LB×Int):=
(Ax z).bind λx=>
some (x,c)
abbrev Cj:=Option (LB×Int×Int)
def ZE:Cj:=
some (z,x,0)
def JE:=ZE
def aS(vk:UInt64->Int->Int->LB->Cj)(b:UInt64)(a:Int)(m:UInt64)(h f:Int)(w:LB):Cj:=
(Gu (Jd (Er h (Ag 8 (Dq f 7))) 0)).bind λ_=>
vk (Bo m (GI.toZ (Er h (Ag 8 (Dq f 7)))).toNat) (Ag h (Er h (Ag 8 (Dq f 7)))) (Ad f (Er h (Ag 8 (Dq f 7)))) w
def bN vk:=aS vk
def aT(j19:UInt64->Int->Int->LB->Cj)(b:UInt64)(a:Int)(m:UInt64)(h f:Int)(u:LB):Cj:=
(Af u (Ag (Ac u) 1)).bind λ_=>
(Gu (Jd (Er h (Ag 8 (Dq f 7))) 0)).bind λ_=>
(Gu (Jd (Dq f 7) 0)).bind λ_=>
(Af u (Ag (Ac u) 1)).bind λad=>
(Af u (Ag (Ac u) 1)).bind λ_=>
Option.bind (Iy u (Ag (Ac u) 1) (rX ad (Cr (Ae (Dq m (Ag (Cr (1:UInt64) (GI.toZ (Er h (Ag 8 (Dq f 7)))).toNat) 1)):UInt8) (GI.toZ (Dq f 7)).toNat))) λw=>
j19 m h f w
def Zx vk b a:=aT (bN vk b a) b a
def Zy(j18:UInt64->Int->Int->LB->Cj)(j21:Int->LB->Cj)(b:UInt64)(a:Int)(m:UInt64)(h f:Int)(o:LB):Cj:=
if(Ep h 0)then
if(geq (Dq f 7) 0)then
(Ch o ([(0:UInt8)]:LB)).bind λaa=>
j18 m h f aa
else
j18 m h f o
else
j21 f o
def Jn:Nat->UInt64->Int->Int->LB->Cj
|0,_,_,_,_=>none
|x+1,z,c,d,e=>Zy (Zx (Jn x) i M) JE i M z c d e
def sX b a:=Jn b a As
def qJ:Cj:=
some (z,x,0)
def bL:=qJ
def rR(vo:UInt64->Int->Int->LB->Cj)(b:UInt64)(a:Int)(n:UInt64)(k g:Int)(ab:LB):Cj:=
(Gu (Jd (Er k (Ag 8 (Dq g 7))) 0)).bind λ_=>
vo (Bo n (GI.toZ (Er k (Ag 8 (Dq g 7)))).toNat) (Ag k (Er k (Ag 8 (Dq g 7)))) (Ad g (Er k (Ag 8 (Dq g 7)))) ab
def qZ vo:=rR vo
def qK(j26:UInt64->Int->Int->LB->Cj)(b:UInt64)(a:Int)(n:UInt64)(k g:Int)(v:LB):Cj:=
(Af v (Ag (Ac v) 1)).bind λ_=>
(Gu (Jd (Er k (Ag 8 (Dq g 7))) 0)).bind λ_=>
(Gu (Jd (Dq g 7) 0)).bind λ_=>
(Af v (Ag (Ac v) 1)).bind λae=>
(Af v (Ag (Ac v) 1)).bind λ_=>
Option.bind (Iy v (Ag (Ac v) 1) (rX ae (Cr (Ae (Dq n (Ag (Cr (1:UInt64) (GI.toZ (Er k (Ag 8 (Dq g 7)))).toNat) 1)):UInt8) (GI.toZ (Dq g 7)).toNat))) λab=>
j26 n k g ab
def aP vo b a:=qK (qZ vo b a) b a
def ZG(j25:UInt64->Int->Int->LB->Cj)(j28:Int->LB->Cj)(b:UInt64)(a:Int)(n:UInt64)(k g:Int)(p:LB):Cj:=
if(Ep k 0)then
if(geq (Dq g 7) 0)then
(Ch p ([(0:UInt8)]:LB)).bind λw=>
j25 n k g w
else
j25 n k g p
else
j28 g p
def JP:Nat->UInt64->Int->Int->LB->Cj
|0,_,_,_,_=>none
|x+1,z,c,d,e=>ZG (aP (JP x) i M) bL i M z c d e
def rN b a:=JP b a As
def PH(j15:UInt64->Int->UInt64->Int->Int->LB->Cj)(j22:UInt64->Int->UInt64->Int->Int->LB->Cj)(ac:LB)(y:Int)(b:UInt64)(a:Int):Cj:=
(Gz ac y).bind λaf=>
if(Bp af 0)then
some (([]:LB),0,8)
else
if((Ci a 0)||(Ep a 64))then
some (([]:LB),0,2)
else
if(Ci a 64)then
(Gu (Jd a 0)).bind λ_=>
if(Bp (Bo b (GI.toZ a).toNat) 0)then
some (([]:LB),0,16)
else
if(Ep (Ad y a) 330000)then
some (([]:LB),0,18)
else
(GM ac y).bind λ(ag,ah)=>
j15 b a b a ah ag
else
if(Ep (Ad y a) 330000)then
some (([]:LB),0,18)
else
(GM ac y).bind λ(aa,ai)=>
j22 b a b a ai aa
def CC:=PH sX rN
def Uk:Option Bool:=
(Gu (Jd M 0)).bind λ_=>
some (Jd (Bo D (GI.toZ M).toNat) 48)
def KO:Option (Int×Int):=
if((Ci x 0)||(Ep x 48))then
some (0,2)
else
some ((Er (Ad x 1) 48),0)
def DW:Option (LB×Int×Int):=
(Gz z c).bind λx=>
if(Bp x 0)then
some (([]:LB),0,x)
else
(KO j).bind λ(d,e)=>
if(Bp e 0)then
some (([]:LB),0,e)
else
(Gu (Jd j 0)).bind λ_=>
(CC z c (Ag (Cr (1:UInt64) (GI.toZ j).toNat) 1) d).bind λ(i,l,q)=>
some (i,l,q)
abbrev IV:=Option (LB×Int×Int)
def FI:IV:=
(DW z c j).bind λ(x,d,e)=>
if(Bp e 0)then
some (([]:LB),0,e)
else
(CC x d (Ae D:UInt64) M).bind λ(i,l,q)=>
some (i,l,q)
def EY:=FI
def VY(j2:LB->Int->Int->UInt32->Int->IV)(b:LB)(f:Int)(g:UInt32)(a:Int):IV:=
(Gz b f).bind λk=>
if(Bp k 0)then
some (([]:LB),0,k)
else
if((Ci a 0)||(Ep a 24))then
some (([]:LB),0,2)
else
(Gu (Jd a 0)).bind λ_=>
(Gu (Jd a 0)).bind λ_=>
(Uk g a).bind λaa=>
if aa then
j2 b f 48 g 32
else
j2 b f (Ae (Bo g (GI.toZ a).toNat):Int) (Dq g (Ag (Cr (1:UInt32) (GI.toZ a).toNat) 1)) a
def JT:=VY EY
abbrev Ge:=Option (LB×Int×Int×Int×UInt64×UInt64×Int)
def Up:Ge:=
(
(
some (l6,x,d,l,(Ad i (Ag (Ae D:UInt64) (Bo i (GI.toZ (4:UInt64)).toNat))),F,0)))
def CN:=Up
def EV(j10:Int->Int->Int->UInt64->UInt32->UInt64->LB->Ge)(b:UInt32)(k n:Int)(a o:UInt64)(m:LB)(u:Int):Ge:=
j10 k u n a b o m
def WQ:=EV CN
def EN(j9:UInt32->Int->Int->UInt64->UInt64->LB->Int->Ge)(b:UInt32)(f:Int)(a:UInt64)(k:Int)(m:LB)(n:Int)(o:UInt64):Ge:=
if(Ep f 0)then
(Gu (Jd f 0)).bind λ_=>
if(Ci (Ad a (Ag (Ae b:UInt64) (Bo a (GI.toZ (4:UInt64)).toNat))) (Cr (16:UInt64) (GI.toZ f).toNat))then
j9 b k n a o m (Ag f 1)
else
if(Ci f 24)then
(Gu (Jd f 0)).bind λ_=>
if(Ep (Ad a (Ag (Ae b:UInt64) (Bo a (GI.toZ (4:UInt64)).toNat))) (Cr (32:UInt64) (GI.toZ f).toNat))then
j9 b k n a o m (Ad f 1)
else
j9 b k n a o m f
else
j9 b k n a o m f
else
if(Ci f 24)then
(Gu (Jd f 0)).bind λ_=>
if(Ep (Ad a (Ag (Ae b:UInt64) (Bo a (GI.toZ (4:UInt64)).toNat))) (Cr (32:UInt64) (GI.toZ f).toNat))then
j9 b k n a o m (Ad f 1)
else
j9 b k n a o m f
else
j9 b k n a o m f
def Pc:=EN WQ
def EM(j8:UInt32->Int->UInt64->Int->LB->Int->UInt64->Ge)(b:UInt32)(f h:Int)(a g:UInt64)(ac k:Int)(m:LB):Ge:=
if(Bp ac 0)then
some (([]:LB),0,0,0,0,0,ac)
else
(Wi f h a g b).bind λ(ag,p)=>
if(geq ag 1)then
if(Ep h 0)then
(Gu (Jd h 0)).bind λ_=>
if(Ci (Ad g (Ag (Ae p:UInt64) (Bo g (GI.toZ (4:UInt64)).toNat))) (Cr (16:UInt64) (GI.toZ h).toNat))then
j8 b f a k m (Ag h 1) (Ad g (Ag (Ae p:UInt64) (Bo g (GI.toZ (4:UInt64)).toNat)))
else
if(Ci h 24)then
(Gu (Jd h 0)).bind λ_=>
if(Ep (Ad g (Ag (Ae p:UInt64) (Bo g (GI.toZ (4:UInt64)).toNat))) (Cr (32:UInt64) (GI.toZ h).toNat))then
j8 b f a k m (Ad h 1) (Ad g (Ag (Ae p:UInt64) (Bo g (GI.toZ (4:UInt64)).toNat)))
else
j8 b f a k m h (Ad g (Ag (Ae p:UInt64) (Bo g (GI.toZ (4:UInt64)).toNat)))
else
j8 b f a k m h (Ad g (Ag (Ae p:UInt64) (Bo g (GI.toZ (4:UInt64)).toNat)))
else
if(Ci h 24)then
(Gu (Jd h 0)).bind λ_=>
if(Ep (Ad g (Ag (Ae p:UInt64) (Bo g (GI.toZ (4:UInt64)).toNat))) (Cr (32:UInt64) (GI.toZ h).toNat))then
j8 b f a k m (Ad h 1) (Ad g (Ag (Ae p:UInt64) (Bo g (GI.toZ (4:UInt64)).toNat)))
else
j8 b f a k m h (Ad g (Ag (Ae p:UInt64) (Bo g (GI.toZ (4:UInt64)).toNat)))
else
j8 b f a k m h (Ad g (Ag (Ae p:UInt64) (Bo g (GI.toZ (4:UInt64)).toNat)))
else
j8 b f a k m h g
def EX:=EM Pc
def FD(j7:UInt32->Int->Int->UInt64->UInt64->Int->Int->LB->Ge)(b:UInt32)(v:LB)(w f h:Int)(a g:UInt64):Ge:=
(Wi f h a g b).bind λ(ad,ae)=>
(CC v w (Ae ad:UInt64) 1).bind λ(y,aa,ab)=>
if((geq ab 0)&&(geq ad 0))then
(CC y aa (Ae ae:UInt64) f).bind λ(ah,ai,aj)=>
j7 b f h a g aj ai ah
else
if(geq ab 0)then
(JT y aa ae h).bind λ(ak,al,am)=>
j7 b f h a g am al ak
else
j7 b f h a g ab aa y
def WA:=FD EX
def FJ(j6:UInt32->LB->Int->Int->Int->UInt64->UInt64->Ge)(v:LB)(w f h:Int)(a g:UInt64)(b:UInt32):Ge:=
(Gz v w).bind λan=>
if(Bp an 0)then
some (([]:LB),0,0,0,0,0,8)
else
(CF f h a g).bind λao=>
if(Bp ao 0)then
some (([]:LB),0,0,0,0,0,8)
else
j6 b v w f h a g
def JN:=FJ WA
abbrev Bf:=Option (UInt32×Int)
def PY:Bf:=
some (D,0)
def BB:=PY
def Tv(j30:UInt32->Bf)(Ahv:UInt32->Int->Bf)(a:LB)(b:LU)(h:UInt32)(m:Int):Bf:=
if(Ci m (Ac a))then
(Af a m).bind λp=>
(Af b (GI.toZ (Pn (Ae h:UInt8) p))).bind λ_=>
(Af b (GI.toZ (Pn (Ae h:UInt8) p))).bind λu=>
Ahv (Pn (Bo h (GI.toZ (8:UInt64)).toNat) u) (Ad m 1)
else
j30 h
def Ki:Nat->UInt32->Int->Bf
|0,_,_=>none
|x+1,c,d=>Tv BB (Ki x) z G c d
def BP a b:=Ki a b As
def BL(j28:LB->LU->UInt32->Int->Bf)(f:UInt32)(a:LB)(b:LU):Bf:=
j28 a b f 0
def PZ:=BL BP
def BD(j27:UInt32->LB->LU->Bf)(f:UInt32)(a:LB)(b:LU):Bf:=
j27 f a b
def BN:=BD PZ
def PJ(Ex:Int->LU->Bf)(f:UInt32)(a:LB)(g:Int)(o:LU):Bf:=
Ex (Ad g 1) o
def RV Ex:=PJ Ex
def QN(j24:Int->LU->Bf)(f:UInt32)(a:LB)(g:Int)(k:UInt32)(b:LU):Bf:=
(Af b g).bind λ_=>
(Iy b g k).bind λo=>
j24 g o
def Sv Ex f a:=QN (RV Ex f a) f a
def Sm(j23:Int->UInt32->LU->Bf)(Aev:UInt32->Int->Bf)(f:UInt32)(a:LB)(g:Int)(b:LU)(k:UInt32)(n:Int):Bf:=
if(Ci n 8)then
Aev (Pn (Bo k (GI.toZ (1:UInt64)).toNat) (Bq 3988292384 (Dq k 1))) (Ad n 1)
else
j23 g k b
def Ke(Ex:Int->LU->Bf)(f:UInt32)(a:LB)(g:Int)(b:LU):Nat->UInt32->Int->Bf
|0,_,_=>none
|q+1,k,n=>Sm (Sv Ex f a) (Ke Ex f a g b q) f a g b k n
def AO Ex f a g b:=Ke Ex f a g b As
def Tw(j21:Int->LU->UInt32->Int->Bf)(j26:UInt32->LB->LU->Bf)(f:UInt32)(a:LB)(g:Int)(b:LU):Bf:=
if(Ci g 256)then
j21 g b (Ae g:UInt32) 0
else
j26 f a b
def Ik:Nat->Int->LU->Bf
|0,_,_=>none
|x+1,z,c=>Tw (AO (Ik x) D l6) BN D l6 z c
def PQ f a:=Ik f a As
def ES(j16:UInt32->LB->Int->LU->Bf)(f:UInt32)(a:LB):Bf:=
if(Ep (Ac a) 100000)then
some (0,4)
else
j16 f a 0 (List.replicate 256 (0:UInt32))
def KX:=ES PQ
def Vz:Option (UInt32×Int):=
(KX 4294967295 z).bind λ(x,c)=>
if(Bp c 0)then
some (0,c)
else
some ((A3 x),0)
def gZ:Option Bool:=
if(geq M 8)then
some true
else
(Gu (Jd (Bq 8 M) 0)).bind λ_=>
some (geq (Bo i (GI.toZ (Bq 8 M)).toNat) 0)
abbrev Qq:=Option (LB×Int)
def fI:Qq:=
some (z,0)
def OW:=fI
def DM(j6:LB->Qq)(Na:Int->LB->Qq)(f:UInt64)(g:LB)(a:Int)(b:LB):Qq:=
if(Ci a (Ac g))then
(Gu (Jd (Bq 8 a) 0)).bind λ_=>
(Af b a).bind λ_=>
(Iy b a (Ae (Bo f (GI.toZ (Bq 8 a)).toNat):UInt8)).bind λk=>
Na (Ad a 1) k
else
j6 b
def Rk:Nat->Int->LB->Qq
|0,_,_=>none
|x+1,z,c=>DM OW (Rk x) i l6 z c
def fJ f g:=Rk f g As
def QS(j4:UInt64->LB->Int->LB->Qq)(f:UInt64)(h:Int):Qq:=
if((Ci h 1)||(Ep h 8))then
some (([]:LB),2)
else
(gZ f h).bind λm=>
if(!m)then
some (([]:LB),16)
else
(S6 h (0:UInt8)).bind λg=>
(Gu (geq h h)).bind λ_=>
j4 f g 0 g
def Ru:=QS fJ
def AI:Option (LB):=
some z
def Mq:=AI
def Bx(j16:LB->Option (LB))(ZC:Int->LB->Option (LB))(a:List LB)(g:Int)(f:LB):Option (LB):=
if(Ci g (Ac a))then
(Af a g).bind λn=>
(Ch f n).bind λo=>
ZC (Ad g 1) o
else
j16 f
def Bg:Nat->Int->LB->Option (LB)
|0,_,_=>none
|x+1,z,c=>Bx Mq (Bg x) N z c
def Fp a:=Bg a As
def Fq(j14:(List LB)->Int->LB->Option (LB))(a:List LB)(p:LB):Option (LB):=
j14 a 0 p
def Dp:=Fq Fp
def Fv(j13:(List LB)->LB->Option (LB))(b:Int)(a:List LB):Option (LB):=
if(Ep (Ag b (Ag (0:Int) (0:Int))) 0)then
(ZD 0 0 0).bind λ_=>
(S6 (Ag b (Ag (0:Int) (0:Int))) (0:UInt8)).bind λu=>
(Ch ([]:LB) u).bind λk=>
(ZD (Ac k) 0 0).bind λ_=>
j13 a (NR k 0 ((0:Int)-(0:Int)))
else
j13 a ([]:LB)
def Hz:=Fv Dp
def Fs(j12:Int-> (List LB)->Option (LB))(a:List LB)(b:Int):Option (LB):=
if(Ci b 0)then
none
else
j12 b a
def Dr:=Fs Hz
def Cc(j11:(List LB)->Int->Option (LB))(bk9:Int->Int->Option (LB))(a:List LB)(b h:Int):Option (LB):=
if(Ci h (Ac a))then
(Af a h).bind λm=>
if(Ci (Ad b (Ac m)) 0)then
none
else
bk9 (Ad b (Ac m)) (Ad h 1)
else
j11 a b
def Bk:Nat->Int->Int->Option (LB)
|0,_,_=>none
|x+1,z,c=>Cc Dr (Bk x) N z c
def Nf a:=Bk a As
def Ix(j9:(List LB)->Int->Int->Option (LB))(a:List LB):Option (LB):=
j9 a 0 0
def Cq:=Ix Nf
abbrev Ay:=Option (LB×Int)
def CD(v:Int)(p:LB):Ay:=
(Vz p).bind λ(af,ac)=>
if(Bp ac 0)then
some (([]:LB),ac)
else
(Ru (Ae af:UInt64) 4).bind λ(m,h)=>
if(Bp h 0)then
some (([]:LB),h)
else
(Cq ([p,m]:List LB)).bind λag=>
some (ag,0)
def Qh:=CD
def BH(LN:Int-> (List (Int×Int×UInt64×UInt64×Unit))->Int->LB->Ay)(b:LU)(a g f:Int)(n:List (Int×Int×UInt64×UInt64×Unit))(k:Int)(w:LB):Ay:=
LN (Ad f 1) n k w
def Qp LN:=BH LN
def CO(mI:Int->Int->LB->Ay)(h:Int)(b:LU)(f a g:Int)(n:List (Int×Int×UInt64×UInt64×Unit))(m:LB)(o k:Int)(ab:LB):Ay:=
mI (Ad o 1) (Ad k 1) ab
def BO mI:=CO mI
def AV(j48:Int->Int->LB->Ay)(h:Int)(b:LU)(f a g:Int)(n:List (Int×Int×UInt64×UInt64×Unit))(m:LB)(o k:Int)(y:LB):Ay:=
(Af m (Bs o 8)).bind λ_=>
(Af m (Bs o 8)).bind λah=>
(Gu (Jd (Ip o 8) 0)).bind λ_=>
(Af y (Bs k 8)).bind λ_=>
(Gu (Jd (Ip k 8) 0)).bind λ_=>
(Af y (Bs k 8)).bind λai=>
(Af y (Bs k 8)).bind λ_=>
Option.bind (Iy y (Bs k 8) (rX ai (Cr (Dq (Bo ah (GI.toZ (Ip o 8)).toNat) 1) (GI.toZ (Ip k 8)).toNat))) λab=>
j48 o k ab
def Le mI h b f a g n m:=AV (BO mI h b f a g n m) h b f a g n m
def Ln(j47:Int->Int->LB->Ay)(j50:Int-> (List (Int×Int×UInt64×UInt64×Unit))->Int->LB->Ay)(b:LU)(a g h f:Int)(n:List (Int×Int×UInt64×UInt64×Unit))(m:LB)(o k:Int)(w:LB):Ay:=
if(Ci o h)then
if(geq (Ip k 8) 0)then
(Ch w ([(0:UInt8)]:LB)).bind λaj=>
j47 o k aj
else
j47 o k w
else
j50 f n k w
def Ea(LN:Int-> (List (Int×Int×UInt64×UInt64×Unit))->Int->LB->Ay)(b:LU)(a g h f:Int)(n:List (Int×Int×UInt64×UInt64×Unit))(m:LB):Nat->Int->Int->LB->Ay
|0,_,_,_=>none
|q+1,o,k,w=>Ln (Le (Ea LN b a g h f n m q) h b f a g n m) (Qp LN b a g) b a g h f n m o k w
def BQ LN b a g h f n m:=Ea LN b a g h f n m As
def Lh(j44:Int->Int-> (List (Int×Int×UInt64×UInt64×Unit))->LB->Int->Int->LB->Ay)(j52:Int->LB->Ay)(b:LU)(a g f:Int)(u:List (Int×Int×UInt64×UInt64×Unit))(v:Int)(p:LB):Ay:=
if(Ci f (Ac b))then
(Af b f).bind λ_=>
(Af b f).bind λak=>
(Gu (Bp a 0)).bind λ_=>
(Af u (Ip f a)).bind λ_=>
(Af u (Ip f a)).bind λaa=>
(JN ([]:LB) 0 aa.1 aa.2.1 aa.2.2.1 aa.2.2.2.1 ak).bind λ(m,h,al,am,an,ao,ad)=>
if(Bp ad 0)then
some (([]:LB),ad)
else
(Gu (Bp a 0)).bind λ_=>
(Af u (Ip f a)).bind λ_=>
(Iy u (Ip f a) (al,am,an,ao,())).bind λn=>
j44 h f n m 0 v p
else
j52 v p
def Fg:Nat->Int-> (List (Int×Int×UInt64×UInt64×Unit))->Int->LB->Ay
|0,_,_,_,_=>none
|x+1,z,c,d,e=>Lh (BQ (Fg x) G l5 o8) Qh G l5 o8 z c d e
def AQ b a g:=Fg b a g As
def Se(j27:LU->Int->Int->Int-> (List (Int×Int×UInt64×UInt64×Unit))->Int->LB->Ay)(a g:Int)(ap aq:LX):Ay:=
(Sp a g ap aq).bind λ(b,ae)=>
if(Bp ae 0)then
some (([]:LB),ae)
else
(Tl).bind λar=>
j27 b a g 0 ar 0 ([]:LB)
def Ns:=Se AQ
def Lk(b f g:Int)(h k:LB)(m:LX)(n:List LB)(o:LB)(p:Bool)(u a:Int):Option (Int×Int×Int×LB×LB×LX×(List LB)×LB×Bool×Int×Int):=
some (b,f,g,h,([]:LB),([]:LX),([]:List LB),([]:LB),false,a,a)
abbrev Bb:=Option (Int×Int×Int×LB×LB×LX×(List LB)×LB×Bool×Int×Int)
def FV:Bb:=
some (x,d,l,z,P,B,o9,p8,O,c,0)
def Wm:=FV
def Nx(ZC:Int->LB->LX-> (List LB)->Bb)(p:Int)(n:LB)(a b g:Int)(f:LB)(h:Bool)(k o:Int)(m:LB)(u:Int)(ao:LB)(ap:LX)(aq:List LB):Bb:=
ZC (Ad u 1) ao ap aq
def If ZC:=Nx ZC
def Ny(j24:Int->LB->LX-> (List LB)->Bb)(p:Int)(n:LB)(a b g:Int)(f:LB)(h:Bool)(k o:Int)(m:LB)(u ad:Int)(ae:LB)(af:LX)(ag:List LB):Bb:=
if(Bp ad 0)then
(Lk a b g f ae af ag m h k ad).bind λ(ar,au,av,aw,ax,ay,az,ba,bb,bc,bd)=>
some (ar,au,av,aw,ax,ay,az,ba,bb,bc,bd)
else
j24 u ae af ag
def Fo ZC p n a b g f h k o m:=Ny (If ZC p n a b g f h k o m) p n a b g f h k o m
def bT(j23:Int->Int->LB->LX-> (List LB)->Bb)(p:Int)(n:LB)(a b g:Int)(f:LB)(h:Bool)(k o:Int)(m:LB)(u:Int)(ab:LX)(v:List LB)(be:Int):Bb:=
j23 u be ([]:LB) ab v
def dR ZC p n a b g f h k o m:=bT (Fo ZC p n a b g f h k o m) p n a b g f h k o m
def HQ(j23:Int->Int->LB->LX-> (List LB)->Bb)(p:Int)(n:LB)(a b g:Int)(f:LB)(h:Bool)(k o:Int)(m:LB)(u:Int)(ac:List LB):Bb:=
j23 u 0 ([]:LB) ([]:LX) ac
def GL ZC p n a b g f h k o m:=HQ (Fo ZC p n a b g f h k o m) p n a b g f h k o m
def FZ(j23:Int->Int->LB->LX-> (List LB)->Bb)(j21:Int->LX-> (List LB)->Int->Bb)(j22:Int-> (List LB)->Bb)(p:Int)(n:LB)(a b g:Int)(f:LB)(h:Bool)(k o:Int)(m:LB)(u:Int)(aa:LB)(w:LX)(v:List LB):Bb:=
(Wr b aa).bind λ(bf,ah)=>
if(Bp ah 0)then
j23 u ah aa w v
else
(Ch w bf).bind λab=>
if(Ci (Ac ab) (Bq o a))then
j23 u 0 ([]:LB) ab v
else
(HV f).bind λ(bg,ai)=>
if(Bp ai 0)then
j21 u ab v ai
else
(Ns a b bg ab).bind λ(bh,aj)=>
if(Bp aj 0)then
j21 u ab v aj
else
(Ch v ([bh]:List LB)).bind λac=>
j22 u ac
def Vy ZC p n a b g f h k o m:=FZ (Fo ZC p n a b g f h k o m) (dR ZC p n a b g f h k o m) (GL ZC p n a b g f h k o m) p n a b g f h k o m
def Od(j24:Int->LB->LX-> (List LB)->Bb)(j23:Int->Int->LB->LX-> (List LB)->Bb)(j20:Int->LB->LX-> (List LB)->Bb)(j26:Int->Int->Int->LB->Bool->Int->LB->LX-> (List LB)->LB->Bb)(p:Int)(n:LB)(a b g:Int)(f:LB)(h:Bool)(k o:Int)(m:LB)(u:Int)(y:LB)(w:LX)(v:List LB):Bb:=
if(Ci u (Ac n))then
(Af n u).bind λbi=>
(Ch y ([bi]:LB)).bind λaa=>
if(Ci (Ac aa) p)then
j24 u aa w v
else
(Ma a b g f aa w v m h k o).bind λbj=>
(Lo a b g f aa w v m h k (Ad (Ac v) 1) (Ad bj 1)).bind λbk=>
if(!bk)then
j23 u 18 aa w v
else
j20 u aa w v
else
j26 a b g f h k y w v m
def Fl:Nat->Int->LB->LX-> (List LB)->Bb
|0,_,_,_,_=>none
|d+1,e,i,l,q=>Od (If (Fl d) x z c j t P X r E L) (Fo (Fl d) x z c j t P X r E L) (Vy (Fl d) x z c j t P X r E L) Wm x z c j t P X r E L e i l q
def HL p n a b g f h k o m:=Fl p n a b g f h k o m As
def Qa(j14:Int->LB->Int->Int->Int->LB->Bool->Int->Int->LB->Int->LB->LX-> (List LB)->Bb)(bl bm bn:Int)(bp bq:LB)(br:LX)(bs:List LB)(bt:LB)(bu:Bool)(bv:Int)(n:LB):Bb:=
(Jr bl bm bn bp bq br bs bt bu bv).bind λ(a,b,g,f,ak,al,am,m,h,k,o,an)=>
if(Bp an 0)then
some (a,b,g,f,ak,al,am,m,h,k,an)
else
(Sg a b).bind λp=>
j14 p n a b g f h k o m 0 ak al am
def Cw:=Qa HL
def Pf:Option (Int×Int×Int×LB×LB×LX×(List LB)×LB×Bool×Int×LB×Int):=
(Ic x d l z C e N l8 O c).bind λi=>
if(Bp i 0)then
some (0,0,0,([]:LB),([]:LB),([]:LX),([]:List LB),([]:LB),false,0,([]:LB),i)
else
if(Ci j 0)then
some (0,0,0,([]:LB),([]:LB),([]:LX),([]:List LB),([]:LB),false,0,([]:LB),2)
else
(Tn x d l z C e N l8 O c).bind λ(q,r,s,t,A,B,D,E,F,G)=>
(Df E 0 (Er j (Ac E))).bind λI=>
(Ax I).bind λJ=>
(Df E (Er j (Ac E)) (Ac E)).bind λL=>
some (q,r,s,t,A,B,D,L,F,G,J,0)
def Xa:Option (Int×Int):=
if(Ep (Ac z) 64)then
some (0,2)
else
if(geq (Ac z) 0)then
some (1,0)
else
some (2,0)
def GK(b f a g h:Int):Option Bool:=
some (((((((geq b 1)||(geq b 2))&&(Ep f 0))&&(rQ f 6))&&(Ep g 0))&&(rQ g 1048576))&&(Ep h 0))
def We:=GK
def GA(j2:Int->Int->Int->Int->Int->Option Bool)(b f a g h:Int):Option Bool:=
if(geq a 8)then
if(geq a 8)then
j2 b f a g h
else
some false
else
if(geq a 16)then
if(geq a 16)then
j2 b f a g h
else
some false
else
if(geq a 24)then
j2 b f a g h
else
some false
def Wo:=GA We
def Ww:Option (Int×Int):=
(Nv x).bind λ(z,c)=>
if(Bp c 0)then
some (0,c)
else
if((Ci d 1)||(Ep d 4000))then
some (0,2)
else
(Gu (Bp z 0)).bind λ_=>
if(Ep (Bs (Ag (Ad d z) 1) z) 1000)then
some (0,4)
else
some ((Bs (Ag (Ad d z) 1) z),0)
def EA(k a m f b:Int):Option Bool:=
(Gu (Bp a 0)).bind λ_=>
if(Ep b (Bs 4000 a))then
some false
else
(Ww f b).bind λ(g,h)=>
some ((geq h 0)&&(rQ g 1000))
def Zu:Option Int:=
(Wo x d l c j).bind λz=>
if(!z)then
some 8
else
(EA x d l c j).bind λe=>
if(!e)then
some 8
else
some 0
abbrev Is:=Option (LB×Int)
def LW:Is:=
(Vz z).bind λ(x,c)=>
(Ru (Ae x:UInt64) 4).bind λ(d,e)=>
(Ch z d).bind λi=>
some (i,0)
def Px:=LW
def Pw(j6:LB->Is)(Na:Int->LB->Is)(b f g h k m:Int)(a:LB):Is:=
if(Ci m 5)then
(Af ([b,f,g,h,k]:LI) m).bind λw=>
(Af ([(2:Int),(2:Int),(2:Int),(4:Int),(4:Int)]:LI) m).bind λy=>
(Ru (Ae w:UInt64) y).bind λ(n,v)=>
(Ch a n).bind λo=>
Na (Ad m 1) o
else
j6 a
def Hq:Nat->Int->LB->Is
|0,_,_=>none
|z+1,e,i=>Pw Px (Hq z) x d l c j e i
def MF b f g h k:=Hq b f g h k As
def Za(j4:Int->Int->Int->Int->Int->Int->LB->Is)(b f g h k:Int):Is:=
(Zu b f g h k).bind λp=>
if(Bp p 0)then
some (([]:LB),p)
else
j4 b f g h k 0 ([(84:UInt8),(84:UInt8),(65:UInt8),(49:UInt8)]:LB)
def AD:=Za MF
def dH:Option (UInt64×Int):=
if(Ep (Ac z) 64)then
some (0,2)
else
(GP z).bind λ(x,c)=>
some (x,0)
def AB:Option (LB×Int):=
(dH z).bind λ(x,c)=>
if(Bp c 0)then
some (([]:LB),c)
else
(Ru x 8).bind λ(d,e)=>
some (d,e)
def lA:Option Int:=
some 0
def SM:=lA
def Um:Option Int:=
if(Ci w9 (Ac Ak4))then
(Af Ak4 w9).bind λx=>
if((Ci x 5)||(Ep x l7))then
some 8
else
y7 (Ag l7 x) (Ad w9 1)
else
r9
def Kj:Nat->Int->Int->Option Int
|0,_,_=>none
|x+1,z,c=>Um SM (Kj x) s z c
def QV a:=Kj a As
def Tr(j4:LI->Int->Int->Option Int)(a:LI):Option Int:=
if((geq (Ac a) 0)||(Ep (Ac a) 1000))then
some 8
else
j4 a 100000 0
def Rq:=Tr QV
abbrev Ev:=Option (LB×Int)
def fT:Ev:=
some (z,0)
def gD:=fT
def LY(j14:LB->Ev)(b:LB):Ev:=
(Vz b).bind λ(m,u)=>
(Ru (Ae m:UInt64) 4).bind λ(n,v)=>
(Ch b n).bind λg=>
j14 g
def Yr:=LY gD
def MI(bk8:Int->LB->Ev)(a:LI)(f:Int)(h:LB):Ev:=
bk8 (Ad f 1) h
def Yu bk8:=MI bk8
def Ul(j11:Int->LB->Ev)(j13:LB->Ev)(a:LI)(f:Int)(b:LB):Ev:=
if(Ci f (Ac a))then
(Af a f).bind λo=>
(Ru (Ae o:UInt64) 4).bind λ(p,w)=>
(Ch b p).bind λh=>
j11 f h
else
j13 b
def Kb:Nat->Int->LB->Ev
|0,_,_=>none
|x+1,z,c=>Ul (Yu (Kb x) s) Yr s z c
def lU a:=Kb a As
def BC(j8:LI->Int->LB->Ev)(a:LI):Ev:=
(Rq a).bind λk=>
if(Bp k 0)then
some (([]:LB),k)
else
j8 a 0 ([]:LB)
def Yl:=BC lU
abbrev Fx:=Option (LB×Int)
def Pq(f g h:Int)(b k:LB)(m:LX)(a:List LB)(n:LB)(o:Bool)(p:Int)(u:LB)(v:LI):Fx:=
(Yl v).bind λ(aa,y)=>
if(Bp y 0)then
some (([]:LB),y)
else
(
(Ch u aa).bind λab=>
(Cq a).bind λac=>
(Ch ab ac).bind λad=>
some (ad,0))
def Lr:=Pq
def Pr(j8:Int->Int->Int->LB->LB->LX-> (List LB)->LB->Bool->Int->LB->LI->Fx)(nI:Int->LI->Fx)(a:List LB)(f g h:Int)(b k:LB)(m:LX)(n:LB)(o:Bool)(p:Int)(u:LB)(w:Int)(v:LI):Fx:=
if(Ci w (Ac a))then
(Af a w).bind λai=>
(Ch v ([(Ac ai)]:LI)).bind λaj=>
nI (Ad w 1) aj
else
j8 f g h b k m a n o p u v
def Jj:Nat->Int->LI->Fx
|0,_,_=>none
|x+1,z,d=>Pr Lr (Jj x) N c j t P x9 B p8 X r L z d
def gA a f g h b k m n o p u:=Jj a f g h b k m n o p u As
def Pz(j6:(List LB)->Int->Int->Int->LB->LB->LX->LB->Bool->Int->LB->Int->LI->Fx)(f g h:Int)(b k:LB)(m:LX)(a:List LB)(n:LB)(o:Bool)(p:Int)(u:LB):Fx:=
j6 a f g h b k m n o p u 0 ([]:LI)
def Yp:=Pz gA
def Yq(j5:Int->Int->Int->LB->LB->LX-> (List LB)->LB->Bool->Int->LB->Fx)(f g h:Int)(b k:LB)(m:LX)(a:List LB)(n:LB)(o:Bool)(p ak:Int):Fx:=
(Xa b).bind λ(al,ae)=>
if(Bp ae 0)then
some (([]:LB),ae)
else
(AD al f g h ak).bind λ(af,ag)=>
if(Bp ag 0)then
some (([]:LB),ag)
else
if(b !=([]:LB))then
(AB b).bind λ(am,ah)=>
if(Bp ah 0)then
some (([]:LB),ah)
else
(Ch af am).bind λan=>
j5 f g h b k m a n o p an
else
j5 f g h b k m a n o p af
def AH:=Yq Yp
abbrev Ij:=Option (Int×Int×Int×LB×LB×LX×(List LB)×LB×Bool×Int×Int)
def Sj:Ij:=
(AH d l c P L Ak3 Ala Akw X r x).bind λ(z,e)=>
if(Bp e 0)then
(Lk d l c P L Ak3 Ala Akw X r e).bind λ(i,j,q,s,t,A,B,C,D,E,F)=>
some (i,j,q,s,t,A,B,C,D,E,F)
else
some (d,l,c,P,([]:LB),([]:LX),([]:List LB),z,true,0,0)
def My:=Sj
def DG(j4:Int->Int->Int->Int->LB->Bool->Int->LB->LB->LX-> (List LB)->Ij)(o a b g:Int)(f:LB)(k:Bool)(m:Int)(h n:LB)(ad:Int)(ae:LX)(af:List LB):Ij:=
if(Bp ad 0)then
(Lk a b g f h ae af n k m ad).bind λ(au,v,w,av,aw,ax,y,aa,ay,az,ba)=>
some (au,v,w,av,aw,ax,y,aa,ay,az,ba)
else
j4 o a b g f k m h n ae af
def DP:=DG My
def Uf(j3:Int->Int->Int->Int->LB->Bool->Int->LB->LB->Int->LX-> (List LB)->Ij)(j4:Int->Int->Int->Int->LB->Bool->Int->LB->LB->LX-> (List LB)->Ij)(bb bc bd:Int)(be bf:LB)(bg:LX)(bh:List LB)(bi:LB)(bj:Bool)(bk:Int):Ij:=
(Jr bb bc bd be bf bg bh bi bj bk).bind λ(a,b,g,f,h,p,u,n,k,m,bl,ag)=>
if(Bp ag 0)then
some (a,b,g,f,h,p,u,n,k,m,ag)
else
(Ma a b g f h p u n k m bl).bind λo=>
if((Ep (Ac h) 0)||(geq o 0))then
(Lk a b g f h p u n k m 24).bind λ(bm,bn,bp,bq,br,bs,bt,bu,bv,bw,bx)=>
some (bm,bn,bp,bq,br,bs,bt,bu,bv,bw,bx)
else
if(Ep (Ac p) 0)then
(HV f).bind λ(bz,ah)=>
if(Bp ah 0)then
j3 o a b g f k m h n ah p u
else
(Ns a b bz p).bind λ(da,ai)=>
if(Bp ai 0)then
j3 o a b g f k m h n ai p u
else
(Ch u ([da]:List LB)).bind λdb=>
j3 o a b g f k m h n 0 ([]:LX) db
else
j4 o a b g f k m h n p u
def Dx:=Uf DP My
abbrev Az:=Option (Int×Int×Int×LB×LB×LX×(List LB)×LB×Bool×Int×(List (Int×LB×Unit))×Int)
def DR(f g h:Int)(k m:LB)(n:Bool)(o:Int)(a:LB)(w:List (Int×LB×Unit))(p:LB)(u:LX)(v:List LB):Az:=
some (f,g,h,k,p,u,v,m,n,o,w,0)
def EE:=DR
def EI(j32:Int->Int->Int->LB->LB->Bool->Int->LB-> (List (Int×LB×Unit))->LB->LX-> (List LB)->Az)(w:List (Int×LB×Unit))(f g h:Int)(k m:LB)(n:Bool)(o:Int)(a p:LB)(u:LX)(v:List LB):Az:=
j32 f g h k m n o a w p u v
def Uh:=EI EE
def Mv(mH:Int->Int->Int->Int->LB->LB->Bool->Int->LB-> (List (Int×LB×Unit))->LB->LX-> (List LB)->Az)(b:List (UInt8×Int×Unit))(y df dg dh:Int)(di dj:LB)(dk:Bool)(dl:Int)(dm:LB)(dn:List (Int×LB×Unit))(dp:LB)(dq:LX)(dr:List LB):Az:=
mH (Ad y 1) df dg dh di dj dk dl dm dn dp dq dr
def Dk mH:=Mv mH
def Ms(j29:Int->Int->Int->Int->LB->LB->Bool->Int->LB-> (List (Int×LB×Unit))->LB->LX-> (List LB)->Az)(b:List (UInt8×Int×Unit))(aa:UInt8×Int×Unit)(a:LB)(ab y f g h:Int)(k p:LB)(u:LX)(v:List LB)(m:LB)(n:Bool)(o ac ad ae:Int)(af:LB)(ag:Bool)(ah:Int)(w:List (Int×LB×Unit))(ai:LB)(aj:LX)(ak:List LB)(al:LB):Az:=
(
(Df a (Er aa.2.1 (Ac a)) (Ac a)).bind λbm=>
(Ch w ([(ab,([]:LB),())]:List (Int×LB×Unit))).bind λbn=>
j29 y ac ad ae af al ag ah bm bn ai aj ak)
def Sy mH b:=Ms (Dk mH b) b
def DX(j29:Int->Int->Int->Int->LB->LB->Bool->Int->LB-> (List (Int×LB×Unit))->LB->LX-> (List LB)->Az)(b:List (UInt8×Int×Unit))(an y f g h:Int)(k p:LB)(u:LX)(v:List LB)(m:LB)(n:Bool)(o:Int)(a:LB)(ao ap aq:Int)(ar au:LB)(av:Bool)(aw:Int)(ax:LB)(w:List (Int×LB×Unit))(ay:LB)(az:LX)(ba:List LB):Az:=
(Ch w ([(an,ax,())]:List (Int×LB×Unit))).bind λds=>
j29 y ao ap aq ar au av aw a ds ay az ba
def Ug mH b:=DX (Dk mH b) b
def DI(j29:Int->Int->Int->Int->LB->LB->Bool->Int->LB-> (List (Int×LB×Unit))->LB->LX-> (List LB)->Az)(b:List (UInt8×Int×Unit))(bb y f g h:Int)(k p:LB)(u:LX)(v:List LB)(m:LB)(n:Bool)(o:Int)(a:LB)(bc bd be:Int)(bf:LB)(bg:Bool)(bh:Int)(w:List (Int×LB×Unit))(bi:LB)(bj:LX)(bk:List LB)(bl:LB):Az:=
(Ch w ([(bb,([]:LB),())]:List (Int×LB×Unit))).bind λdt=>
j29 y bc bd be bf bl bg bh a dt bi bj bk
def Tp mH b:=DI (Dk mH b) b
def Jo(j26:(UInt8×Int×Unit)->LB->Int->Int->Int->Int->Int->LB->LB->LX-> (List LB)->LB->Bool->Int->Int->Int->Int->LB->Bool->Int-> (List (Int×LB×Unit))->LB->LX-> (List LB)->LB->Az)(j33:Int->Int->Int->Int->Int->LB->LB->LX-> (List LB)->LB->Bool->Int->LB->Int->Int->Int->LB->LB->Bool->Int->LB-> (List (Int×LB×Unit))->LB->LX-> (List LB)->Az)(j34:Int->Int->Int->Int->Int->LB->LB->LX-> (List LB)->LB->Bool->Int->LB->Int->Int->Int->LB->Bool->Int-> (List (Int×LB×Unit))->LB->LX-> (List LB)->LB->Az)(j29:Int->Int->Int->Int->LB->LB->Bool->Int->LB-> (List (Int×LB×Unit))->LB->LX-> (List LB)->Az)(j31:(List (Int×LB×Unit))->Int->Int->Int->LB->LB->Bool->Int->LB->LB->LX-> (List LB)->Az)(b:List (UInt8×Int×Unit))(y f g h:Int)(k m:LB)(n:Bool)(o:Int)(a:LB)(w:List (Int×LB×Unit))(p:LB)(u:LX)(v:List LB):Az:=
if(Ci y (Ac b))then
(Af b y).bind λaa=>
if(geq aa.1 1)then
(
(
(
(Df a 0 (Er aa.2.1 (Ac a))).bind λam=>
(
(Cw f g h k p u v m n o am).bind λ(ac,ad,ae,af,ai,aj,ak,al,ag,ah,ab)=>
j26 aa a ab y f g h k p u v m n o ac ad ae af ag ah w ai aj ak al))))
else
if(geq aa.1 2)then
(
(
(
(Pf f g h k p u v m n o aa.2.1).bind λ(ao,ap,aq,ar,ay,az,ba,au,av,aw,ax,an)=>
j33 an y f g h k p u v m n o a ao ap aq ar au av aw ax w ay az ba)))
else
if(geq aa.1 3)then
(
(
(
(Dx f g h k p u v m n o).bind λ(bc,bd,be,bf,bi,bj,bk,bl,bg,bh,bb)=>
j34 bb y f g h k p u v m n o a bc bd be bf bg bh w bi bj bk bl)))
else
j29 y f g h k m n o a w p u v
else
j31 w f g h k m n o a p u v
def Dl:Nat->Int->Int->Int->Int->LB->LB->Bool->Int->LB-> (List (Int×LB×Unit))->LB->LX-> (List LB)->Az
|0,_,_,_,_,_,_,_,_,_,_,_,_,_=>none
|x+1,z,c,d,e,i,j,l,q,r,s,t,A,B=>Jo (Sy (Dl x) I) (Ug (Dl x) I) (Tp (Dl x) I) (Dk (Dl x) I) Uh I z c d e i j l q r s t A B
def ZZ b:=Dl b As
def Wk(j17:(List (UInt8×Int×Unit))->Int->Int->Int->Int->LB->LB->Bool->Int->LB-> (List (Int×LB×Unit))->LB->LX-> (List LB)->Az)(du dv dw:Int)(dx dy:LB)(b:List (UInt8×Int×Unit)):Az:=
(AA b).bind λbq=>
if(Bp bq 0)then
some (0,0,0,([]:LB),([]:LB),([]:LX),([]:List LB),([]:LB),false,0,([]:List (Int×LB×Unit)),bq)
else
(Yc du dv dw dx).bind λ(dz,fa,fb,fc,fd,fe,ff,fg,fh,fi,br)=>
if(Bp br 0)then
some (0,0,0,([]:LB),([]:LB),([]:LX),([]:List LB),([]:LB),false,0,([]:List (Int×LB×Unit)),br)
else
j17 b 0 dz fa fb fc fg fh fi dy ([]:List (Int×LB×Unit)) fd fe ff
def Pa:=Wk ZZ
def Yx:Option (UInt64×UInt64):=
some ((Ad (Ad (Bq (Bo i (GI.toZ (32:UInt64)).toNat) (Bo F (GI.toZ (32:UInt64)).toNat)) (Bo (Ad (Bq (Bo i (GI.toZ (32:UInt64)).toNat) (Dq F 4294967295)) (Bo (Bq (Dq i 4294967295) (Dq F 4294967295)) (GI.toZ (32:UInt64)).toNat)) (GI.toZ (32:UInt64)).toNat)) (Bo (Ad (Dq (Ad (Bq (Bo i (GI.toZ (32:UInt64)).toNat) (Dq F 4294967295)) (Bo (Bq (Dq i 4294967295) (Dq F 4294967295)) (GI.toZ (32:UInt64)).toNat)) 4294967295) (Bq (Dq i 4294967295) (Bo F (GI.toZ (32:UInt64)).toNat))) (GI.toZ (32:UInt64)).toNat)),(Bq i F))
def Wz:Option (UInt64×UInt64):=
(Yx i F).bind λ(x,z)=>
some (x,z)
abbrev Ao:=Option ((List (UInt8×Int×Unit)))
def Po:Ao:=
some I
def Ib:=Po
def Fh(j10:(List (UInt8×Int×Unit))->Ao)(bk8:Int-> (List (UInt8×Int×Unit))->Ao)(b:Int)(a:List (UInt8×Int×Unit)):Ao:=
if(Ci b (Ac a))then
(
(ZD (Ac a) b (Ac a)).bind λ_=>
(ZD (Ac a) 0 b).bind λ_=>
bk8 (Ad b (WN ((Ac a)-b) (NR a 0 (b-(0:Int))).length)) (Qc a b ((Ac a)-b) (NR a 0 (b-(0:Int)))))
else
j10 a
def Fi:Nat->Int-> (List (UInt8×Int×Unit))->Ao
|0,_,_=>none
|q+1,b,a=>Fh Ib (Fi q) b a
def Qm:=Fi As
def Im(j8:Int-> (List (UInt8×Int×Unit))->Ao)(f:List (UInt8×Int×Unit))(g:UInt64):Ao:=
(S6 (Ae g:Int) ((0:UInt8),(0:Int),())).bind λk=>
(Gu (geq (Ae g:Int) (Ae g:Int))).bind λ_=>
j8 (WN (Ac k) f.length) (IB k f)
def Qd:=Im Qm
def It(j7:(List (UInt8×Int×Unit))->UInt64->Ao)(f:List (UInt8×Int×Unit))(h:Int):Ao:=
(Wz (Ae (Ac f):UInt64) (Ae h:UInt64)).bind λ(m,g)=>
if((Ep m 0)||(Ep g 9223372036854775807))then
none
else
j7 f g
def Qf:=It Qd
def Il(j6:(List (UInt8×Int×Unit))->Int->Ao)(f:List (UInt8×Int×Unit))(h:Int):Ao:=
if(Ci h 0)then
none
else
j6 f h
def Js:=Il Qf
def eW:Option ((List (UInt8×Int×Unit))×Int):=
if((((((Ci x 0)||(Ep x 100000))||(Ci d 1))||(Ep d 100000))||(Ci l 0))||(Ep l 100000))then
some (([]:List (UInt8×Int×Unit)),2)
else
(Gu (Bp d 0)).bind λ_=>
if(Ep (Ad (Bq 2 (Bs (Ag (Ad x d) 1) d)) 2) 200)then
some (([]:List (UInt8×Int×Unit)),4)
else
(Js ([((1:UInt8),d,()),((2:UInt8),l,())]:List (UInt8×Int×Unit)) (Bs (Ag (Ad x d) 1) d)).bind λz=>
(Ch z ([((3:UInt8),(0:Int),()),((2:UInt8),(100000:Int),())]:List (UInt8×Int×Unit))).bind λc=>
some (c,0)
def HC:Option (LB):=
some z
def Vs:=HC
def Oc(j6:LB->Option (LB))(Na:Int->LB->Option (LB))(a:List (Int×LB×Unit))(f:Int)(b:LB):Option (LB):=
if(Ci f (Ac a))then
(Af a f).bind λg=>
(Ch b g.2.1).bind λh=>
Na (Ad f 1) h
else
j6 b
def Ii(a:List (Int×LB×Unit)):Nat->Int->LB->Option (LB)
|0,_,_=>none
|q+1,f,b=>Oc Vs (Ii a q) a f b
def dX a:=Ii a As
def FM(j4:(List (Int×LB×Unit))->Int->LB->Option (LB))(a:List (Int×LB×Unit)):Option (LB):=
j4 a 0 ([]:LB)
def Ah:=FM dX
def Ll:Option Bool:=
(DF).bind λ(g,h)=>
(Pa g h 8000 ([]:LB) ([(128:UInt8)]:LB) ([((1:UInt8),(1:Int),()),((3:UInt8),(0:Int),()),((2:UInt8),(22:Int),()),((2:UInt8),(100:Int),())]:List (UInt8×Int×Unit))).bind λ(di,dj,dk,dl,dm,dn,dp,dq,k,dr,a,m)=>
(eW 5 2 0).bind λ(b,f)=>
if(((geq m 0)&&k)&&(geq (Ac a) 4))then
(Af a 0).bind λ_=>
(Af a 0).bind λn=>
if(geq n.1 0)then
(Af a 1).bind λ_=>
(Af a 1).bind λo=>
if(geq o.1 0)then
(Af a 1).bind λ_=>
(Af a 1).bind λp=>
if(geq (Ac p.2.1) 0)then
(Af a 2).bind λ_=>
(Af a 2).bind λu=>
if(geq (Ac u.2.1) 22)then
(Af a 3).bind λ_=>
(Af a 3).bind λv=>
if(geq (Ac v.2.1) 14)then
(Ah a).bind λw=>
some (((geq (Ac w) 36)&&(geq f 0))&&(geq (Ac b) 8))
else
some ((false&&(geq f 0))&&(geq (Ac b) 8))
else
if false then
(Ah a).bind λy=>
some (((geq (Ac y) 36)&&(geq f 0))&&(geq (Ac b) 8))
else
some ((false&&(geq f 0))&&(geq (Ac b) 8))
else
if false then
(Af a 3).bind λ_=>
(Af a 3).bind λaa=>
if(geq (Ac aa.2.1) 14)then
(Ah a).bind λab=>
some (((geq (Ac ab) 36)&&(geq f 0))&&(geq (Ac b) 8))
else
some ((false&&(geq f 0))&&(geq (Ac b) 8))
else
if false then
(Ah a).bind λac=>
some (((geq (Ac ac) 36)&&(geq f 0))&&(geq (Ac b) 8))
else
some ((false&&(geq f 0))&&(geq (Ac b) 8))
else
if false then
(Af a 2).bind λ_=>
(Af a 2).bind λad=>
if(geq (Ac ad.2.1) 22)then
(Af a 3).bind λ_=>
(Af a 3).bind λae=>
if(geq (Ac ae.2.1) 14)then
(Ah a).bind λaf=>
some (((geq (Ac af) 36)&&(geq f 0))&&(geq (Ac b) 8))
else
some ((false&&(geq f 0))&&(geq (Ac b) 8))
else
if false then
(Ah a).bind λag=>
some (((geq (Ac ag) 36)&&(geq f 0))&&(geq (Ac b) 8))
else
some ((false&&(geq f 0))&&(geq (Ac b) 8))
else
if false then
(Af a 3).bind λ_=>
(Af a 3).bind λah=>
if(geq (Ac ah.2.1) 14)then
(Ah a).bind λai=>
some (((geq (Ac ai) 36)&&(geq f 0))&&(geq (Ac b) 8))
else
some ((false&&(geq f 0))&&(geq (Ac b) 8))
else
if false then
(Ah a).bind λaj=>
some (((geq (Ac aj) 36)&&(geq f 0))&&(geq (Ac b) 8))
else
some ((false&&(geq f 0))&&(geq (Ac b) 8))
else
if false then
(Af a 1).bind λ_=>
(Af a 1).bind λak=>
if(geq (Ac ak.2.1) 0)then
(Af a 2).bind λ_=>
(Af a 2).bind λal=>
if(geq (Ac al.2.1) 22)then
(Af a 3).bind λ_=>
(Af a 3).bind λam=>
if(geq (Ac am.2.1) 14)then
(Ah a).bind λan=>
some (((geq (Ac an) 36)&&(geq f 0))&&(geq (Ac b) 8))
else
some ((false&&(geq f 0))&&(geq (Ac b) 8))
else
if false then
(Ah a).bind λao=>
some (((geq (Ac ao) 36)&&(geq f 0))&&(geq (Ac b) 8))
else
some ((false&&(geq f 0))&&(geq (Ac b) 8))
else
if false then
(Af a 3).bind λ_=>
(Af a 3).bind λap=>
if(geq (Ac ap.2.1) 14)then
(Ah a).bind λaq=>
some (((geq (Ac aq) 36)&&(geq f 0))&&(geq (Ac b) 8))
else
some ((false&&(geq f 0))&&(geq (Ac b) 8))
else
if false then
(Ah a).bind λar=>
some (((geq (Ac ar) 36)&&(geq f 0))&&(geq (Ac b) 8))
else
some ((false&&(geq f 0))&&(geq (Ac b) 8))
else
if false then
(Af a 2).bind λ_=>
(Af a 2).bind λau=>
if(geq (Ac au.2.1) 22)then
(Af a 3).bind λ_=>
(Af a 3).bind λav=>
if(geq (Ac av.2.1) 14)then
(Ah a).bind λaw=>
some (((geq (Ac aw) 36)&&(geq f 0))&&(geq (Ac b) 8))
else
some ((false&&(geq f 0))&&(geq (Ac b) 8))
else
if false then
(Ah a).bind λax=>
some (((geq (Ac ax) 36)&&(geq f 0))&&(geq (Ac b) 8))
else
some ((false&&(geq f 0))&&(geq (Ac b) 8))
else
if false then
(Af a 3).bind λ_=>
(Af a 3).bind λay=>
if(geq (Ac ay.2.1) 14)then
(Ah a).bind λaz=>
some (((geq (Ac az) 36)&&(geq f 0))&&(geq (Ac b) 8))
else
some ((false&&(geq f 0))&&(geq (Ac b) 8))
else
if false then
(Ah a).bind λba=>
some (((geq (Ac ba) 36)&&(geq f 0))&&(geq (Ac b) 8))
else
some ((false&&(geq f 0))&&(geq (Ac b) 8))
else
if false then
(Af a 1).bind λ_=>
(Af a 1).bind λbb=>
if(geq bb.1 0)then
(Af a 1).bind λ_=>
(Af a 1).bind λbc=>
if(geq (Ac bc.2.1) 0)then
(Af a 2).bind λ_=>
(Af a 2).bind λbd=>
if(geq (Ac bd.2.1) 22)then
(Af a 3).bind λ_=>
(Af a 3).bind λbe=>
if(geq (Ac be.2.1) 14)then
(Ah a).bind λbf=>
some (((geq (Ac bf) 36)&&(geq f 0))&&(geq (Ac b) 8))
else
some ((false&&(geq f 0))&&(geq (Ac b) 8))
else
if false then
(Ah a).bind λbg=>
some (((geq (Ac bg) 36)&&(geq f 0))&&(geq (Ac b) 8))
else
some ((false&&(geq f 0))&&(geq (Ac b) 8))
else
if false then
(Af a 3).bind λ_=>
(Af a 3).bind λbh=>
if(geq (Ac bh.2.1) 14)then
(Ah a).bind λbi=>
some (((geq (Ac bi) 36)&&(geq f 0))&&(geq (Ac b) 8))
else
some ((false&&(geq f 0))&&(geq (Ac b) 8))
else
if false then
(Ah a).bind λbj=>
some (((geq (Ac bj) 36)&&(geq f 0))&&(geq (Ac b) 8))
else
some ((false&&(geq f 0))&&(geq (Ac b) 8))
else
if false then
(Af a 2).bind λ_=>
(Af a 2).bind λbk=>
if(geq (Ac bk.2.1) 22)then
(Af a 3).bind λ_=>
(Af a 3).bind λbl=>
if(geq (Ac bl.2.1) 14)then
(Ah a).bind λbm=>
some (((geq (Ac bm) 36)&&(geq f 0))&&(geq (Ac b) 8))
else
some ((false&&(geq f 0))&&(geq (Ac b) 8))
else
if false then
(Ah a).bind λbn=>
some (((geq (Ac bn) 36)&&(geq f 0))&&(geq (Ac b) 8))
else
some ((false&&(geq f 0))&&(geq (Ac b) 8))
else
if false then
(Af a 3).bind λ_=>
(Af a 3).bind λbp=>
if(geq (Ac bp.2.1) 14)then
(Ah a).bind λbq=>
some (((geq (Ac bq) 36)&&(geq f 0))&&(geq (Ac b) 8))
else
some ((false&&(geq f 0))&&(geq (Ac b) 8))
else
if false then
(Ah a).bind λbr=>
some (((geq (Ac br) 36)&&(geq f 0))&&(geq (Ac b) 8))
else
some ((false&&(geq f 0))&&(geq (Ac b) 8))
else
if false then
(Af a 1).bind λ_=>
(Af a 1).bind λbs=>
if(geq (Ac bs.2.1) 0)then
(Af a 2).bind λ_=>
(Af a 2).bind λbt=>
if(geq (Ac bt.2.1) 22)then
(Af a 3).bind λ_=>
(Af a 3).bind λbu=>
if(geq (Ac bu.2.1) 14)then
(Ah a).bind λbv=>
some (((geq (Ac bv) 36)&&(geq f 0))&&(geq (Ac b) 8))
else
some ((false&&(geq f 0))&&(geq (Ac b) 8))
else
if false then
(Ah a).bind λbw=>
some (((geq (Ac bw) 36)&&(geq f 0))&&(geq (Ac b) 8))
else
some ((false&&(geq f 0))&&(geq (Ac b) 8))
else
if false then
(Af a 3).bind λ_=>
(Af a 3).bind λbx=>
if(geq (Ac bx.2.1) 14)then
(Ah a).bind λbz=>
some (((geq (Ac bz) 36)&&(geq f 0))&&(geq (Ac b) 8))
else
some ((false&&(geq f 0))&&(geq (Ac b) 8))
else
if false then
(Ah a).bind λda=>
some (((geq (Ac da) 36)&&(geq f 0))&&(geq (Ac b) 8))
else
some ((false&&(geq f 0))&&(geq (Ac b) 8))
else
if false then
(Af a 2).bind λ_=>
(Af a 2).bind λdb=>
if(geq (Ac db.2.1) 22)then
(Af a 3).bind λ_=>
(Af a 3).bind λdc=>
if(geq (Ac dc.2.1) 14)then
(Ah a).bind λdd=>
some (((geq (Ac dd) 36)&&(geq f 0))&&(geq (Ac b) 8))
else
some ((false&&(geq f 0))&&(geq (Ac b) 8))
else
if false then
(Ah a).bind λde=>
some (((geq (Ac de) 36)&&(geq f 0))&&(geq (Ac b) 8))
else
some ((false&&(geq f 0))&&(geq (Ac b) 8))
else
if false then
(Af a 3).bind λ_=>
(Af a 3).bind λdf=>
if(geq (Ac df.2.1) 14)then
(Ah a).bind λdg=>
some (((geq (Ac dg) 36)&&(geq f 0))&&(geq (Ac b) 8))
else
some ((false&&(geq f 0))&&(geq (Ac b) 8))
else
if false then
(Ah a).bind λdh=>
some (((geq (Ac dh) 36)&&(geq f 0))&&(geq (Ac b) 8))
else
some ((false&&(geq f 0))&&(geq (Ac b) 8))
def Ga:Option (Int×Int):=
if((Ci x 1)||(Ep x 1048576))then
some (0,2)
else
if(geq (Bs (Bq x 256) 245) 0)then
some (1,0)
else
some ((Bs (Bq x 256) 245),0)
def Gf:Option Int:=
if(geq x 8)then
some 128
else
if(geq x 16)then
some 32768
else
if(geq x 24)then
some 8388608
else
some 0
def Eb:Option Int:=
if((Ci x 1)||(Ep x 6))then
some 2
else
(Gf d).bind λz=>
if(geq z 0)then
some 2
else
some 0
def Ff:Option Int:=
(Ga l).bind λ(c,e)=>
(Eb x d).bind λi=>
if(((Bp i 0)||(Bp e 0))||(Ep (Ac z) 64))then
some 2
else
some 0
def Jl:Option Bool:=
some (((Ep (Ac I) 60)&&(rQ (Ac I) 200))||(Ep (Ac I) 210))
def MO:Option Int:=
some 0
def Uu:=MO
def Gk:Option Int:=
if(Ci l5 (Ac I))then
(Af I l5).bind λx=>
if((((Ci x.1 1)||(Ep x.1 3))||(Ci x.2.1 0))||(Ep x.2.1 100000))then
some 2
else
if((geq x.1 3)&&(Bp x.2.1 0))then
some 2
else
y5 (Ad l5 1)
else
r9
def Cm:Nat->Int->Option Int
|0,_=>none
|x+1,z=>Gk Uu (Cm x) I z
def Vo a:=Cm a As
def Jc(j4:(List (UInt8×Int×Unit))->Int->Option Int)(a:List (UInt8×Int×Unit)):Option Int:=
if(Ep (Ac a) 200)then
some 4
else
j4 a 0
def Lp:=Jc Vo
def Ef:Option Bool:=
(Jl I).bind λx=>
if(!x)then
(Lp I).bind λz=>
some (geq z 0)
else
some false
abbrev Fj:=Option (LB×Bool)
def Zn:Fj:=
(Df z 0 c).bind λx=>
some (x,false)
def Oj:=Zn
def Ju(j6:LB->Int->Fj)(Na:Int->Int->Fj)(a:LB)(f:List (UInt8×Int×Unit))(b g:Int):Fj:=
if(Ci g (Ac f))then
(Af f g).bind λk=>
if(geq k.1 3)then
(Df a 0 b).bind λm=>
some (m,true)
else
(Af f g).bind λn=>
if(geq n.1 1)then
(Af f g).bind λo=>
Na (Ad b (Er o.2.1 (Ag (Ac a) b))) (Ad g 1)
else
Na b (Ad g 1)
else
j6 a b
def Gg:Nat->Int->Int->Fj
|0,_,_=>none
|x+1,c,d=>Ju Oj (Gg x) z I c d
def UN a f:=Gg a f As
def Zp(j4:LB-> (List (UInt8×Int×Unit))->Int->Int->Fj)(a:LB)(f:List (UInt8×Int×Unit)):Fj:=
j4 a f 0 0
def Vu:=Zp UN
def OE:Option Bool:=
some true
def Vb:=OE
def Je(j12:Option Bool)(tS:Int->Option Bool)(h k m:Int)(n o:LB)(a:LX)(b:List LB)(p:LB)(u:Bool)(v w y aa:Int)(ab ac:LB)(f:LX)(g:List LB)(ad:LB)(ae:Bool)(af ag:Int):Option Bool:=
if(Ci ag (Ac b))then
(Af b ag).bind λai=>
(Af g ag).bind λaj=>
if(ai !=aj)then
some false
else
tS (Ad ag 1)
else
j12
def Es:Nat->Int->Option Bool
|0,_=>none
|i+1,q=>Je Vb (Es i) x d l z C e N l8 O c j t J P x9 B o9 p8 X r q
def Vm h k m n o a b p u v w y aa ab ac f g ad ae af:=Es h k m n o a b p u v w y aa ab ac f g ad ae af As
def Xp(j10:Int->Int->Int->LB->LB->LX-> (List LB)->LB->Bool->Int->Int->Int->Int->LB->LB->LX-> (List LB)->LB->Bool->Int->Int->Option Bool)(h k m:Int)(n o:LB)(a:LX)(b:List LB)(p:LB)(u:Bool)(v w y aa:Int)(ab ac:LB)(f:LX)(g:List LB)(ad:LB)(ae:Bool)(af:Int):Option Bool:=
j10 h k m n o a b p u v w y aa ab ac f g ad ae af 0
def RR:=Xp Vm
def Jp(j9:Int->Int->Int->LB->LB->LX-> (List LB)->LB->Bool->Int->Int->Int->Int->LB->LB->LX-> (List LB)->LB->Bool->Int->Option Bool)(bk7:Int->Option Bool)(h k m:Int)(n o:LB)(a:LX)(b:List LB)(p:LB)(u:Bool)(v w y aa:Int)(ab ac:LB)(f:LX)(g:List LB)(ad:LB)(ae:Bool)(af ah:Int):Option Bool:=
if(Ci ah (Ac a))then
(Af a ah).bind λai=>
(Af f ah).bind λaj=>
if(Bp ai aj)then
some false
else
bk7 (Ad ah 1)
else
j9 h k m n o a b p u v w y aa ab ac f g ad ae af
def Fk:Nat->Int->Option Bool
|0,_=>none
|i+1,q=>Jp RR (Fk i) x d l z C e N l8 O c j t J P x9 B o9 p8 X r q
def SA h k m n o a b p u v w y aa ab ac f g ad ae af:=Fk h k m n o a b p u v w y aa ab ac f g ad ae af As
def Nn(j7:Int->Int->Int->LB->LB->LX-> (List LB)->LB->Bool->Int->Int->Int->Int->LB->LB->LX-> (List LB)->LB->Bool->Int->Int->Option Bool)(h k m:Int)(n o:LB)(a:LX)(b:List LB)(p:LB)(u:Bool)(v w y aa:Int)(ab ac:LB)(f:LX)(g:List LB)(ad:LB)(ae:Bool)(af:Int):Option Bool:=
if(((((((((!((geq h w)&&((geq k y)&&true)))||(Bp m aa))||(n !=ab))||(o !=ac))||(p !=ad))||(u !=ae))||(Bp v af))||(Bp (Ac a) (Ac f)))||(Bp (Ac b) (Ac g)))then
some false
else
j7 h k m n o a b p u v w y aa ab ac f g ad ae af 0
def Mp:=Nn SA
def Mt(b:List (UInt8×Int×Unit))(a:Bool)(h k m n o:Int)(p g:LB)(u:Bool)(v:Int)(f:List (Int×LB×Unit))(ac ad ae:Int)(af:LB)(ag:Bool)(ah:Int)(ai w:LB)(y:LX)(aa:List LB)(aj:LB)(ak:LX)(al:List LB)(ab:LB):Option Bool:=
if((((Bp h 0)||(Bp k 0))||(Bp (Ac f) (Ac b)))||(ai !=ab))then
some false
else
if a then
(Mp m n o p w y aa ab u v ac ad ae af aj ak al ab ag ah).bind λbh=>
some bh
else
some false
def Hu:=Mt
def Ft(j6:(List (UInt8×Int×Unit))->Bool->Int->Int->Int->Int->Int->LB->LB->Bool->Int-> (List (Int×LB×Unit))->Int->Int->Int->LB->Bool->Int->LB->LB->LX-> (List LB)->LB->LX-> (List LB)->LB->Option Bool)(b:List (UInt8×Int×Unit))(a:Bool)(h k m n o:Int)(p g:LB)(u:Bool)(v:Int)(f:List (Int×LB×Unit))(w:LB)(y:LX)(aa:List LB)(ac ad ae:Int)(af:LB)(ag:Bool)(ah:Int)(aj:LB)(ak:LX)(al:List LB)(ab:LB):Option Bool:=
(
(
(Ah f).bind λam=>
(
(Ch ([]:LB) am).bind λan=>
(Ch an g).bind λai=>
j6 b a h k m n o p g u v f ac ad ae af ag ah ai w y aa aj ak al ab)))
def Fu:=Ft Hu
def Ia(j5:(List (UInt8×Int×Unit))->Bool->Int->Int->Int->Int->Int->LB->LB->Bool->Int-> (List (Int×LB×Unit))->LB->LX-> (List LB)->Int->Int->Int->LB->Bool->Int->LB->LX-> (List LB)->LB->Option Bool)(ao:Int)(ap aq:LB)(b:List (UInt8×Int×Unit))(a:Bool)(ar au:Int):Option Bool:=
(Pa ar au ao ap aq b).bind λ(m,n,o,p,w,y,aa,g,u,v,f,h)=>
(Yc ar au ao ap).bind λ(bi,bj,bk,bl,bm,bn,bp,bq,br,bs,k)=>
(Vu aq b).bind λ(bt,bu)=>
(Cw bi bj bk bl bm bn bp bq br bs bt).bind λ(av,aw,ax,ay,az,ba,bb,bc,bd,be,dj)=>
if bu then
(Dx av aw ax ay az ba bb bc bd be).bind λ(bv,bw,bx,bz,da,db,dc,dd,de,df,dk)=>
j5 b a h k m n o p g u v f w y aa bv bw bx bz de df da db dc dd
else
j5 b a h k m n o p g u v f w y aa av aw ax ay bd be az ba bb bc
def Hy:=Ia Fu
def Hw(j4:Int->LB->LB-> (List (UInt8×Int×Unit))->Bool->Int->Int->Option Bool)(ar au ao:Int)(ap aq:LB)(b:List (UInt8×Int×Unit)):Option Bool:=
(Ll).bind λa=>
(Ff ar au ao ap).bind λdg=>
if((Bp dg 0)||(Ep (Ac aq) 600))then
if(true||(!a))then
some a
else
j4 ao ap aq b a ar au
else
(Ef b).bind λdh=>
if((!dh)||(!a))then
some a
else
j4 ao ap aq b a ar au
def Hb:=Hw Hy
def fE:Option (LB):=
(
(Ch ([]:LB) z).bind λx=>
some x)
def RS:Option (LI):=
(
(Ch ([]:LI) s).bind λx=>
some x)
def rE:Option (LB×LB×Int×Int×Int×Int×Int×LI×Int×LB×Bool×Int):=
(fE C).bind λx=>
(fE L).bind λd=>
(RS s).bind λe=>
some (z,x,c,j,t,J,r,e,E,d,Y,R)
abbrev Qr:=Option (UInt64×Int)
def uI:Qr:=
some (i,0)
def uS:=uI
def vD(j6:UInt64->Qr)(Na:UInt64->Int->Qr)(a:LB)(f:UInt64)(b:Int):Qr:=
if(Ci b (Ac a))then
(Af a b).bind λg=>
(Gu (Jd (Bq 8 b) 0)).bind λ_=>
Na (rX f (Cr (Ae g:UInt64) (GI.toZ (Bq 8 b)).toNat)) (Ad b 1)
else
j6 f
def eG:Nat->UInt64->Int->Qr
|0,_,_=>none
|x+1,c,d=>vD uS (eG x) z c d
def wD a:=eG a As
def xZ(j4:LB->UInt64->Int->Qr)(a:LB):Qr:=
if((Ci (Ac a) 1)||(Ep (Ac a) 8))then
some (0,2)
else
j4 a 0 0
def Y6:=xZ wD
def kD:Option (LB×Int):=
if(Ci (Ac z) 5)then
some (([]:LB),24)
else
if(Ep (Ac z) 41254)then
some (([]:LB),4)
else
(Df z 0 (Ag (Ac z) 4)).bind λx=>
(Vz x).bind λ(c,d)=>
if(Bp d 0)then
some (([]:LB),d)
else
(Df z (Ag (Ac z) 4) (Ac z)).bind λe=>
(Y6 e).bind λ(i,j)=>
if((Bp j 0)||(Bp i (Ae c:UInt64)))then
some (([]:LB),22)
else
(Df z 0 (Ag (Ac z) 4)).bind λl=>
some (l,0)
def Abj:Option (LB×Int×Int):=
if(Ep (Ac z) 41250)then
some (([]:LB),0,4)
else
(Ax z).bind λx=>
some (x,(Bq 8 (Ac z)),0)
def xP:Option UInt64:=
some i
def wC:=xP
def vN(j6:UInt64->Option UInt64)(Na:UInt64->Int->Option UInt64)(b f:Int)(h:LB)(k:Int)(g:UInt64)(a:Int):Option UInt64:=
if(Ci a f)then
(Af h (sI (Ad b a) (GI.toZ (3:UInt64)).toNat)).bind λm=>
(Gu (Jd (Dq (Ad b a) 7) 0)).bind λ_=>
(Gu (Jd (Er (Ag f a) (Ag 8 (Dq (Ad b a) 7))) 0)).bind λ_=>
(Gu (Jd a 0)).bind λ_=>
Na (rX g (Cr (Ae (Dq (Bo m (GI.toZ (Dq (Ad b a) 7)).toNat) (Ag (Cr (1:UInt8) (GI.toZ (Er (Ag f a) (Ag 8 (Dq (Ad b a) 7)))).toNat) 1)):UInt64) (GI.toZ a).toNat)) (Ad a (Er (Ag f a) (Ag 8 (Dq (Ad b a) 7))))
else
j6 g
def fB:Nat->UInt64->Int->Option UInt64
|0,_,_=>none
|e+1,i,j=>vN wC (fB e) x d z c i j
def vB b f h k:=fB b f h k As
def tY(j4:Int->Int->LB->Int->UInt64->Int->Option UInt64)(h:LB)(k b f:Int):Option UInt64:=
j4 b f h k 0 0
def wP:=tY vB
abbrev Dg:=Option (LB×Int×Int)
def sR:Dg:=
some (z,x,0)
def qN:=sR
def rH(LN:Int->Int->LB->Dg)(a:Int)(g:LB)(b f h:Int)(u:LB):Dg:=
LN (Ad f 64) h u
def pR LN:=rH LN
def rJ(mI:UInt64->Int->Int->LB->Dg)(a f:Int)(g:LB)(b:Int)(m n:UInt64)(k h:Int)(w:LB):Dg:=
(Gu (Jd (Er k (Ag 8 (Dq h 7))) 0)).bind λ_=>
mI (Bo n (GI.toZ (Er k (Ag 8 (Dq h 7)))).toNat) (Ag k (Er k (Ag 8 (Dq h 7)))) (Ad h (Er k (Ag 8 (Dq h 7)))) w
def sF mI:=rJ mI
def tL(j48:UInt64->Int->Int->LB->Dg)(a f:Int)(g:LB)(b:Int)(m n:UInt64)(k h:Int)(v:LB):Dg:=
(Af v (Ag (Ac v) 1)).bind λ_=>
(Gu (Jd (Er k (Ag 8 (Dq h 7))) 0)).bind λ_=>
(Gu (Jd (Dq h 7) 0)).bind λ_=>
(Af v (Ag (Ac v) 1)).bind λaa=>
(Af v (Ag (Ac v) 1)).bind λ_=>
Option.bind (Iy v (Ag (Ac v) 1) (rX aa (Cr (Ae (Dq n (Ag (Cr (1:UInt64) (GI.toZ (Er k (Ag 8 (Dq h 7)))).toNat) 1)):UInt8) (GI.toZ (Dq h 7)).toNat))) λw=>
j48 n k h w
def rI mI a f g b m:=tL (sF mI a f g b m) a f g b m
def qV(j47:UInt64->Int->Int->LB->Dg)(j50:Int->Int->LB->Dg)(a:Int)(g:LB)(b f:Int)(m n:UInt64)(k h:Int)(u:LB):Dg:=
if(Ep k 0)then
if(geq (Dq h 7) 0)then
(Ch u ([(0:UInt8)]:LB)).bind λab=>
j47 n k h ab
else
j47 n k h u
else
j50 f h u
def ZW(LN:Int->Int->LB->Dg)(a:Int)(g:LB)(b f:Int)(m:UInt64):Nat->UInt64->Int->Int->LB->Dg
|0,_,_,_,_=>none
|q+1,n,k,h,u=>qV (rI (ZW LN a g b f m q) a f g b m) (pR LN a g b) a g b f m n k h u
def sN LN a g b f m:=ZW LN a g b f m As
def sG(j44:Int->UInt64->UInt64->Int->Int->LB->Dg)(j52:Int->LB->Dg)(a:Int)(g:LB)(b f o:Int)(p:LB):Dg:=
if(Ci f a)then
(wP g b f (Er 64 (Ag a f))).bind λm=>
j44 f m m (Er 64 (Ag a f)) o p
else
j52 o p
def ZR:Nat->Int->Int->LB->Dg
|0,_,_,_=>none
|d+1,e,i,j=>sG (sN (ZR d) x z c) qN x z c e i j
def pO a g b:=ZR a g b As
def vY(j27:Int->LB->Int->Int->Int->LB->Dg)(g:LB)(b y a:Int):Dg:=
(Gz g b).bind λac=>
if(Bp ac 0)then
some (([]:LB),0,8)
else
if(((Ci y 0)||(Ep y a))||(Ep a b))then
some (([]:LB),0,2)
else
j27 a g b y 0 ([]:LB)
def jh:=vY pO
def RA:Option (UInt64×Int):=
(Gz z c).bind λx=>
if(Bp x 0)then
some (0,8)
else
if(((Ci t 0)||(Ep t 64))||(Ci j 0))then
some (0,2)
else
if(Ep j (Ag c t))then
some (0,24)
else
(wP z c j t).bind λd=>
some (d,0)
def CV:Option Int:=
if(geq i 0)then
some 64
else
(Af ([(0:UInt8),(1:UInt8),(56:UInt8),(2:UInt8),(57:UInt8),(49:UInt8),(28:UInt8),(3:UInt8),(61:UInt8),(58:UInt8),(42:UInt8),(50:UInt8),(38:UInt8),(29:UInt8),(17:UInt8),(4:UInt8),(62:UInt8),(47:UInt8),(59:UInt8),(36:UInt8),(45:UInt8),(43:UInt8),(51:UInt8),(22:UInt8),(53:UInt8),(39:UInt8),(33:UInt8),(30:UInt8),(24:UInt8),(18:UInt8),(12:UInt8),(5:UInt8),(63:UInt8),(55:UInt8),(48:UInt8),(27:UInt8),(60:UInt8),(41:UInt8),(37:UInt8),(16:UInt8),(46:UInt8),(35:UInt8),(44:UInt8),(21:UInt8),(52:UInt8),(32:UInt8),(23:UInt8),(11:UInt8),(54:UInt8),(26:UInt8),(40:UInt8),(15:UInt8),(34:UInt8),(20:UInt8),(31:UInt8),(10:UInt8),(25:UInt8),(14:UInt8),(19:UInt8),(9:UInt8),(13:UInt8),(8:UInt8),(7:UInt8),(6:UInt8)]:LB) (GI.toZ (Bo (Bq (Dq i (qF i)) 285870213051353865) (GI.toZ (58:UInt64)).toNat))).bind λx=>
some (Ae x:Int)
abbrev Fz:=Option (Int×Int×Int)
def jT:Fz:=
some (0,0,24)
def jQ:=jT
def nA(j10:Fz):Fz:=
j10
def mM:=nA jQ
def mR(j9:Fz)(f a:Int):Fz:=
if(geq f 48)then
some (f,(Ad 0 (Ad a f)),0)
else
j9
def mX:=mR mM
def mV(j8:Int->Int->Fz)(f b a:Int):Fz:=
if(Ci f (Er 48 (Ag b a)))then
some (f,(Ad (Ad (0:Int) (1:Int)) (Ad a f)),0)
else
j8 f a
def mZ:=mV mX
def mY(j7:Int->Int->Int->Fz)(h:Int)(k:UInt64)(a:Int)(g:LB)(b:Int):Fz:=
if(Bp h 0)then
some (0,0,h)
else
(CV (A3 k)).bind λf=>
j7 f b a
def mP:=mY mZ
def nB(j6:Int->UInt64->Int->LB->Int->Fz)(g:LB)(b a:Int):Fz:=
(Gz g b).bind λm=>
if(Bp m 0)then
some (0,0,m)
else
if(Ci a 0)then
some (0,0,2)
else
if(Jd a b)then
some (0,0,24)
else
(
(
(RA g b a (Er 48 (Ag b a))).bind λ(k,h)=>
j6 h k a g b))
def zT:=nB mP
abbrev RF:=Option (UInt32×Int×Int)
def rO:RF:=
(RA z c d j).bind λ(e,i)=>
if(Bp i 0)then
some (0,0,i)
else
if(Ci l 48)then
(Gu (Jd x 0)).bind λ_=>
some ((rX (Cr (Ae l:UInt32) (GI.toZ x).toNat) (Ae e:UInt32)),(Ad d j),0)
else
(Uk (Ae e:UInt32) x).bind λq=>
if(!q)then
some (0,0,12)
else
some ((Ae e:UInt32),(Ad d j),0)
def sU:=rO
def sA(j2:Int->Int->Int->LB->Int->Int->RF)(g:LB)(h v a:Int):RF:=
(Gz g h).bind λo=>
if(Bp o 0)then
some (0,0,o)
else
if((Ci a 0)||(Ep a 24))then
some (0,0,2)
else
(zT g h v).bind λ(f,b,p)=>
if(Bp p 0)then
some (0,0,p)
else
if(geq f 48)then
j2 a b f g h 32
else
j2 a b f g h a
def R2:=sA sU
abbrev Hj:=Option (UInt32×Int×Int×Int×UInt64×UInt64×Int)
def mL:Hj:=
some (D,M,Ak7,T,(Ad Akz (Ag (Ae D:UInt64) (Bo Akz (GI.toZ (4:UInt64)).toNat))),Ak1,0)
def mT:=mL
def sO(j10:UInt32->Int->Int->Int->UInt64->UInt64->Hj)(f:UInt32)(k m:Int)(b n:UInt64)(w:Int):Hj:=
j10 f k w m b n
def pU:=sO mT
def tC(j9:UInt32->Int->Int->UInt64->UInt64->Int->Hj)(f:UInt32)(k a:Int)(b:UInt64)(m:Int)(n:UInt64):Hj:=
if(Ep a 0)then
(Gu (Jd a 0)).bind λ_=>
if(Ci (Ad b (Ag (Ae f:UInt64) (Bo b (GI.toZ (4:UInt64)).toNat))) (Cr (16:UInt64) (GI.toZ a).toNat))then
j9 f k m b n (Ag a 1)
else
if(Ci a 24)then
(Gu (Jd a 0)).bind λ_=>
if(Ep (Ad b (Ag (Ae f:UInt64) (Bo b (GI.toZ (4:UInt64)).toNat))) (Cr (32:UInt64) (GI.toZ a).toNat))then
j9 f k m b n (Ad a 1)
else
j9 f k m b n a
else
j9 f k m b n a
else
if(Ci a 24)then
(Gu (Jd a 0)).bind λ_=>
if(Ep (Ad b (Ag (Ae f:UInt64) (Bo b (GI.toZ (4:UInt64)).toNat))) (Cr (32:UInt64) (GI.toZ a).toNat))then
j9 f k m b n (Ad a 1)
else
j9 f k m b n a
else
j9 f k m b n a
def sT:=tC pU
def qO(j8:UInt32->Int->Int->UInt64->Int->UInt64->Hj)(a h:Int)(b g:UInt64)(f:UInt32)(k:Int):Hj:=
(Wi a h b g f).bind λ(ad,o)=>
if(geq ad 1)then
if(Ep h 0)then
(Gu (Jd h 0)).bind λ_=>
if(Ci (Ad g (Ag (Ae o:UInt64) (Bo g (GI.toZ (4:UInt64)).toNat))) (Cr (16:UInt64) (GI.toZ h).toNat))then
j8 f k a b (Ag h 1) (Ad g (Ag (Ae o:UInt64) (Bo g (GI.toZ (4:UInt64)).toNat)))
else
if(Ci h 24)then
(Gu (Jd h 0)).bind λ_=>
if(Ep (Ad g (Ag (Ae o:UInt64) (Bo g (GI.toZ (4:UInt64)).toNat))) (Cr (32:UInt64) (GI.toZ h).toNat))then
j8 f k a b (Ad h 1) (Ad g (Ag (Ae o:UInt64) (Bo g (GI.toZ (4:UInt64)).toNat)))
else
j8 f k a b h (Ad g (Ag (Ae o:UInt64) (Bo g (GI.toZ (4:UInt64)).toNat)))
else
j8 f k a b h (Ad g (Ag (Ae o:UInt64) (Bo g (GI.toZ (4:UInt64)).toNat)))
else
if(Ci h 24)then
(Gu (Jd h 0)).bind λ_=>
if(Ep (Ad g (Ag (Ae o:UInt64) (Bo g (GI.toZ (4:UInt64)).toNat))) (Cr (32:UInt64) (GI.toZ h).toNat))then
j8 f k a b (Ad h 1) (Ad g (Ag (Ae o:UInt64) (Bo g (GI.toZ (4:UInt64)).toNat)))
else
j8 f k a b h (Ad g (Ag (Ae o:UInt64) (Bo g (GI.toZ (4:UInt64)).toNat)))
else
j8 f k a b h (Ad g (Ag (Ae o:UInt64) (Bo g (GI.toZ (4:UInt64)).toNat)))
else
j8 f k a b h g
def qU:=qO sT
def rB(j7:Int->Int->UInt64->UInt64->UInt32->Int->Hj)(p:Int)(u:LB)(v a h:Int)(b g:UInt64):Hj:=
(RA u v p 1).bind λ(ae,aa)=>
if(Bp aa 0)then
some (0,0,0,0,0,0,aa)
else
if(geq ae 0)then
(RA u v (Ad p 1) a).bind λ(af,ab)=>
if(Bp ab 0)then
some (0,0,0,0,0,0,ab)
else
j7 a h b g (Ae af:UInt32) (Ad (Ad p 1) a)
else
(R2 u v (Ad p 1) h).bind λ(y,ag,ac)=>
if(Bp ac 0)then
some (0,0,0,0,0,0,ac)
else
(Gu (Jd a 0)).bind λ_=>
if(Ci (Ad y (Cr (1:UInt32) (GI.toZ a).toNat)) y)then
some (0,0,0,0,0,0,12)
else
j7 a h b g (Ad y (Cr (1:UInt32) (GI.toZ a).toNat)) ag
def tI:=rB qU
def tN(j6:Int->LB->Int->Int->Int->UInt64->UInt64->Hj)(u:LB)(v p a h:Int)(b g:UInt64):Hj:=
(Gz u v).bind λah=>
if(Bp ah 0)then
some (0,0,0,0,0,0,8)
else
(CF a h b g).bind λai=>
if(Bp ai 0)then
some (0,0,0,0,0,0,8)
else
j6 p u v a h b g
def O7:=tN tI
abbrev Be:=Option (LU×Int×Int)
def XW:Be:=
some (G,x,0)
def YG:=XW
def YD(Ex:Int->Int-> (List (Int×Int×UInt64×UInt64×Unit))->LU->Be)(a f:Int)(g:LB)(b k v:Int)(w:UInt32)(h:Int)(ah:List (Int×Int×UInt64×UInt64×Unit))(n:LU):Be:=
(Ch n ([w]:LU)).bind λak=>
Ex (Ad k v) (Ad h 1) ah ak
def XH Ex:=YD Ex
def XQ(j22:Int->Int->UInt32->Int-> (List (Int×Int×UInt64×UInt64×Unit))->LU->Be)(a f:Int)(g:LB)(b k h y:Int)(w:UInt32)(v:Int)(m:List (Int×Int×UInt64×UInt64×Unit))(n:LU)(aa ab:Int)(ac ad:UInt64):Be:=
if(Bp y 0)then
some (([]:LU),0,y)
else
(Gu (Bp a 0)).bind λ_=>
(Af m (Ip h a)).bind λ_=>
(Iy m (Ip h a) (aa,ab,ac,ad,())).bind λah=>
j22 k v w h ah n
def XR Ex a f g b:=XQ (XH Ex a f g b) a f g b
def YV(j21:Int->Int->Int->UInt32->Int-> (List (Int×Int×UInt64×UInt64×Unit))->LU->Int->Int->UInt64->UInt64->Be)(j24:Int->LU->Be)(a f:Int)(g:LB)(b k h:Int)(m:List (Int×Int×UInt64×UInt64×Unit))(n:LU):Be:=
if(Ci h (Bq f a))then
(jh g b k (Er (Ad k 81) b)).bind λ(ag,ae,af)=>
if(Bp af 0)then
some (([]:LU),0,af)
else
(Gu (Bp a 0)).bind λ_=>
(Af m (Ip h a)).bind λ_=>
(
(
(Af m (Ip h a)).bind λo=>
(
(O7 ag ae 0 o.1 o.2.1 o.2.2.1 o.2.2.2.1).bind λ(w,v,aa,ab,ac,ad,y)=>
j21 k h y w v m n aa ab ac ad)))
else
j24 k n
def AN:Nat->Int->Int-> (List (Int×Int×UInt64×UInt64×Unit))->LU->Be
|0,_,_,_,_=>none
|e+1,i,j,l,q=>YV (XR (AN e) x d z c) YG x d z c i j l q
def YW a f g b:=AN a f g b As
def XB(j16:Int->Int->LB->Int->Int->Int-> (List (Int×Int×UInt64×UInt64×Unit))->LU->Be)(a f:Int)(g:LB)(b:Int)(p:List (Int×Int×UInt64×UInt64×Unit)):Be:=
j16 a f g b 0 0 p ([]:LU)
def WW:=XB YW
def XI(j15:Int->Int->LB->Int-> (List (Int×Int×UInt64×UInt64×Unit))->Be)(vv:Int-> (List (Int×Int×UInt64×UInt64×Unit))->Be)(a f:Int)(g:LB)(b u:Int)(p:List (Int×Int×UInt64×UInt64×Unit)):Be:=
if(Ci u 6)then
(ZA).bind λ(al,ae,af,am)=>
(Af p u).bind λ_=>
(Iy p u (al,ae,af,am,())).bind λan=>
vv (Ad u 1) an
else
j15 a f g b p
def AY:Nat->Int-> (List (Int×Int×UInt64×UInt64×Unit))->Be
|0,_,_=>none
|e+1,i,j=>XI WW (AY e) x d z c i j
def YX a f g b:=AY a f g b As
def aC(j13:Int->Int->LB->Int->Int-> (List (Int×Int×UInt64×UInt64×Unit))->Be)(a f:Int)(g:LB)(b:Int):Be:=
j13 a f g b 0 (List.replicate 6 ((0:Int),(0:Int),(0:UInt64),(0:UInt64),()))
def jY:=aC YX
def R3:Option Int32:=
some (Pn (Ae (Bo D (GI.toZ (1:UInt64)).toNat):Int32) (qF (Ae (Dq D 1):Int32)))
def qm:Option (Int32×Int×LX×LX×Int):=
(BU x e B).bind λ(z,c)=>
if(Bp c 0)then
some (0,0,(List.replicate 16 (0:Int32)),(List.replicate 16 (0:Int32)),c)
else
(IZ x e B (Ad q z) q).bind λ(d,i,j)=>
some ((Ad q z),d,i,j,0)
def C3:Option (Int32×Int×Int32×Int×LX×LX×Int):=
(Rf x q A U V).bind λz=>
if(Bp z 0)then
some (0,0,0,0,(List.replicate 16 (0:Int32)),(List.replicate 16 (0:Int32)),z)
else
(Rh x q).bind λ(c,d)=>
(qm A U V Aky).bind λ(e,i,j,l,r)=>
(
some ((Ad e c),x,(Ad e c),i,j,l,r))
abbrev Ek:=Option (LX×Int)
def rA:Ek:=
some (e,0)
def qP:=rA
def rU(FK:Int->LX->Ek)(b a:Int)(h:LX):Ek:=
FK (Ad a b) h
def rV FK:=rU FK
def qD(j20:Int->LX->Ek)(nJ:Int->LX->Ek)(b a g:Int)(h:LX):Ek:=
if(Jd g 0)then
(Gu (decide (0<= (Ad g 1)/\ (Ad g 1)<((Ad a b)-a)))).bind λ_=>
(Gu (decide (0<=g/\g<((Ad a b)-a)))).bind λ_=>
(Af h (a+(Ad g 1))).bind λn=>
(Af h (a+g)).bind λo=>
(Gu (decide (0<=g/\g<((Ad a b)-a)))).bind λ_=>
(Iy h (a+g) (Ag n o)).bind λp=>
nJ (Ag g 1) p
else
j20 a h
def aU(FK:Int->LX->Ek)(b a:Int):Nat->Int->LX->Ek
|0,_,_=>none
|q+1,g,h=>qD (rV FK b) (aU FK b a q) b a g h
def qM FK b a:=aU FK b a As
def pQ(j18:Int->Int->LX->Ek)(b a:Int)(u:LX):Ek:=
j18 a (Ag (Ag ((Ad a b)-a) 1) 1) u
def sH FK b:=pQ (qM FK b) b
def qH(j17:Int->LX->Ek)(j22:LX->Ek)(b a:Int)(f:LX):Ek:=
if(Ci a (Ac f))then
(ZD (Ac f) a (Ad a b)).bind λ_=>
if(Ep (Ag ((Ad a b)-a) 1) 0)then
(Gu (decide (0<= (Ag ((Ad a b)-a) 1)/\ (Ag ((Ad a b)-a) 1)<((Ad a b)-a)))).bind λ_=>
Option.bind (Gu (decide (0<= (Ag (Ag ((Ad a b)-a) 1) 1)/\ (Ag (Ag ((Ad a b)-a) 1) 1)<((Ad a b)-a)))) λ_=>
(Af f (a+(Ag ((Ad a b)-a) 1))).bind λv=>
(Af f (a+(Ag (Ag ((Ad a b)-a) 1) 1))).bind λw=>
(Gu (decide (0<= (Ag ((Ad a b)-a) 1)/\ (Ag ((Ad a b)-a) 1)<((Ad a b)-a)))).bind λ_=>
(Iy f (a+(Ag ((Ad a b)-a) 1)) (Ad v (Bs w 2))).bind λy=>
j17 a y
else
j17 a f
else
j22 f
def aL:Nat->Int->LX->Ek
|0,_,_=>none
|z+1,c,d=>qH (sH (aL z) x) qP x c d
def sD b:=aL b As
def xO(j12:Int->Int->LX->Ek)(b:Int)(k:LX):Ek:=
(HK b k).bind λm=>
if(Bp m 0)then
some (([]:LX),m)
else
(By k).bind λaa=>
j12 b 0 aa
def ig:=xO sD
abbrev Bl:=Option (LX×Int)
def TW:Bl:=
(ig x e).bind λ(z,c)=>
if(Bp c 0)then
some (([]:LX),c)
else
(Kw d z).bind λi=>
if(Bp i 0)then
some (([]:LX),i)
else
some (z,0)
def TS:=TW
def UQ(vv:Int-> (List (Int×Int32×(Int×LX×LX×Unit)×Unit))->LX->Bl)(a:Int)(f:LU)(b g:Int)(y:Int32)(v:Int)(h:List (Int×Int32×(Int×LX×LX×Unit)×Unit))(k:LX)(aa:Int)(w:Int32)(ab:Int)(ac ad:LX):Bl:=
if(Bp v 0)then
some (([]:LX),v)
else
(Iy h (Ip g a) (aa,w,(ab,ac,ad,()),())).bind λai=>
(Ch k ([y]:LX)).bind λaj=>
vv (Ad g 1) ai aj
def UW vv:=UQ vv
def TR(j16:Int->Int32->Int-> (List (Int×Int32×(Int×LX×LX×Unit)×Unit))->LX->Int->Int32->Int->LX->LX->Bl)(j18:Int->Int->LX->Bl)(f:LU)(a b g:Int)(h:List (Int×Int32×(Int×LX×LX×Unit)×Unit))(k:LX):Bl:=
if(Ci g (Ac f))then
(Af f g).bind λag=>
(Gu (Bp a 0)).bind λ_=>
(Af h (Ip g a)).bind λ_=>
(
(Af h (Ip g a)).bind λm=>
(
(R3 ag).bind λae=>
(
(C3 m.1 m.2.1 m.2.2.1.1 m.2.2.1.2.1 m.2.2.1.2.2.1 ae).bind λ(y,aa,w,ab,ac,ad,v)=>
j16 g y v h k aa w ab ac ad)))
else
j18 a b k
def Ze:Nat->Int-> (List (Int×Int32×(Int×LX×LX×Unit)×Unit))->LX->Bl
|0,_,_,_=>none
|x+1,z,c,d=>TR (UW (Ze x) l5 G o8) TS G l5 o8 z c d
def VW f a b:=Ze f a b As
def VH(j13:LU->Int->Int->Int-> (List (Int×Int32×(Int×LX×LX×Unit)×Unit))->LX->Bl)(f:LU)(a b:Int)(n:List (Int×Int32×(Int×LX×LX×Unit)×Unit)):Bl:=
j13 f a b 0 n ([]:LX)
def VR:=VH VW
def VP(j12:LU->Int->Int-> (List (Int×Int32×(Int×LX×LX×Unit)×Unit))->Bl)(tS:Int-> (List (Int×Int32×(Int×LX×LX×Unit)×Unit))->Bl)(f:LU)(a b:Int)(o:LX)(p:Int)(n:List (Int×Int32×(Int×LX×LX×Unit)×Unit)):Bl:=
if(Ci p 6)then
(eC b o).bind λ(ak,af,ae,al,am,w)=>
(Af n p).bind λ_=>
(Iy n p (ak,af,(ae,al,am,()),())).bind λan=>
tS (Ad p 1) an
else
j12 f a b n
def Zq:Nat->Int-> (List (Int×Int32×(Int×LX×LX×Unit)×Unit))->Bl
|0,_,_=>none
|x+1,z,c=>VP VR (Zq x) G l5 o8 Ak6 z c
def VE f a b o:=Zq f a b o As
def YU(j10:LU->Int->Int->LX->Int-> (List (Int×Int32×(Int×LX×LX×Unit)×Unit))->Bl)(a b:Int)(o:LX)(f:LU):Bl:=
j10 f a b o 0 (List.replicate 6 ((0:Int),(0:Int32),((0:Int),(List.replicate 16 (0:Int32)),(List.replicate 16 (0:Int32)),()),()))
def fX:=YU VE
def iA:Option (LX×Int):=
(Mc x d).bind λz=>
if(Bp z 0)then
some (([]:LX),z)
else
if(Ci c 1)then
some (([]:LX),2)
else
(Gu (Bp x 0)).bind λ_=>
if(Ep c (Bs 4000 x))then
some (([]:LX),2)
else
(kD P).bind λ(i,j)=>
if(Bp j 0)then
some (([]:LX),j)
else
(Abj i).bind λ(l,q,r)=>
if(Bp r 0)then
some (([]:LX),r)
else
(jY x c l q).bind λ(s,t,A)=>
if(Bp A 0)then
some (([]:LX),A)
else
if(Jd (Ag q t) 8)then
some (([]:LX),12)
else
(RA l q t (Ag q t)).bind λ(B,C)=>
if((Bp C 0)||(Bp B 0))then
some (([]:LX),12)
else
(fX x d e s).bind λ(D,E)=>
some (D,E)
abbrev Ce:=Option (LB×Int)
def fV:Ce:=
some (z,0)
def gK:=fV
def gE(Ex:Int->LB->Ce)(b:Int)(a:LX)(f:Int)(h:LB):Ce:=
Ex (Ad f 1) h
def gB Ex:=gE Ex
def fW(j28:Int->LB->Ce)(E1:Int->LB->Ce)(b:Int)(a:LX)(k:Int32)(f m:Int)(h:LB):Ce:=
if(Ci m (Bs b 8))then
(Gu (Jd (Bq 8 m) 0)).bind λ_=>
(Ch h ([(Ae (Bo k (GI.toZ (Bq 8 m)).toNat):UInt8)]:LB)).bind λp=>
E1 (Ad m 1) p
else
j28 f h
def MJ(Ex:Int->LB->Ce)(b:Int)(a:LX)(k:Int32)(f:Int):Nat->Int->LB->Ce
|0,_,_=>none
|q+1,m,h=>fW (gB Ex b a) (MJ Ex b a k f q) b a k f m h
def gL Ex b a k f:=MJ Ex b a k f As
def fR(j26:Int32->Int->Int->LB->Ce)(b:Int)(a:LX)(f:Int)(g:LB)(k:Int32):Ce:=
j26 k f 0 g
def gM Ex b a:=fR (gL Ex b a) b a
def gH(j25:Int->LB->Int32->Ce)(j30:LB->Ce)(b:Int)(a:LX)(f:Int)(g:LB):Ce:=
if(Ci f (Ac a))then
(Af a f).bind λn=>
if(geq b 8)then
j25 f g (Ad n 128)
else
j25 f g n
else
j30 g
def MK:Nat->Int->LB->Ce
|0,_,_=>none
|z+1,c,d=>gH (gM (MK z) x e) gK x e c d
def gC b a:=MK b a As
def kZ(j16:Int->LX->Int->LB->Ce)(b:Int)(a:LX):Ce:=
(Kw b a).bind λo=>
if(Bp o 0)then
some (([]:LB),o)
else
j16 b a 0 ([]:LB)
def xC:=kZ gC
def Ox:Option Bool:=
if((((geq x 1)||(geq x 2))&&(Jd d 1))&&(rQ d 6))then
some ((((((geq l 8)||(geq l 16))||(geq l 24))&&(Jd c 1))&&(rQ c 1048576))&&(Jd j 1))
else
some (((false&&(Jd c 1))&&(rQ c 1048576))&&(Jd j 1))
def Mw:Option Int:=
some (aA 1 (Bs (Bq 256 x) 245))
def Ja:Option (LI):=
some s
def Jg:=Ja
def Gn(j6:LI->Option (LI))(Na:Int->LI->Option (LI))(a f:Int)(b:LI):Option (LI):=
if(Ep f 0)then
(Mw a).bind λg=>
(Ch b ([(Er f g)]:LI)).bind λh=>
(Mw a).bind λk=>
Na (Ag f k) h
else
j6 b
def Dd:Nat->Int->LI->Option (LI)
|0,_,_=>none
|z+1,c,d=>Gn Jg (Dd z) x c d
def Uw a:=Dd a As
def Vg(j4:Int->Int->LI->Option (LI))(a m:Int):Option (LI):=
j4 a m ([]:LI)
def Iu:=Vg Uw
def Ub(h a k f b:Int):Option Bool:=
(
(Gu (Bp a 0)).bind λ_=>
(
if(Ep b (Bs 4000 a))then
some true
else
(Iu f b).bind λg=>
some (Ep (Ac g) 1000)))
def BT(a f g h k:Int)(b:LB):Option Int:=
if((b==([]:LB)) !=(geq a 1))then
some 26
else
some 0
def KQ:Option Int:=
if(Ep x 100000)then
some 8
else
some 0
def KB:=KQ
def NN:Option Int:=
(Af Ak4 w9).bind λx=>
y7 (Ad l7 x) (Ad w9 1)
def NS nI:=NN nI
def NP:Option Int:=
if(Ci Ak5 (Ac Ak8))then
(Af Ak8 Ak5).bind λx=>
if(Ci x 5)then
some 8
else
(Af Ak8 Ak5).bind λz=>
if(Ep z 100000)then
some 8
else
y7 Ak2 Ak5
else
Alh Ak2
def Vp:Nat->Int->Int->Option Int
|0,_,_=>none
|x+1,z,c=>NP (NS (Vp x) s) KB s z c
def NY a:=Vp a As
def ML(j6:LI->Int->Int->Option Int)(a:LI):Option Int:=
if((Ci (Ac a) 1)||(Ep (Ac a) 1000))then
some 8
else
j6 a 0 0
def WY:=ML NY
def Xx(g h k a b:Int):Option (LI):=
(Iu a b).bind λf=>
some f
def YI(f a b g h:Int):Option (Int×Int):=
some (a,b)
abbrev Dw:=Option (Int×Int)
def MZ:Dw:=
some (x,0)
def OD:=MZ
def Mm(j6:Int->Dw)(Na:Int->Int->Dw)(a:LB)(b f:Int):Dw:=
if(Ci f 4)then
(Af a f).bind λg=>
if(Jd g 128)then
some (0,12)
else
(Af a f).bind λh=>
Na (Ad (Bq 128 b) (Ae h:Int)) (Ad f 1)
else
j6 b
def Gq:Nat->Int->Int->Dw
|0,_,_=>none
|x+1,c,d=>Mm OD (Gq x) z c d
def Va a:=Gq a As
def Vl(j4:LB->Int->Int->Dw)(a:LB):Dw:=
if(Bp (Ac a) 4)then
some (0,2)
else
j4 a 0 0
def Qn:=Vl Va
abbrev En:=Option (Int×Int)
def Yd:En:=
if(Ep c 4000)then
some (0,4)
else
if(Ci (Ac z) c)then
some (0,24)
else
(Af z 5).bind λx=>
if(geq x 16)then
(Df z (Ag c 10) c).bind λd=>
(Df z 3 10).bind λe=>
(Ch ([51,68,73]:LB) e).bind λi=>
if(d !=i)then
some (0,12)
else
some (c,0)
else
some (c,0)
def Nb:=Yd
def Xe(j6:LB->Int->En)(a:LB)(b:Int):En:=
(Af a 5).bind λo=>
if(geq o 16)then
j6 a (Ad (Ad 10 b) 10)
else
j6 a (Ad 10 b)
def Nd:=Xe Nb
def Xs(j5:LB->Int->En)(a:LB):En:=
if(Ci (Ac a) 10)then
some (0,24)
else
(Df a 6 10).bind λp=>
(Qn p).bind λ(b,f)=>
(Af a 3).bind λu=>
if(Ci u 2)then
if true then
if true then
if(true||(Bp f 0))then
some (0,12)
else
j5 a b
else
(Af a 5).bind λv=>
if(Bp v 0)then
(Af a 5).bind λw=>
if(Bp w 16)then
if(true||(Bp f 0))then
some (0,12)
else
j5 a b
else
(Af a 3).bind λy=>
if((Bp y 4)||(Bp f 0))then
some (0,12)
else
j5 a b
else
if(false||(Bp f 0))then
some (0,12)
else
j5 a b
else
(Af a 4).bind λaa=>
if(Bp aa 0)then
if(true||(Bp f 0))then
some (0,12)
else
j5 a b
else
(Af a 5).bind λab=>
if(Bp ab 0)then
(Af a 5).bind λac=>
if(Bp ac 16)then
if(true||(Bp f 0))then
some (0,12)
else
j5 a b
else
(Af a 3).bind λad=>
if((Bp ad 4)||(Bp f 0))then
some (0,12)
else
j5 a b
else
if(false||(Bp f 0))then
some (0,12)
else
j5 a b
else
(Af a 3).bind λae=>
if(Ep ae 4)then
if true then
if(true||(Bp f 0))then
some (0,12)
else
j5 a b
else
(Af a 5).bind λaf=>
if(Bp af 0)then
(Af a 5).bind λag=>
if(Bp ag 16)then
if(true||(Bp f 0))then
some (0,12)
else
j5 a b
else
(Af a 3).bind λah=>
if((Bp ah 4)||(Bp f 0))then
some (0,12)
else
j5 a b
else
if(false||(Bp f 0))then
some (0,12)
else
j5 a b
else
(Af a 4).bind λai=>
if(Bp ai 0)then
if(true||(Bp f 0))then
some (0,12)
else
j5 a b
else
(Af a 5).bind λaj=>
if(Bp aj 0)then
(Af a 5).bind λak=>
if(Bp ak 16)then
if(true||(Bp f 0))then
some (0,12)
else
j5 a b
else
(Af a 3).bind λal=>
if((Bp al 4)||(Bp f 0))then
some (0,12)
else
j5 a b
else
if(false||(Bp f 0))then
some (0,12)
else
j5 a b
def Ym:=Xs Nd
def Xh(j4:LB->En)(a:LB):En:=
if(Ci (Ac a) 3)then
some (0,6)
else
(Df a 0 3).bind λam=>
if(am !=([73,68,51]:LB))then
some (0,6)
else
j4 a
def So:=Xh Ym
def AS:Option UInt64:=
some i
def BW:=AS
def Qt:Option UInt64:=
if(Jd T 0)then
(Af Akx T).bind λx=>
q9 (Ad (Bq 256 Z) (Ae x:UInt64)) (Ag T 1)
else
p9 Z
def Iv:Nat->UInt64->Int->Option UInt64
|0,_,_=>none
|x+1,c,d=>Qt BW (Iv x) z c d
def BM a:=Iv a As
def BK(j4:LB->UInt64->Int->Option UInt64)(a:LB):Option UInt64:=
j4 a 0 (Ag (Ac a) 1)
def Cf:=BK BM
def Rz:Option (Int×Int×Bool):=
(Df z 12 16).bind λx=>
(Cf x).bind λc=>
(Df z 16 20).bind λd=>
(Cf d).bind λe=>
if(((Ci c 32)||(Ep c 3032))||(Ep e 1000))then
some (0,0,false)
else
some ((Ag (Ae c:Int) 32),(Ae e:Int),true)
def Rg:Option (LB):=
some z
def Qv:=Rg
def Ko(j6:LB->Option (LB))(Na:UInt64->Int->LB->Option (LB))(b:Int)(f:UInt64)(g:Int)(a:LB):Option (LB):=
if(Ci g b)then
(Ch a ([(Ae (Wl f 256):UInt8)]:LB)).bind λh=>
Na (Bs f 256) (Ad g 1) h
else
j6 a
def Fm:Nat->UInt64->Int->LB->Option (LB)
|0,_,_,_=>none
|z+1,c,d,e=>Ko Qv (Fm z) x c d e
def Rb b:=Fm b As
def Rj(j4:Int->UInt64->Int->LB->Option (LB))(k:UInt64)(b:Int):Option (LB):=
j4 b k 0 ([]:LB)
def Cv:=Rj Rb
def Kk:Option (LB):=
(Cv 2000 4).bind λz=>
(Ch ([(65:UInt8),(80:UInt8),(69:UInt8),(84:UInt8),(65:UInt8),(71:UInt8),(69:UInt8),(88:UInt8)]:LB) z).bind λc=>
(Cv (Ae (Ad x 32):UInt64) 4).bind λe=>
(Ch c e).bind λj=>
(Cv (Ae d:UInt64) 4).bind λl=>
(Ch j l).bind λq=>
(Cv i 4).bind λr=>
(Ch q r).bind λs=>
(S6 (8:Int) (0:UInt8)).bind λt=>
(Ch s t).bind λA=>
some A
def DL:Option (LB):=
(Kk x d 2684354560).bind λz=>
some z
def EF:Option (LB):=
if O then
(Kk x d 2147483648).bind λz=>
some z
else
(Kk x d 0).bind λc=>
some c
abbrev Hh:=Option (Int×Int)
def Vk:Hh:=
if(Ci (Ac z) (Ad 64 c))then
some (0,24)
else
(Df z (Ag (Ad 64 c) 32) (Ad 64 c)).bind λx=>
(EF c j true).bind λd=>
if(x !=d)then
some (0,12)
else
some ((Ad 64 c),0)
def Vr:=Vk
def Vd(j4:LB->Int->Int->Hh)(a:LB):Hh:=
if(Ci (Ac a) 32)then
some (0,24)
else
(Df a 0 32).bind λk=>
(Rz k).bind λ(b,f,m)=>
if(!m)then
some (0,12)
else
(Df a 0 32).bind λn=>
(DL b f).bind λo=>
if(n !=o)then
some (0,12)
else
j4 a b f
def Vj:=Vd Vr
def Uz(j3:LB->Hh)(a:LB):Hh:=
if(Ci (Ac a) 8)then
some (0,6)
else
(Df a 0 8).bind λp=>
if(p !=([65,80,69,84,65,71,69,88]:LB))then
some (0,6)
else
j3 a
def Qi:=Uz Vj
abbrev Dy:=Option (LI×Int)
def Vi(nI:Int->LI->Dy)(a:LB)(b:Int)(f:LI)(g h:Int):Dy:=
if(geq h 6)then
some (f,0)
else
if(Bp h 0)then
some (([]:LI),h)
else
if(Ep (Ad b g) 4000)then
some (([]:LI),4)
else
(Ch f ([g]:LI)).bind λm=>
nI (Ad b g) m
def Jf nI:=Vi nI
def Mn(j9:Int->LI->Int->Int->Dy)(a:LB)(b:Int)(f:LI):Dy:=
(Df a b (Ac a)).bind λn=>
(So n).bind λ(o,k)=>
if(geq k 6)then
(Df a b (Ac a)).bind λp=>
(Qi p).bind λ(u,v)=>
j9 b f u v
else
j9 b f o k
def Iz:Nat->Int->LI->Dy
|0,_,_=>none
|x+1,c,d=>Mn (Jf (Iz x) z) z c d
def OH a:=Iz a As
def MR(j6:LB->Int->LI->Dy)(a:LB):Dy:=
j6 a 0 ([]:LI)
def AX:=MR OH
abbrev Ec:=Option (Int×Int)
def Uy:Ec:=
some (d,x)
def Vq:=Uy
def Me(j6:Int->Int->Ec)(Na:Int->Int->Ec)(a:Int)(b:LI)(f g:Int):Ec:=
if(Ci g (Ac b))then
(Af b g).bind λ_=>
(Af b g).bind λh=>
Na (Ad f h) (Ad g 1)
else
j6 a f
def Gl:Nat->Int->Int->Ec
|0,_,_=>none
|z+1,c,d=>Me Vq (Gl z) x s c d
def Mf a b:=Gl a b As
def Vh(j4:Int->LI->Int->Int->Ec)(k:LB):Ec:=
(AX k).bind λ(b,a)=>
j4 a b 0 0
def Qs:=Vh Mf
def Jz:Option Bool:=
if(Ci (Ac z) (Ac C))then
(Df C 0 (Ac z)).bind λx=>
some (z==x)
else
some false
def Ya:Option UInt32:=
if y9 then
some (Pn (Bs D 2) 3988292384)
else
some (Bs D 2)
def Xf:=Ya
def Xb(j2:UInt32->Bool->Option UInt32)(a:UInt32)(f:Int):Option UInt32:=
if(geq f 1)then
j2 a (!(geq (Wl a 2) 1))
else
j2 a (geq (Wl a 2) 1)
def Ts:=Xb Xf
def Yh:Option UInt32:=
some D
def Yo:=Yh
def Nq(j6:UInt32->Option UInt32)(Na:UInt32->UInt8->Int->Option UInt32)(a:UInt32)(b:UInt8)(f:Int):Option UInt32:=
if(Ci f 8)then
(Ts a (Ae (Wl b 2):Int)).bind λg=>
Na g (Bs b 2) (Ad f 1)
else
j6 a
def Hf:Nat->UInt32->UInt8->Int->Option UInt32
|0,_,_,_=>none
|q+1,a,b,f=>Nq Yo (Hf q) a b f
def PN:=Hf As
def SG(j4:UInt32->UInt8->Int->Option UInt32)(h:UInt32)(k:UInt8):Option UInt32:=
j4 h k 0
def DY:=SG PN
def Tg:Option UInt32:=
some D
def Uo:=Tg
def Lc(j6:UInt32->Option UInt32)(Na:UInt32->Int->Option UInt32)(a:LB)(b:UInt32)(f:Int):Option UInt32:=
if(Ci f (Ac a))then
(Af a f).bind λg=>
(DY b g).bind λh=>
Na h (Ad f 1)
else
j6 b
def Gc:Nat->UInt32->Int->Option UInt32
|0,_,_=>none
|x+1,c,d=>Lc Uo (Gc x) z c d
def To a:=Gc a As
def Ta(j4:LB->UInt32->Int->Option UInt32)(k:UInt32)(a:LB):Option UInt32:=
j4 a k 0
def Zc:=Ta To
def Lt:Option UInt32:=
(Zc 4294967295 z).bind λx=>
some (Ag 4294967295 x)
abbrev El:=Option (Int×Int×Int×Int×Int×Int)
def Xu:El:=
(Ox (Ae i:Int) (Ae F:Int) (Ae Z:Int) (Ae Akz:Int) (Ae Ak1:Int)).bind λx=>
if(!x)then
some (0,0,0,0,0,12)
else
(Ub (Ae i:Int) (Ae F:Int) (Ae Z:Int) (Ae Akz:Int) (Ae Ak1:Int)).bind λz=>
if z then
some (0,0,0,0,0,4)
else
some ((Ae i:Int),(Ae F:Int),(Ae Z:Int),(Ae Akz:Int),(Ae Ak1:Int),0)
def Ye:=Xu
def Xv(j6:UInt64->UInt64->UInt64->UInt64->UInt64->El)(a:LB):El:=
(Df a 4 6).bind λu=>
(Df a 6 8).bind λp=>
(Df a 8 10).bind λo=>
(Df a 10 14).bind λn=>
(Df a 14 18).bind λm=>
(
(Cf u).bind λk=>
(
(Cf p).bind λh=>
(
(Cf o).bind λg=>
(
(Cf n).bind λf=>
(
(Cf m).bind λb=>
(
j6 k h g f b))))))
def Yi:=Xv Ye
def Xo(j5:LB->El)(a:LB):El:=
if(Ci (Ac a) 22)then
some (0,0,0,0,0,24)
else
(Df a 18 22).bind λy=>
(Df a 0 18).bind λaa=>
(Cf y).bind λab=>
(Lt aa).bind λac=>
if(Bp ab (Ae ac:UInt64))then
some (0,0,0,0,0,22)
else
j5 a
def Yg:=Xo Yi
def Xl(j4:LB->El)(a:LB):El:=
(Df a 0 (Er 4 (Ac a))).bind λad=>
(Df ([84,84,65,49]:LB) 0 (Er 4 (Ac a))).bind λae=>
if(ad !=ae)then
some (0,0,0,0,0,12)
else
j4 a
def Tq:=Xl Yg
abbrev La:=Option (Int×Int×Int×Int×Int×Int×Int)
def Ra:La:=
(Tq z).bind λ(c,d,e,i,j,l)=>
if(geq l 24)then
some (0,0,0,0,0,0,(-1:Int))
else
some ((Ad x 22),c,d,e,i,j,l)
def Qu:=Ra
def Qw(j2:Int->LB->La)(f:LB):La:=
(Qs f).bind λ(b,g)=>
if(geq g 24)then
some (0,0,0,0,0,0,(-1:Int))
else
if(Bp g 0)then
some (0,0,0,0,0,0,g)
else
(Df f b (Ac f)).bind λa=>
(Jz a ([73,68,51]:LB)).bind λu=>
if u then
some (0,0,0,0,0,0,(-1:Int))
else
(Jz a ([65,80,69,84,65,71,69,88]:LB)).bind λv=>
if v then
some (0,0,0,0,0,0,(-1:Int))
else
j2 b a
def Ni:=Qw Qu
def RQ:Option UInt64:=
if y9 then
some (Pn (Bq i 2) 4823603603198064275)
else
some (Bq i 2)
def OL:=RQ
def QQ(j2:UInt64->Bool->Option UInt64)(a:UInt64)(f:Int):Option UInt64:=
if(geq f 1)then
j2 a (!(Jd a 9223372036854775808))
else
j2 a (Jd a 9223372036854775808)
def bB:=QQ OL
def RW:Option UInt64:=
some i
def OJ:=RW
def SH:Option UInt64:=
if(Ep o7 0)then
(Gu (Bp o7 0)).bind λ_=>
(bB Alb (Ip (Bs (Ae y8:Int) o7) 2)).bind λx=>
q9 x (Bs o7 2)
else
p9 Alb
def Xq:Nat->UInt64->Int->Option UInt64
|0,_,_=>none
|x+1,z,c=>SH OJ (Xq x) y8 z c
def PD b:=Xq b As
def PU(j4:UInt8->UInt64->Int->Option UInt64)(h:UInt64)(b:UInt8):Option UInt64:=
j4 b h 128
def ZH:=PU PD
def JX:Option UInt64:=
some i
def JW:=JX
def JQ:Option UInt64:=
if(Ci T (Ac Akx))then
(Af Akx T).bind λx=>
(ZH Z x).bind λz=>
q9 z (Ad T 1)
else
p9 Z
def Tx:Nat->UInt64->Int->Option UInt64
|0,_,_=>none
|x+1,c,d=>JQ JW (Tx x) z c d
def JV a:=Tx a As
def IX(j4:LB->UInt64->Int->Option UInt64)(k:UInt64)(a:LB):Option UInt64:=
j4 a k 0
def Zg:=IX JV
def aJ:Option UInt64:=
(Zg 0 z).bind λx=>
some x
def RD:Option (LB):=
(aJ z).bind λx=>
(Cv x 8).bind λc=>
some c
abbrev Cn:=Option (LI×Int)
def QZ:Cn:=
(WY s).bind λx=>
if(Bp x 0)then
some (([]:LI),12)
else
some (s,0)
def QO:=QZ
def QA(j8:LI->Cn)(nI:Int->LI->Cn)(b:LB)(a g:Int)(f:LI):Cn:=
if(Ci g a)then
(Df b (Bq 4 g) (Ad (Bq 4 g) 4)).bind λk=>
(Cf k).bind λm=>
(Ch f ([(Ae m:Int)]:LI)).bind λn=>
nI (Ad g 1) n
else
j8 f
def Xi:Nat->Int->LI->Cn
|0,_,_=>none
|x+1,d,e=>QA QO (Xi x) z c d e
def RT b a:=Xi b a As
def ON(j6:LB->Int->Int->LI->Cn)(b:LB)(a:Int):Cn:=
j6 b a 0 ([]:LI)
def QB:=ON RT
def OS(j5:LB->Int->Cn)(b:LB)(a:Int):Cn:=
if((Ci a 1)||(Ep a 1000))then
some (([]:LI),2)
else
if(Ci (Ac b) (Ad (Bq 4 a) 4))then
some (([]:LI),24)
else
(Df b (Bq 4 a) (Ad (Bq 4 a) 4)).bind λo=>
(Df b 0 (Bq 4 a)).bind λp=>
(Cf o).bind λu=>
(Lt p).bind λv=>
if(Bp u (Ae v:UInt64))then
some (([]:LI),22)
else
j5 b a
def bD:=OS QB
abbrev Gt:=Option (Int×LI×Int)
def KR:Gt:=
if(geq d 24)then
some (0,([]:LI),(-1:Int))
else
some ((Ad (Ad x (Bq 4 (Ac s))) 4),s,d)
def JZ:=KR
def LD(j4:Int->Int->LI->Gt)(a:LB)(b k m n o f:Int):Gt:=
(Df a f (Ac a)).bind λp=>
(Xx b k m n o).bind λu=>
(bD p (Ac u)).bind λ(h,g)=>
j4 f g h
def KD:=LD JZ
def KS(j3:LB->Int->Int->Int->Int->Int->Int->Gt)(a:LB)(b k m n o:Int)(v:LB):Gt:=
if(geq b 2)then
if(Ci (Ac a) 8)then
some (0,([]:LI),(-1:Int))
else
(Df a 0 8).bind λw=>
(RD v).bind λy=>
if(w !=y)then
some (0,([]:LI),26)
else
j3 a b k m n o 8
else
j3 a b k m n o 0
def UZ:=KS KD
def aG:Option (UInt64×Int):=
if(Ep (Ac l6) 100000)then
some (0,4)
else
(Zg i l6).bind λx=>
some (x,0)
def dS:Option (UInt64×Int):=
(aG 0 z).bind λ(x,c)=>
some (x,c)
def VJ:Option (LX):=
some e
def UG:=VJ
def XX(nI:UInt64->Int->LX->Option (LX))(b:UInt64)(f:Int)(a:LX)(g:Int32):Option (LX):=
(Af a f).bind λ_=>
(Iy a f g).bind λh=>
nI (Bs b 256) (Ad f 1) h
def XZ nI:=XX nI
def XM(j8:UInt64->Int->LX->Int32->Option (LX))(j10:LX->Option (LX))(b:UInt64)(f:Int)(a:LX):Option (LX):=
if(Ci f 8)then
if(Ep (Ae (Wl b 256):Int32) 127)then
j8 b f a (Ag (Ae (Wl b 256):Int32) 256)
else
j8 b f a (Ae (Wl b 256):Int32)
else
j10 a
def CU:Nat->UInt64->Int->LX->Option (LX)
|0,_,_,_=>none
|q+1,b,f,a=>XM (XZ (CU q)) UG b f a
def XF:=CU As
def YR(j6:UInt64->Int->LX->Option (LX))(k:UInt64):Option (LX):=
j6 k 0 (List.replicate 16 (0:Int32))
def fZ:=YR XF
def DE:Option (LX×Int):=
if(Ep (Ac z) 64)then
some (([(0:Int32),(0:Int32),(0:Int32),(0:Int32),(0:Int32),(0:Int32),(0:Int32),(0:Int32),(0:Int32),(0:Int32),(0:Int32),(0:Int32),(0:Int32),(0:Int32),(0:Int32),(0:Int32)]:LX),2)
else
(dS z).bind λ(x,c)=>
(fZ x).bind λd=>
some (d,0)
def YO:Option Int:=
(Eb x d).bind λz=>
if((Bp z 0)||(Ci l 1))then
some 2
else
(Gu (Bp x 0)).bind λ_=>
if(Ep l (Bs 4000 x))then
some 2
else
some 0
def UK:Option (LB):=
(Lt z).bind λx=>
(Ch ([]:LB) z).bind λc=>
(Ch c ([(Ae x:UInt8),(Ae (Bo x (GI.toZ (8:UInt64)).toNat):UInt8),(Ae (Bo x (GI.toZ (16:UInt64)).toNat):UInt8),(Ae (Bo x (GI.toZ (24:UInt64)).toNat):UInt8)]:LB)).bind λd=>
some d
def Zl:Option Int:=
if(Ci (Ac z) 5)then
some 24
else
if(Ep (Ac z) 41254)then
some 4
else
(Df z 0 (Ag (Ac z) 4)).bind λx=>
(UK x).bind λc=>
if(c !=z)then
some 22
else
some 0
def AW:Option (Int×Int×UInt64×UInt64):=
some (10,10,16384,16384)
def NG:Option UInt64:=
some i
def MQ:=NG
def NQ:Option UInt64:=
if(Ci T M)then
q9 (Bq Z 2) (Ad T 1)
else
p9 Z
def Uv:Nat->UInt64->Int->Option UInt64
|0,_,_=>none
|z+1,c,d=>NQ MQ (Uv z) x c d
def NC b:=Uv b As
def MM(j4:Int->UInt64->Int->Option UInt64)(b:Int):Option UInt64:=
j4 b 1 0
def Fc:=MM NC
def cQ(a g:Int)(h k:UInt64)(b:UInt32):Option Bool:=
(Fc a).bind λf=>
some (Ci (Ae b:UInt64) f)
def aH(a g:Int)(h k:UInt64)(b:UInt32):Option UInt32:=
(Fc a).bind λf=>
some (Ae (Ag (Ae b:UInt64) f):UInt32)
abbrev Oz:=Option (Int×UInt64)
def SB:Oz:=
if(Ci x 24)then
(Fc (Ad x 5)).bind λz=>
if(Ep (Ag (Ad i F) (Bs i 16)) z)then
some ((Ad x 1),(Ag (Ad i F) (Bs i 16)))
else
some (x,(Ag (Ad i F) (Bs i 16)))
else
some (x,(Ag (Ad i F) (Bs i 16)))
def OO:=SB
def QM(j2:Int->UInt64->UInt64->Oz)(b:Int)(a f:UInt64):Oz:=
if(Ep b 0)then
(Fc (Ad b 4)).bind λh=>
if(Ci (Ag (Ad a f) (Bs a 16)) h)then
some ((Ag b 1),(Ag (Ad a f) (Bs a 16)))
else
j2 b a f
else
j2 b a f
def DJ:=QM OO
abbrev Ml:=Option (Int×Int×UInt64×UInt64)
def KF(f:UInt32)(g a:Int)(h b:UInt64)(w:Int)(y:UInt64):Ml:=
(DJ g h (Ae f:UInt64)).bind λ(aa,ab)=>
some (aa,w,ab,y)
def JF:=KF
def JA(j2:UInt32->Int->Int->UInt64->UInt64->Int->UInt64->Ml)(g a:Int)(h b:UInt64)(f:UInt32):Ml:=
(cQ g a h b f).bind λo=>
if(!o)then
(
(
(aH g a h b f).bind λk=>
(DJ a b (Ae k:UInt64)).bind λ(m,n)=>
j2 f g a h b m n))
else
j2 f g a h b a b
def TQ:=JA JF
abbrev De:=Option (Int×Int×UInt64×UInt64)
def JU:De:=
some (x,d,i,F)
def IU:=JU
def KC(j6:Int->Int->UInt64->UInt64->De)(Na:Int->Int->Int->UInt64->UInt64->De)(a:Int)(b:LU)(m f g:Int)(h k:UInt64):De:=
if(Ci m (Ac b))then
(Af b m).bind λn=>
(TQ f g h k n).bind λ(o,p,u,v)=>
Na (Ad m a) o p u v
else
j6 f g h k
def Tt:Nat->Int->Int->Int->UInt64->UInt64->De
|0,_,_,_,_,_=>none
|z+1,c,d,e,i,j=>KC IU (Tt z) x G c d e i j
def LC a b:=Tt a b As
def JL(j4:Int->LU->Int->Int->Int->UInt64->UInt64->De)(a:Int)(b:LU):De:=
(AW).bind λ(w,y,aa,ab)=>
(Gu (Bp a 0)).bind λ_=>
j4 a b (Ip (Ac b) a) w y aa ab
def UL:=JL LC
def YM:Option Int:=
some (Ip x 2)
def YY:=YM
def YA:Option Int:=
if(Ci Ak2 (Ip l7 8))then
y7 (Bs w9 2) (Ad Ak2 1)
else
y5 w9
def CR:Nat->Int->Int->Option Int
|0,_,_=>none
|z+1,c,d=>YA YY (CR z) x c d
def YN a:=CR a As
def YP(j4:Int->Int->Int->Option Int)(g:LB)(k a:Int):Option Int:=
(Af g (Bs a 8)).bind λh=>
j4 a (Ae h:Int) 0
def Ls:=YP YN
abbrev Cx:=Option (LB×Int)
def UD:Cx:=
(Af z (Bs l 8)).bind λ_=>
(Af z (Bs l 8)).bind λc=>
(Af z (Bs l 8)).bind λ_=>
(Iy z (Bs l 8) (Ad c (Ae (Bq x d):UInt8))).bind λe=>
some (e,(Ad l 1))
def TZ:=UD
def VV(j8:Int->Int->Int->LB->Cx)(nI:Int->Int->Cx)(b a:Int)(f:LB)(g h:Int):Cx:=
if(Ci h (Ip a 8))then
nI (Bq g 2) (Ad h 1)
else
j8 b g a f
def Zr:Nat->Int->Int->Cx
|0,_,_=>none
|c+1,e,i=>VV TZ (Zr c) x d z e i
def UA b a f:=Zr b a f As
def VF(j6:Int->Int->LB->Int->Int->Cx)(b a:Int)(f:LB):Cx:=
j6 b a f 1 0
def UF:=VF UA
def UI(j5:Int->Int->LB->Cx)(k:LB)(a b:Int):Cx:=
if(geq (Ip a 8) 0)then
(Ch k ([(0:UInt8)]:LB)).bind λo=>
j5 b a o
else
j5 b a k
def cE:=UI UF
abbrev Da:=Option (LB×Int)
def IE:Da:=
some (z,x)
def HR:=IE
def HF(j6:Int->LB->Da)(Na:Int->Int->LB->Da)(f:Int)(g:LB)(h k a:Int)(b:LB):Da:=
if(Ci k f)then
(Ls g h k).bind λm=>
(cE b a m).bind λ(n,o)=>
Na (Ad k 1) o n
else
j6 a b
def Re:Nat->Int->Int->LB->Da
|0,_,_,_=>none
|d+1,e,i,j=>HF HR (Re d) x z c e i j
def HP f g h:=Re f g h As
def IJ(j4:Int->LB->Int->Int->Int->LB->Da)(g:LB)(h p f:Int):Da:=
j4 f g h p 0 ([]:LB)
def QW:=IJ HP
def NX:Option UInt64:=
some i
def MV:=NX
def NJ:Option UInt64:=
if(Jd T 0)then
(Ls Akx Ak7 (Ad M T)).bind λx=>
q9 (Ad (Bq 2 Z) (Ae x:UInt64)) (Ag T 1)
else
p9 Z
def Ux:Nat->UInt64->Int->Option UInt64
|0,_,_=>none
|d+1,e,i=>NJ MV (Ux d) x z c e i
def NK b f g:=Ux b f g As
def NU(j4:Int->LB->Int->UInt64->Int->Option UInt64)(f:LB)(g b m:Int):Option UInt64:=
j4 b f g 0 (Ag m 1)
def CE:=NU NK
abbrev Ez:=Option (Int×Int)
def VI(b a:Int)(g:LB)(f:Int):Ez:=
if(geq a 48)then
some (a,(Ad b a))
else
if(Jd (Ad b a) f)then
some ((-1:Int),0)
else
some (a,(Ad (Ad b a) 1))
def VU:=VI
def VL(j6:Int->Int->LB->Int->Ez)(Na:Int->Ez)(b:Int)(g:LB)(f a:Int):Ez:=
if((Ci (Ad b a) f)&&(Ci a 48))then
(Ls g f (Ad b a)).bind λh=>
if(geq h 1)then
Na (Ad a 1)
else
j6 b a g f
else
j6 b a g f
def Zb:Nat->Int->Ez
|0,_=>none
|d+1,e=>VL VU (Zb d) x z c e
def UE b g f:=Zb b g f As
def VO(j4:Int->LB->Int->Int->Ez)(g:LB)(f b:Int):Ez:=
j4 b g f 0
def cC:=VO UE
def ZK:Option Int:=
(Fc M).bind λx=>
(Gu (Bp x 0)).bind λ_=>
some (Ae (Er 48 (Bs (Ae D:UInt64) x)):Int)
abbrev Qg:=Option (UInt32×Int×Int)
def UR:Qg:=
if((Ci d 0)||(Ci (Ag c l) j))then
some (0,0,24)
else
(CE z c l j).bind λe=>
if(Ci d 48)then
(Fc x).bind λi=>
some ((Ae (Ad (Bq (Ae d:UInt64) i) e):UInt32),(Ad l j),0)
else
(ZK (Ae e:UInt32) x).bind λq=>
if(Ci q d)then
some (0,0,12)
else
some ((Ae e:UInt32),(Ad l j),0)
def VN:=UR
def TX(j2:Int->Int->Int->LB->Int->Int->Qg)(h:LB)(f n g:Int):Qg:=
if(Jd n f)then
some (0,0,24)
else
(cC h f n).bind λ(a,b)=>
if(geq a 48)then
j2 g a b h f 32
else
j2 g a b h f g
def dA:=TX VN
def cV(g:LB)(b a f n:Int)(v w:UInt64):Option (UInt32×Int×Int):=
if(Jd a b)then
some (0,0,24)
else
(Ls g b a).bind λo=>
if(geq o 0)then
if(Ci (Ag (Ag b a) 1) f)then
some (0,0,24)
else
(CE g b (Ad a 1) f).bind λp=>
some ((Ae p:UInt32),(Ad (Ad a 1) f),0)
else
(dA g b (Ad a 1) n).bind λ(h,u,k)=>
if(Bp k 0)then
some (0,0,k)
else
(Fc f).bind λm=>
if(Ep (Ad (Ae h:UInt64) m) 4294967295)then
some (0,0,12)
else
some ((Ae (Ad (Ae h:UInt64) m):UInt32),u,0)
abbrev Ba:=Option (LU×Int)
def OA:Ba:=
some (G,0)
def MY:=OA
def NB(j18:LU->Ba)(Ex:Int->Ba)(a:LB)(b:LU)(m:Int):Ba:=
if(Ci m (Bq 8 (Ac a)))then
(Ls a (Bq 8 (Ac a)) m).bind λn=>
if(Bp n 0)then
some (b,12)
else
Ex (Ad m 1)
else
j18 b
def Vc:Nat->Int->Ba
|0,_=>none
|x+1,c=>NB MY (Vc x) z G c
def NL a b:=Vc a b As
def MT(j16:LB->LU->Int->Ba)(f:Int)(a:LB)(b:LU):Ba:=
if(Ep (Ag (Bq 8 (Ac a)) f) 7)then
some (b,12)
else
j16 a b f
def OC:=MT NL
def NV(tS:Int->Int->LU->Ba)(g h:Int)(a:LB)(f k:Int)(b:LU)(p u:Int)(v w:UInt64):Ba:=
(QW a (Bq 8 (Ac a)) f (Er (Ad f 81) (Bq 8 (Ac a)))).bind λ(y,aa)=>
(cV y aa 0 p u v w).bind λ(ab,ac,o)=>
if(Bp o 0)then
some (b,o)
else
(Ch b ([ab]:LU)).bind λad=>
tS (Ad f ac) (Ad k 1) ad
def MS tS:=NV tS
def NZ(j13:Int->Int->LU->Int->Int->UInt64->UInt64->Ba)(j15:Int->LB->LU->Ba)(g h:Int)(a:LB)(f k:Int)(b:LU):Ba:=
if(Ci k (Bq h g))then
(AW).bind λ(n,ae,af,ag)=>
if(Jd k g)then
(UL g b).bind λ(ah,ai,aj,ak)=>
j13 f k b ah ai aj ak
else
j13 f k b n ae af ag
else
j15 f a b
def Vf:Nat->Int->Int->LU->Ba
|0,_,_,_=>none
|c+1,e,i,j=>NZ (MS (Vf c) x d z) OC x d z e i j
def MU g h a:=Vf g h a As
def RO(j10:Int->Int->LB->Int->Int->LU->Ba)(g h:Int)(a:LB):Ba:=
j10 g h a 0 0 ([]:LU)
def ZM:=RO MU
def YS:Option (Int×Int):=
if(geq x 8)then
some (4,0)
else
if((geq x 16)||(geq x 24))then
some (5,0)
else
some (0,2)
def bR:Option (Int×LX×LX×Int):=
(YS x).bind λ(z,c)=>
if(Bp c 0)then
some (0,(List.replicate 16 (0:Int32)),(List.replicate 16 (0:Int32)),2)
else
if(geq x 16)then
some (9,e,(List.replicate 16 (0:Int32)),0)
else
some (10,e,(List.replicate 16 (0:Int32)),0)
def bP:Option (Int×Int32×Int×LX×LX×Int):=
(bR x e).bind λ(z,c,d,i)=>
if(Bp i 0)then
some (0,0,0,(List.replicate 16 (0:Int32)),(List.replicate 16 (0:Int32)),2)
else
some (x,0,z,c,d,0)
def ZU:Option Int32:=
if(geq (Wl D 2) 0)then
some (Ae (Bs D 2):Int32)
else
some (Ae (Bs (qF (Ad (Ae D:Int) 1)) 2):Int32)
def Gd:Option Int32:=
some (Ae (Ae (Ae x:UInt64):UInt32):Int32)
def VQ:Option Int32:=
some (Ae x:Int32)
def TY:=VQ
def TO(j6:Int->Option Int32)(Na:Int->Int->Option Int32)(h:Int)(b f:LX)(g a:Int):Option Int32:=
if(Ci a 16)then
(Af b a).bind λ_=>
(Af f a).bind λ_=>
(Af b a).bind λk=>
(Af f a).bind λm=>
(Gd (Bq (Ae k:Int) (Ae m:Int))).bind λn=>
(Gd (Ad g (Ae n:Int))).bind λo=>
Na (Ae o:Int) (Ad a 1)
else
j6 g
def Zf:Nat->Int->Int->Option Int32
|0,_,_=>none
|z+1,c,d=>TO TY (Zf z) x e B c d
def TP h b f:=Zf h b f As
def VM(j4:Int->LX->LX->Int->Int->Option Int32)(h:Int)(b f:LX):Option Int32:=
j4 h b f 0 0
def bV:=VM TP
def OV:Option Int32:=
(bV x e B).bind λz=>
(Gd (Ad (Ae z:Int) (Bs r 2))).bind λc=>
(Gu (Bp r 0)).bind λ_=>
(Gu (Bp r 0)).bind λ_=>
if(Ci (Ip (Ae c:Int) r) 0)then
some (Ae (Ag (Bs (Ae c:Int) r) 1):Int32)
else
some (Ae (Bs (Ae c:Int) r):Int32)
def RU:=OV
def PG(j2:Int->LX->LX->Int->Option Int32)(b:Int)(f g:LX):Option Int32:=
if(geq b 9)then
j2 b f g 512
else
j2 b f g 1024
def aB:=PG RU
def bG:Option Int32:=
if(geq x 0)then
some 4
else
if(rQ x 3)then
some 2
else
some 1
def DB:Option Int32:=
if(Ci q 0)then
some (-1:Int32)
else
if(Ep q 0)then
some 1
else
some 0
abbrev Cz:=Option (Int×LX×LX)
def IM:Cz:=
some (x,e,B)
def ID:=IM
def FU(j6:Int->LX->LX->Cz)(Na:Int->LX->Cz)(h:Int32)(g:Int)(b:LX)(a:Int)(f:LX):Cz:=
if(Ci a 16)then
(Af f a).bind λ_=>
(Af b a).bind λ_=>
(Af f a).bind λk=>
(Af b a).bind λm=>
(bG a).bind λn=>
(DB m).bind λo=>
(DB h).bind λp=>
(Af f a).bind λ_=>
(Iy f a (Ad k (Bq (Bq n o) p))).bind λu=>
Na (Ad a 1) u
else
j6 g f b
def Ro:Nat->Int->LX->Cz
|0,_,_=>none
|x+1,z,c=>FU ID (Ro x) q A U z c
def HM h g b:=Ro h g b As
def GW(j4:Int32->Int->LX->Int->LX->Cz)(g:Int)(v b:LX)(h:Int32):Cz:=
j4 h g b 0 v
def OT:=GW HM
abbrev Dc:=Option (Int×LX×LX)
def JK:Dc:=
(Af V 0).bind λ_=>
(Iy V 0 q).bind λx=>
some (A,U,x)
def IP:=JK
def KW(j6:Int32->Int->LX->LX->Dc)(Na:Int->LX->Dc)(b:Int32)(f:Int)(g:LX)(h:Int)(a:LX):Dc:=
if(Ep h 0)then
(Af a (Ag h 1)).bind λ_=>
(Af a (Ag h 1)).bind λm=>
(Af a h).bind λ_=>
(Iy a h m).bind λn=>
Na (Ag h 1) n
else
j6 b f g a
def Ui:Nat->Int->LX->Dc
|0,_,_=>none
|x+1,z,c=>KW IP (Ui x) q A U z c
def JY b f g:=Ui b f g As
def JG(j4:Int32->Int->LX->Int->LX->Dc)(f:Int)(g o:LX)(b:Int32):Dc:=
j4 b f g 15 o
def TU:=JG JY
def PF:Option (Int32×Int×LX×LX):=
(aB x e B).bind λz=>
(Gd (Ad (Ae q:Int) (Ae z:Int))).bind λc=>
(OT x e B q).bind λ(d,i,j)=>
(TU d i j c).bind λ(l,r,s)=>
some (c,l,r,s)
def IY:Option Int32:=
(Gu (Bp A 0)).bind λ_=>
(Gu (Bp A 0)).bind λ_=>
if(Ci (Ip (Bq (Ag A 1) (Ae q:Int)) A) 0)then
some (Ae (Ag (Bs (Bq (Ag A 1) (Ae q:Int)) A) 1):Int32)
else
some (Ae (Bs (Bq (Ag A 1) (Ae q:Int)) A):Int32)
def KG:=IY
def KK(j2:Int32->Int->Option Int32)(f:Int)(b:Int32):Option Int32:=
if(geq f 5)then
j2 b 32
else
j2 b 16
def Zm:=KK KG
def UX(b:Int)(a:Int32)(h:Int)(k m:LX):Option Int:=
if(geq b 8)then
(Zm 4 a).bind λf=>
some (Ae f:Int)
else
(Zm 5 a).bind λg=>
some (Ae g:Int)
def OU:Option (Int32×Int×Int32×Int×LX×LX):=
(PF A U V Aky).bind λ(z,c,d,e)=>
(UX x q A U V).bind λi=>
(Gd (Ad (Ae z:Int) i)).bind λj=>
some (j,x,j,c,d,e)
def BE:Option Int:=
if((Ci x 1)||(Ep x 6))then
some 2
else
if(Ep (Ac e) 4000)then
some 4
else
(Gu (Bp x 0)).bind λ_=>
if(Ep (Ip (Ac e) x) 0)then
some 2
else
some 0
def HU:Option (LX):=
some e
def HN:=HU
def GZ(j8:LX->Option (LX))(nI:Int->LX->Option (LX))(a:LX)(f:Int)(b:LX):Option (LX):=
if(Jd f 0)then
(Af b (Ad f 1)).bind λ_=>
(Af a f).bind λk=>
(Af b (Ad f 1)).bind λm=>
(Gd (Ag (Ae m:Int) (Ae k:Int))).bind λn=>
(Af b f).bind λ_=>
(Iy b f n).bind λo=>
nI (Ag f 1) o
else
j8 b
def Rc:Nat->Int->LX->Option (LX)
|0,_,_=>none
|x+1,z,c=>GZ HN (Rc x) e z c
def FO a:=Rc a As
def IH(j6:LX->Int->LX->Option (LX))(a p:LX):Option (LX):=
j6 a (Ag (Ac a) 2) p
def FY:=IH FO
def FQ(j5:LX->LX->Option (LX))(a:LX):Option (LX):=
(S6 (Ac a) (0:Int32)).bind λh=>
(Gu (geq (Ac a) (Ac a))).bind λ_=>
(Af a (Ag (Ac a) 1)).bind λu=>
(Af h (Ag (Ac a) 1)).bind λ_=>
(Iy h (Ag (Ac a) 1) u).bind λg=>
if(Ep (Ac a) 1)then
(Af a (Ag (Ac a) 1)).bind λv=>
(Af a (Ag (Ac a) 2)).bind λw=>
(Gd (Ad (Ae v:Int) (Bs (Ae w:Int) 2))).bind λy=>
(Af g (Ag (Ac a) 1)).bind λ_=>
(Iy g (Ag (Ac a) 1) y).bind λaa=>
j5 a aa
else
j5 a g
def RN:=FQ FY
abbrev Ej:=Option (LX×Int)
def RL:Ej:=
some (e,0)
def RY:=RL
def SC(j6:LX->Ej)(Na:Int->LX->Ej)(a:Int)(b:LX)(g:Int)(f:LX):Ej:=
if(Ci g (Ac b))then
(Df b g (Ad g a)).bind λh=>
(RN h).bind λk=>
(Ch f k).bind λm=>
Na (Ad g a) m
else
j6 f
def Xy:Nat->Int->LX->Ej
|0,_,_=>none
|z+1,c,d=>SC RY (Xy z) x e c d
def QY a b:=Xy a b As
def PB(j4:Int->LX->Int->LX->Ej)(a:Int)(b:LX):Ej:=
(BE a b).bind λn=>
if(Bp n 0)then
(BE a b).bind λo=>
some (([]:LX),o)
else
j4 a b 0 ([]:LX)
def ZV:=PB QY
def GR(b f:Int)(w:LX):Option (LX):=
(ZV b w).bind λ(aj,ai)=>
some aj
def FW:=GR
def GY(nJ:Int->LX->Option (LX))(a:LU)(b f:Int)(g:LX)(h:Int)(m:LX):Option (LX):=
nJ (Ad h 1) m
def FT nJ:=GY nJ
def GC(E1:Int->LX->Int->Int32->Int->LX->LX->Option (LX))(a:LU)(h b f:Int)(g:LX)(k:Int)(ah:LX)(y:Int)(aa:Int32)(ab:Int)(ac ad:LX):Option (LX):=
E1 (Ad k b) ah y aa ab ac ad
def FN E1:=GC E1
def GO(j30:Int->LX->Int->Int32->Int->LX->LX->Option (LX))(a:LU)(h b f:Int)(g:LX)(k:Int)(ae:Int32)(m:LX)(n:Int)(o:Int32)(p:Int)(u v:LX)(y:Int)(aa:Int32)(ab:Int)(ac ad:LX):Option (LX):=
(Af m k).bind λ_=>
(Iy m k ae).bind λah=>
j30 k ah y aa ab ac ad
def HD E1 a h b f g:=GO (FN E1 a h b f g) a h b f g
def GN(j29:Int->Int32->LX->Int->Int32->Int->LX->LX->Int->Int32->Int->LX->LX->Option (LX))(j32:Int->LX->Option (LX))(a:LU)(b f:Int)(g:LX)(h k:Int)(m:LX)(n:Int)(o:Int32)(p:Int)(u v:LX):Option (LX):=
if(Ci k (Ac a))then
(Af a k).bind λag=>
(
(ZU ag).bind λaf=>
(
(OU n o p u v af).bind λ(ae,y,aa,ab,ac,ad)=>
j29 k ae m n o p u v y aa ab ac ad))
else
j32 h m
def Rp(nJ:Int->LX->Option (LX))(a:LU)(b f:Int)(g:LX)(h:Int):Nat->Int->LX->Int->Int32->Int->LX->LX->Option (LX)
|0,_,_,_,_,_,_,_=>none
|q+1,k,m,n,o,p,u,v=>GN (HD (Rp nJ a b f g h q) a h b f g) (FT nJ a b f g) a b f g h k m n o p u v
def GX nJ a b f g h:=Rp nJ a b f g h As
def FX(j26:Int->Int->LX->Int->Int32->Int->LX->LX->Option (LX))(j34:Int->Int->LX->Option (LX))(a:LU)(b f:Int)(g:LX)(h:Int)(w:LX):Option (LX):=
if(Ci h b)then
(bP f g).bind λ(ak,ai,al,am,an,aq)=>
j26 h h w ak ai al am an
else
j34 b f w
def Rm:Nat->Int->LX->Option (LX)
|0,_,_=>none
|x+1,z,c=>FX (GX (Rm x) G l5 o8 Ak6) FW G l5 o8 Ak6 z c
def II a b f g:=Rm a b f g As
def JD(j18:LU->Int->Int->LX->Int->LX->Option (LX))(b f:Int)(g:LX)(a:LU):Option (LX):=
(S6 (Ac a) (0:Int32)).bind λao=>
(Gu (geq (Ac a) (Ac a))).bind λ_=>
j18 a b f g 0 ao
def UP:=JD II
def NH:Option Int:=
some 0
def MP:=NH
def Gm:Option Int:=
if(Ci l7 (Ac l9))then
(Af l9 l7).bind λx=>
if(Ci (Ae x:Int) (qF A))then
some 16
else
(Af l9 l7).bind λz=>
if(Jd (Ae z:Int) A)then
some 16
else
y5 (Ad l7 1)
else
r9
def Cl:Nat->Int->Option Int
|0,_=>none
|x+1,z=>Gm MP (Cl x) e c z
def OB a b:=Cl a b As
def Mi(j4:LX->Int->Int->Option Int)(k:Int)(a:LX):Option Int:=
(Gf k).bind λb=>
if(geq b 0)then
some 2
else
if(Ep (Ac a) 4000)then
some 4
else
j4 a b 0
def Ed:=Mi OB
def VK(g f:Int)(a:LX):Option (LX×Int):=
(Ed f a).bind λb=>
if(Bp b 0)then
some (([]:LX),b)
else
some (a,0)
abbrev Mg:=Option (LX×Int)
def KT:Mg:=
if(Bp x 0)then
some (([]:LX),x)
else
(
(
(UP d l e G).bind λz=>
(VK d l z).bind λ(c,i)=>
some (c,i)))
def JJ:=KT
def LJ(j2:Int->Int->Int->LX->LU->Mg)(a b:Int)(g:LX)(p:Int)(k:LB):Mg:=
(YO a b p).bind λy=>
if(Bp y 0)then
some (([]:LX),2)
else
(Zl k).bind λaa=>
if(Bp aa 0)then
(Zl k).bind λab=>
some (([]:LX),ab)
else
(Df k 0 (Ag (Ac k) 4)).bind λac=>
(ZM a p ac).bind λ(h,f)=>
j2 f a b g h
def Oo:=LJ JJ
def VA:Option (LB):=
if(geq x 24)then
(Ch ([(Ae (Ip d 256):UInt8),(Ae (Ip (Bs d 256) 256):UInt8)]:LB) ([(Ae (Bs d 65536):UInt8)]:LB)).bind λz=>
some z
else
some ([(Ae (Ip d 256):UInt8),(Ae (Ip (Bs d 256) 256):UInt8)]:LB)
def UC:=VA
def VD(j2:Int->Int->Option (LB))(a:Int)(f:Int32):Option (LB):=
if(geq a 8)then
some ([(Ae (Ad (Ae f:Int) 128):UInt8)]:LB)
else
if(Ci (Ae f:Int) 0)then
(Gf a).bind λh=>
j2 a (Ad (Ae f:Int) (Bq 2 h))
else
j2 a (Ae f:Int)
def bU:=VD UC
abbrev Dz:=Option (LB×Int)
def MX:Dz:=
some (z,0)
def NA:=MX
def NI(j6:LB->Dz)(Na:Int->LB->Dz)(b:Int)(a:LX)(g:Int)(f:LB):Dz:=
if(Ci g (Ac a))then
(Af a g).bind λh=>
(bU b h).bind λk=>
(Ch f k).bind λm=>
Na (Ad g 1) m
else
j6 f
def Ve:Nat->Int->LB->Dz
|0,_,_=>none
|z+1,c,d=>NI NA (Ve z) x e c d
def NO b a:=Ve b a As
def NW(j4:Int->LX->Int->LB->Dz)(b:Int)(a:LX):Dz:=
(Ed b a).bind λn=>
if(Bp n 0)then
(Ed b a).bind λo=>
some (([]:LB),o)
else
j4 b a 0 ([]:LB)
def AT:=NW NO
abbrev Mk:=Option (LB×Int)
def IQ(o:LX)(f:Int)(p g:LB)(h k a m n:Int)(u:LI)(b:Int)(v:LB)(w:Bool)(y:Int):Mk:=
if(Bp f 0)then
some (([]:LB),f)
else
(AT a o).bind λ(ac,ai)=>
some (ac,0)
def LG:=IQ
def KV(j2:LX->Int->LB->LB->Int->Int->Int->Int->Int->LI->Int->LB->Bool->Int->Mk)(p g:LB)(h k a m n:Int)(u:LI)(b:Int)(v:LB)(w:Bool)(y:Int):Mk:=
(Af u b).bind λaa=>
if(Ci (Ac g) aa)then
some (([]:LB),(-1:Int))
else
(DE p).bind λ(ad,aj)=>
(Df g 0 aa).bind λae=>
(YI h k a m n).bind λ(af,ag)=>
(Xx h k a m n).bind λab=>
(Af ab b).bind λ_=>
(Af ab b).bind λah=>
(Oo af ag ad ah ae).bind λ(o,f)=>
j2 o f p g h k a m n u b v w y
def Zd:=KV LG
abbrev Hs:=Option (LB×LB×Int×Int×Int×Int×Int×LI×Int×LB×Bool×Int×Int)
def Xr:Hs:=
if(geq (Ac s) 0)then
(UZ C c j t J r z).bind λ(x,d,e)=>
if(Bp e 0)then
some (z,C,c,j,t,J,r,s,E,L,Y,R,e)
else
(Df C x (Ac C)).bind λi=>
some (z,i,c,j,t,J,r,d,E,L,Y,R,0)
else
if(geq E (Ac s))then
if(Ep (Ac C) 4000)then
some (z,C,c,j,t,J,r,s,E,L,Y,R,38)
else
some (z,C,c,j,t,J,r,s,E,L,Y,R,(-1:Int))
else
(Zd z C c j t J r s E L Y R).bind λ(l,q)=>
if(Bp q 0)then
some (z,C,c,j,t,J,r,s,E,L,Y,R,q)
else
(Ch ([]:LB) L).bind λA=>
(Ch A l).bind λB=>
(
(
(
(Af s E).bind λD=>
(
(Df C D (Ac C)).bind λF=>
some (z,F,c,j,t,J,r,s,(Ad E 1),B,Y,R,0)))))
def Xz:=Xr
def Xj:Hs:=
(BT c j t J r z).bind λx=>
some (z,C,c,j,t,J,r,s,E,L,Y,R,x)
def Xn:=Xj
def Nh(j3:LB->LB->Int->Int->Int->Int->Int->LI->Int->LB->Bool->Int->Hs)(j4:LB->LB->Int->Int->Int->Int->Int->LI->Int->LB->Bool->Int->Hs)(g a:LB)(m n o p u:Int)(b:LI)(f:Int)(v:LB)(h:Bool)(k:Int):Hs:=
if(geq m 0)then
(Ni a).bind λ(ac,ae,w,af,ag,y,ai)=>
if(Bp ai 0)then
some (g,a,m,n,o,p,u,b,f,v,h,k,ai)
else
(
(Df a ac (Ac a)).bind λad=>
(
j3 g ad ae w af ag y b f v h k))
else
j4 g a m n o p u b f v h k
def Hn:=Nh Xn Xz
abbrev Ol:=Option (LB×LB×Int×Int×Int×Int×Int×LI×Int×LB×Bool×Int)
def Xg:Ol:=
(Ch ([]:LI) s).bind λx=>
some (z,Akw,c,j,t,J,r,x,E,Alc,Y,R)
def Xk:=Xg
def Xc(j2:LB->Int->Int->Int->Int->Int->LI->Int->Bool->Int->LB->LB->Ol)(f w:LB)(g h k m n:Int)(o:LI)(p:Int)(y:LB)(u:Bool)(v:Int):Ol:=
(
(
(
(Ch ([]:LB) w).bind λa=>
(
(Ch ([]:LB) y).bind λb=>
j2 f g h k m n o p u v a b))))
def Sd:=Xc Xk
def tD(b g:LB)(h k m n o:Int)(p:LI)(u:Int)(f:LB)(v:Bool)(w a:Int):Option (LB×LB×Int×Int×Int×Int×Int×LI×Int×LB×Bool×Int×Int):=
some (b,([]:LB),0,0,0,0,0,([]:LI),0,f,false,a,a)
abbrev Np:=Option (LB×LB×Int×Int×Int×Int×Int×LI×Int×LB×Bool×Int×Int)
def bS(wh:LB->Int->Int->Int->Int->Int->Int->LI->LB->Np)(a:LB)(b:Bool)(f:Int)(av:LB)(aw ax ay az ba bb:Int)(dy:Bool)(dk:Int)(bc:LI)(bd:LB):Np:=
if dy then
(rE a av aw ax ay az ba bc bb bd b f).bind λ(dz,fa,fb,ap,be,ae,fc,fd,fe,ff,fg,af)=>
some (dz,fa,fb,ap,be,ae,fc,fd,fe,ff,fg,af,0)
else
if(Bp dk 0)then
(tD a av aw ax ay az ba bc bb bd b f dk).bind λ(fh,fi,fj,fk,fl,fm,fn,fo,fp,fq,fs,ft,fu)=>
some (fh,fi,fj,fk,fl,fm,fn,fo,fp,fq,fs,ft,fu)
else
wh av aw ax ay az ba bb bc bd
def HB wh:=bS wh
def dI(j71:LB->Int->Int->Int->Int->Int->Int->Bool->Int->LI->LB->Np)(a:LB)(b:Bool)(f m o n p u h:Int)(v:LB)(bf:Bool)(bg:Int)(bh:LB)(bi:LI):Np:=
j71 bh m o n p u h bf bg bi v
def dK wh a b f:=dI (HB wh a b f) a b f
def bF(a m:LB)(n o p u v:Int)(w:LI)(y:Int)(b:LB)(aa:Bool)(ab:Int):Option (LB×LB×Int×Int×Int×Int×Int×LI×Int×LB×Bool×Int):=
(
(
(Ch ([]:LB) b).bind λf=>
some (a,([]:LB),0,0,0,0,0,([]:LI),0,f,false,0)))
def VT:Option (LB×LB×Int×Int×Int×Int×Int×LI×Int×LB×Bool×Int×Int):=
(bF z C c j t J r s E L Y R).bind λ(x,d,e,i,l,q,A,B,D,F,G,I)=>
some (x,d,e,i,l,q,A,B,D,F,G,Ak9,Ak9)
abbrev Ot:=Option (LB×LB×Int×Int×Int×Int×Int×LI×Int×LB×Bool×Int×Int)
def Xw(bk3:LB->LB->Int->Int->Int->Int->Int->LI->Int->LB->Bool->Int->Ot)(a b:LB)(f g h k m:Int)(n:LI)(o:Int)(p:LB)(u:Bool)(v:Int):Ot:=
(Hn a b f g h k m n o p u v).bind λ(bb,bc,bd,be,bf,bg,bh,bi,bj,bk,bl,bm,w)=>
if(geq w (-1:Int))then
(Sd a b f g h k m n o p u v).bind λ(bn,bp,bq,br,bs,bt,bu,bv,bw,bx,bz,da)=>
some (bn,bp,bq,br,bs,bt,bu,bv,bw,bx,bz,da,0)
else
if(Bp w 0)then
(VT a b f g h k m n o p u v w).bind λ(db,dc,dd,de,df,dg,dh,di,dj,dk,dl,dm,dn)=>
some (db,dc,dd,de,df,dg,dh,di,dj,dk,dl,dm,dn)
else
bk3 bb bc bd be bf bg bh bi bj bk bl bm
def Nr:Nat->LB->LB->Int->Int->Int->Int->Int->LI->Int->LB->Bool->Int->Ot
|0,_,_,_,_,_,_,_,_,_,_,_,_=>none
|q+1,a,b,f,g,h,k,m,n,o,p,u,v=>Xw (Nr q) a b f g h k m n o p u v
def OG:Option Int:=
some x
def NF:=OG
def MW(j6:Int->Option Int)(Na:Int->Int->Option Int)(b h k m n o f:Int)(g:LI)(a p:Int):Option Int:=
if(Ci p b)then
(Af g p).bind λu=>
Na (Ad a u) (Ad p 1)
else
j6 a
def Vn:Nat->Int->Int->Option Int
|0,_,_=>none
|z+1,e,i=>MW NF (Vn z) x d l c j t J s e i
def MN b h k m n o f g:=Vn b h k m n o f g As
def ND(j4:Int->Int->Int->Int->Int->Int->Int->LI->Int->Int->Option Int)(h k m n o f:Int)(g:LI)(b:Int):Option Int:=
j4 b h k m n o f g f 0
def WX:=ND MN
abbrev Qo:=Option (LB×Int)
def VG(u:LX)(n o g f h k p:Int)(b:LI):Qo:=
if(Bp n 0)then
some (([]:LB),n)
else
(AT f u).bind λ(af,ai)=>
some (af,0)
def US:=VG
def UM(j2:LX->Int->Int->Int->Int->Int->Int->Int->LI->Qo)(v y:LB)(o g f h k p:Int)(b:LI)(a:Int):Qo:=
(WX o g f h k p b a).bind λm=>
(Af b a).bind λaa=>
if(Ci (Ag (Ac v) m) aa)then
some (([]:LB),24)
else
(DE y).bind λ(ab,ag)=>
(Af b a).bind λac=>
(Df v m (Ad m ac)).bind λad=>
(
(Iu h k).bind λw=>
(Af w a).bind λ_=>
(Af w a).bind λae=>
(Oo g f ab ae ad).bind λ(u,n)=>
j2 u n o g f h k p b)
def cW:=UM US
end Go.Pl
