/- A part of a proof (see the text that ends in Proof). No conditions. -/
import Derived.Test.YtgomgobgfhhahaaGreatDoorCnBA
set_option linter.unusedVariables false
namespace Go.Pl
open Go Go.Lv
abbrev LB:=List UInt8
abbrev LI:=List Int
abbrev LX:=List Int32
abbrev LU:=List UInt32
abbrev LQ:=List UInt64
abbrev Lq:=Option (LI×Int)
def uG(b:LI):Lq:=
some (b,0)
def ZI:=uG
def Xl(j6:LI->Lq)(Ou:Int->Int->LI->Lq)(f:Int)(g:UInt64)(h a:Int)(b:LI):Lq:=
if(Bt a f)then
if(geq a (Ak f 1))then
(De b ([(Ak (Ad a 1) h)]:LI)).bind λk=>
Ou (Ad a 1) (Ad a 1) k
else
(Hj (Je (Fl a 64) 0)).bind λ_=>
if(geq (Eb (Ce g (GI.toZ (Fl a 64)).toNat) 1) 1)then
(De b ([(Ak (Ad a 1) h)]:LI)).bind λm=>
Ou (Ad a 1) (Ad a 1) m
else
Ou h (Ad a 1) b
else
j6 b
def Mp(f:Int)(g:UInt64):Nat->Int->Int->LI->Lq
|0,_,_,_=>none
|q+1,h,a,b=>Xl ZI (Mp f g q) f g h a b
def JM f g:=Mp f g Ar
def IH(j4:Int->UInt64->Int->Int->LI->Lq)(f:Int)(g:UInt64):Lq:=
if((Bt f 0)||(Dx f 100000))then
some (([]:LI),2)
else
j4 f g 0 0 ([]:LI)
def Hc:=IH JM
def XC:Option Bool:=
some true
def Zj:=XC
def Zk(j6:Option Bool)(Ou:Int->Option Bool)(a b:LI)(f:Int):Option Bool:=
if(Bt f (Ac a))then
(Am a f).bind λg=>
(Am b f).bind λh=>
if(Bd g h)then
some false
else
Ou (Ad f 1)
else
j6
def Pv(a b:LI):Nat->Int->Option Bool
|0,_=>none
|q+1,f=>Zk Zj (Pv a b q) a b f
def Zt a b:=Pv a b Ar
def Zo(j4:LI->LI->Int->Option Bool)(a b:LI):Option Bool:=
if(Bd (Ac a) (Ac b))then
some false
else
j4 a b 0
def HU:=Zo Zt
def Ag(a:Int)(b:UInt64)(f:LI):Option Bool:=
(Hc a b).bind λ(g,h)=>
if(geq h 0)then
(HU g f).bind λk=>
some k
else
some false
def Rm(a:Int):Option (Int×Int):=
if((Bt a 1)||(Dx a 1048576))then
some (0,2)
else
some ((nJ 1 (By (Bj 256 a) 245)),0)
abbrev YB:=Option (Int32×Int32×Int)
def O8(a:Int)(b:Bool):YB:=
if b then
(Hj (Je (Ak a 1) 0)).bind λ_=>
some ((rF (Du (1:Int32) (GI.toZ (Ak a 1)).toNat)),(Ak (Du (1:Int32) (GI.toZ (Ak a 1)).toNat) 1),0)
else
some (0,0,2)
def iT:=O8
def iI(j2:Int->Bool->YB)(a:Int):YB:=
if(geq a 8)then
j2 a (geq a 8)
else
if(geq a 16)then
j2 a (geq a 16)
else
j2 a (geq a 24)
def CV:=iI iT
def Pq(a b:Int):Option Int:=
(CV b).bind λ(g,h,f)=>
if(((Bd f 0)||(Bt a 1))||(Dx a 6))then
some 2
else
some 0
def YD(a b f:Int)(g:LB):Option (Int×Bool):=
(Rm f).bind λ(h,k)=>
(Pq a b).bind λm=>
some (h,(((geq m 0)&&(geq k 0))&&(xZ (Ac g) 64)))
def wV(a b f:Int)(g:LB):Option (Int×Int×Int×LB×LB×LX×(List LB)×LB×Bool×Int×Int):=
(YD a b f g).bind λ(k,h)=>
if(!h)then
some (0,0,0,([]:LB),([]:LB),([]:LX),([]:List LB),([]:LB),false,0,2)
else
some (a,b,f,g,([]:LB),([]:LX),([]:List LB),([]:LB),false,0,0)
def UO(a b:Int):Option Int:=
some (By (Bj a b) 8)
def J3:Option Int:=
some 0
def lB:=J3
def GR(j6:Option Int)(Ou:Int->Option Int)(b f:Int32)(a:LX)(g:Int):Option Int:=
if(Bt g (Ac a))then
(Am a g).bind λh=>
if((Bt h b)||(Dx h f))then
some 16
else
Ou (Ad g 1)
else
j6
def Qn(b f:Int32)(a:LX):Nat->Int->Option Int
|0,_=>none
|q+1,g=>GR lB (Qn b f a q) b f a g
def iM b f a:=Qn b f a Ar
def TP(j4:Int32->Int32->LX->Int->Option Int)(m:Int)(a:LX):Option Int:=
(CV m).bind λ(b,f,k)=>
if(Bd k 0)then
some k
else
if(Dx (Ac a) 4000)then
some 4
else
j4 b f a 0
def Rk:=TP iM
def KB(a h k:Int)(m n:LB)(b:LX)(f:List LB)(o:LB)(p:Bool)(u g:Int):Option Int:=
(Hj (Bd a 0)).bind λ_=>
some (Ad (Bj (Ac f) g) (By (Ac b) a))
def cM(a g h:Int)(k m:LB)(n:LX)(o:List LB)(p:LB)(u:Bool)(v b f:Int):Option Bool:=
some ((xZ b 1000)&&(xZ (Bj f a) 4000))
def nE(w:Bool):Option Bool:=
some (!w)
def OT:=nE
def PA(j24:Bool->Option Bool)(w:Bool):Option Bool:=
j24 w
def Yr:=PA OT
def PH(j23:Bool->Option Bool):Option Bool:=
j23 (Je (-1:Int) (0:Int))
def OV:=PH Yr
def mZ(Hg:Int->Option Bool)(b:List LB)(f a g:Int):Option Bool:=
Hg (Ad g 1)
def OU Hg:=mZ Hg
def PY(j23:Bool->Option Bool)(j20:Int->Option Bool)(b:List LB)(f a g:Int)(y:LB):Option Bool:=
if((Bt (Ac y) 5)||(Dx (Ac y) (Ad (By (Ad (Bj (Bj 81 f) a) 7) 8) 4)))then
j23 (Je g 0)
else
j20 g
def PW Hg b f a:=PY Yr (OU Hg b f a) b f a
def OY(j19:Int->LB->Option Bool)(j22:Option Bool)(b:List LB)(f a g:Int):Option Bool:=
if(Bt g (Ac b))then
(Am b g).bind λy=>
j19 g y
else
j22
def Yo(b:List LB)(f a:Int):Nat->Int->Option Bool
|0,_=>none
|q+1,g=>OY (PW (Yo b f a q) b f a) OV b f a g
def PN b f a:=Yo b f a Ar
def ON(j16:(List LB)->Int->Int->Int->Option Bool)(f a k o:Int)(p m:LB)(h:LX)(b:List LB)(n:LB)(u:Bool)(v:Int):Option Bool:=
j16 b f a 0
def PF:=ON PN
def QC(j15:Int->Int->Int->Int->LB->LB->LX-> (List LB)->LB->Bool->Int->Option Bool)(f a k o:Int)(p m:LB)(h:LX)(b:List LB)(n:LB)(u:Bool)(v aa:Int):Option Bool:=
(KB a k o p m h b n u v f).bind λab=>
(cM a k o p m h b n u v aa ab).bind λac=>
if(!ac)then
some false
else
j15 f a k o p m h b n u v
def PM:=QC PF
def PL(j14:Int->Int->Int->Int->LB->LB->LX-> (List LB)->LB->Bool->Int->Int->Option Bool)(f a k o:Int)(p m:LB)(h:LX)(b:List LB)(n:LB)(u:Bool)(v:Int):Option Bool:=
(Rk k h).bind λad=>
if(Bd ad 0)then
some false
else
if(Dx (Ac h) 0)then
j14 f a k o p m h b n u v (Ad (Ac b) 1)
else
j14 f a k o p m h b n u v (Ac b)
def PB:=PL PM
def SE(j13:Int->Int->Int->Int->LB->LB->LX-> (List LB)->LB->Bool->Int->Option Bool)(a k o:Int)(p m:LB)(h:LX)(b:List LB)(n:LB)(u:Bool)(v f:Int):Option Bool:=
if(Dx (Ac n) 0)then
if true then
if true then
if(true||(Dx (Ac b) 1000))then
some false
else
j13 f a k o p m h b n u v
else
(Hj (Bd a 0)).bind λ_=>
if((Je (By (Ac h) a) f)||(Dx (Ac b) 1000))then
some false
else
j13 f a k o p m h b n u v
else
(Hj (Bd a 0)).bind λ_=>
if(Bd (Fl (Ac h) a) 0)then
if(true||(Dx (Ac b) 1000))then
some false
else
j13 f a k o p m h b n u v
else
(Hj (Bd a 0)).bind λ_=>
if((Je (By (Ac h) a) f)||(Dx (Ac b) 1000))then
some false
else
j13 f a k o p m h b n u v
else
(UO a k).bind λae=>
if(Je (Ac m) ae)then
if true then
if(true||(Dx (Ac b) 1000))then
some false
else
j13 f a k o p m h b n u v
else
(Hj (Bd a 0)).bind λ_=>
if((Je (By (Ac h) a) f)||(Dx (Ac b) 1000))then
some false
else
j13 f a k o p m h b n u v
else
(Hj (Bd a 0)).bind λ_=>
if(Bd (Fl (Ac h) a) 0)then
if(true||(Dx (Ac b) 1000))then
some false
else
j13 f a k o p m h b n u v
else
(Hj (Bd a 0)).bind λ_=>
if((Je (By (Ac h) a) f)||(Dx (Ac b) 1000))then
some false
else
j13 f a k o p m h b n u v
def eU:=SE PB
def YA(m n o:Int)(p b:LB)(f:LX)(g:List LB)(h:LB)(k:Bool)(a:Int):Option Int:=
(YD m n o p).bind λ(u,v)=>
if(!v)then
some 8
else
if(Bd a 0)then
if(!(((((geq a 18)||(geq a 24))&&(!k))&&(geq (Ad (Ad (Ac b) (Ac f)) (Ac g)) 0))&&(geq (Ac h) 0)))then
some 8
else
some 0
else
if k then
if(!((geq (Ad (Ad (Ac b) (Ac f)) (Ac g)) 0)&&(xZ (Ac h) 100000)))then
some 8
else
some 0
else
(eU m n o p b f g h k a u).bind λw=>
if(!w)then
some 8
else
some 0
def Cq(a:LB):Option (LB):=
(
(De ([]:LB) a).bind λb=>
some b)
def Dw(a:LX):Option (LX):=
(
(De ([]:LX) a).bind λb=>
some b)
abbrev Ie:=Option (Int×Int×Int×LB×LB×LX×(List LB)×LB×Bool×Int)
def yD(b f g:Int)(h:LB)(a:List LB)(k:Bool)(m:Int)(u:List LB)(n:LB)(o:LX)(p:LB):Ie:=
some (b,f,g,h,n,o,u,p,k,m)
def eP:=yD
def fH(j8:Int->Int->Int->LB-> (List LB)->Bool->Int-> (List LB)->LB->LX->LB->Ie)(qT:Int-> (List LB)->Ie)(w a:List LB)(b f g:Int)(h:LB)(k:Bool)(m:Int)(n:LB)(o:LX)(p:LB)(v:Int)(u:List LB):Ie:=
if(Bt v (Ac (oO w a)))then
(Am u v).bind λ_=>
(Am u v).bind λy=>
(Cq y).bind λaa=>
(Am u v).bind λ_=>
(Le u v aa).bind λab=>
qT (Ad v 1) ab
else
j8 b f g h a k m u n o p
def NU(w a:List LB)(b f g:Int)(h:LB)(k:Bool)(m:Int)(n:LB)(o:LX)(p:LB):Nat->Int-> (List LB)->Ie
|0,_,_=>none
|q+1,v,u=>fH eP (NU w a b f g h k m n o p q) w a b f g h k m n o p v u
def eO w a b f g h k m n o p:=NU w a b f g h k m n o p Ar
def eQ(j6:(List LB)-> (List LB)->Int->Int->Int->LB->Bool->Int->LB->LX->LB->Int-> (List LB)->Ie)(b f g:Int)(h:LB)(a:List LB)(k:Bool)(m:Int)(n:LB)(o:LX)(p:LB):Ie:=
(mkI (Ac a) ([]:LB)).bind λw=>
(Hj (geq (Ac a) (Ac a))).bind λ_=>
j6 w a b f g h k m n o p 0 (oO w a)
def eV:=eQ eO
def fE(j5:Int->Int->Int->LB-> (List LB)->Bool->Int->LB->LX->LB->Ie)(b f g:Int)(h ac:LB)(ad:LX)(a:List LB)(ae:LB)(k:Bool)(m:Int):Ie:=
(Cq ac).bind λn=>
(Dw ad).bind λo=>
(Cq ae).bind λp=>
j5 b f g h a k m n o p
def dH:=fE eV
abbrev OL:=Option (Int×Int×Int×LB×LB×LX×(List LB)×LB×Bool×Int×Int×Int)
def vR(u g h b:Int)(k m:LB)(n:LX)(o:List LB)(p:LB)(f:Bool)(a v:Int):OL:=
(dH g h b k m n o p f a).bind λ(y,aa,ab,ac,ad,ae,af,ag,ah,ai)=>
some (y,aa,ab,ac,ad,ae,af,ag,ah,ai,u,v)
def ZV:=vR
def ZD(j2:Int->Int->Int->Int->LB->LB->LX-> (List LB)->LB->Bool->Int->Int->OL)(g h b:Int)(k m:LB)(n:LX)(o:List LB)(p:LB)(f:Bool)(a:Int):OL:=
(YA g h b k m n o p f a).bind λw=>
if(Bd w 0)then
some (0,0,0,([]:LB),([]:LB),([]:LX),([]:List LB),([]:LB),false,0,0,w)
else
(Rm b).bind λ(u,aj)=>
if(Bd a 0)then
j2 u g h b k m n o p f a a
else
if f then
j2 u g h b k m n o p f a 36
else
j2 u g h b k m n o p f a aj
def XL:=ZD ZV
abbrev Cj:=Option (LX×Int)
def sS(g:LX):Cj:=
some (g,0)
def VU:=sS
def rR(Hg:Int->LX->Cj)(a:Int)(b:LB)(f:Int)(m:LX):Cj:=
Hg (Ad f (By a 8)) m
def GG Hg:=rR Hg
def VE(j28:Int->LX->Cj)(a:Int)(b:LB)(f:Int)(h:Int32)(g:LX):Cj:=
(Hj (Je (Ak 32 a) 0)).bind λ_=>
(Hj (Je (Ak 32 a) 0)).bind λ_=>
(De g ([(Ce (Du h (GI.toZ (Ak 32 a)).toNat) (GI.toZ (Ak 32 a)).toNat)]:LX)).bind λp=>
j28 f p
def UX Hg a b:=VE (GG Hg a b) a b
def VA(j27:Int->Int32->LX->Cj)(Ax6:Int32->Int->Cj)(a:Int)(b:LB)(f:Int)(g:LX)(h:Int32)(k:Int):Cj:=
if(Bt k (By a 8))then
(Am b (Ad f k)).bind λn=>
(Hj (Je (Bj 8 k) 0)).bind λ_=>
Ax6 (xL h (Du (Ae n:Int32) (GI.toZ (Bj 8 k)).toNat)) (Ad k 1)
else
j27 f h g
def EP(Hg:Int->LX->Cj)(a:Int)(b:LB)(f:Int)(g:LX):Nat->Int32->Int->Cj
|0,_,_=>none
|q+1,h,k=>VA (UX Hg a b) (EP Hg a b f g q) a b f g h k
def VN Hg a b f g:=EP Hg a b f g Ar
def WE(j28:Int->LX->Cj)(j25:Int->LX->Int32->Int->Cj)(j30:LX->Cj)(a:Int)(b:LB)(f:Int)(g:LX):Cj:=
if(Bt f (Ac b))then
if(geq a 8)then
(Am b f).bind λn=>
(De g ([(Ak (Ae n:Int32) 128)]:LX)).bind λu=>
j28 f u
else
j25 f g 0 0
else
j30 g
def Vk(a:Int)(b:LB):Nat->Int->LX->Cj
|0,_,_=>none
|q+1,f,g=>WE (GG (Vk a b q) a b) (VN (Vk a b q) a b) VU a b f g
def VP a b:=Vk a b Ar
def ZL(j16:Int->LB->Int->LX->Cj)(a:Int)(b:LB):Cj:=
(CV a).bind λ(v,w,o)=>
if(Bd o 0)then
some (([]:LX),o)
else
(Hj (Bd (By a 8) 0)).bind λ_=>
if(Bd (Fl (Ac b) (By a 8)) 0)then
some (([]:LX),12)
else
(Hj (Bd (By a 8) 0)).bind λ_=>
if(Dx (By (Ac b) (By a 8)) 4000)then
some (([]:LX),4)
else
j16 a b 0 ([]:LX)
def oH:=ZL VP
abbrev Bz:=Option (UInt64×Int)
def jI(h:UInt64):Bz:=
some (h,0)
def TD:=jI
def TC(j30:UInt64->Bz)(h b:UInt64)(a:LB)(f:LQ):Bz:=
j30 h
def TO:=TC TD
def FD(j29:UInt64->UInt64->LB->LQ->Bz)(eA:UInt64->Int->Bz)(a:LB)(b:UInt64)(f:LQ)(h:UInt64)(m:Int):Bz:=
if(Bt m (Ac a))then
(Am a m).bind λp=>
Option.bind (Am f (GI.toZ (Xq (Ae (Ce h (GI.toZ (56:UInt64)).toNat):UInt8) p))) λ_=>
Option.bind (Am f (GI.toZ (Xq (Ae (Ce h (GI.toZ (56:UInt64)).toNat):UInt8) p))) λu=>
eA (Xq (Du h (GI.toZ (8:UInt64)).toNat) u) (Ad m 1)
else
j29 h b a f
def Qr(a:LB)(b:UInt64)(f:LQ):Nat->UInt64->Int->Bz
|0,_,_=>none
|q+1,h,m=>FD TO (Qr a b f q) a b f h m
def RX a b f:=Qr a b f Ar
def UI(j27:LB->UInt64->LQ->UInt64->Int->Bz)(b:UInt64)(a:LB)(f:LQ):Bz:=
j27 a b f b 0
def EK:=UI RX
def jK(Hg:Int->LQ->Bz)(b:UInt64)(a:LB)(g:Int)(o:LQ):Bz:=
Hg (Ad g 1) o
def TR Hg:=jK Hg
def SZ(j24:Int->LQ->Bz)(b:UInt64)(a:LB)(g:Int)(k:UInt64)(f:LQ):Bz:=
(Am f g).bind λ_=>
(Le f g k).bind λo=>
j24 g o
def GP Hg b a:=SZ (TR Hg b a) b a
def GY(j23:Int->UInt64->LQ->Bz)(Aea:UInt64->Int->Bz)(b:UInt64)(a:LB)(g:Int)(f:LQ)(k:UInt64)(n:Int):Bz:=
if(Bt n 8)then
Aea (Xq (Du k (GI.toZ (1:UInt64)).toNat) (Bj 4823603603198064275 (Ce k (GI.toZ (63:UInt64)).toNat))) (Ad n 1)
else
j23 g k f
def Rb(Hg:Int->LQ->Bz)(b:UInt64)(a:LB)(g:Int)(f:LQ):Nat->UInt64->Int->Bz
|0,_,_=>none
|q+1,k,n=>GY (GP Hg b a) (Rb Hg b a g f q) b a g f k n
def RO Hg b a g f:=Rb Hg b a g f Ar
def GD(j21:Int->LQ->UInt64->Int->Bz)(j26:UInt64->LB->LQ->Bz)(b:UInt64)(a:LB)(g:Int)(f:LQ):Bz:=
if(Bt g 256)then
j21 g f (Du (Ae g:UInt64) (GI.toZ (56:UInt64)).toNat) 0
else
j26 b a f
def Ni(b:UInt64)(a:LB):Nat->Int->LQ->Bz
|0,_,_=>none
|q+1,g,f=>GD (RO (Ni b a q) b a) EK b a g f
def UK b a:=Ni b a Ar
def YC(j16:UInt64->LB->Int->LQ->Bz)(b:UInt64)(a:LB):Bz:=
if(Dx (Ac a) 100000)then
some (0,4)
else
j16 b a 0 (List.replicate 256 (0:UInt64))
def bT:=YC UK
def aE(a:LB):Option (UInt64×Int):=
(bT 0 a).bind λ(b,f)=>
some (b,f)
def Ab4(a:LX):Option (LX):=
some a
def I0:=Ab4
def dA(j6:LX->Option (LX))(Ou:Int->LX->Option (LX))(f:UInt64)(b:Int)(a:LX):Option (LX):=
if(Bt b 8)then
(Hj (Je (Bj 8 b) 0)).bind λ_=>
(Am a b).bind λ_=>
(Le a b (Ae (Ae (Ce f (GI.toZ (Bj 8 b)).toNat):Int8):Int32)).bind λg=>
Ou (Ad b 1) g
else
j6 a
def JV(f:UInt64):Nat->Int->LX->Option (LX)
|0,_,_=>none
|q+1,b,a=>dA I0 (JV f q) f b a
def D6 f:=JV f Ar
def L7(j4:UInt64->Int->LX->Option (LX))(f:UInt64):Option (LX):=
j4 f 0 (List.replicate 16 (0:Int32))
def ny:=L7 D6
def Ms(a:LB):Option (LX×Int):=
if(Dx (Ac a) 64)then
some (([(0:Int32),(0:Int32),(0:Int32),(0:Int32),(0:Int32),(0:Int32),(0:Int32),(0:Int32),(0:Int32),(0:Int32),(0:Int32),(0:Int32),(0:Int32),(0:Int32),(0:Int32),(0:Int32)]:LX),2)
else
(aE a).bind λ(f,b)=>
if(Bd b 0)then
some (([(0:Int32),(0:Int32),(0:Int32),(0:Int32),(0:Int32),(0:Int32),(0:Int32),(0:Int32),(0:Int32),(0:Int32),(0:Int32),(0:Int32),(0:Int32),(0:Int32),(0:Int32),(0:Int32)]:LX),b)
else
(ny f).bind λg=>
some (g,0)
def nP(a f:Int)(b:LX):Option Int:=
(Pq a f).bind λg=>
if(Bd g 0)then
some g
else
(Rk f b).bind λh=>
if(Bd h 0)then
some h
else
if(geq (Ac b) 0)then
some 2
else
(Hj (Bd a 0)).bind λ_=>
if(Bd (Fl (Ac b) a) 0)then
some 2
else
some 0
def aV(a:Int)(b:LX):Option Int:=
if((Bt a 1)||(Dx a 6))then
some 2
else
if(Dx (Ac b) 4000)then
some 4
else
(Hj (Bd a 0)).bind λ_=>
if(Bd (Fl (Ac b) a) 0)then
some 2
else
some 0
abbrev Iy:=Option (LX×Int)
def um(f:LX):Iy:=
some (f,0)
def wJ:=um
def vo(Zv:Int->LX->Iy)(b a:Int)(k:LX):Iy:=
Zv (Ad a b) k
def wE Zv:=vo Zv
def xW(j20:Int->LX->Iy)(b a:Int)(g:LX):Iy:=
if(Dx (Ak ((Ad a b)-a) 1) 0)then
(Hj (decide (0<= (Ak ((Ad a b)-a) 1)/\ (Ak ((Ad a b)-a) 1)<((Ad a b)-a)))).bind λ_=>
Option.bind (Hj (decide (0<= (Ak (Ak ((Ad a b)-a) 1) 1)/\ (Ak (Ak ((Ad a b)-a) 1) 1)<((Ad a b)-a)))) λ_=>
(Am g (a+(Ak ((Ad a b)-a) 1))).bind λm=>
(Am g (a+(Ak (Ak ((Ad a b)-a) 1) 1))).bind λn=>
(Hj (decide (0<= (Ak ((Ad a b)-a) 1)/\ (Ak ((Ad a b)-a) 1)<((Ad a b)-a)))).bind λ_=>
(Le g (a+(Ak ((Ad a b)-a) 1)) (Ak m (By n 2))).bind λo=>
j20 a o
else
j20 a g
def wG Zv b:=xW (wE Zv b) b
def vY(j19:Int->LX->Iy)(Arj:Int->LX->Iy)(b a h:Int)(g:LX):Iy:=
if(Bt h (Ak ((Ad a b)-a) 1))then
(Hj (decide (0<= (Ad h 1)/\ (Ad h 1)<((Ad a b)-a)))).bind λ_=>
(Hj (decide (0<=h/\h<((Ad a b)-a)))).bind λ_=>
(Am g (a+(Ad h 1))).bind λm=>
(Am g (a+h)).bind λn=>
(Hj (decide (0<=h/\h<((Ad a b)-a)))).bind λ_=>
(Le g (a+h) (Ak m n)).bind λo=>
Arj (Ad h 1) o
else
j19 a g
def iC(Zv:Int->LX->Iy)(b a:Int):Nat->Int->LX->Iy
|0,_,_=>none
|q+1,h,g=>vY (wG Zv b) (iC Zv b a q) b a h g
def vZ Zv b a:=iC Zv b a Ar
def wM(j17:Int->Int->LX->Iy)(j22:LX->Iy)(b a:Int)(f:LX):Iy:=
if(Bt a (Ac f))then
(nC (Ac f) a (Ad a b)).bind λ_=>
j17 a 0 f
else
j22 f
def jH(b:Int):Nat->Int->LX->Iy
|0,_,_=>none
|q+1,a,f=>wM (vZ (jH b q) b) wJ b a f
def wQ b:=jH b Ar
def M2(j12:Int->Int->LX->Iy)(b:Int)(p:LX):Iy:=
(aV b p).bind λu=>
if(Bd u 0)then
some (([]:LX),u)
else
(Dw p).bind λv=>
j12 b 0 v
def Ago:=M2 wQ
abbrev qA:=Option (Int×LX×LX×Int)
def uy(a:Int)(b:LX)(f:Bool):qA:=
if f then
some (10,b,(List.replicate 16 (0:Int32)),0)
else
if(geq a 16)then
some (9,b,(List.replicate 16 (0:Int32)),0)
else
some (0,(List.replicate 16 (0:Int32)),(List.replicate 16 (0:Int32)),2)
def wA:=uy
def xY(j2:Int->LX->Bool->qA)(a:Int)(b:LX):qA:=
if(geq a 8)then
j2 a b (geq a 8)
else
j2 a b (geq a 24)
def rL:=xY wA
def vF(a:Int)(f:LX):Option (Int×Int32×Int×LX×LX×Int):=
(rL a f).bind λ(g,h,k,b)=>
if(Bd b 0)then
some (0,0,0,(List.replicate 16 (0:Int32)),(List.replicate 16 (0:Int32)),b)
else
some (a,0,g,h,k,0)
def Wf(a:Int)(k:Int32)(b:Int)(f m:LX):Option Int:=
(rL a f).bind λ(g,n,o,h)=>
if((Bd h 0)||(Bd g b))then
some 8
else
some 0
def iR(a:Int):Option (Int×Int):=
if(geq a 8)then
some (4,0)
else
if(geq a 16)then
if(geq a 16)then
some (5,0)
else
some (0,2)
else
if(geq a 24)then
some (5,0)
else
some (0,2)
def VJ(a:Int)(b:Int32):Option Int32:=
(Hj (Je a 0)).bind λ_=>
(Hj (Je a 0)).bind λ_=>
some (Ae (yC (Ak (Du (Ae b:Int) (GI.toZ a).toNat) (Ae b:Int)) (GI.toZ a).toNat):Int32)
def Wo(b:Int)(f:Int32):Option (Int32×Int):=
(iR b).bind λ(g,a)=>
if(Bd a 0)then
some (0,a)
else
(VJ g f).bind λh=>
some (h,0)
def IN(a:Int)(b f:LX):Option Int:=
if((Bd a 9)&&(Bd a 10))then
some 8
else
some 0
abbrev Sg:=Option (Int32×Int)
def nL(g:Int32)(a:Int)(b f:LX):Sg:=
(Hj (Je a 0)).bind λ_=>
some ((Ce g (GI.toZ a).toNat),0)
def XJ:=nL
def KE(j6:Int32->Int->LX->LX->Sg)(Ou:Int32->Int->Sg)(b:LX)(a:Int)(f:LX)(g:Int32)(h:Int):Sg:=
if(Bt h 16)then
(Am b h).bind λm=>
(Am f h).bind λ_=>
(Am f h).bind λn=>
Ou (Ad g (Bj m n)) (Ad h 1)
else
j6 g a b f
def Tn(b:LX)(a:Int)(f:LX):Nat->Int32->Int->Sg
|0,_,_=>none
|q+1,g,h=>KE XJ (Tn b a f q) b a f g h
def XQ b a f:=Tn b a f Ar
def XS(j4:LX->Int->LX->Int32->Int->Sg)(a:Int)(b f:LX):Sg:=
(IN a b f).bind λk=>
if(Bd k 0)then
some (0,k)
else
(Hj (Je (Ak a 1) 0)).bind λ_=>
j4 b a f (Du (1:Int32) (GI.toZ (Ak a 1)).toNat) 0
def TE:=XS XQ
def ZY(a:Int):Option Int32:=
if(geq a 0)then
some 4
else
if(Bt a 4)then
some 2
else
some 1
abbrev Ru:=Option (Int×LX×LX×Int)
def R2(g:Int)(b f:LX):Ru:=
some (g,b,f,0)
def nO:=R2
def KM(j6:Int->LX->LX->Ru)(Ou:Int->LX->Ru)(h:Int32)(f:LX)(g a:Int)(b:LX):Ru:=
if(Bt a 16)then
(Am f a).bind λm=>
if(geq m 0)then
Ou (Ad a 1) b
else
if((Bt m 0)==(Bt h 0))then
(Am b a).bind λ_=>
(Am b a).bind λo=>
(ZY a).bind λp=>
(Am b a).bind λ_=>
(Le b a (Ad o p)).bind λu=>
Ou (Ad a 1) u
else
(Am b a).bind λ_=>
(Am b a).bind λv=>
(ZY a).bind λw=>
(Am b a).bind λ_=>
(Le b a (Ak v w)).bind λy=>
Ou (Ad a 1) y
else
j6 g b f
def Tj(h:Int32)(f:LX)(g:Int):Nat->Int->LX->Ru
|0,_,_=>none
|q+1,a,b=>KM nO (Tj h f g q) h f g a b
def oD h f g:=Tj h f g Ar
def WW(j4:Int32->LX->Int->Int->LX->Ru)(g:Int)(k f:LX)(h:Int32):Ru:=
(IN g k f).bind λn=>
if(Bd n 0)then
some (0,(List.replicate 16 (0:Int32)),(List.replicate 16 (0:Int32)),n)
else
if(geq h 0)then
some (g,k,f,0)
else
j4 h f g 0 k
def bR:=WW oD
abbrev kG:=Option (Int×LX×LX×Int)
def tF(g:Int32)(b:Int)(f a:LX):kG:=
(Am (Ud a 1 ((16:Int)-(1:Int)) (XM a 0 ((16:Int)-(0:Int)))) 0).bind λ_=>
(Le (Ud a 1 ((16:Int)-(1:Int)) (XM a 0 ((16:Int)-(0:Int)))) 0 g).bind λk=>
some (b,f,k,0)
def cH:=tF
def QT(j2:Int32->Int->LX->LX->kG)(b:Int)(f a:LX)(g:Int32):kG:=
(IN b f a).bind λh=>
if(Bd h 0)then
some (0,(List.replicate 16 (0:Int32)),(List.replicate 16 (0:Int32)),h)
else
(
(nC 16 1 16).bind λ_=>
(nC 16 0 16).bind λ_=>
j2 g b f a)
def lX:=QT cH
def dI(a:Int)(b f:LX)(g h:Int32):Option (Int×LX×LX):=
(bR a b f h).bind λ(k,m,n,v)=>
(lX k m n g).bind λ(o,p,u,w)=>
some (o,p,u)
def jC(b:Int)(f g:LX)(a:Int32):Option (Int32×Int×LX×LX×Int):=
(TE b f g).bind λ(h,k)=>
if(Bd k 0)then
some (0,0,(List.replicate 16 (0:Int32)),(List.replicate 16 (0:Int32)),k)
else
(dI b f g a (Ak a h)).bind λ(m,n,o)=>
some ((Ak a h),m,n,o,0)
def KK(a:Int)(b:Int32)(f:Int)(g h:LX)(k:Int32):Option (Int32×Int×Int32×Int×LX×LX×Int):=
(Wf a b f g h).bind λm=>
if(Bd m 0)then
some (0,0,0,0,(List.replicate 16 (0:Int32)),(List.replicate 16 (0:Int32)),m)
else
(Wo a b).bind λ(n,y)=>
(jC f g h (Ak k n)).bind λ(o,p,u,v,w)=>
(
some (o,a,k,p,u,v,w))
def S9(a:Int32):Option UInt32:=
some (Xq (Du (Ae a:UInt32) (GI.toZ (1:UInt64)).toNat) (Ae (Ce a (GI.toZ (31:UInt64)).toNat):UInt32))
abbrev Dh:=Option (LU×Int)
def pE(k:LU):Dh:=
some (k,0)
def TX:=pE
def SG(j12:LU->Dh)(Aeb:Int-> (List (Int×Int32×(Int×LX×LX×Unit)×Unit))->LU->Dh)(b:LX)(a f g:Int)(o:List (Int×Int32×(Int×LX×LX×Unit)×Unit))(k:LU):Dh:=
if(Bt g (Ac b))then
(Am b g).bind λ_=>
(Am b g).bind λac=>
(Hj (Bd a 0)).bind λ_=>
(Am o (Fl g a)).bind λ_=>
(Am o (Fl g a)).bind λp=>
(KK p.1 p.2.1 p.2.2.1.1 p.2.2.1.2.1 p.2.2.1.2.2.1 ac).bind λ(u,ad,ae,v,af,ag,w)=>
if(Bd w 0)then
some (([]:LU),w)
else
(Le o (Fl g a) (ad,ae,(v,af,ag,()),())).bind λah=>
(S9 u).bind λai=>
(De k ([ai]:LU)).bind λaj=>
Aeb (Ad g 1) ah aj
else
j12 k
def AT(b:LX)(a f:Int):Nat->Int-> (List (Int×Int32×(Int×LX×LX×Unit)×Unit))->LU->Dh
|0,_,_,_=>none
|q+1,g,o,k=>SG TX (AT b a f q) b a f g o k
def UC b a f:=AT b a f Ar
def VS(j10:LX->Int->Int->Int-> (List (Int×Int32×(Int×LX×LX×Unit)×Unit))->LU->Dh)(a f:Int)(b:LX)(h:List (Int×Int32×(Int×LX×LX×Unit)×Unit)):Dh:=
j10 b a f 0 h ([]:LU)
def VQ:=VS UC
def VT(j9:Int->Int->LX-> (List (Int×Int32×(Int×LX×LX×Unit)×Unit))->Dh)(bk7:Int-> (List (Int×Int32×(Int×LX×LX×Unit)×Unit))->Dh)(a f:Int)(m b:LX)(n:Int)(h:List (Int×Int32×(Int×LX×LX×Unit)×Unit)):Dh:=
if(Bt n 6)then
(vF f m).bind λ(ak,al,u,am,an,v)=>
(Am h n).bind λ_=>
(Le h n (ak,al,(u,am,an,()),())).bind λao=>
bk7 (Ad n 1) ao
else
j9 a f b h
def DG(a f:Int)(m b:LX):Nat->Int-> (List (Int×Int32×(Int×LX×LX×Unit)×Unit))->Dh
|0,_,_=>none
|q+1,n,h=>VT VQ (DG a f m b q) a f m b n h
def WC a f m b:=DG a f m b Ar
def VG(j7:Int->Int->LX->LX->Int-> (List (Int×Int32×(Int×LX×LX×Unit)×Unit))->Dh)(a f:Int)(m y:LX):Dh:=
(nP a f y).bind λaa=>
if(Bd aa 0)then
some (([]:LU),aa)
else
(Ago a y).bind λ(b,ab)=>
if(Bd ab 0)then
some (([]:LU),ab)
else
j7 a f m b 0 (List.replicate 6 ((0:Int),(0:Int32),((0:Int),(List.replicate 16 (0:Int32)),(List.replicate 16 (0:Int32)),()),()))
def kW:=VG WC
def pF:Option (Int×Int×UInt64×UInt64):=
some (10,10,16384,16384)
abbrev Kq:=Option ((List (Int×Int×UInt64×UInt64×Unit)))
def tE(a:List (Int×Int×UInt64×UInt64×Unit)):Kq:=
some a
def WN:=tE
def WJ(j6:(List (Int×Int×UInt64×UInt64×Unit))->Kq)(Ou:Int-> (List (Int×Int×UInt64×UInt64×Unit))->Kq)(b:Int)(a:List (Int×Int×UInt64×UInt64×Unit)):Kq:=
if(Bt b 6)then
(pF).bind λ(f,g,h,k)=>
(Am a b).bind λ_=>
(Le a b (f,g,h,k,())).bind λm=>
Ou (Ad b 1) m
else
j6 a
def DH:Nat->Int-> (List (Int×Int×UInt64×UInt64×Unit))->Kq
|0,_,_=>none
|q+1,b,a=>WJ WN (DH q) b a
def UY:=DH Ar
def WB(j4:Int-> (List (Int×Int×UInt64×UInt64×Unit))->Kq):Kq:=
j4 0 (List.replicate 6 ((0:Int),(0:Int),(0:UInt64),(0:UInt64),()))
def lA:=WB UY
def Kh(b:LB)(a:Int):Option Int:=
if(((Bt a 0)||(Dx a 330000))||(Bd (Ac b) (yC (Ad a 7) (GI.toZ (3:UInt64)).toNat)))then
some 8
else
if(Dx (Eb a 7) 0)then
(Am b (Ak (Ac b) 1)).bind λf=>
(Hj (Je (Eb a 7) 0)).bind λ_=>
if(Bd (Ce f (GI.toZ (Eb a 7)).toNat) 0)then
some 8
else
some 0
else
some 0
def oA(a b:Int)(f g:UInt64):Option Int:=
if(!((geq (Eo (nJ a 0) 24) a)&&((geq (Eo (nJ b 0) 24) b)&&((geq (Eo f 68719476735) f)&&((geq (Eo g 68719476735) g)&&true)))))then
some 8
else
some 0
def WZ:=oA
def KG(j4:Int->Int->UInt64->UInt64->Option Int)(a b:Int)(f g:UInt64):Option Int:=
(
(
j4 a b f g))
def XG:=KG WZ
def KJ(j3:Int->Int->UInt64->UInt64->Option Int)(a b:Int)(f g:UInt64):Option Int:=
(
(
j3 a b f g))
def UH:=KJ XG
def IK(a f:Int)(g h:UInt64)(b:UInt32):Option (Int×UInt32):=
(Hj (Je a 0)).bind λ_=>
if(geq (Ce b (GI.toZ a).toNat) 0)then
some (0,b)
else
(Hj (Je a 0)).bind λ_=>
some (1,(Ak b (Du (1:UInt32) (GI.toZ a).toNat)))
def vV(a:LB)(b:Int):Option (LB×Int):=
(Cq a).bind λf=>
some (f,b)
abbrev Dz:=Option (LB×Int×Int)
def ma(f:Int)(o:LB):Dz:=
some (o,f,0)
def sF:=ma
def iw(Anu:UInt64->Int->Int->LB->Dz)(b:UInt64)(a:Int)(m:UInt64)(h f:Int)(w:LB):Dz:=
(Hj (Je (Eo h (Ak 8 (Eb f 7))) 0)).bind λ_=>
Anu (Ce m (GI.toZ (Eo h (Ak 8 (Eb f 7)))).toNat) (Ak h (Eo h (Ak 8 (Eb f 7)))) (Ad f (Eo h (Ak 8 (Eb f 7)))) w
def tC Anu:=iw Anu
def rD(j19:UInt64->Int->Int->LB->Dz)(b:UInt64)(a:Int)(m:UInt64)(h f:Int)(u:LB):Dz:=
(Am u (Ak (Ac u) 1)).bind λ_=>
(Hj (Je (Eo h (Ak 8 (Eb f 7))) 0)).bind λ_=>
(Hj (Je (Eb f 7) 0)).bind λ_=>
(Am u (Ak (Ac u) 1)).bind λad=>
(Am u (Ak (Ac u) 1)).bind λ_=>
Option.bind (Le u (Ak (Ac u) 1) (xL ad (Du (Ae (Eb m (Ak (Du (1:UInt64) (GI.toZ (Eo h (Ak 8 (Eb f 7)))).toNat) 1)):UInt8) (GI.toZ (Eb f 7)).toNat))) λw=>
j19 m h f w
def tP Anu b a:=rD (tC Anu b a) b a
def sO(j18:UInt64->Int->Int->LB->Dz)(j21:Int->LB->Dz)(b:UInt64)(a:Int)(m:UInt64)(h f:Int)(o:LB):Dz:=
if(Dx h 0)then
if(geq (Eb f 7) 0)then
(De o ([(0:UInt8)]:LB)).bind λab=>
j18 m h f ab
else
j18 m h f o
else
j21 f o
def dO(b:UInt64)(a:Int):Nat->UInt64->Int->Int->LB->Dz
|0,_,_,_,_=>none
|q+1,m,h,f,o=>sO (tP (dO b a q) b a) sF b a m h f o
def sT b a:=dO b a Ar
def qa(g:Int)(p:LB):Dz:=
some (p,g,0)
def sX:=qa
def jr(Anv:UInt64->Int->Int->LB->Dz)(b:UInt64)(a:Int)(n:UInt64)(k g:Int)(y:LB):Dz:=
(Hj (Je (Eo k (Ak 8 (Eb g 7))) 0)).bind λ_=>
Anv (Ce n (GI.toZ (Eo k (Ak 8 (Eb g 7)))).toNat) (Ak k (Eo k (Ak 8 (Eb g 7)))) (Ad g (Eo k (Ak 8 (Eb g 7)))) y
def rV Anv:=jr Anv
def sY(j26:UInt64->Int->Int->LB->Dz)(b:UInt64)(a:Int)(n:UInt64)(k g:Int)(v:LB):Dz:=
(Am v (Ak (Ac v) 1)).bind λ_=>
(Hj (Je (Eo k (Ak 8 (Eb g 7))) 0)).bind λ_=>
(Hj (Je (Eb g 7) 0)).bind λ_=>
(Am v (Ak (Ac v) 1)).bind λae=>
(Am v (Ak (Ac v) 1)).bind λ_=>
Option.bind (Le v (Ak (Ac v) 1) (xL ae (Du (Ae (Eb n (Ak (Du (1:UInt64) (GI.toZ (Eo k (Ak 8 (Eb g 7)))).toNat) 1)):UInt8) (GI.toZ (Eb g 7)).toNat))) λy=>
j26 n k g y
def qX Anv b a:=sY (rV Anv b a) b a
def sK(j25:UInt64->Int->Int->LB->Dz)(j28:Int->LB->Dz)(b:UInt64)(a:Int)(n:UInt64)(k g:Int)(p:LB):Dz:=
if(Dx k 0)then
if(geq (Eb g 7) 0)then
(De p ([(0:UInt8)]:LB)).bind λw=>
j25 n k g w
else
j25 n k g p
else
j28 g p
def bD(b:UInt64)(a:Int):Nat->UInt64->Int->Int->LB->Dz
|0,_,_,_,_=>none
|q+1,n,k,g,p=>sK (qX (bD b a q) b a) sX b a n k g p
def tS b a:=bD b a Ar
def wO(j15:UInt64->Int->UInt64->Int->Int->LB->Dz)(j22:UInt64->Int->UInt64->Int->Int->LB->Dz)(ac:LB)(aa:Int)(b:UInt64)(a:Int):Dz:=
(Kh ac aa).bind λaf=>
if(Bd af 0)then
some (([]:LB),0,8)
else
if((Bt a 0)||(Dx a 64))then
some (([]:LB),0,2)
else
if(Bt a 64)then
(Hj (Je a 0)).bind λ_=>
if(Bd (Ce b (GI.toZ a).toNat) 0)then
some (([]:LB),0,16)
else
if(Dx (Ad aa a) 330000)then
some (([]:LB),0,18)
else
(vV ac aa).bind λ(ag,ah)=>
j15 b a b a ah ag
else
if(Dx (Ad aa a) 330000)then
some (([]:LB),0,18)
else
(vV ac aa).bind λ(ab,ai)=>
j22 b a b a ai ab
def kE:=wO sT tS
def QQ(b:UInt32)(a:Int):Option Bool:=
(Hj (Je a 0)).bind λ_=>
some (Je (Ce b (GI.toZ a).toNat) 48)
def sE(a:Int):Option (Int×Int):=
if((Bt a 0)||(Dx a 48))then
some (0,2)
else
some ((Eo (Ad a 1) 48),0)
def xX(b:LB)(f a:Int):Option (LB×Int×Int):=
(Kh b f).bind λg=>
if(Bd g 0)then
some (([]:LB),0,g)
else
(sE a).bind λ(k,h)=>
if(Bd h 0)then
some (([]:LB),0,h)
else
(Hj (Je a 0)).bind λ_=>
(kE b f (Ak (Du (1:UInt64) (GI.toZ a).toNat) 1) k).bind λ(m,n,o)=>
some (m,n,o)
abbrev bH:=Option (LB×Int×Int)
def Q5(b:LB)(f h:Int)(k:UInt32)(m:Int):bH:=
(xX b f h).bind λ(p,u,n)=>
if(Bd n 0)then
some (([]:LB),0,n)
else
(kE p u (Ae k:UInt64) m).bind λ(v,w,y)=>
some (v,w,y)
def oV:=Q5
def oU(j2:LB->Int->Int->UInt32->Int->bH)(b:LB)(f:Int)(g:UInt32)(a:Int):bH:=
(Kh b f).bind λo=>
if(Bd o 0)then
some (([]:LB),0,o)
else
if((Bt a 0)||(Dx a 24))then
some (([]:LB),0,2)
else
(Hj (Je a 0)).bind λ_=>
(Hj (Je a 0)).bind λ_=>
(QQ g a).bind λaa=>
if aa then
j2 b f 48 g 32
else
j2 b f (Ae (Ce g (GI.toZ a).toNat):Int) (Eb g (Ak (Du (1:UInt32) (GI.toZ a).toNat) 1)) a
def C8:=oU oV
abbrev Iv:=Option (LB×Int×Int×Int×UInt64×UInt64×Int)
def RQ(k u n:Int)(a:UInt64)(b:UInt32)(o:UInt64)(m:LB):Iv:=
(
(
some (m,k,u,n,(Ad a (Ak (Ae b:UInt64) (Ce a (GI.toZ (4:UInt64)).toNat))),o,0)))
def kH:=RQ
def oQ(j10:Int->Int->Int->UInt64->UInt32->UInt64->LB->Iv)(b:UInt32)(k n:Int)(a o:UInt64)(m:LB)(u:Int):Iv:=
j10 k u n a b o m
def oC:=oQ kH
def oB(j9:UInt32->Int->Int->UInt64->UInt64->LB->Int->Iv)(b:UInt32)(f:Int)(a:UInt64)(k:Int)(m:LB)(n:Int)(o:UInt64):Iv:=
if(Dx f 0)then
(Hj (Je f 0)).bind λ_=>
if(Bt (Ad a (Ak (Ae b:UInt64) (Ce a (GI.toZ (4:UInt64)).toNat))) (Du (16:UInt64) (GI.toZ f).toNat))then
j9 b k n a o m (Ak f 1)
else
if(Bt f 24)then
(Hj (Je f 0)).bind λ_=>
if(Dx (Ad a (Ak (Ae b:UInt64) (Ce a (GI.toZ (4:UInt64)).toNat))) (Du (32:UInt64) (GI.toZ f).toNat))then
j9 b k n a o m (Ad f 1)
else
j9 b k n a o m f
else
j9 b k n a o m f
else
if(Bt f 24)then
(Hj (Je f 0)).bind λ_=>
if(Dx (Ad a (Ak (Ae b:UInt64) (Ce a (GI.toZ (4:UInt64)).toNat))) (Du (32:UInt64) (GI.toZ f).toNat))then
j9 b k n a o m (Ad f 1)
else
j9 b k n a o m f
else
j9 b k n a o m f
def nM:=oB oC
def nW(j8:UInt32->Int->UInt64->Int->LB->Int->UInt64->Iv)(b:UInt32)(f h:Int)(a g:UInt64)(y k:Int)(m:LB):Iv:=
if(Bd y 0)then
some (([]:LB),0,0,0,0,0,y)
else
(IK f h a g b).bind λ(ag,p)=>
if(geq ag 1)then
if(Dx h 0)then
(Hj (Je h 0)).bind λ_=>
if(Bt (Ad g (Ak (Ae p:UInt64) (Ce g (GI.toZ (4:UInt64)).toNat))) (Du (16:UInt64) (GI.toZ h).toNat))then
j8 b f a k m (Ak h 1) (Ad g (Ak (Ae p:UInt64) (Ce g (GI.toZ (4:UInt64)).toNat)))
else
if(Bt h 24)then
(Hj (Je h 0)).bind λ_=>
if(Dx (Ad g (Ak (Ae p:UInt64) (Ce g (GI.toZ (4:UInt64)).toNat))) (Du (32:UInt64) (GI.toZ h).toNat))then
j8 b f a k m (Ad h 1) (Ad g (Ak (Ae p:UInt64) (Ce g (GI.toZ (4:UInt64)).toNat)))
else
j8 b f a k m h (Ad g (Ak (Ae p:UInt64) (Ce g (GI.toZ (4:UInt64)).toNat)))
else
j8 b f a k m h (Ad g (Ak (Ae p:UInt64) (Ce g (GI.toZ (4:UInt64)).toNat)))
else
if(Bt h 24)then
(Hj (Je h 0)).bind λ_=>
if(Dx (Ad g (Ak (Ae p:UInt64) (Ce g (GI.toZ (4:UInt64)).toNat))) (Du (32:UInt64) (GI.toZ h).toNat))then
j8 b f a k m (Ad h 1) (Ad g (Ak (Ae p:UInt64) (Ce g (GI.toZ (4:UInt64)).toNat)))
else
j8 b f a k m h (Ad g (Ak (Ae p:UInt64) (Ce g (GI.toZ (4:UInt64)).toNat)))
else
j8 b f a k m h (Ad g (Ak (Ae p:UInt64) (Ce g (GI.toZ (4:UInt64)).toNat)))
else
j8 b f a k m h g
def nZ:=nW nM
def oL(j7:UInt32->Int->Int->UInt64->UInt64->Int->Int->LB->Iv)(b:UInt32)(v:LB)(w f h:Int)(a g:UInt64):Iv:=
(IK f h a g b).bind λ(ad,ae)=>
(kE v w (Ae ad:UInt64) 1).bind λ(aa,ab,ac)=>
if((geq ac 0)&&(geq ad 0))then
(kE aa ab (Ae ae:UInt64) f).bind λ(ah,ai,aj)=>
j7 b f h a g aj ai ah
else
if(geq ac 0)then
(C8 aa ab ae h).bind λ(ak,al,am)=>
j7 b f h a g am al ak
else
j7 b f h a g ac ab aa
def nY:=oL nZ
def oI(j6:UInt32->LB->Int->Int->Int->UInt64->UInt64->Iv)(v:LB)(w f h:Int)(a g:UInt64)(b:UInt32):Iv:=
(Kh v w).bind λan=>
if(Bd an 0)then
some (([]:LB),0,0,0,0,0,8)
else
(UH f h a g).bind λao=>
if(Bd ao 0)then
some (([]:LB),0,0,0,0,0,8)
else
j6 b v w f h a g
def zH:=oI nY
abbrev Ca:=Option (UInt32×Int)
def lP(h:UInt32):Ca:=
some (h,0)
def SJ:=lP
def DK(j30:UInt32->Ca)(Ax7:UInt32->Int->Ca)(a:LB)(b:LU)(h:UInt32)(m:Int):Ca:=
if(Bt m (Ac a))then
(Am a m).bind λp=>
(Am b (GI.toZ (Xq (Ae h:UInt8) p))).bind λ_=>
(Am b (GI.toZ (Xq (Ae h:UInt8) p))).bind λu=>
Ax7 (Xq (Ce h (GI.toZ (8:UInt64)).toNat) u) (Ad m 1)
else
j30 h
def Qw(a:LB)(b:LU):Nat->UInt32->Int->Ca
|0,_,_=>none
|q+1,h,m=>DK SJ (Qw a b q) a b h m
def TZ a b:=Qw a b Ar
def RH(j28:LB->LU->UInt32->Int->Ca)(f:UInt32)(a:LB)(b:LU):Ca:=
j28 a b f 0
def UL:=RH TZ
def RJ(j27:UInt32->LB->LU->Ca)(f:UInt32)(a:LB)(b:LU):Ca:=
j27 f a b
def FI:=RJ UL
def lQ(Hg:Int->LU->Ca)(f:UInt32)(a:LB)(g:Int)(o:LU):Ca:=
Hg (Ad g 1) o
def SR Hg:=lQ Hg
def UJ(j24:Int->LU->Ca)(f:UInt32)(a:LB)(g:Int)(k:UInt32)(b:LU):Ca:=
(Am b g).bind λ_=>
(Le b g k).bind λo=>
j24 g o
def FL Hg f a:=UJ (SR Hg f a) f a
def DS(j23:Int->UInt32->LU->Ca)(Aea:UInt32->Int->Ca)(f:UInt32)(a:LB)(g:Int)(b:LU)(k:UInt32)(n:Int):Ca:=
if(Bt n 8)then
Aea (Xq (Ce k (GI.toZ (1:UInt64)).toNat) (Bj 3988292384 (Eb k 1))) (Ad n 1)
else
j23 g k b
def Re(Hg:Int->LU->Ca)(f:UInt32)(a:LB)(g:Int)(b:LU):Nat->UInt32->Int->Ca
|0,_,_=>none
|q+1,k,n=>DS (FL Hg f a) (Re Hg f a g b q) f a g b k n
def TW Hg f a g b:=Re Hg f a g b Ar
def GV(j21:Int->LU->UInt32->Int->Ca)(j26:UInt32->LB->LU->Ca)(f:UInt32)(a:LB)(g:Int)(b:LU):Ca:=
if(Bt g 256)then
j21 g b (Ae g:UInt32) 0
else
j26 f a b
def Nk(f:UInt32)(a:LB):Nat->Int->LU->Ca
|0,_,_=>none
|q+1,g,b=>GV (TW (Nk f a q) f a) FI f a g b
def UP f a:=Nk f a Ar
def XN(j16:UInt32->LB->Int->LU->Ca)(f:UInt32)(a:LB):Ca:=
if(Dx (Ac a) 100000)then
some (0,4)
else
j16 f a 0 (List.replicate 256 (0:UInt32))
def cN:=XN UP
def Xo(b:LB):Option (UInt32×Int):=
(cN 4294967295 b).bind λ(f,a)=>
if(Bd a 0)then
some (0,a)
else
some ((I3 f),0)
def zA(b:UInt64)(a:Int):Option Bool:=
if(geq a 8)then
some true
else
(Hj (Je (Bj 8 a) 0)).bind λ_=>
some (geq (Ce b (GI.toZ (Bj 8 a)).toNat) 0)
abbrev BH:=Option (LB×Int)
def xE(a:LB):BH:=
some (a,0)
def jB:=xE
def VO(j6:LB->BH)(Ou:Int->LB->BH)(f:UInt64)(g:LB)(b:Int)(a:LB):BH:=
if(Bt b (Ac g))then
(Hj (Je (Bj 8 b) 0)).bind λ_=>
(Am a b).bind λ_=>
(Le a b (Ae (Ce f (GI.toZ (Bj 8 b)).toNat):UInt8)).bind λk=>
Ou (Ad b 1) k
else
j6 a
def BO(f:UInt64)(g:LB):Nat->Int->LB->BH
|0,_,_=>none
|q+1,b,a=>VO jB (BO f g q) f g b a
def jY f g:=BO f g Ar
def jN(j4:UInt64->LB->Int->LB->BH)(f:UInt64)(h:Int):BH:=
if((Bt h 1)||(Dx h 8))then
some (([]:LB),2)
else
(zA f h).bind λm=>
if(!m)then
some (([]:LB),16)
else
(mkI h (0:UInt8)).bind λg=>
(Hj (geq h h)).bind λ_=>
j4 f g 0 g
def Zm:=jN jY
def QH(f:LB):Option (LB):=
some f
def Up:=QH
def Ul(j16:LB->Option (LB))(lU:Int->LB->Option (LB))(a:List LB)(g:Int)(f:LB):Option (LB):=
if(Bt g (Ac a))then
(Am a g).bind λo=>
(De f o).bind λp=>
lU (Ad g 1) p
else
j16 f
def Mg(a:List LB):Nat->Int->LB->Option (LB)
|0,_,_=>none
|q+1,g,f=>Ul Up (Mg a q) a g f
def Vf a:=Mg a Ar
def Vl(j14:(List LB)->Int->LB->Option (LB))(a:List LB)(k:LB):Option (LB):=
j14 a 0 k
def Va:=Vl Vf
def Uq(j13:(List LB)->LB->Option (LB))(b:Int)(a:List LB):Option (LB):=
if(Dx (Ak b (Ak (0:Int) (0:Int))) 0)then
(nC 0 0 0).bind λ_=>
(mkI (Ak b (Ak (0:Int) (0:Int))) (0:UInt8)).bind λu=>
(De ([]:LB) u).bind λm=>
(nC (Ac m) 0 0).bind λ_=>
j13 a (XM m 0 ((0:Int)-(0:Int)))
else
j13 a ([]:LB)
def Vp:=Uq Va
def Un(j12:Int-> (List LB)->Option (LB))(a:List LB)(b:Int):Option (LB):=
if(Bt b 0)then
none
else
j12 b a
def Vo:=Un Vp
def Wr(j11:(List LB)->Int->Option (LB))(bk9:Int->Int->Option (LB))(a:List LB)(b h:Int):Option (LB):=
if(Bt h (Ac a))then
(Am a h).bind λn=>
if(Bt (Ad b (Ac n)) 0)then
none
else
bk9 (Ad b (Ac n)) (Ad h 1)
else
j11 a b
def Nh(a:List LB):Nat->Int->Int->Option (LB)
|0,_,_=>none
|q+1,b,h=>Wr Vo (Nh a q) a b h
def Wi a:=Nh a Ar
def Xb(j9:(List LB)->Int->Int->Option (LB))(a:List LB):Option (LB):=
j9 a 0 0
def Lh:=Xb Wi
abbrev Bo:=Option (LB×Int)
def pI(u:Int)(p:LB):Bo:=
(Xo p).bind λ(af,ac)=>
if(Bd ac 0)then
some (([]:LB),ac)
else
(Zm (Ae af:UInt64) 4).bind λ(m,h)=>
if(Bd h 0)then
some (([]:LB),h)
else
(Lh ([p,m]:List LB)).bind λag=>
some (ag,0)
def RG:=pI
def qJ(eA:Int-> (List (Int×Int×UInt64×UInt64×Unit))->Int->LB->Bo)(a:LU)(b f g:Int)(k:List (Int×Int×UInt64×UInt64×Unit))(n:Int)(v:LB):Bo:=
eA (Ad g 1) k n v
def RP eA:=qJ eA
def pR(Q2:Int->Int->LB->Bo)(h:Int)(a:LU)(g b f:Int)(k:List (Int×Int×UInt64×UInt64×Unit))(m:LB)(o n:Int)(aa:LB):Bo:=
Q2 (Ad o 1) (Ad n 1) aa
def SP Q2:=pR Q2
def UE(j48:Int->Int->LB->Bo)(h:Int)(a:LU)(g b f:Int)(k:List (Int×Int×UInt64×UInt64×Unit))(m:LB)(o n:Int)(y:LB):Bo:=
(Am m (By o 8)).bind λ_=>
(Am m (By o 8)).bind λah=>
(Hj (Je (Fl o 8) 0)).bind λ_=>
(Am y (By n 8)).bind λ_=>
(Hj (Je (Fl n 8) 0)).bind λ_=>
(Am y (By n 8)).bind λai=>
(Am y (By n 8)).bind λ_=>
Option.bind (Le y (By n 8) (xL ai (Du (Eb (Ce ah (GI.toZ (Fl o 8)).toNat) 1) (GI.toZ (Fl n 8)).toNat))) λaa=>
j48 o n aa
def TH Q2 h a g b f k m:=UE (SP Q2 h a g b f k m) h a g b f k m
def TT(j47:Int->Int->LB->Bo)(j50:Int-> (List (Int×Int×UInt64×UInt64×Unit))->Int->LB->Bo)(a:LU)(b f h g:Int)(k:List (Int×Int×UInt64×UInt64×Unit))(m:LB)(o n:Int)(v:LB):Bo:=
if(Bt o h)then
if(geq (Fl n 8) 0)then
(De v ([(0:UInt8)]:LB)).bind λaj=>
j47 o n aj
else
j47 o n v
else
j50 g k n v
def BD(eA:Int-> (List (Int×Int×UInt64×UInt64×Unit))->Int->LB->Bo)(a:LU)(b f h g:Int)(k:List (Int×Int×UInt64×UInt64×Unit))(m:LB):Nat->Int->Int->LB->Bo
|0,_,_,_=>none
|q+1,o,n,v=>TT (TH (BD eA a b f h g k m q) h a g b f k m) (RP eA a b f) a b f h g k m o n v
def TF eA a b f h g k m:=BD eA a b f h g k m Ar
def TQ(j44:Int->Int-> (List (Int×Int×UInt64×UInt64×Unit))->LB->Int->Int->LB->Bo)(j52:Int->LB->Bo)(a:LU)(b f g:Int)(w:List (Int×Int×UInt64×UInt64×Unit))(u:Int)(p:LB):Bo:=
if(Bt g (Ac a))then
(Am a g).bind λ_=>
(Am a g).bind λak=>
(Hj (Bd b 0)).bind λ_=>
(Am w (Fl g b)).bind λ_=>
(Am w (Fl g b)).bind λab=>
(zH ([]:LB) 0 ab.1 ab.2.1 ab.2.2.1 ab.2.2.2.1 ak).bind λ(m,h,al,am,an,ao,ad)=>
if(Bd ad 0)then
some (([]:LB),ad)
else
(Hj (Bd b 0)).bind λ_=>
(Am w (Fl g b)).bind λ_=>
(Le w (Fl g b) (al,am,an,ao,())).bind λk=>
j44 h g k m 0 u p
else
j52 u p
def AZ(a:LU)(b f:Int):Nat->Int-> (List (Int×Int×UInt64×UInt64×Unit))->Int->LB->Bo
|0,_,_,_,_=>none
|q+1,g,w,u,p=>TQ (TF (AZ a b f q) a b f) RG a b f g w u p
def UN a b f:=AZ a b f Ar
def WO(j27:LU->Int->Int->Int-> (List (Int×Int×UInt64×UInt64×Unit))->Int->LB->Bo)(b f:Int)(ap aq:LX):Bo:=
(kW b f ap aq).bind λ(a,ae)=>
if(Bd ae 0)then
some (([]:LB),ae)
else
(lA).bind λar=>
j27 a b f 0 ar 0 ([]:LB)
def Ri:=WO UN
def GH(b f g:Int)(h k:LB)(m:LX)(n:List LB)(o:LB)(p:Bool)(u a:Int):Option (Int×Int×Int×LB×LB×LX×(List LB)×LB×Bool×Int×Int):=
some (b,f,g,h,([]:LB),([]:LX),([]:List LB),([]:LB),false,a,a)
abbrev Bs:=Option (Int×Int×Int×LB×LB×LX×(List LB)×LB×Bool×Int×Int)
def uV(a b g:Int)(f:LB)(h:Bool)(k:Int)(y:LB)(w:LX)(v:List LB)(m:LB):Bs:=
some (a,b,g,f,y,w,v,m,h,k,0)
def aD:=uV
def vG(lU:Int->LB->LX-> (List LB)->Bs)(p:Int)(n:LB)(a b g:Int)(f:LB)(h:Bool)(k o:Int)(m:LB)(u:Int)(ah:LB)(ai:LX)(aj:List LB):Bs:=
lU (Ad u 1) ah ai aj
def JA lU:=vG lU
def ZM(j24:Int->LB->LX-> (List LB)->Bs)(p:Int)(n:LB)(a b g:Int)(f:LB)(h:Bool)(k o:Int)(m:LB)(u ad:Int)(ae:LB)(af:LX)(ag:List LB):Bs:=
if(Bd ad 0)then
(GH a b g f ae af ag m h k ad).bind λ(au,av,aw,ax,ay,az,ba,bb,bc,bd,be)=>
some (au,av,aw,ax,ay,az,ba,bb,bc,bd,be)
else
j24 u ae af ag
def Qp lU p n a b g f h k o m:=ZM (JA lU p n a b g f h k o m) p n a b g f h k o m
def aS(j23:Int->Int->LB->LX-> (List LB)->Bs)(p:Int)(n:LB)(a b g:Int)(f:LB)(h:Bool)(k o:Int)(m:LB)(u:Int)(ab:LX)(v:List LB)(ak:Int):Bs:=
j23 u ak ([]:LB) ab v
def aM lU p n a b g f h k o m:=aS (Qp lU p n a b g f h k o m) p n a b g f h k o m
def aQ(j23:Int->Int->LB->LX-> (List LB)->Bs)(p:Int)(n:LB)(a b g:Int)(f:LB)(h:Bool)(k o:Int)(m:LB)(u:Int)(ac:List LB):Bs:=
j23 u 0 ([]:LB) ([]:LX) ac
def aO lU p n a b g f h k o m:=aQ (Qp lU p n a b g f h k o m) p n a b g f h k o m
def YR(j23:Int->Int->LB->LX-> (List LB)->Bs)(j21:Int->LX-> (List LB)->Int->Bs)(j22:Int-> (List LB)->Bs)(p:Int)(n:LB)(a b g:Int)(f:LB)(h:Bool)(k o:Int)(m:LB)(u:Int)(aa:LB)(w:LX)(v:List LB):Bs:=
(oH b aa).bind λ(bf,al)=>
if(Bd al 0)then
j23 u al aa w v
else
(De w bf).bind λab=>
if(Bt (Ac ab) (Bj o a))then
j23 u 0 ([]:LB) ab v
else
(Ms f).bind λ(bg,am)=>
if(Bd am 0)then
j21 u ab v am
else
(Ri a b bg ab).bind λ(bh,an)=>
if(Bd an 0)then
j21 u ab v an
else
(De v ([bh]:List LB)).bind λac=>
j22 u ac
def YT lU p n a b g f h k o m:=YR (Qp lU p n a b g f h k o m) (aM lU p n a b g f h k o m) (aO lU p n a b g f h k o m) p n a b g f h k o m
def aC(j24:Int->LB->LX-> (List LB)->Bs)(j23:Int->Int->LB->LX-> (List LB)->Bs)(j20:Int->LB->LX-> (List LB)->Bs)(j26:Int->Int->Int->LB->Bool->Int->LB->LX-> (List LB)->LB->Bs)(p:Int)(n:LB)(a b g:Int)(f:LB)(h:Bool)(k o:Int)(m:LB)(u:Int)(y:LB)(w:LX)(v:List LB):Bs:=
if(Bt u (Ac n))then
(Am n u).bind λbi=>
(De y ([bi]:LB)).bind λaa=>
if(Bt (Ac aa) p)then
j24 u aa w v
else
(KB a b g f aa w v m h k o).bind λbj=>
(cM a b g f aa w v m h k (Ad (Ac v) 1) (Ad bj 1)).bind λbk=>
if(!bk)then
j23 u 18 aa w v
else
j20 u aa w v
else
j26 a b g f h k y w v m
def Qx(p:Int)(n:LB)(a b g:Int)(f:LB)(h:Bool)(k o:Int)(m:LB):Nat->Int->LB->LX-> (List LB)->Bs
|0,_,_,_,_=>none
|q+1,u,y,w,v=>aC (JA (Qx p n a b g f h k o m q) p n a b g f h k o m) (Qp (Qx p n a b g f h k o m q) p n a b g f h k o m) (YT (Qx p n a b g f h k o m q) p n a b g f h k o m) aD p n a b g f h k o m u y w v
def ZZ p n a b g f h k o m:=Qx p n a b g f h k o m Ar
def eW(j14:Int->LB->Int->Int->Int->LB->Bool->Int->Int->LB->Int->LB->LX-> (List LB)->Bs)(bl bm bn:Int)(bp bq:LB)(br:LX)(bs:List LB)(bt:LB)(bu:Bool)(bv:Int)(n:LB):Bs:=
(XL bl bm bn bp bq br bs bt bu bv).bind λ(a,b,g,f,ao,ap,aq,m,h,k,o,ar)=>
if(Bd ar 0)then
some (a,b,g,f,ao,ap,aq,m,h,k,ar)
else
(UO a b).bind λp=>
j14 p n a b g f h k o m 0 ao ap aq
def sL:=eW ZZ
def nU(a:LB):Option (Int×Int):=
if(Dx (Ac a) 64)then
some (0,2)
else
if(geq (Ac a) 0)then
some (1,0)
else
some (2,0)
def JP(b f a g h:Int):Option Bool:=
some (((((((geq b 1)||(geq b 2))&&(Dx f 0))&&(xZ f 6))&&(Dx g 0))&&(xZ g 1048576))&&(Dx h 0))
def Mu:=JP
def Xw(j2:Int->Int->Int->Int->Int->Option Bool)(b f a g h:Int):Option Bool:=
if(geq a 8)then
if(geq a 8)then
j2 b f a g h
else
some false
else
if(geq a 16)then
if(geq a 16)then
j2 b f a g h
else
some false
else
if(geq a 24)then
j2 b f a g h
else
some false
def Pw:=Xw Mu
def Tq(g b:Int):Option (Int×Int):=
(Rm g).bind λ(a,f)=>
if(Bd f 0)then
some (0,f)
else
if((Bt b 1)||(Dx b 4000))then
some (0,2)
else
(Hj (Bd a 0)).bind λ_=>
if(Dx (By (Ak (Ad b a) 1) a) 1000)then
some (0,4)
else
some ((By (Ak (Ad b a) 1) a),0)
def LH(k a m f b:Int):Option Bool:=
(Hj (Bd a 0)).bind λ_=>
if(Dx b (By 4000 a))then
some false
else
(Tq f b).bind λ(g,h)=>
some ((geq h 0)&&(xZ g 1000))
def Sy(a b f g h:Int):Option Int:=
(Pw a b f g h).bind λk=>
if(!k)then
some 8
else
(LH a b f g h).bind λm=>
if(!m)then
some 8
else
some 0
abbrev Nm:=Option (LB×Int)
def yF(a:LB):Nm:=
(Xo a).bind λ(u,aa)=>
(Zm (Ae u:UInt64) 4).bind λ(n,v)=>
(De a n).bind λo=>
some (o,0)
def fT:=yF
def eZ(j6:LB->Nm)(Ou:Int->LB->Nm)(b f g h k m:Int)(a:LB):Nm:=
if(Bt m 5)then
(Am ([b,f,g,h,k]:LI) m).bind λw=>
(Am ([(2:Int),(2:Int),(2:Int),(4:Int),(4:Int)]:LI) m).bind λy=>
(Zm (Ae w:UInt64) y).bind λ(n,v)=>
(De a n).bind λo=>
Ou (Ad m 1) o
else
j6 a
def NQ(b f g h k:Int):Nat->Int->LB->Nm
|0,_,_=>none
|q+1,m,a=>eZ fT (NQ b f g h k q) b f g h k m a
def eX b f g h k:=NQ b f g h k Ar
def fJ(j4:Int->Int->Int->Int->Int->Int->LB->Nm)(b f g h k:Int):Nm:=
(Sy b f g h k).bind λp=>
if(Bd p 0)then
some (([]:LB),p)
else
j4 b f g h k 0 ([(84:UInt8),(84:UInt8),(65:UInt8),(49:UInt8)]:LB)
def bA:=fJ eX
def tZ(a:LB):Option (UInt64×Int):=
if(Dx (Ac a) 64)then
some (0,2)
else
(aE a).bind λ(b,f)=>
some (b,0)
def Xv(b:LB):Option (LB×Int):=
(tZ b).bind λ(f,a)=>
if(Bd a 0)then
some (([]:LB),a)
else
(Zm f 8).bind λ(g,h)=>
some (g,h)
def D8:Option Int:=
some 0
def jP:=D8
def EH(j6:Option Int)(Ou:Int->Int->Option Int)(a:LI)(f b:Int):Option Int:=
if(Bt b (Ac a))then
(Am a b).bind λg=>
if((Bt g 5)||(Dx g f))then
some 8
else
Ou (Ak f g) (Ad b 1)
else
j6
def Rf(a:LI):Nat->Int->Int->Option Int
|0,_,_=>none
|q+1,f,b=>EH jP (Rf a q) a f b
def TB a:=Rf a Ar
def FV(j4:LI->Int->Int->Option Int)(a:LI):Option Int:=
if((geq (Ac a) 0)||(Dx (Ac a) 1000))then
some 8
else
j4 a 100000 0
def Pb:=FV TB
abbrev Hf:=Option (LB×Int)
def yJ(g:LB):Hf:=
some (g,0)
def fQ:=yJ
def fF(j14:LB->Hf)(b:LB):Hf:=
(Xo b).bind λ(m,u)=>
(Zm (Ae m:UInt64) 4).bind λ(n,v)=>
(De b n).bind λg=>
j14 g
def eY:=fF fQ
def yK(bk8:Int->LB->Hf)(a:LI)(f:Int)(h:LB):Hf:=
bk8 (Ad f 1) h
def eK bk8:=yK bk8
def kR(j11:Int->LB->Hf)(j13:LB->Hf)(a:LI)(f:Int)(b:LB):Hf:=
if(Bt f (Ac a))then
(Am a f).bind λo=>
(Zm (Ae o:UInt64) 4).bind λ(p,w)=>
(De b p).bind λh=>
j11 f h
else
j13 b
def SK(a:LI):Nat->Int->LB->Hf
|0,_,_=>none
|q+1,f,b=>kR (eK (SK a q) a) eY a f b
def iN a:=SK a Ar
def kV(j8:LI->Int->LB->Hf)(a:LI):Hf:=
(Pb a).bind λk=>
if(Bd k 0)then
some (([]:LB),k)
else
j8 a 0 ([]:LB)
def WG:=kV iN
abbrev Iu:=Option (LB×Int)
def NP(f g h:Int)(b k:LB)(m:LX)(a:List LB)(n:LB)(o:Bool)(p:Int)(u:LB)(v:LI):Iu:=
(WG v).bind λ(aa,y)=>
if(Bd y 0)then
some (([]:LB),y)
else
(
(De u aa).bind λab=>
(Lh a).bind λac=>
(De ab ac).bind λad=>
some (ad,0))
def fC:=NP
def eC(j8:Int->Int->Int->LB->LB->LX-> (List LB)->LB->Bool->Int->LB->LI->Iu)(qT:Int->LI->Iu)(a:List LB)(f g h:Int)(b k:LB)(m:LX)(n:LB)(o:Bool)(p:Int)(u:LB)(w:Int)(v:LI):Iu:=
if(Bt w (Ac a))then
(Am a w).bind λai=>
(De v ([(Ac ai)]:LI)).bind λaj=>
qT (Ad w 1) aj
else
j8 f g h b k m a n o p u v
def OC(a:List LB)(f g h:Int)(b k:LB)(m:LX)(n:LB)(o:Bool)(p:Int)(u:LB):Nat->Int->LI->Iu
|0,_,_=>none
|q+1,w,v=>eC fC (OC a f g h b k m n o p u q) a f g h b k m n o p u w v
def eD a f g h b k m n o p u:=OC a f g h b k m n o p u Ar
def fA(j6:(List LB)->Int->Int->Int->LB->LB->LX->LB->Bool->Int->LB->Int->LI->Iu)(f g h:Int)(b k:LB)(m:LX)(a:List LB)(n:LB)(o:Bool)(p:Int)(u:LB):Iu:=
j6 a f g h b k m n o p u 0 ([]:LI)
def fN:=fA eD
def fL(j5:Int->Int->Int->LB->LB->LX-> (List LB)->LB->Bool->Int->LB->Iu)(f g h:Int)(b k:LB)(m:LX)(a:List LB)(n:LB)(o:Bool)(p ak:Int):Iu:=
(nU b).bind λ(al,ae)=>
if(Bd ae 0)then
some (([]:LB),ae)
else
(bA al f g h ak).bind λ(af,ag)=>
if(Bd ag 0)then
some (([]:LB),ag)
else
if(b !=([]:LB))then
(Xv b).bind λ(am,ah)=>
if(Bd ah 0)then
some (([]:LB),ah)
else
(De af am).bind λan=>
j5 f g h b k m a n o p an
else
j5 f g h b k m a n o p af
def rE:=fL fN
abbrev Mo:=Option (Int×Int×Int×LB×LB×LX×(List LB)×LB×Bool×Int×Int)
def sN(o a b g:Int)(f:LB)(k:Bool)(m:Int)(h n:LB)(v:LX)(w:List LB):Mo:=
(rE a b g f h v w n k m o).bind λ(aj,y)=>
if(Bd y 0)then
(GH a b g f h v w n k m y).bind λ(ad,ak,al,am,ae,af,an,ao,ap,aq,ar)=>
some (ad,ak,al,am,ae,af,an,ao,ap,aq,ar)
else
some (a,b,g,f,([]:LB),([]:LX),([]:List LB),aj,true,0,0)
def GJ:=sN
def VX(j4:Int->Int->Int->Int->LB->Bool->Int->LB->LB->LX-> (List LB)->Mo)(o a b g:Int)(f:LB)(k:Bool)(m:Int)(h n:LB)(aa:Int)(ab:LX)(ac:List LB):Mo:=
if(Bd aa 0)then
(GH a b g f h ab ac n k m aa).bind λ(au,y,ad,av,aw,ax,ae,af,ay,az,ba)=>
some (au,y,ad,av,aw,ax,ae,af,ay,az,ba)
else
j4 o a b g f k m h n ab ac
def VH:=VX GJ
def VY(j3:Int->Int->Int->Int->LB->Bool->Int->LB->LB->Int->LX-> (List LB)->Mo)(j4:Int->Int->Int->Int->LB->Bool->Int->LB->LB->LX-> (List LB)->Mo)(bb bc bd:Int)(be bf:LB)(bg:LX)(bh:List LB)(bi:LB)(bj:Bool)(bk:Int):Mo:=
(XL bb bc bd be bf bg bh bi bj bk).bind λ(a,b,g,f,h,p,u,n,k,m,bl,ag)=>
if(Bd ag 0)then
some (a,b,g,f,h,p,u,n,k,m,ag)
else
(KB a b g f h p u n k m bl).bind λo=>
if((Dx (Ac h) 0)||(geq o 0))then
(GH a b g f h p u n k m 24).bind λ(bm,bn,bp,bq,br,bs,bt,bu,bv,bw,bx)=>
some (bm,bn,bp,bq,br,bs,bt,bu,bv,bw,bx)
else
if(Dx (Ac p) 0)then
(Ms f).bind λ(bz,ah)=>
if(Bd ah 0)then
j3 o a b g f k m h n ah p u
else
(Ri a b bz p).bind λ(da,ai)=>
if(Bd ai 0)then
j3 o a b g f k m h n ai p u
else
(De u ([da]:List LB)).bind λdb=>
j3 o a b g f k m h n 0 ([]:LX) db
else
j4 o a b g f k m h n p u
def jW:=VY VH GJ
def oS(f g h:Int)(k m:LB)(n:LX)(o:List LB)(p:LB)(u:Bool)(v b:Int):Option (Int×Int×Int×LB×LB×LX×(List LB)×LB×Bool×Int×LB×Int):=
(YA f g h k m n o p u v).bind λw=>
if(Bd w 0)then
some (0,0,0,([]:LB),([]:LB),([]:LX),([]:List LB),([]:LB),false,0,([]:LB),w)
else
if(Bt b 0)then
some (0,0,0,([]:LB),([]:LB),([]:LX),([]:List LB),([]:LB),false,0,([]:LB),2)
else
(dH f g h k m n o p u v).bind λ(y,aa,ab,ac,ad,ae,af,a,ag,ah)=>
(Bf a 0 (Eo b (Ac a))).bind λai=>
(Cq ai).bind λaj=>
(Bf a (Eo b (Ac a)) (Ac a)).bind λak=>
some (y,aa,ab,ac,ad,ae,af,ak,ag,ah,aj,0)
abbrev Hk:=Option (LB×Int)
def rZ(g h k:Int)(m:LB)(n:Bool)(o:Int)(p:LB)(u:LX)(v:List LB)(w:LB):Hk:=
(jW g h k m p u v w n o).bind λ(ap,aq,y,ar,au,av,aa,ab,aw,ax,al)=>
if(Bd al 0)then
some (([]:LB),al)
else
(oS ap aq y ar au av aa ab aw ax 100000).bind λ(ad,ac,bs,bt,bu,bv,bw,bx,bz,da,ay,az)=>
some (ay,az)
def VB:=rZ
def vU(qT:LB->Int->Int->Int->Int->LB->Bool->Int->LB->LX-> (List LB)->LB->Hk)(a:LI)(f:LB)(ac ae b y af ag:Int)(ah:LB)(ai:Bool)(ad:Int)(aa:LB)(ab:LX)(aj:List LB)(ak:LB):Hk:=
if(Bd ac 0)then
some (([]:LB),ac)
else
(Bf f ae (Ac f)).bind λba=>
qT ba (Ad b 1) y af ag ah ai ad aa ab aj ak
def YK qT:=vU qT
def ZQ(j8:LB->Int->Int->Int->Int->Int->Int->LB->Bool->Int->LB->LX-> (List LB)->LB->Hk)(j10:Int->Int->Int->LB->Bool->Int->LB->LX-> (List LB)->LB->Hk)(a:LI)(f:LB)(b g h k:Int)(m:LB)(n:Bool)(o:Int)(p:LB)(u:LX)(v:List LB)(w:LB):Hk:=
if(Bt b (Ac a))then
(Am a b).bind λ_=>
(Am a b).bind λae=>
(Bf f 0 ae).bind λbb=>
(sL g h k m p u v w n o bb).bind λ(y,af,ag,ah,aa,ab,aj,ak,ai,ad,ac)=>
j8 f ac ae b y af ag ah ai ad aa ab aj ak
else
j10 g h k m n o p u v w
def JQ(a:LI):Nat->LB->Int->Int->Int->Int->LB->Bool->Int->LB->LX-> (List LB)->LB->Hk
|0,_,_,_,_,_,_,_,_,_,_,_,_=>none
|q+1,f,b,g,h,k,m,n,o,p,u,v,w=>ZQ (YK (JQ a q) a) VB a f b g h k m n o p u v w
def aI a:=JQ a Ar
def II(j6:LI->LB->Int->Int->Int->Int->LB->Bool->Int->LB->LX-> (List LB)->LB->Hk)(bc bd be:Int)(bf am:LB)(bg:UInt64):Hk:=
(Hc (Ac am) bg).bind λ(a,an)=>
if(Bd an 0)then
some (([]:LB),an)
else
(wV bc bd be bf).bind λ(bh,bi,bj,bk,bl,bm,bn,bp,bq,br,ao)=>
if(Bd ao 0)then
some (([]:LB),ao)
else
j6 a am 0 bh bi bj bk bq br bl bm bn bp
def Kv:=II aI
def BL(a:LB):Option (LB×LB×Int×Int×Int×Int×Int×LI×Int×LB×Bool×Int×Int):=
if(Dx (Ac a) 64)then
some (([]:LB),([]:LB),0,0,0,0,0,([]:LI),0,([]:LB),false,0,2)
else
some (a,([]:LB),0,0,0,0,0,([]:LI),0,([]:LB),false,0,0)
def Lc(a:LB):Option (LB):=
(
(De ([]:LB) a).bind λb=>
some b)
def Ga(a:LI):Option (LI):=
(
(De ([]:LI) a).bind λb=>
some b)
def Dt(a b:LB)(f g h k m:Int)(n:LI)(o:Int)(p:LB)(u:Bool)(v:Int):Option (LB×LB×Int×Int×Int×Int×Int×LI×Int×LB×Bool×Int):=
(Lc b).bind λw=>
(Lc p).bind λy=>
(Ga n).bind λaa=>
some (a,w,f,g,h,k,m,aa,o,y,u,v)
def NJ(a b:UInt64):Option (UInt64×UInt64):=
some ((Ad (Ad (Bj (Ce a (GI.toZ (32:UInt64)).toNat) (Ce b (GI.toZ (32:UInt64)).toNat)) (Ce (Ad (Bj (Ce a (GI.toZ (32:UInt64)).toNat) (Eb b 4294967295)) (Ce (Bj (Eb a 4294967295) (Eb b 4294967295)) (GI.toZ (32:UInt64)).toNat)) (GI.toZ (32:UInt64)).toNat)) (Ce (Ad (Eb (Ad (Bj (Ce a (GI.toZ (32:UInt64)).toNat) (Eb b 4294967295)) (Ce (Bj (Eb a 4294967295) (Eb b 4294967295)) (GI.toZ (32:UInt64)).toNat)) 4294967295) (Bj (Eb a 4294967295) (Ce b (GI.toZ (32:UInt64)).toNat))) (GI.toZ (32:UInt64)).toNat)),(Bj a b))
def KD(a b:UInt64):Option (UInt64×UInt64):=
(NJ a b).bind λ(f,g)=>
some (f,g)
def Oi(a:LI):Option (LI):=
some a
def Jm:=Oi
def Ha(j10:LI->Option (LI))(bk8:Int->LI->Option (LI))(b:Int)(a:LI):Option (LI):=
if(Bt b (Ac a))then
(
(nC (Ac a) b (Ac a)).bind λ_=>
(nC (Ac a) 0 b).bind λ_=>
bk8 (Ad b (RN ((Ac a)-b) (XM a 0 (b-(0:Int))).length)) (Ud a b ((Ac a)-b) (XM a 0 (b-(0:Int)))))
else
j10 a
def Ev:Nat->Int->LI->Option (LI)
|0,_,_=>none
|q+1,b,a=>Ha Jm (Ev q) b a
def Ps:=Ev Ar
def Pn(j8:Int->LI->Option (LI))(f:LI)(g:UInt64):Option (LI):=
(mkI (Ae g:Int) (0:Int)).bind λk=>
(Hj (geq (Ae g:Int) (Ae g:Int))).bind λ_=>
j8 (RN (Ac k) f.length) (oO k f)
def Pk:=Pn Ps
def Po(j7:LI->UInt64->Option (LI))(f:LI)(h:Int):Option (LI):=
(KD (Ae (Ac f):UInt64) (Ae h:UInt64)).bind λ(m,g)=>
if((Dx m 0)||(Dx g 9223372036854775807))then
none
else
j7 f g
def Pz:=Po Pk
def Pr(j6:LI->Int->Option (LI))(f:LI)(h:Int):Option (LI):=
if(Bt h 0)then
none
else
j6 f h
def Nz:=Pr Pz
def UR(f:LI):Option (LI):=
some f
def Yc:=UR
def Gm(j16:LI->Option (LI))(lU:Int->LI->Option (LI))(a:List LI)(g:Int)(f:LI):Option (LI):=
if(Bt g (Ac a))then
(Am a g).bind λo=>
(De f o).bind λp=>
lU (Ad g 1) p
else
j16 f
def Eh(a:List LI):Nat->Int->LI->Option (LI)
|0,_,_=>none
|q+1,g,f=>Gm Yc (Eh a q) a g f
def Og a:=Eh a Ar
def Oc(j14:(List LI)->Int->LI->Option (LI))(a:List LI)(k:LI):Option (LI):=
j14 a 0 k
def Jn:=Oc Og
def Ok(j13:(List LI)->LI->Option (LI))(b:Int)(a:List LI):Option (LI):=
if(Dx (Ak b (Ak (0:Int) (0:Int))) 0)then
(nC 0 0 0).bind λ_=>
(mkI (Ak b (Ak (0:Int) (0:Int))) (0:Int)).bind λu=>
(De ([]:LI) u).bind λm=>
(nC (Ac m) 0 0).bind λ_=>
j13 a (XM m 0 ((0:Int)-(0:Int)))
else
j13 a ([]:LI)
def Oe:=Ok Jn
def Oh(j12:Int-> (List LI)->Option (LI))(a:List LI)(b:Int):Option (LI):=
if(Bt b 0)then
none
else
j12 b a
def Oa:=Oh Oe
def Gy(j11:(List LI)->Int->Option (LI))(bk9:Int->Int->Option (LI))(a:List LI)(b h:Int):Option (LI):=
if(Bt h (Ac a))then
(Am a h).bind λn=>
if(Bt (Ad b (Ac n)) 0)then
none
else
bk9 (Ad b (Ac n)) (Ad h 1)
else
j11 a b
def Et(a:List LI):Nat->Int->Int->Option (LI)
|0,_,_=>none
|q+1,b,h=>Gy Oa (Et a q) a b h
def Qa a:=Et a Ar
def Qb(j9:(List LI)->Int->Int->Option (LI))(a:List LI):Option (LI):=
j9 a 0 0
def Nx:=Qb Qa
def RV(a b:LI):Option (LI):=
(Nx ([a,b]:List LI)).bind λf=>
some f
def Wx(a b:Int):Option (LI×Int):=
(Tq a b).bind λ(f,g)=>
if(Bd g 0)then
some (([]:LI),g)
else
(Rm a).bind λ(h,n)=>
(Nz ([h]:LI) (Ak f 1)).bind λk=>
(RV k ([(Ak b (Bj (Ak f 1) h))]:LI)).bind λm=>
some (m,0)
def Dn(g h k a b:Int):Option (LI×Int):=
(Sy g h k a b).bind λf=>
if(Bd f 0)then
some (([]:LI),f)
else
(Wx a b).bind λ(m,n)=>
some (m,n)
def Nb(a f g h k:Int)(b:LB):Option Int:=
if((b==([]:LB)) !=(geq a 1))then
some 26
else
some 0
def eL(w:Int)(o p:LB)(h b f k m:Int)(g:LI)(a:Int)(n:LB)(u:Bool)(v:Int):Option Bool:=
some (xZ (Ac n) w)
def OB:=eL
def AE(j8:Int->LB->LB->Int->Int->Int->Int->Int->LI->Int->LB->Bool->Int->Option Bool)(qT:Int->Int->Option Bool)(y:LI)(o p:LB)(h b f k m:Int)(g:LI)(a:Int)(n:LB)(u:Bool)(v w aa:Int):Option Bool:=
if(Bt aa (Ac y))then
(Am y aa).bind λac=>
qT (Ad w (By (Bj (Bj ac b) f) 8)) (Ad aa 1)
else
j8 w o p h b f k m g a n u v
def Oq(y:LI)(o p:LB)(h b f k m:Int)(g:LI)(a:Int)(n:LB)(u:Bool)(v:Int):Nat->Int->Int->Option Bool
|0,_,_=>none
|q+1,w,aa=>AE OB (Oq y o p h b f k m g a n u v q) y o p h b f k m g a n u v w aa
def NN y o p h b f k m g a n u v:=Oq y o p h b f k m g a n u v Ar
def NG(j6:LI->LB->LB->Int->Int->Int->Int->Int->LI->Int->LB->Bool->Int->Int->Int->Option Bool)(o p:LB)(h b f k m:Int)(g:LI)(a:Int)(n:LB)(u:Bool)(v:Int)(ab:LI):Option Bool:=
if(geq (Ac g) 0)then
some ((geq a 0)&&(geq (Ac n) 0))
else
(Pb g).bind λad=>
if((((Bd ad 0)||(Bd (Ac g) (Ac ab)))||(Bt a 0))||(Dx a (Ac ab)))then
some false
else
(Bf ab 0 a).bind λy=>
j6 y o p h b f k m g a n u v 0 0
def OM:=NG NN
def NW(j5:LB->LB->Int->Int->Int->Int->Int->LI->Int->LB->Bool->Int->LI->Option Bool)(o p:LB)(h b f k m:Int)(g:LI)(a:Int)(n:LB)(u:Bool)(v:Int):Option Bool:=
if((geq h 0)&&((geq b 0)&&((geq f 0)&&((geq k 0)&&((geq m 0)&&true)))))then
some (((geq (Ac g) 0)&&(geq a 0))&&(geq (Ac n) 0))
else
(Dn h b f k m).bind λ(ab,ae)=>
if(Bd ae 0)then
some false
else
(Nb h b f k m o).bind λaf=>
if(Bd af 0)then
some false
else
j5 o p h b f k m g a n u v ab
def Xk:=NW OM
def Fy(a b:LB):Option Bool:=
some (a==b)
def Lp(b a:LB):Option Bool:=
if(Je (Ac b) (Ac a))then
(Bf b 0 (Ac a)).bind λf=>
(Fy f a).bind λg=>
some g
else
some false
abbrev Ln:=Option (Int×Int)
def vJ(b:Int):Ln:=
some (b,0)
def ZU:=vJ
def Xu(j6:Int->Ln)(Ou:Int->Int->Ln)(a:LB)(b f:Int):Ln:=
if(Bt f (Ac a))then
(Am a f).bind λg=>
if(Dx g 127)then
some (0,12)
else
Ou (xL (Du b (GI.toZ (7:UInt64)).toNat) (Ae g:Int)) (Ad f 1)
else
j6 b
def Mv(a:LB):Nat->Int->Int->Ln
|0,_,_=>none
|q+1,b,f=>Xu ZU (Mv a q) a b f
def IE a:=Mv a Ar
def IQ(j4:LB->Int->Int->Ln)(a:LB):Ln:=
if(Bd (Ac a) 4)then
some (0,2)
else
j4 a 0 0
def KF:=IQ IE
abbrev Ij:=Option (Int×Int)
def fU(a:LB)(b:UInt8)(h:Int):Ij:=
if(Dx h 4000)then
some (0,4)
else
if(Bt (Ac a) h)then
some (0,24)
else
if(geq b 16)then
(Bf a (Ak h 10) h).bind λk=>
(Bf k 0 3).bind λu=>
if(u !=([51,68,73]:LB))then
some (0,12)
else
(Bf k 3 (Ac k)).bind λv=>
(Bf a 3 10).bind λw=>
(Fy v w).bind λy=>
if(!y)then
some (0,12)
else
some (h,0)
else
some (h,0)
def Zw:=fU
def NH(j8:LB->UInt8->Int->Ij)(a:LB)(g:Int)(b:UInt8):Ij:=
if(geq b 16)then
j8 a b (Ad (Ad g 10) 10)
else
j8 a b (Ad g 10)
def Zx:=NH Zw
def NK(j7:LB->Int->UInt8->Ij)(a:LB)(g:Int)(b:UInt8)(m:Bool):Ij:=
if m then
some (0,12)
else
j7 a g b
def OJ:=NK Zx
def NO(j6:LB->Int->UInt8->Bool->Ij)(a:LB)(f b:UInt8):Ij:=
(Bf a 6 10).bind λaa=>
(KF aa).bind λ(g,ab)=>
if(Bd ab 0)then
if true then
j6 a g b true
else
if(geq b 0)then
j6 a g b (!((Je f 2)&&(xZ f 4)))
else
if(geq b 16)then
j6 a g b (!(geq f 4))
else
j6 a g b (!false)
else
(Am a 4).bind λac=>
if(Bd ac 0)then
j6 a g b true
else
if(geq b 0)then
j6 a g b (!((Je f 2)&&(xZ f 4)))
else
if(geq b 16)then
j6 a g b (!(geq f 4))
else
j6 a g b (!false)
def OD:=NO OJ
def AG(j5:LB->UInt8->UInt8->Ij)(a:LB):Ij:=
(Lp a ([(73:UInt8),(68:UInt8),(51:UInt8)]:LB)).bind λn=>
if(!n)then
some (0,6)
else
if(Bt (Ac a) 10)then
some (0,24)
else
(Am a 3).bind λf=>
(Am a 5).bind λb=>
(
(
(
j5 a f b)))
def QE:=AG OD
abbrev AV:=Option (UInt64×Int)
def uk(b:UInt64):AV:=
some (b,0)
def wP:=uk
def WA(j6:UInt64->AV)(Ou:UInt64->Int->AV)(a:LB)(b:UInt64)(f:Int):AV:=
if(Bt f (Ac a))then
(Am a f).bind λg=>
(Hj (Je (Bj 8 f) 0)).bind λ_=>
Ou (xL b (Du (Ae g:UInt64) (GI.toZ (Bj 8 f)).toNat)) (Ad f 1)
else
j6 b
def CJ(a:LB):Nat->UInt64->Int->AV
|0,_,_=>none
|q+1,b,f=>WA wP (CJ a q) a b f
def iH a:=CJ a Ar
def iY(j4:LB->UInt64->Int->AV)(a:LB):AV:=
if((Bt (Ac a) 1)||(Dx (Ac a) 8))then
some (0,2)
else
j4 a 0 0
def jG:=iY iH
def YO(f:LB)(a b:Int):Option (UInt64×Int):=
if(((Bt b 1)||(Dx b 8))||(Bt a 0))then
some (0,2)
else
if(Dx a (Ak (Ac f) b))then
some (0,24)
else
(Bf f a (Ad a b)).bind λg=>
(jG g).bind λ(h,k)=>
some (h,k)
def L8(g:LB):Option (LB):=
some g
def pN:=L8
def bI(j6:LB->Option (LB))(Ou:Int->LB->Option (LB))(a b:Int)(f:UInt64)(h:Int)(g:LB):Option (LB):=
if(Bt h (Ac ([(2000:UInt64),(Ae (Ad a 32):UInt64),(Ae b:UInt64),f,(0:UInt64),(0:UInt64)]:LQ)))then
(Am ([(2000:UInt64),(Ae (Ad a 32):UInt64),(Ae b:UInt64),f,(0:UInt64),(0:UInt64)]:LQ) h).bind λ_=>
(Am ([(2000:UInt64),(Ae (Ad a 32):UInt64),(Ae b:UInt64),f,(0:UInt64),(0:UInt64)]:LQ) h).bind λk=>
(Zm k 4).bind λ(m,o)=>
(De g m).bind λn=>
Ou (Ad h 1) n
else
j6 g
def AL(a b:Int)(f:UInt64):Nat->Int->LB->Option (LB)
|0,_,_=>none
|q+1,h,g=>bI pN (AL a b f q) a b f h g
def pD a b f:=AL a b f Ar
def oX(j4:Int->Int->UInt64->Int->LB->Option (LB))(a b:Int)(f:UInt64):Option (LB):=
j4 a b f 0 ([(65:UInt8),(80:UInt8),(69:UInt8),(84:UInt8),(65:UInt8),(71:UInt8),(69:UInt8),(88:UInt8)]:LB)
def lY:=oX pD
def QY(b:LB)(g:UInt64):Option (Int×Int×Bool):=
(YO b 12 4).bind λ(a,m)=>
(YO b 16 4).bind λ(f,n)=>
if(((Bt a 32)||(Dx a 3032))||(Dx f 1000))then
some (0,0,false)
else
(lY (Ak (Ae a:Int) 32) (Ae f:Int) g).bind λh=>
(Fy b h).bind λk=>
some ((Ak (Ae a:Int) 32),(Ae f:Int),k)
def lW(a:LB):Option (Int×Int):=
(Lp a ([(65:UInt8),(80:UInt8),(69:UInt8),(84:UInt8),(65:UInt8),(71:UInt8),(69:UInt8),(88:UInt8)]:LB)).bind λf=>
if(!f)then
some (0,6)
else
if(Bt (Ac a) 32)then
some (0,24)
else
(Bf a 0 32).bind λg=>
(QY g 2684354560).bind λ(b,h,k)=>
if(!k)then
some (0,12)
else
if(Bt (Ac a) (Ad b 64))then
some (0,24)
else
(Bf a (Ak (Ad b 64) 32) (Ad b 64)).bind λm=>
(lY b h 2147483648).bind λn=>
(Fy m n).bind λo=>
if(!o)then
some (0,12)
else
some ((Ad b 64),0)
def Vx(a:LB):Option (Int×Int):=
(QE a).bind λ(f,b)=>
if(Bd b 6)then
some (f,b)
else
(lW a).bind λ(g,h)=>
some (g,h)
def Tp(b:List UInt8):Nat->Int->Option (Int×Int)
  |0,_=>none
  |q+1,x=>Option.bind (Bf b x (Ac b)) λs=>Option.bind (Vx s) λr=>
    if geq r.2 (6:Int)=true then some (x,0)
    else if(geq r.2 (0:Int)&&Dx (Ad x r.1) (4000:Int))=true then some (0,4)
    else if Bd r.2 (0:Int)=true then some (0,r.2)
    else Tp b q (Ad x r.1)
def Jd(b:List UInt8):Option (Int×Int):=Tp b Ar 0
def Ah(a:Int):Option (Bool×Int):=
some (false,a)
def Gg(b a:LB):Option Bool:=
if(Je (Ac b) (Ac a))then
(Bf b 0 (Ac a)).bind λf=>
some (f==a)
else
some false
def Ih(a b:LB):Option Bool:=
(Gg a b).bind λf=>
some f
def yL:Option Bool:=
some false
def eT:=yL
def Ti(j6:Option Bool)(Ou:Int->Option Bool)(a:LB)(b:Int):Option Bool:=
if(Bt b 2)then
(Am ([([73,68,51]:LB),([65,80,69,84,65,71,69,88]:LB)]:List LB) b).bind λf=>
if(Bt (Ac a) (Ac f))then
(Ih f a).bind λg=>
if g then
some true
else
Ou (Ad b 1)
else
Ou (Ad b 1)
else
j6
def Jg(a:LB):Nat->Int->Option Bool
|0,_=>none
|q+1,b=>Ti eT (Jg a q) a b
def NZ a:=Jg a Ar
def NV(j4:LB->Int->Option Bool)(a:LB):Option Bool:=
j4 a 0
def Pf:=NV NZ
abbrev Pp:=Option (Int×Int×Int×Int×Int×Int)
def lJ(a:LI):Pp:=
(Am a 0).bind λ_=>
(Am a 0).bind λh=>
(Am a 1).bind λ_=>
(Am a 1).bind λk=>
(Am a 2).bind λ_=>
(Am a 2).bind λm=>
(Am a 3).bind λ_=>
(Am a 3).bind λn=>
(Am a 4).bind λ_=>
(Am a 4).bind λo=>
(Pw h k m n o).bind λp=>
if(!p)then
some (0,0,0,0,0,12)
else
(LH h k m n o).bind λu=>
if(!u)then
some (0,0,0,0,0,4)
else
some (h,k,m,n,o,0)
def DE:=lJ
def GN(j6:LI->Pp)(Ou:Int->Int->LI->Pp)(b:LB)(g f:Int)(a:LI):Pp:=
if(Bt f 5)then
(Am ([(2:Int),(2:Int),(2:Int),(4:Int),(4:Int)]:LI) f).bind λh=>
(YO b g h).bind λ(v,ae)=>
(Am a f).bind λ_=>
(Le a f (Ae v:Int)).bind λw=>
Ou (Ad g h) (Ad f 1) w
else
j6 a
def Mz(b:LB):Nat->Int->Int->LI->Pp
|0,_,_,_=>none
|q+1,g,f,a=>GN DE (Mz b q) b g f a
def DT b:=Mz b Ar
def TM(j4:LB->Int->Int->LI->Pp)(b:LB):Pp:=
(Bf b 0 (Eo 4 (Ac b))).bind λy=>
(Ih ([84,84,65,49]:LB) y).bind λaa=>
if(!aa)then
some (0,0,0,0,0,12)
else
if(Bt (Ac b) 22)then
some (0,0,0,0,0,24)
else
(YO b 18 4).bind λ(ab,af)=>
(Bf b 0 18).bind λac=>
(Xo ac).bind λ(ad,ag)=>
if(Bd (Ae ad:UInt64) ab)then
some (0,0,0,0,0,22)
else
j4 b 4 0 (List.replicate 5 (0:Int))
def Mm:=TM DT
def Xn(a f:LB):Option (Bool×Int):=
(Xv f).bind λ(b,g)=>
if((Bd g 0)||(Bd (Ac a) (Ac b)))then
some (false,2)
else
(Fy a b).bind λh=>
some (h,0)
abbrev Rs:=Option (LI×Int)
def oJ(a:LI):Rs:=
(Pb a).bind λk=>
if(Bd k 0)then
some (([]:LI),12)
else
some (a,0)
def JY:=oJ
def KL(j6:LI->Rs)(Ou:Int->LI->Rs)(b:LB)(f:LI)(g:Int)(a:LI):Rs:=
if(Bt g (Ac f))then
(YO b (Bj 4 g) 4).bind λ(k,u)=>
(Am a g).bind λ_=>
(Le a g (Ae k:Int)).bind λm=>
Ou (Ad g 1) m
else
j6 a
def Tk(b:LB)(f:LI):Nat->Int->LI->Rs
|0,_,_=>none
|q+1,g,a=>KL JY (Tk b f q) b f g a
def XK b f:=Tk b f Ar
def XT(j4:LB->LI->Int->LI->Rs)(b:LB)(h:Int):Rs:=
if((Bt h 1)||(Dx h 1000))then
some (([]:LI),2)
else
if(Bt (Ac b) (Ad (Bj 4 h) 4))then
some (([]:LI),24)
else
(YO b (Bj 4 h) 4).bind λ(n,v)=>
(Bf b 0 (Bj 4 h)).bind λo=>
(Xo o).bind λ(p,w)=>
if(Bd (Ae p:UInt64) n)then
some (([]:LI),22)
else
(mkI h (0:Int)).bind λf=>
(Hj (geq h h)).bind λ_=>
j4 b f 0 f
def JB:=XT XK
def Zn(f a b g h:Int):Option (Int×Int):=
some (a,b)
def DM(a:LB):Option (LB×Int):=
if(Bt (Ac a) 5)then
some (([]:LB),24)
else
if(Dx (Ac a) 41254)then
some (([]:LB),4)
else
(Bf a 0 (Ak (Ac a) 4)).bind λf=>
(Xo f).bind λ(g,b)=>
if(Bd b 0)then
some (([]:LB),b)
else
(Bf a (Ak (Ac a) 4) (Ac a)).bind λh=>
(jG h).bind λ(k,m)=>
if((Bd m 0)||(Bd k (Ae g:UInt64)))then
some (([]:LB),22)
else
(Bf a 0 (Ak (Ac a) 4)).bind λn=>
some (n,0)
def ig(a:LB):Option (LB×Int×Int):=
if(Dx (Ac a) 41250)then
some (([]:LB),0,4)
else
(Cq a).bind λb=>
some (b,(Bj 8 (Ac a)),0)
def zb(g:UInt64):Option UInt64:=
some g
def xI:=zb
def iL(j6:UInt64->Option UInt64)(Ou:UInt64->Int->Option UInt64)(b f:Int)(h:LB)(k:Int)(g:UInt64)(a:Int):Option UInt64:=
if(Bt a f)then
(Am h (yC (Ad b a) (GI.toZ (3:UInt64)).toNat)).bind λm=>
(Hj (Je (Eb (Ad b a) 7) 0)).bind λ_=>
(Hj (Je (Eo (Ak f a) (Ak 8 (Eb (Ad b a) 7))) 0)).bind λ_=>
(Hj (Je a 0)).bind λ_=>
Ou (xL g (Du (Ae (Eb (Ce m (GI.toZ (Eb (Ad b a) 7)).toNat) (Ak (Du (1:UInt8) (GI.toZ (Eo (Ak f a) (Ak 8 (Eb (Ad b a) 7)))).toNat) 1)):UInt64) (GI.toZ a).toNat)) (Ad a (Eo (Ak f a) (Ak 8 (Eb (Ad b a) 7))))
else
j6 g
def MF(b f:Int)(h:LB)(k:Int):Nat->UInt64->Int->Option UInt64
|0,_,_=>none
|q+1,g,a=>iL xI (MF b f h k q) b f h k g a
def xQ b f h k:=MF b f h k Ar
def xR(j4:Int->Int->LB->Int->UInt64->Int->Option UInt64)(h:LB)(k b f:Int):Option UInt64:=
j4 b f h k 0 0
def sM:=xR xQ
abbrev Fe:=Option (LB×Int×Int)
def rJ(o:Int)(p:LB):Fe:=
some (p,o,0)
def cE:=rJ
def rK(eA:Int->Int->LB->Fe)(a:Int)(g:LB)(f b h:Int)(u:LB):Fe:=
eA (Ad b 64) h u
def QM eA:=rK eA
def rA(Q2:UInt64->Int->Int->LB->Fe)(a b:Int)(g:LB)(f:Int)(k n:UInt64)(m h:Int)(w:LB):Fe:=
(Hj (Je (Eo m (Ak 8 (Eb h 7))) 0)).bind λ_=>
Q2 (Ce n (GI.toZ (Eo m (Ak 8 (Eb h 7)))).toNat) (Ak m (Eo m (Ak 8 (Eb h 7)))) (Ad h (Eo m (Ak 8 (Eb h 7)))) w
def cC Q2:=rA Q2
def dL(j48:UInt64->Int->Int->LB->Fe)(a b:Int)(g:LB)(f:Int)(k n:UInt64)(m h:Int)(v:LB):Fe:=
(Am v (Ak (Ac v) 1)).bind λ_=>
(Hj (Je (Eo m (Ak 8 (Eb h 7))) 0)).bind λ_=>
(Hj (Je (Eb h 7) 0)).bind λ_=>
(Am v (Ak (Ac v) 1)).bind λaa=>
(Am v (Ak (Ac v) 1)).bind λ_=>
Option.bind (Le v (Ak (Ac v) 1) (xL aa (Du (Ae (Eb n (Ak (Du (1:UInt64) (GI.toZ (Eo m (Ak 8 (Eb h 7)))).toNat) 1)):UInt8) (GI.toZ (Eb h 7)).toNat))) λw=>
j48 n m h w
def QL Q2 a b g f k:=dL (cC Q2 a b g f k) a b g f k
def QU(j47:UInt64->Int->Int->LB->Fe)(j50:Int->Int->LB->Fe)(a:Int)(g:LB)(f b:Int)(k n:UInt64)(m h:Int)(u:LB):Fe:=
if(Dx m 0)then
if(geq (Eb h 7) 0)then
(De u ([(0:UInt8)]:LB)).bind λab=>
j47 n m h ab
else
j47 n m h u
else
j50 b h u
def Pa(eA:Int->Int->LB->Fe)(a:Int)(g:LB)(f b:Int)(k:UInt64):Nat->UInt64->Int->Int->LB->Fe
|0,_,_,_,_=>none
|q+1,n,m,h,u=>QU (QL (Pa eA a g f b k q) a b g f k) (QM eA a g f) a g f b k n m h u
def bV eA a g f b k:=Pa eA a g f b k Ar
def dR(j44:Int->UInt64->UInt64->Int->Int->LB->Fe)(j52:Int->LB->Fe)(a:Int)(g:LB)(f b o:Int)(p:LB):Fe:=
if(Bt b a)then
(sM g f b (Eo 64 (Ak a b))).bind λk=>
j44 b k k (Eo 64 (Ak a b)) o p
else
j52 o p
def Xy(a:Int)(g:LB)(f:Int):Nat->Int->Int->LB->Fe
|0,_,_,_=>none
|q+1,b,o,p=>dR (bV (Xy a g f q) a g f) cE a g f b o p
def bS a g f:=Xy a g f Ar
def jX(j27:Int->LB->Int->Int->Int->LB->Fe)(g:LB)(f y a:Int):Fe:=
(Kh g f).bind λac=>
if(Bd ac 0)then
some (([]:LB),0,8)
else
if(((Bt y 0)||(Dx y a))||(Dx a f))then
some (([]:LB),0,2)
else
j27 a g f y 0 ([]:LB)
def lC:=jX bS
def FW(g:LB)(b f a:Int):Option (UInt64×Int):=
(Kh g b).bind λh=>
if(Bd h 0)then
some (0,8)
else
if(((Bt a 0)||(Dx a 64))||(Bt f 0))then
some (0,2)
else
if(Dx f (Ak b a))then
some (0,24)
else
(sM g b f a).bind λk=>
some (k,0)
def Gn(a:UInt64):Option Int:=
if(geq a 0)then
some 64
else
(Am ([(0:UInt8),(1:UInt8),(56:UInt8),(2:UInt8),(57:UInt8),(49:UInt8),(28:UInt8),(3:UInt8),(61:UInt8),(58:UInt8),(42:UInt8),(50:UInt8),(38:UInt8),(29:UInt8),(17:UInt8),(4:UInt8),(62:UInt8),(47:UInt8),(59:UInt8),(36:UInt8),(45:UInt8),(43:UInt8),(51:UInt8),(22:UInt8),(53:UInt8),(39:UInt8),(33:UInt8),(30:UInt8),(24:UInt8),(18:UInt8),(12:UInt8),(5:UInt8),(63:UInt8),(55:UInt8),(48:UInt8),(27:UInt8),(60:UInt8),(41:UInt8),(37:UInt8),(16:UInt8),(46:UInt8),(35:UInt8),(44:UInt8),(21:UInt8),(52:UInt8),(32:UInt8),(23:UInt8),(11:UInt8),(54:UInt8),(26:UInt8),(40:UInt8),(15:UInt8),(34:UInt8),(20:UInt8),(31:UInt8),(10:UInt8),(25:UInt8),(14:UInt8),(19:UInt8),(9:UInt8),(13:UInt8),(8:UInt8),(7:UInt8),(6:UInt8)]:LB) (GI.toZ (Ce (Bj (Eb a (rF a)) 285870213051353865) (GI.toZ (58:UInt64)).toNat))).bind λb=>
some (Ae b:Int)
abbrev Il:=Option (Int×Int×Int)
def J5:Il:=
some (0,0,24)
def jF:=J5
def oM(j10:Il):Il:=
j10
def oR:=oM jF
def XY(j9:Il)(f a:Int):Il:=
if(geq f 48)then
some (f,(Ad 0 (Ad a f)),0)
else
j9
def XA:=XY oR
def XX(j8:Int->Int->Il)(f b a:Int):Il:=
if(Bt f (Eo 48 (Ak b a)))then
some (f,(Ad (Ad (0:Int) (1:Int)) (Ad a f)),0)
else
j8 f a
def WV:=XX XA
def YG(j7:Int->Int->Int->Il)(h:Int)(k:UInt64)(a:Int)(g:LB)(b:Int):Il:=
if(Bd h 0)then
some (0,0,h)
else
(Gn (I3 k)).bind λf=>
j7 f b a
def YF:=YG WV
def Zl(j6:Int->UInt64->Int->LB->Int->Il)(g:LB)(b a:Int):Il:=
(Kh g b).bind λm=>
if(Bd m 0)then
some (0,0,m)
else
if(Bt a 0)then
some (0,0,2)
else
if(Je a b)then
some (0,0,24)
else
(
(
(FW g b a (Eo 48 (Ak b a))).bind λ(k,h)=>
j6 h k a g b))
def IM:=Zl YF
abbrev iG:=Option (UInt32×Int×Int)
def dG(a b f:Int)(g:LB)(h k:Int):iG:=
(FW g h b k).bind λ(m,n)=>
if(Bd n 0)then
some (0,0,n)
else
if(Bt f 48)then
(Hj (Je a 0)).bind λ_=>
some ((xL (Du (Ae f:UInt32) (GI.toZ a).toNat) (Ae m:UInt32)),(Ad b k),0)
else
(QQ (Ae m:UInt32) a).bind λu=>
if(!u)then
some (0,0,12)
else
some ((Ae m:UInt32),(Ad b k),0)
def QW:=dG
def bO(j2:Int->Int->Int->LB->Int->Int->iG)(g:LB)(h v a:Int):iG:=
(Kh g h).bind λo=>
if(Bd o 0)then
some (0,0,o)
else
if((Bt a 0)||(Dx a 24))then
some (0,0,2)
else
(IM g h v).bind λ(f,b,p)=>
if(Bd p 0)then
some (0,0,p)
else
if(geq f 48)then
j2 a b f g h 32
else
j2 a b f g h a
def mE:=bO QW
abbrev Ld:=Option (UInt32×Int×Int×Int×UInt64×UInt64×Int)
def oP(f:UInt32)(k w m:Int)(a n:UInt64):Ld:=
some (f,k,w,m,(Ad a (Ak (Ae f:UInt64) (Ce a (GI.toZ (4:UInt64)).toNat))),n,0)
def XI:=oP
def cR(j10:UInt32->Int->Int->Int->UInt64->UInt64->Ld)(f:UInt32)(k m:Int)(a n:UInt64)(w:Int):Ld:=
j10 f k w m a n
def bY:=cR XI
def dQ(j9:UInt32->Int->Int->UInt64->UInt64->Int->Ld)(f:UInt32)(k b:Int)(a:UInt64)(m:Int)(n:UInt64):Ld:=
if(Dx b 0)then
(Hj (Je b 0)).bind λ_=>
if(Bt (Ad a (Ak (Ae f:UInt64) (Ce a (GI.toZ (4:UInt64)).toNat))) (Du (16:UInt64) (GI.toZ b).toNat))then
j9 f k m a n (Ak b 1)
else
if(Bt b 24)then
(Hj (Je b 0)).bind λ_=>
if(Dx (Ad a (Ak (Ae f:UInt64) (Ce a (GI.toZ (4:UInt64)).toNat))) (Du (32:UInt64) (GI.toZ b).toNat))then
j9 f k m a n (Ad b 1)
else
j9 f k m a n b
else
j9 f k m a n b
else
if(Bt b 24)then
(Hj (Je b 0)).bind λ_=>
if(Dx (Ad a (Ak (Ae f:UInt64) (Ce a (GI.toZ (4:UInt64)).toNat))) (Du (32:UInt64) (GI.toZ b).toNat))then
j9 f k m a n (Ad b 1)
else
j9 f k m a n b
else
j9 f k m a n b
def ES:=dQ bY
def bG(j8:UInt32->Int->Int->UInt64->Int->UInt64->Ld)(b h:Int)(a g:UInt64)(f:UInt32)(k:Int):Ld:=
(IK b h a g f).bind λ(ad,o)=>
if(geq ad 1)then
if(Dx h 0)then
(Hj (Je h 0)).bind λ_=>
if(Bt (Ad g (Ak (Ae o:UInt64) (Ce g (GI.toZ (4:UInt64)).toNat))) (Du (16:UInt64) (GI.toZ h).toNat))then
j8 f k b a (Ak h 1) (Ad g (Ak (Ae o:UInt64) (Ce g (GI.toZ (4:UInt64)).toNat)))
else
if(Bt h 24)then
(Hj (Je h 0)).bind λ_=>
if(Dx (Ad g (Ak (Ae o:UInt64) (Ce g (GI.toZ (4:UInt64)).toNat))) (Du (32:UInt64) (GI.toZ h).toNat))then
j8 f k b a (Ad h 1) (Ad g (Ak (Ae o:UInt64) (Ce g (GI.toZ (4:UInt64)).toNat)))
else
j8 f k b a h (Ad g (Ak (Ae o:UInt64) (Ce g (GI.toZ (4:UInt64)).toNat)))
else
j8 f k b a h (Ad g (Ak (Ae o:UInt64) (Ce g (GI.toZ (4:UInt64)).toNat)))
else
if(Bt h 24)then
(Hj (Je h 0)).bind λ_=>
if(Dx (Ad g (Ak (Ae o:UInt64) (Ce g (GI.toZ (4:UInt64)).toNat))) (Du (32:UInt64) (GI.toZ h).toNat))then
j8 f k b a (Ad h 1) (Ad g (Ak (Ae o:UInt64) (Ce g (GI.toZ (4:UInt64)).toNat)))
else
j8 f k b a h (Ad g (Ak (Ae o:UInt64) (Ce g (GI.toZ (4:UInt64)).toNat)))
else
j8 f k b a h (Ad g (Ak (Ae o:UInt64) (Ce g (GI.toZ (4:UInt64)).toNat)))
else
j8 f k b a h g
def QI:=bG ES
def dD(j7:Int->Int->UInt64->UInt64->UInt32->Int->Ld)(p:Int)(u:LB)(v b h:Int)(a g:UInt64):Ld:=
(FW u v p 1).bind λ(ae,aa)=>
if(Bd aa 0)then
some (0,0,0,0,0,0,aa)
else
if(geq ae 0)then
(FW u v (Ad p 1) b).bind λ(af,ab)=>
if(Bd ab 0)then
some (0,0,0,0,0,0,ab)
else
j7 b h a g (Ae af:UInt32) (Ad (Ad p 1) b)
else
(mE u v (Ad p 1) h).bind λ(y,ag,ac)=>
if(Bd ac 0)then
some (0,0,0,0,0,0,ac)
else
(Hj (Je b 0)).bind λ_=>
if(Bt (Ad y (Du (1:UInt32) (GI.toZ b).toNat)) y)then
some (0,0,0,0,0,0,12)
else
j7 b h a g (Ad y (Du (1:UInt32) (GI.toZ b).toNat)) ag
def dE:=dD QI
def cW(j6:Int->LB->Int->Int->Int->UInt64->UInt64->Ld)(u:LB)(v p b h:Int)(a g:UInt64):Ld:=
(Kh u v).bind λah=>
if(Bd ah 0)then
some (0,0,0,0,0,0,8)
else
(UH b h a g).bind λai=>
if(Bd ai 0)then
some (0,0,0,0,0,0,8)
else
j6 p u v b h a g
def IY:=cW dE
abbrev Bw:=Option (LU×Int×Int)
def pA(k:Int)(m:LU):Bw:=
some (m,k,0)
def SU:=pA
def RW(Hg:Int->Int-> (List (Int×Int×UInt64×UInt64×Unit))->LU->Bw)(a f:Int)(g:LB)(b k v:Int)(w:UInt32)(h:Int)(ag:List (Int×Int×UInt64×UInt64×Unit))(m:LU):Bw:=
(De m ([w]:LU)).bind λak=>
Hg (Ad k v) (Ad h 1) ag ak
def AQ Hg:=RW Hg
def Tc(j22:Int->Int->UInt32->Int-> (List (Int×Int×UInt64×UInt64×Unit))->LU->Bw)(a f:Int)(g:LB)(b k h y:Int)(w:UInt32)(v:Int)(n:List (Int×Int×UInt64×UInt64×Unit))(m:LU)(aa ab:Int)(ac ad:UInt64):Bw:=
if(Bd y 0)then
some (([]:LU),0,y)
else
(Hj (Bd a 0)).bind λ_=>
(Am n (Fl h a)).bind λ_=>
(Le n (Fl h a) (aa,ab,ac,ad,())).bind λag=>
j22 k v w h ag m
def Sk Hg a f g b:=Tc (AQ Hg a f g b) a f g b
def Rr(j21:Int->Int->Int->UInt32->Int-> (List (Int×Int×UInt64×UInt64×Unit))->LU->Int->Int->UInt64->UInt64->Bw)(j24:Int->LU->Bw)(a f:Int)(g:LB)(b k h:Int)(n:List (Int×Int×UInt64×UInt64×Unit))(m:LU):Bw:=
if(Bt h (Bj f a))then
(lC g b k (Eo (Ad k 81) b)).bind λ(ah,ae,af)=>
if(Bd af 0)then
some (([]:LU),0,af)
else
(Hj (Bd a 0)).bind λ_=>
(Am n (Fl h a)).bind λ_=>
(
(
(Am n (Fl h a)).bind λp=>
(
(IY ah ae 0 p.1 p.2.1 p.2.2.1 p.2.2.2.1).bind λ(w,v,aa,ab,ac,ad,y)=>
j21 k h y w v n m aa ab ac ad)))
else
j24 k m
def Nc(a f:Int)(g:LB)(b:Int):Nat->Int->Int-> (List (Int×Int×UInt64×UInt64×Unit))->LU->Bw
|0,_,_,_,_=>none
|q+1,k,h,n,m=>Rr (Sk (Nc a f g b q) a f g b) SU a f g b k h n m
def UM a f g b:=Nc a f g b Ar
def RL(j16:Int->Int->LB->Int->Int->Int-> (List (Int×Int×UInt64×UInt64×Unit))->LU->Bw)(a f:Int)(g:LB)(b:Int)(o:List (Int×Int×UInt64×UInt64×Unit)):Bw:=
j16 a f g b 0 0 o ([]:LU)
def AS:=RL UM
def TA(j15:Int->Int->LB->Int-> (List (Int×Int×UInt64×UInt64×Unit))->Bw)(Anw:Int-> (List (Int×Int×UInt64×UInt64×Unit))->Bw)(a f:Int)(g:LB)(b u:Int)(o:List (Int×Int×UInt64×UInt64×Unit)):Bw:=
if(Bt u 6)then
(pF).bind λ(al,ae,af,am)=>
(Am o u).bind λ_=>
(Le o u (al,ae,af,am,())).bind λan=>
Anw (Ad u 1) an
else
j15 a f g b o
def AY(a f:Int)(g:LB)(b:Int):Nat->Int-> (List (Int×Int×UInt64×UInt64×Unit))->Bw
|0,_,_=>none
|q+1,u,o=>TA AS (AY a f g b q) a f g b u o
def Td a f g b:=AY a f g b Ar
def DC(j13:Int->Int->LB->Int->Int-> (List (Int×Int×UInt64×UInt64×Unit))->Bw)(a f:Int)(g:LB)(b:Int):Bw:=
j13 a f g b 0 (List.replicate 6 ((0:Int),(0:Int),(0:UInt64),(0:UInt64),()))
def EF:=DC Td
def Xr(a:UInt32):Option Int32:=
some (Xq (Ae (Ce a (GI.toZ (1:UInt64)).toNat):Int32) (rF (Ae (Eb a 1):Int32)))
def lI(b:Int)(f g:LX)(a:Int32):Option (Int32×Int×LX×LX×Int):=
(TE b f g).bind λ(h,k)=>
if(Bd k 0)then
some (0,0,(List.replicate 16 (0:Int32)),(List.replicate 16 (0:Int32)),k)
else
(dI b f g (Ad a h) a).bind λ(m,n,o)=>
some ((Ad a h),m,n,o,0)
def Lm(a:Int)(b:Int32)(f:Int)(g h:LX)(o:Int32):Option (Int32×Int×Int32×Int×LX×LX×Int):=
(Wf a b f g h).bind λk=>
if(Bd k 0)then
some (0,0,0,0,(List.replicate 16 (0:Int32)),(List.replicate 16 (0:Int32)),k)
else
(Wo a b).bind λ(m,y)=>
(lI f g h o).bind λ(n,p,u,v,w)=>
(
some ((Ad n m),a,(Ad n m),p,u,v,w))
abbrev Gu:=Option (LX×Int)
def mi(f:LX):Gu:=
some (f,0)
def sC:=mi
def tB(Zv:Int->LX->Gu)(b a:Int)(h:LX):Gu:=
Zv (Ad a b) h
def dB Zv:=tB Zv
def QP(j20:Int->LX->Gu)(R6:Int->LX->Gu)(b a g:Int)(h:LX):Gu:=
if(Je g 0)then
(Hj (decide (0<= (Ad g 1)/\ (Ad g 1)<((Ad a b)-a)))).bind λ_=>
(Hj (decide (0<=g/\g<((Ad a b)-a)))).bind λ_=>
(Am h (a+(Ad g 1))).bind λo=>
(Am h (a+g)).bind λp=>
(Hj (decide (0<=g/\g<((Ad a b)-a)))).bind λ_=>
(Le h (a+g) (Ak o p)).bind λu=>
R6 (Ak g 1) u
else
j20 a h
def Xx(Zv:Int->LX->Gu)(b a:Int):Nat->Int->LX->Gu
|0,_,_=>none
|q+1,g,h=>QP (dB Zv b) (Xx Zv b a q) b a g h
def cS Zv b a:=Xx Zv b a Ar
def cV(j18:Int->Int->LX->Gu)(b a:Int)(k:LX):Gu:=
j18 a (Ak (Ak ((Ad a b)-a) 1) 1) k
def QS Zv b:=cV (cS Zv b) b
def dM(j17:Int->LX->Gu)(j22:LX->Gu)(b a:Int)(f:LX):Gu:=
if(Bt a (Ac f))then
(nC (Ac f) a (Ad a b)).bind λ_=>
if(Dx (Ak ((Ad a b)-a) 1) 0)then
(Hj (decide (0<= (Ak ((Ad a b)-a) 1)/\ (Ak ((Ad a b)-a) 1)<((Ad a b)-a)))).bind λ_=>
Option.bind (Hj (decide (0<= (Ak (Ak ((Ad a b)-a) 1) 1)/\ (Ak (Ak ((Ad a b)-a) 1) 1)<((Ad a b)-a)))) λ_=>
(Am f (a+(Ak ((Ad a b)-a) 1))).bind λv=>
(Am f (a+(Ak (Ak ((Ad a b)-a) 1) 1))).bind λw=>
(Hj (decide (0<= (Ak ((Ad a b)-a) 1)/\ (Ak ((Ad a b)-a) 1)<((Ad a b)-a)))).bind λ_=>
(Le f (a+(Ak ((Ad a b)-a) 1)) (Ad v (By w 2))).bind λy=>
j17 a y
else
j17 a f
else
j22 f
def So(b:Int):Nat->Int->LX->Gu
|0,_,_=>none
|q+1,a,f=>dM (QS (So b q) b) sC b a f
def bK b:=So b Ar
def lM(j12:Int->Int->LX->Gu)(b:Int)(m:LX):Gu:=
(aV b m).bind λn=>
if(Bd n 0)then
some (([]:LX),n)
else
(Dw m).bind λaa=>
j12 b 0 aa
def rP:=lM bK
abbrev Cf:=Option (LX×Int)
def PC(a b:Int)(k:LX):Cf:=
(rP a k).bind λ(ah,af)=>
if(Bd af 0)then
some (([]:LX),af)
else
(Rk b ah).bind λae=>
if(Bd ae 0)then
some (([]:LX),ae)
else
some (ah,0)
def Mc:=PC
def PU(Anw:Int-> (List (Int×Int32×(Int×LX×LX×Unit)×Unit))->LX->Cf)(a:Int)(f:LU)(b g:Int)(w:Int32)(u:Int)(h:List (Int×Int32×(Int×LX×LX×Unit)×Unit))(k:LX)(y:Int)(v:Int32)(aa:Int)(ab ac:LX):Cf:=
if(Bd u 0)then
some (([]:LX),u)
else
(Le h (Fl g a) (y,v,(aa,ab,ac,()),())).bind λai=>
(De k ([w]:LX)).bind λaj=>
Anw (Ad g 1) ai aj
def Yx Anw:=PU Anw
def Md(j16:Int->Int32->Int-> (List (Int×Int32×(Int×LX×LX×Unit)×Unit))->LX->Int->Int32->Int->LX->LX->Cf)(j18:Int->Int->LX->Cf)(f:LU)(a b g:Int)(h:List (Int×Int32×(Int×LX×LX×Unit)×Unit))(k:LX):Cf:=
if(Bt g (Ac f))then
(Am f g).bind λag=>
(Hj (Bd a 0)).bind λ_=>
(Am h (Fl g a)).bind λ_=>
(
(Am h (Fl g a)).bind λm=>
(
(Xr ag).bind λae=>
(
(Lm m.1 m.2.1 m.2.2.1.1 m.2.2.1.2.1 m.2.2.1.2.2.1 ae).bind λ(w,y,v,aa,ab,ac,u)=>
j16 g w u h k y v aa ab ac)))
else
j18 a b k
def Iz(f:LU)(a b:Int):Nat->Int-> (List (Int×Int32×(Int×LX×LX×Unit)×Unit))->LX->Cf
|0,_,_,_=>none
|q+1,g,h,k=>Md (Yx (Iz f a b q) a f b) Mc f a b g h k
def PT f a b:=Iz f a b Ar
def PD(j13:LU->Int->Int->Int-> (List (Int×Int32×(Int×LX×LX×Unit)×Unit))->LX->Cf)(f:LU)(a b:Int)(n:List (Int×Int32×(Int×LX×LX×Unit)×Unit)):Cf:=
j13 f a b 0 n ([]:LX)
def Yd:=PD PT
def OW(j12:LU->Int->Int-> (List (Int×Int32×(Int×LX×LX×Unit)×Unit))->Cf)(Aeb:Int-> (List (Int×Int32×(Int×LX×LX×Unit)×Unit))->Cf)(f:LU)(a b:Int)(o:LX)(p:Int)(n:List (Int×Int32×(Int×LX×LX×Unit)×Unit)):Cf:=
if(Bt p 6)then
(vF b o).bind λ(ak,af,ae,al,am,v)=>
(Am n p).bind λ_=>
(Le n p (ak,af,(ae,al,am,()),())).bind λan=>
Aeb (Ad p 1) an
else
j12 f a b n
def Zc(f:LU)(a b:Int)(o:LX):Nat->Int-> (List (Int×Int32×(Int×LX×LX×Unit)×Unit))->Cf
|0,_,_=>none
|q+1,p,n=>OW Yd (Zc f a b o q) f a b o p n
def Qe f a b o:=Zc f a b o Ar
def AM(j10:LU->Int->Int->LX->Int-> (List (Int×Int32×(Int×LX×LX×Unit)×Unit))->Cf)(a b:Int)(o:LX)(f:LU):Cf:=
j10 f a b o 0 (List.replicate 6 ((0:Int),(0:Int32),((0:Int),(List.replicate 16 (0:Int32)),(List.replicate 16 (0:Int32)),()),()))
def Th:=AM Qe
def Nq(a h:Int)(u:LX)(f:Int)(v:LB):Option (LX×Int):=
(Pq a h).bind λk=>
if(Bd k 0)then
some (([]:LX),k)
else
if(Bt f 1)then
some (([]:LX),2)
else
(Hj (Bd a 0)).bind λ_=>
if(Dx f (By 4000 a))then
some (([]:LX),2)
else
(DM v).bind λ(w,m)=>
if(Bd m 0)then
some (([]:LX),m)
else
(ig w).bind λ(n,b,o)=>
if(Bd o 0)then
some (([]:LX),o)
else
(EF a f n b).bind λ(y,g,p)=>
if(Bd p 0)then
some (([]:LX),p)
else
if(Je (Ak b g) 8)then
some (([]:LX),12)
else
(FW n b g (Ak b g)).bind λ(aa,ab)=>
if((Bd ab 0)||(Bd aa 0))then
some (([]:LX),12)
else
(Th a h u y).bind λ(ac,ad)=>
some (ac,ad)
abbrev Dl:=Option (LB×Int)
def yE(g:LB):Dl:=
some (g,0)
def fG:=yE
def eG(Hg:Int->LB->Dl)(b:Int)(a:LX)(f:Int)(h:LB):Dl:=
Hg (Ad f 1) h
def OH Hg:=eG Hg
def AA(j28:Int->LB->Dl)(Aec:Int->LB->Dl)(b:Int)(a:LX)(k:Int32)(f m:Int)(h:LB):Dl:=
if(Bt m (By b 8))then
(Hj (Je (Bj 8 m) 0)).bind λ_=>
(De h ([(Ae (Ce k (GI.toZ (Bj 8 m)).toNat):UInt8)]:LB)).bind λp=>
Aec (Ad m 1) p
else
j28 f h
def Jb(Hg:Int->LB->Dl)(b:Int)(a:LX)(k:Int32)(f:Int):Nat->Int->LB->Dl
|0,_,_=>none
|q+1,m,h=>AA (OH Hg b a) (Jb Hg b a k f q) b a k f m h
def NT Hg b a k f:=Jb Hg b a k f Ar
def NY(j26:Int32->Int->Int->LB->Dl)(b:Int)(a:LX)(f:Int)(g:LB)(k:Int32):Dl:=
j26 k f 0 g
def Ll Hg b a:=NY (NT Hg b a) b a
def Zz(j25:Int->LB->Int32->Dl)(j30:LB->Dl)(b:Int)(a:LX)(f:Int)(g:LB):Dl:=
if(Bt f (Ac a))then
(Am a f).bind λn=>
if(geq b 8)then
j25 f g (Ad n 128)
else
j25 f g n
else
j30 g
def Gd(b:Int)(a:LX):Nat->Int->LB->Dl
|0,_,_=>none
|q+1,f,g=>Zz (Ll (Gd b a q) b a) fG b a f g
def fI b a:=Gd b a Ar
def UB(j16:Int->LX->Int->LB->Dl)(b:Int)(a:LX):Dl:=
(Rk b a).bind λo=>
if(Bd o 0)then
some (([]:LB),o)
else
j16 b a 0 ([]:LB)
def Rj:=UB fI
def Zr:Option Int:=
some (-1:Int)
def Mn:=Zr
def Ed(j6:Option Int)(Ou:Int->Option Int)(a:LI)(b f:Int):Option Int:=
if(Bt f (Ac a))then
(Am a f).bind λg=>
if(geq b g)then
some f
else
Ou (Ad f 1)
else
j6
def Br(a:LI)(b:Int):Nat->Int->Option Int
|0,_=>none
|q+1,f=>Ed Mn (Br a b q) a b f
def Gz a b:=Br a b Ar
def He(j4:LI->Int->Int->Option Int)(a:LI)(b:Int):Option Int:=
j4 a b 0
def Ip:=He Gz
def Hb(a:LI)(b:Int):Option Bool:=
(Ip a b).bind λf=>
some (Je f 0)
def Px(a:Int):Option Bool:=
(Hb ([(4:Int),(12:Int),(16:Int),(22:Int),(24:Int),(26:Int),(38:Int)]:LI) a).bind λb=>
some b
def UW(bi:Bool):Option Int:=
if(!bi)then
some 8
else
some 0
def Bl:=UW
def FF(j22:Bool->Option Int):Option Int:=
j22 ((true==true)&&((geq (0:Int) (0:Int))&&true))
def Uu:=FF Bl
def DW(j22:Bool->Option Int)(bj:Bool)(bk:Int):Option Int:=
j22 ((bj==true)&&((geq bk 0)&&true))
def Ee:=DW Bl
def EI(j13:Bool->Int->Option Int)(g ak:LB)(ae af aa ag ab b:Int)(m:Bool)(n:Int)(f:LI)(h:LB):Option Int:=
(Nb ae af aa ag ab g).bind λdm=>
(Ah dm).bind λ(dn,am)=>
j13 dn am
def Vn:=EI Ee
def FA(j22:Bool->Option Int)(bl:Bool)(bm:Int):Option Int:=
j22 ((bl==true)&&((geq bm 0)&&true))
def Ig:=FA Bl
def DB(j25:Bool->Int->Option Int)(g a:LB)(k p o u v b:Int)(m:Bool)(n:Int)(f:LI)(h:LB)(bg:Int):Option Int:=
(Dn k p o u v).bind λ(dp,bh)=>
if(Bd bh 0)then
(Ah bh).bind λ(an,bn)=>
j25 an bn
else
(Bf a bg (Ac a)).bind λdq=>
(JB dq (Ac dp)).bind λ(dr,aa)=>
if(geq aa 24)then
j25 true 0
else
if(Bd aa 0)then
(Ah aa).bind λ(ds,ab)=>
j25 ds ab
else
(Bf a (Ad (Ad bg (Bj 4 (Ac dr))) 4) (Ac a)).bind λfc=>
j25 false 0
def It:=DB Ig
def GO(j25:Bool->Int->Option Int)(j24:LB->LB->Int->Int->Int->Int->Int->Int->Bool->Int->LI->LB->Int->Option Int)(bd:Bool)(bc:Int)(g a:LB)(k p o u v b:Int)(m:Bool)(n:Int)(f:LI)(h:LB):Option Int:=
if(Bd bc 0)then
(Ah bc).bind λ(dt,bh)=>
j25 dt bh
else
if(!bd)then
(Ah 26).bind λ(an,bn)=>
j25 an bn
else
j24 g a k p o u v b m n f h 8
def GX:=GO Ig It
def GZ(j15:Bool->Int->LB->LB->Int->Int->Int->Int->Int->Int->Bool->Int->LI->LB->Option Int)(g a:LB)(k p o u v b:Int)(m:Bool)(n:Int)(f:LI)(h:LB):Option Int:=
(Bf a 0 8).bind λdu=>
(Xn du g).bind λ(bd,bc)=>
j15 bd bc g a k p o u v b m n f h
def Vm:=GZ GX
def FG(j22:Bool->Option Int)(bp:Bool)(bq:Int):Option Int:=
j22 ((bp==true)&&((geq bq 0)&&true))
def Gw:=FG Bl
def Uo(j28:Bool->Int->Option Int)(w ah:Int)(g a:LB)(k p o u v b:Int)(m:Bool)(n:Int)(ao:LX)(f:LI)(h:LB):Option Int:=
if(Bd ah 0)then
(Ah ah).bind λ(br,bs)=>
j28 br bs
else
(Rj o ao).bind λ(bt,be)=>
if(Bd be 0)then
(Ah be).bind λ(bu,bv)=>
j28 bu bv
else
(De h bt).bind λdv=>
(
(Bf a w (Ac a)).bind λdw=>
j28 false 0)
def GM:=Uo Gw
def GL(j27:Int->Int->LB->LB->Int->Int->Int->Int->Int->Int->Bool->Int->LX->LI->LB->Option Int)(w:Int)(g a:LB)(k p o u v b:Int)(m:Bool)(n:Int)(ap:LX)(ad f:LI)(h:LB):Option Int:=
(Am ad b).bind λ_=>
(Bf a 0 w).bind λdx=>
(Am ad b).bind λdy=>
(Zn k p o u v).bind λ(dz,bf)=>
(Nq dz bf ap dy dx).bind λ(ao,ah)=>
j27 w ah g a k p o u v b m n ao f h
def Uw:=GL GM
def Xz(j13:Bool->Int->Option Int)(j12:LB->LB->Int->Int->Int->Int->Int->Int->Bool->Int->LI->LB->Option Int)(j25:Bool->Int->Option Int)(j23:LB->LB->Int->Int->Int->Int->Int->Int->Bool->Int->LI->LB->Option Int)(j24:LB->LB->Int->Int->Int->Int->Int->Int->Bool->Int->LI->LB->Int->Option Int)(j28:Bool->Int->Option Int)(j26:Int->LB->LB->Int->Int->Int->Int->Int->Int->Bool->Int->LX->LI->LI->LB->Option Int)(j22:Bool->Option Int)(j21:Option Int)(aq ar:LB)(au av aw ax ay:Int)(az:LI)(ai:Int)(aj:LB)(ac:Bool)(y:Int):Option Int:=
if(Dx (Ac aq) 64)then
some 8
else
if((geq y 0)&&(!ac))then
(Dt aq ar au av aw ax ay az ai aj ac y).bind λ(g,a,k,p,o,u,v,f,b,h,m,n)=>
(Xk aq ar au av aw ax ay az ai aj ac y).bind λbw=>
if bw then
if(geq k 0)then
(Jd a).bind λ(al,ba)=>
if(geq ba 24)then
j13 true 0
else
if(Bd ba 0)then
(Ah ba).bind λ(bx,bz)=>
j13 bx bz
else
(Bf a al (Ac a)).bind λda=>
(Pf da).bind λan=>
if an then
j13 true 0
else
(Bf a al (Ac a)).bind λdb=>
(Mm db).bind λ(ae,af,aa,ag,ab,bb)=>
if(geq bb 24)then
j13 true 0
else
if(Bd bb 0)then
(Ah bb).bind λ(dc,dd)=>
j13 dc dd
else
(
(Bf a (Ad al 22) (Ac a)).bind λak=>
(
j12 g ak ae af aa ag ab b m n f h))
else
if(geq (Ac f) 0)then
if(geq k 2)then
if(Bt (Ac a) 8)then
j25 true 0
else
j23 g a k p o u v b m n f h
else
j24 g a k p o u v b m n f h 0
else
if(Bt b (Ac f))then
(Am f b).bind λ_=>
(Am f b).bind λw=>
if(Bt (Ac a) w)then
j28 true 0
else
(Ms g).bind λ(ap,am)=>
if(Bd am 0)then
(Ah am).bind λ(de,df)=>
j28 de df
else
(Dn k p o u v).bind λ(ad,dg)=>
if((Bd dg 0)||(Je b (Ac ad)))then
(Ah 8).bind λ(dh,di)=>
j28 dh di
else
j26 w g a k p o u v b m n ap ad f h
else
if(Dx (Ac a) 4000)then
(Ah 38).bind λ(dj,bf)=>
j22 ((dj==true)&&((geq bf 0)&&true))
else
j21
else
j22 false
else
if((geq (Ac ar) 0)&&(geq (Ac az) 0))then
if((((geq au 0)&&((geq av 0)&&((geq aw 0)&&((geq ax 0)&&((geq ay 0)&&true)))))&&(geq ai 0))&&(xZ (Ac aj) 12000))then
if(geq y 0)then
j22 true
else
if(!ac)then
(Px y).bind λdk=>
j22 dk
else
j22 false
else
j22 false
else
if((false&&(geq ai 0))&&(xZ (Ac aj) 12000))then
if(geq y 0)then
j22 true
else
if(!ac)then
(Px y).bind λdl=>
j22 dl
else
j22 false
else
j22 false
def Pu:=Xz Ee Vn Ig Vm It Gw Uw Bl Uu
def Py(f g:LB)(h k m n o:Int)(p:LI)(u:Int)(v:LB)(b:Bool)(a:Int):Option (LB×LB×Int×Int×Int×Int×Int×LI×Int×LB×Bool×Int×Int):=
(Pu f g h k m n o p u v b a).bind λw=>
if(Bd w 0)then
some (([]:LB),([]:LB),0,0,0,0,0,([]:LI),0,([]:LB),false,0,w)
else
if(Bd a 0)then
(
(
(Dt f g h k m n o p u v b a).bind λ(y,aa,ab,ac,ad,ae,af,ag,ah,ai,aj,ak)=>
(
some (y,aa,ab,ac,ad,ae,af,ag,ah,ai,aj,ak,a))))
else
if b then
(Dt f g h k m n o p u v b a).bind λ(al,am,an,ao,ap,aq,ar,au,av,aw,ax,ay)=>
some (al,am,an,ao,ap,aq,ar,au,av,aw,ax,ay,36)
else
(Dt f g h k m n o p u v b a).bind λ(az,ba,bb,bc,bd,be,bf,bg,bh,bi,bj,bk)=>
some (az,ba,bb,bc,bd,be,bf,bg,bh,bi,bj,bk,0)
def cL(b g:LB)(h k m n o:Int)(p:LI)(u:Int)(f:LB)(v:Bool)(w a:Int):Option (LB×LB×Int×Int×Int×Int×Int×LI×Int×LB×Bool×Int×Int):=
some (b,([]:LB),0,0,0,0,0,([]:LI),0,f,false,a,a)
abbrev Ap:=Option (LB×LB×Int×Int×Int×Int×Int×LI×Int×LB×Bool×Int×Int)
def IJ(QX:LB->Int->Int->Int->Int->Int->Int->LI->LB->Ap)(a:LB)(b:Bool)(f:Int)(ar:LB)(au av aw ax ay az:Int)(bh:Bool)(be:Int)(ba:LI)(bb:LB):Ap:=
if bh then
(Dt a ar au av aw ax ay ba az bb b f).bind λ(fh,fi,fj,bc,bi,ai,fk,fl,fm,fn,fo,aj)=>
some (fh,fi,fj,bc,bi,ai,fk,fl,fm,fn,fo,aj,0)
else
if(Bd be 0)then
(cL a ar au av aw ax ay ba az bb b f be).bind λ(fp,fq,fs,ft,fu,fv,fw,fx,fy,fz,ga,gb,gc)=>
some (fp,fq,fs,ft,fu,fv,fw,fx,fy,fz,ga,gb,gc)
else
QX ar au av aw ax ay az ba bb
def Bv QX:=IJ QX
def ZJ(j71:LB->Int->Int->Int->Int->Int->Int->Bool->Int->LI->LB->Ap)(a:LB)(b:Bool)(f:Int)(g:LB)(m p o u v h:Int)(k:LI)(n:LB):Ap:=
j71 g m p o u v h true 0 k n
def Xt QX a b f:=ZJ (Bv QX a b f) a b f
def aP(j71:LB->Int->Int->Int->Int->Int->Int->Bool->Int->LI->LB->Ap)(a:LB)(b:Bool)(f h:Int)(k:LI)(n:LB)(bj:Bool)(bk:Int)(bl:LB)(bm bn bp bq br:Int):Ap:=
j71 bl bm bn bp bq br h bj bk k n
def Mt QX a b f:=aP (Bv QX a b f) a b f
def JN(j62:Int->LI->LB->Bool->Int->LB->Int->Int->Int->Int->Int->Ap)(a:LB)(b:Bool)(f:Int)(af:LB)(ab ac y ad aa h:Int)(k:LI)(n:LB):Ap:=
(Nb ab ac y ad aa a).bind λgd=>
(Ah gd).bind λ(ge,ak)=>
j62 h k n ge ak af ab ac y ad aa
def Qt QX a b f:=JN (Mt QX a b f) a b f
def YL(j71:LB->Int->Int->Int->Int->Int->Int->Bool->Int->LI->LB->Ap)(a:LB)(b:Bool)(f m p o u v h:Int)(n:LB)(bs:Bool)(bt:Int)(bu:LB)(bv:LI):Ap:=
j71 bu m p o u v h bs bt bv n
def Ke QX a b f:=YL (Bv QX a b f) a b f
def JO(j75:Int->Int->Int->Int->Int->Int->LB->Bool->Int->LB->LI->Ap)(a:LB)(b:Bool)(f:Int)(g:LB)(m p o u v h:Int)(k:LI)(n:LB)(bf:Int):Ap:=
(Dn m p o u v).bind λ(gf,bg)=>
if(Bd bg 0)then
(Ah bg).bind λ(al,bw)=>
j75 m p o u v h n al bw g k
else
(Bf g bf (Ac g)).bind λgg=>
(JB gg (Ac gf)).bind λ(dw,y)=>
if(geq y 24)then
j75 m p o u v h n true 0 g k
else
if(Bd y 0)then
(Ah y).bind λ(gh,aa)=>
j75 m p o u v h n gh aa g k
else
(Bf g (Ad (Ad bf (Bj 4 (Ac dw))) 4) (Ac g)).bind λgi=>
j75 m p o u v h n false 0 gi dw
def Ko QX a b f:=JO (Ke QX a b f) a b f
def JF(j75:Int->Int->Int->Int->Int->Int->LB->Bool->Int->LB->LI->Ap)(j74:LB->Int->Int->Int->Int->Int->Int->LI->LB->Int->Ap)(a:LB)(b:Bool)(f:Int)(bd:Bool)(aq:Int)(g:LB)(m p o u v h:Int)(k:LI)(n:LB):Ap:=
if(Bd aq 0)then
(Ah aq).bind λ(gj,bg)=>
j75 m p o u v h n gj bg g k
else
if(!bd)then
(Ah 26).bind λ(al,bw)=>
j75 m p o u v h n al bw g k
else
j74 g m p o u v h k n 8
def IU QX a b f:=JF (Ke QX a b f) (Ko QX a b f) a b f
def IL(j64:Bool->Int->LB->Int->Int->Int->Int->Int->Int->LI->LB->Ap)(a:LB)(b:Bool)(f:Int)(g:LB)(m p o u v h:Int)(k:LI)(n:LB):Ap:=
(Bf g 0 8).bind λgk=>
(Xn gk a).bind λ(bd,aq)=>
j64 bd aq g m p o u v h k n
def Qv QX a b f:=IL (IU QX a b f) a b f
def aY(j71:LB->Int->Int->Int->Int->Int->Int->Bool->Int->LI->LB->Ap)(a:LB)(b:Bool)(f m p o u v:Int)(k:LI)(bx:Bool)(bz:Int)(da:LB)(db:Int)(dc:LB):Ap:=
j71 da m p o u v db bx bz k dc
def Mq QX a b f:=aY (Bv QX a b f) a b f
def Xm(j78:Int->Int->Int->Int->Int->LI->Bool->Int->LB->Int->LB->Ap)(a:LB)(b:Bool)(f w ag:Int)(g:LB)(m p o u v h:Int)(am:LX)(k:LI)(n:LB):Ap:=
if(Bd ag 0)then
(Ah ag).bind λ(dd,de)=>
j78 m p o u v k dd de g h n
else
(Rj o am).bind λ(df,aj)=>
if(Bd aj 0)then
(Ah aj).bind λ(dg,dh)=>
j78 m p o u v k dg dh g h n
else
(De n df).bind λdi=>
(
(Bf g w (Ac g)).bind λdj=>
j78 m p o u v k false 0 dj (Ad h 1) di)
def JS QX a b f:=Xm (Mq QX a b f) a b f
def JH(j77:Int->Int->LB->Int->Int->Int->Int->Int->Int->LX->LI->LB->Ap)(a:LB)(b:Bool)(f w:Int)(g:LB)(m p o u v h:Int)(an:LX)(ae k:LI)(n:LB):Ap:=
(Am ae h).bind λ_=>
(Bf g 0 w).bind λgl=>
(Am ae h).bind λgm=>
(Zn m p o u v).bind λ(bi,ai)=>
(Nq bi ai an gm gl).bind λ(am,ag)=>
j77 w ag g m p o u v h am k n
def Qk QX a b f:=JH (JS QX a b f) a b f
def Hs(j62:Int->LI->LB->Bool->Int->LB->Int->Int->Int->Int->Int->Ap)(j61:LB->Int->Int->Int->Int->Int->Int->LI->LB->Ap)(j75:Int->Int->Int->Int->Int->Int->LB->Bool->Int->LB->LI->Ap)(j73:LB->Int->Int->Int->Int->Int->Int->LI->LB->Ap)(j74:LB->Int->Int->Int->Int->Int->Int->LI->LB->Int->Ap)(j78:Int->Int->Int->Int->Int->LI->Bool->Int->LB->Int->LB->Ap)(j76:Int->LB->Int->Int->Int->Int->Int->Int->LX->LI->LI->LB->Ap)(j71:LB->Int->Int->Int->Int->Int->Int->Bool->Int->LI->LB->Ap)(j70:LB->Int->Int->Int->Int->Int->Int->LI->LB->Ap)(a:LB)(b:Bool)(f:Int)(g:LB)(m p o u v h:Int)(k:LI)(n:LB):Ap:=
if(geq m 0)then
(Jd g).bind λ(ah,ao)=>
if(geq ao 24)then
j62 h k n true 0 g m p o u v
else
if(Bd ao 0)then
(Ah ao).bind λ(dk,dl)=>
j62 h k n dk dl g m p o u v
else
(Bf g ah (Ac g)).bind λdm=>
(Pf dm).bind λal=>
if al then
j62 h k n true 0 g m p o u v
else
(Bf g ah (Ac g)).bind λdn=>
(Mm dn).bind λ(ab,ac,y,ad,aa,ap)=>
if(geq ap 24)then
j62 h k n true 0 g m p o u v
else
if(Bd ap 0)then
(Ah ap).bind λ(dp,dq)=>
j62 h k n dp dq g m p o u v
else
(
(Bf g (Ad ah 22) (Ac g)).bind λaf=>
(
j61 af ab ac y ad aa h k n))
else
if(geq (Ac k) 0)then
if(geq m 2)then
if(Bt (Ac g) 8)then
j75 m p o u v h n true 0 g k
else
j73 g m p o u v h k n
else
j74 g m p o u v h k n 0
else
if(Bt h (Ac k))then
(Am k h).bind λ_=>
(Am k h).bind λw=>
if(Bt (Ac g) w)then
j78 m p o u v k true 0 g h n
else
(Ms a).bind λ(an,ak)=>
if(Bd ak 0)then
(Ah ak).bind λ(dr,ds)=>
j78 m p o u v k dr ds g h n
else
(Dn m p o u v).bind λ(ae,dt)=>
if((Bd dt 0)||(Je h (Ac ae)))then
(Ah 8).bind λ(du,bc)=>
j78 m p o u v k du bc g h n
else
j76 w g m p o u v h an ae k n
else
if(Dx (Ac g) 4000)then
(Ah 38).bind λ(dv,ai)=>
j71 g m p o u v h dv ai k n
else
j70 g m p o u v h k n
def Az(a:LB)(b:Bool)(f:Int):Nat->LB->Int->Int->Int->Int->Int->Int->LI->LB->Ap
|0,_,_,_,_,_,_,_,_,_=>none
|q+1,g,m,p,o,u,v,h,k,n=>Hs (Mt (Az a b f q) a b f) (Qt (Az a b f q) a b f) (Ke (Az a b f q) a b f) (Qv (Az a b f q) a b f) (Ko (Az a b f q) a b f) (Mq (Az a b f q) a b f) (Qk (Az a b f q) a b f) (Bv (Az a b f q) a b f) (Xt (Az a b f q) a b f) a b f g m p o u v h k n
def YU a b f:=Az a b f Ar
def Zy(j37:LB->Bool->Int->LB->Int->Int->Int->Int->Int->Int->LI->LB->Ap)(gn go:LB)(gp gq gr gs gt:Int)(gu:LI)(gv:Int)(gw:LB)(gx:Bool)(gy:Int)(gz:LB):Ap:=
(Py gn go gp gq gr gs gt gu gv gw gx gy).bind λ(a,dx,dy,dz,fa,fb,fc,fd,fe,ff,b,f,fg)=>
if(Bd fg 0)then
some (a,dx,dy,dz,fa,fb,fc,fd,fe,ff,b,f,fg)
else
(De dx gz).bind λha=>
j37 a b f ha dy dz fa fb fc fe fd ff
def Ry:=Zy YU
abbrev qR:=Option (Int×Int)
def wN(a:LB):qR:=
(Bf a (Ak (Ac a) 32) (Ac a)).bind λg=>
(QY g 0).bind λ(f,y,h)=>
if h then
if(Bt (Ak (Ac a) 32) f)then
some (0,24)
else
some ((Ad f 32),0)
else
(Bf a (Ak (Ac a) 32) (Ac a)).bind λk=>
(QY k 2147483648).bind λ(b,m,n)=>
if(!n)then
some (0,12)
else
if(Bt (Ac a) (Ad b 64))then
some (0,24)
else
(Bf a (Ak (Ac a) (Ad b 64)) (Ad (Ak (Ac a) (Ad b 64)) 32)).bind λo=>
(lY b m 2684354560).bind λp=>
(Fy o p).bind λu=>
if(!u)then
some (0,12)
else
some ((Ad b 64),0)
def kB:=wN
def gZ(j2:LB->qR)(a:LB):qR:=
if(Bt (Ak (Ac a) 32) 0)then
some (0,6)
else
(Bf a (Ak (Ac a) 32) (Ac a)).bind λv=>
(Lp v ([(65:UInt8),(80:UInt8),(69:UInt8),(84:UInt8),(65:UInt8),(71:UInt8),(69:UInt8),(88:UInt8)]:LB)).bind λw=>
if(!w)then
some (0,6)
else
j2 a
def sR:=gZ kB
abbrev Fu:=Option (Int×Int)
def vP(a:Int):Fu:=
some (a,0)
def ZN:=vP
def aU(bk8:Int->LB->Fu)(a:Int)(g:LB):Fu:=
bk8 (Ad a 1) g
def IP bk8:=aU bk8
def IF(j12:Int->LB->Fu)(a f:Int)(b:LB):Fu:=
if(geq f 0)then
some (0,38)
else
(Bf b 0 (Ak (Ac b) f)).bind λg=>
j12 a g
def JL bk8:=IF (IP bk8)
def NS(j11:Int->Int->LB->Fu)(j14:Int->Fu)(a:Int)(b:LB):Fu:=
if(Dx (Ac b) 0)then
(sR b).bind λ(f,k)=>
j11 a f b
else
j14 a
def Tg:Nat->Int->LB->Fu
|0,_,_=>none
|q+1,a,b=>NS (JL (Tg q)) ZN a b
def fD:=Tg Ar
def NI(j8:Int->LB->Fu)(h:LB):Fu:=
if(Dx (Ac h) 4000)then
some (0,38)
else
j8 0 h
def GQ:=NI fD
def EA(p a:LB)(g u v w y:Int)(b:LI)(h:Int)(aa:LB)(ab:Bool)(ac:Int):Option Int:=
if(geq g 0)then
(Jd a).bind λ(k,f)=>
if(Bd f 0)then
some f
else
(Bf a k (Ac a)).bind λm=>
(Mm m).bind λ(ad,ae,af,ag,ah,n)=>
some n
else
if((Bt h (Ac b))||(geq (Ac b) 0))then
some 24
else
(GQ a).bind λ(ai,o)=>
some o
def Wd(aa ab:LB)(ac ad ae af ag:Int)(ah:LI)(ai:Int)(aj:LB)(ak:Bool)(al:Int):Option (LB×LB×Int×Int×Int×Int×Int×LI×Int×LB×Bool×Int×Int):=
(Py aa ab ac ad ae af ag ah ai aj ak al).bind λ(a,f,g,h,k,m,n,o,p,b,u,v,w)=>
if(Bd w 0)then
some (a,f,g,h,k,m,n,o,p,b,u,v,w)
else
(EA a f g h k m n o p b u v).bind λy=>
if(Bd y 0)then
(cL a f g h k m n o p b u v y).bind λ(am,an,ao,ap,aq,ar,au,av,aw,ax,ay,az,ba)=>
some (am,an,ao,ap,aq,ar,au,av,aw,ax,ay,az,ba)
else
some (a,([]:LB),0,0,0,0,0,([]:LI),0,b,true,0,0)
abbrev Hl:=Option (LB×Int)
def EZ(g:LB)(h k m n o p:Int)(u:LB)(v:Bool)(w:Int)(y:LB)(aa:LI):Hl:=
(Wd g y h k m n o aa p u v w).bind λ(bj,ap,bk,bl,ac,ad,ae,bm,af,ab,bn,bp,ar)=>
some (ab,ar)
def Uv:=EZ
def EG(bk7:LB->Int->LB->Int->Int->Int->Int->Int->Int->LB->Bool->Int->LB->LI->Hl)(a:LI)(b:LB)(ag ah f:Int)(aj:LB)(ac ad ae ak af al:Int)(ai:LB)(am:Bool)(an:Int)(ao:LB)(ab:LI):Hl:=
if(Bd ag 0)then
some (ai,ag)
else
(Bf b ah (Ac b)).bind λau=>
bk7 au (Ad f 1) aj ac ad ae ak af al ai am an ao ab
def Vq bk7:=EG bk7
def Xi(j10:LB->Int->Int->Int->LB->Int->Int->Int->Int->Int->Int->LB->Bool->Int->LB->LI->Hl)(j12:LB->Int->Int->Int->Int->Int->Int->LB->Bool->Int->LB->LI->Hl)(a:LI)(b:LB)(f:Int)(g:LB)(h k m n o p:Int)(u:LB)(v:Bool)(w:Int)(y:LB)(aa:LI):Hl:=
if(Bt f (Ac a))then
(Am a f).bind λah=>
(Bf b 0 ah).bind λap=>
(Ry g y h k m n o aa p u v w ap).bind λ(aj,ao,ac,ad,ae,ak,af,ab,al,ai,am,an,ag)=>
j10 b ag ah f aj ac ad ae ak af al ai am an ao ab
else
j12 g h k m n o p u v w y aa
def Kc(a:LI):Nat->LB->Int->LB->Int->Int->Int->Int->Int->Int->LB->Bool->Int->LB->LI->Hl
|0,_,_,_,_,_,_,_,_,_,_,_,_,_,_=>none
|q+1,b,f,g,h,k,m,n,o,p,u,v,w,y,aa=>Xi (Vq (Kc a q) a) Uv a b f g h k m n o p u v w y aa
def ZG a:=Kc a Ar
def Xh(j7:LI->LB->Int->LB->Int->Int->Int->Int->Int->Int->LB->Bool->Int->LB->LI->Hl)(av aw:LB)(a:LI):Hl:=
(BL av).bind λ(ax,ay,az,ba,bb,bc,bd,be,bf,bg,bh,bi,aq)=>
if(Bd aq 0)then
some (([]:LB),aq)
else
j7 a aw 0 ax az ba bb bc bd bf bg bh bi ay be
def Kt:=Xh ZG
def Ic(f a:LB)(g:UInt64):Option (LB×Int):=
(Hc (Ac a) g).bind λ(h,b)=>
if(Bd b 0)then
some (([]:LB),b)
else
(Kt f a h).bind λ(k,m)=>
some (k,m)
abbrev Cn:=Option (Int×Int)
def yI(n:Int):Cn:=
some (n,0)
def fV:=yI
def eJ(Zv:Int->Int->Cn)(g b:LB)(f a:Int)(h:LB)(k m v:Int):Cn:=
Zv v (Ad m 1)
def Oo Zv:=eJ Zv
def OA(j20:Int->Int->Cn)(g b:LB)(f a:Int)(h:LB)(k n o m:Int)(p:LI):Cn:=
(De p ([(Ak (Ac b) o)]:LI)).bind λw=>
(Kt g b w).bind λ(aa,ab)=>
if(Bd ab k)then
j20 m (Ad n 1)
else
(Fy aa h).bind λac=>
if(!ac)then
j20 m (Ad n 1)
else
j20 m n
def OF Zv g b f a h k:=OA (Oo Zv g b f a h k) g b f a h k
def AB(j19:Int->Int->Int->LI->Cn)(Arj:Int->Int->LI->Cn)(g b:LB)(f a:Int)(h:LB)(k n m o u:Int)(p:LI):Cn:=
if(Bt u a)then
(Hj (Je u 0)).bind λ_=>
if(geq (Eb (yC m (GI.toZ u).toNat) 1) 1)then
(De p ([(Ak (Ad (Ad f u) 1) o)]:LI)).bind λw=>
Arj (Ad (Ad f u) 1) (Ad u 1) w
else
Arj o (Ad u 1) p
else
j19 n o m p
def Ot(Zv:Int->Int->Cn)(g b:LB)(f a:Int)(h:LB)(k n m:Int):Nat->Int->Int->LI->Cn
|0,_,_,_=>none
|q+1,o,u,p=>AB (OF Zv g b f a h k) (Ot Zv g b f a h k n m q) g b f a h k n m o u p
def OE Zv g b f a h k n m:=Ot Zv g b f a h k n m Ar
def NL(j17:Int->Int->Int->Int->LI->Cn)(j22:Int->Cn)(g b:LB)(f a:Int)(h:LB)(k n m:Int):Cn:=
if(Bt m (Du (1:Int) (GI.toZ a).toNat))then
j17 n m 0 0 ([]:LI)
else
j22 n
def On(g b:LB)(f a:Int)(h:LB)(k:Int):Nat->Int->Int->Cn
|0,_,_=>none
|q+1,n,m=>NL (OE (On g b f a h k q) g b f a h k) fV g b f a h k n m
def OI g b f a h k:=On g b f a h k Ar
def FK(j12:LB->LB->Int->Int->LB->Int->Int->Int->Cn)(g b:LB)(f a:Int):Cn:=
if(Dx (Ac b) 100000)then
some (0,2)
else
(BL g).bind λ(ad,ae,af,ag,ah,ai,aj,ak,al,am,an,ao,y)=>
if(Bd y 0)then
some (0,y)
else
if(((((Bt a 0)||(Dx a 8))||(Bt f 0))||(Dx f (Ac b)))||(Dx a (Ak (Ac b) f)))then
some (0,2)
else
(Kt g b ([(Ac b)]:LI)).bind λ(h,k)=>
(Hj (Je a 0)).bind λ_=>
j12 g b f a h k 0 0
def Cz:=FK OI
def pH(a b f:Int)(g:LX):Option (Int×Int):=
some (a,b)
def T6(a g f:Int)(h:LX)(b:Int):Option Int:=
(pH a g f h).bind λ(k,m)=>
(Pq k m).bind λn=>
if((Bd n 0)||(Bt b 1))then
some 8
else
(Hj (Bd a 0)).bind λ_=>
if(Dx b (By 4000 a))then
some 8
else
(Tq f b).bind λ(p,o)=>
if(Bd o 0)then
some 8
else
some 0
def JT(a f h:Int)(b:LX):Option Int:=
if(Bt a 1)then
some 8
else
(Hj (Bd a 0)).bind λ_=>
if(Bd (Fl (Ac b) a) 0)then
some 8
else
(Hj (Bd a 0)).bind λ_=>
(T6 a f h b (By (Ac b) a)).bind λg=>
if(Bd g 0)then
some g
else
(Rk f b).bind λk=>
if(Bd k 0)then
some 8
else
some 0
abbrev XP:=Option (Int×Int×Int×Int×Int×Int)
def E6(h:LB)(a b f:Int)(g:LX):XP:=
if(h !=([]:LB))then
some (2,a,b,f,(By (Ac g) a),0)
else
some (1,a,b,f,(By (Ac g) a),0)
def jR:=E6
def SM(j2:LB->Int->Int->Int->LX->XP)(a b f:Int)(g:LX)(h:LB):XP:=
(JT a b f g).bind λk=>
if(Bd k 0)then
some (0,0,0,0,0,k)
else
if(Dx (Ac h) 64)then
some (0,0,0,0,0,2)
else
(Hj (Bd a 0)).bind λ_=>
(
j2 h a b f g)
def wZ:=SM jR
def Wg(a:Int)(b:LX):LI->Int->Option (List LX)
  |[],_=>some []
  |n::l,x=>Option.bind (Bf b x (Ad x (Bj n a))) λp=>Option.bind (Wg a b l (Ad x (Bj n a))) λps=>some (p::ps)
def JZ(a f:Int)(t:LX):List LX->List LB->Option (List LB×Int)
  |[],o=>some (o,0)
  |x::xs,o=>Option.bind (Ri a f t x) λy=>
    if(Bd y.2 0)=true then some ([],y.2)
    else Option.bind (De o [y.1]) λo'=>JZ a f t xs o'
def lE(a h:Int)(b:LX):Option (List LX):=
  Option.bind (Hj (Bd a 0)) λ_=>Option.bind (Wx h (By (Ac b) a)) λl=>Option.bind (Hj (decide (Ac l.1<=17179869184))) λ_=>Wg a b l.1 0
def kD(a f h:Int)(b:LX)(p:LB):Option (List LB×Int):=
  Option.bind (JT a f h b) λe=>
    if(Bd e 0)=true then some ([],e)
    else Option.bind (Ms p) λt=>
      if(Bd t.2 0)=true then some ([],t.2)
      else Option.bind (lE a h b) λxs=>JZ a f t.1 xs []
def nQ(a:LB):Option Int:=
some (Ac a)
def zV(a:LB):Option (LB):=
some a
def kL:=zV
def iX(j6:LB->Option (LB))(Ou:Int->LB->Option (LB))(b:List LB)(f:Int)(a:LB):Option (LB):=
if(Bt f (Ac b))then
(Am b f).bind λg=>
(De a g).bind λh=>
Ou (Ad f 1) h
else
j6 a
def TV(b:List LB):Nat->Int->LB->Option (LB)
|0,_,_=>none
|q+1,f,a=>iX kL (TV b q) b f a
def kU b:=TV b Ar
def iA(j4:(List LB)->Int->LB->Option (LB))(b:List LB):Option (LB):=
j4 b 0 ([]:LB)
def wD:=iA kU
abbrev Eu:=Option (LB×Int)
def yH(k:Int)(a:List LB)(b f n:LB):Eu:=
if(Bd k 0)then
some (([]:LB),k)
else
(De ([b,f,n]:List LB) a).bind λm=>
(wD m).bind λad=>
some (ad,0)
def fP:=yH
def fW(j14:Int-> (List LB)->LB->LB->LB->Eu)(h:LI)(a:List LB)(b f:LB):Eu:=
(WG h).bind λ(n,k)=>
j14 k a b f n
def eB:=fW fP
def yG(bk9:Int->LI->Eu)(a:List LB)(b f:LB)(g:Int)(m:LI):Eu:=
bk9 (Ad g 1) m
def fK bk9:=yG bk9
def kQ(j11:Int->LI->Eu)(j13:LI-> (List LB)->LB->LB->Eu)(a:List LB)(b f:LB)(g:Int)(h:LI):Eu:=
if(Bt g (Ac a))then
(Am a g).bind λ_=>
(Am a g).bind λae=>
(nQ ae).bind λk=>
(Am h g).bind λ_=>
(Le h g k).bind λm=>
j11 g m
else
j13 h a b f
def SV(a:List LB)(b f:LB):Nat->Int->LI->Eu
|0,_,_=>none
|q+1,g,h=>kQ (fK (SV a b f q) a b f) eB a b f g h
def kY a b f:=SV a b f Ar
def kJ(j9:(List LB)->LB->LB->Int->LI->Eu)(a:List LB)(b f:LB):Eu:=
(mkI (Ac a) (0:Int)).bind λaf=>
(Hj (geq (Ac a) (Ac a))).bind λ_=>
j9 a b f 0 af
def lO:=kJ kY
def kM(j8:(List LB)->LB->LB->Eu)(p u v:Int)(w:LX)(o:LB):Eu:=
(wZ p u v w o).bind λ(y,ag,ah,ai,aj,aa)=>
if(Bd aa 0)then
some (([]:LB),aa)
else
(kD p u v w o).bind λ(a,ab)=>
if(Bd ab 0)then
some (([]:LB),ab)
else
(bA y ag ah ai aj).bind λ(b,ac)=>
if(Bd ac 0)then
some (([]:LB),ac)
else
if(geq y 2)then
(Xv o).bind λ(ak,al)=>
j8 a b ak
else
j8 a b ([]:LB)
def wR:=kM lO
def Rp:Option Bool:=
(Kv 1 8 8000 ([]:LB) ([(200:UInt8)]:LB) 0).bind λ(a,b)=>
(Ic ([]:LB) a 18446744073709551615).bind λ(f,g)=>
(Ag 7 10 ([(2:Int),(2:Int),(3:Int)]:LI)).bind λh=>
if h then
(Ag 130 1 ([(1:Int),(64:Int),(64:Int),(1:Int)]:LI)).bind λk=>
some ((((k&&(geq b 0))&&(geq (Ac a) 36))&&(geq g 0))&&(f==([200]:LB)))
else
some ((((false&&(geq b 0))&&(geq (Ac a) 36))&&(geq g 0))&&(f==([200]:LB)))
noncomputable def Vs(a:LB)(f:Bool):Option Bool:=
(IV (λx:Int×UInt64=>Hc x.1 x.2) ((-1:Int),(0:UInt64))).bind λ(di,g)=>
(IV (λx:Int×UInt64=>Hc x.1 x.2) ((100001:Int),(0:UInt64))).bind λ(dj,h)=>
(IV (λx:Int×UInt64=>Hc x.1 x.2) ((100000:Int),(18446744073709551615:UInt64))).bind λ(k,m)=>
(IV (λx:Int×Int×Int×LB×LB×UInt64=>Kv x.1 x.2.1 x.2.2.1 x.2.2.2.1 x.2.2.2.2.1 x.2.2.2.2.2) ((1:Int),(8:Int),(8000:Int),([]:LB),a,(0:UInt64))).bind λ(dk,n)=>
(IV (λx:LB×LB×UInt64=>Ic x.1 x.2.1 x.2.2) (([]:LB),a,(0:UInt64))).bind λ(dl,o)=>
(IV (λx:LB×LB×Int×Int=>Cz x.1 x.2.1 x.2.2.1 x.2.2.2) (([]:LB),a,(0:Int),(0:Int))).bind λ(dm,p)=>
(IV (λx:Int×Int×Int×LB×LB×UInt64=>Kv x.1 x.2.1 x.2.2.1 x.2.2.2.1 x.2.2.2.2.1 x.2.2.2.2.2) ((0:Int),(0:Int),(8000:Int),([]:LB),([]:LB),(0:UInt64))).bind λ(dn,u)=>
(IV (λx:Int×Int×Int×LB×LB×UInt64=>Kv x.1 x.2.1 x.2.2.1 x.2.2.2.1 x.2.2.2.2.1 x.2.2.2.2.2) ((1:Int),(8:Int),(8000:Int),([]:LB),([]:LB),(0:UInt64))).bind λ(dp,v)=>
(Bf a 0 65).bind λw=>
(IV (λx:LB×LB×UInt64=>Ic x.1 x.2.1 x.2.2) (w,([]:LB),(0:UInt64))).bind λ(dq,y)=>
(IV (λx:LB×LB×UInt64=>Ic x.1 x.2.1 x.2.2) (([]:LB),([]:LB),(0:UInt64))).bind λ(dr,aa)=>
(Bf a 0 65).bind λab=>
(IV (λx:LB×LB×Int×Int=>Cz x.1 x.2.1 x.2.2.1 x.2.2.2) (ab,([]:LB),(0:Int),(-1:Int))).bind λ(ds,ac)=>
(Bf a 0 9).bind λad=>
(IV (λx:LB×LB×Int×Int=>Cz x.1 x.2.1 x.2.2.1 x.2.2.2) (([]:LB),ad,(0:Int),(9:Int))).bind λ(dt,ae)=>
(Bf a 0 9).bind λaf=>
(IV (λx:LB×LB×Int×Int=>Cz x.1 x.2.1 x.2.2.1 x.2.2.2) (([]:LB),af,(2:Int),(8:Int))).bind λ(du,ag)=>
(Bf a 0 9).bind λah=>
(IV (λx:LB×LB×Int×Int=>Cz x.1 x.2.1 x.2.2.1 x.2.2.2) (([]:LB),ah,(-1:Int),(1:Int))).bind λ(dv,ai)=>
(Bf a 0 9).bind λaj=>
(IV (λx:LB×LB×Int×Int=>Cz x.1 x.2.1 x.2.2.1 x.2.2.2) (([]:LB),aj,(9223372036854775807:Int),(1:Int))).bind λ(dw,ak)=>
(Bf a 0 9).bind λal=>
(IV (λx:LB×LB×Int×Int=>Cz x.1 x.2.1 x.2.2.1 x.2.2.2) (([]:LB),al,(1:Int),(-1:Int))).bind λ(dx,am)=>
(Bf a 0 9).bind λan=>
(IV (λx:LB×LB×Int×Int=>Cz x.1 x.2.1 x.2.2.1 x.2.2.2) (([]:LB),an,(1:Int),(8:Int))).bind λ(ao,ap)=>
(IV (λx:LB×LB×Int×Int=>Cz x.1 x.2.1 x.2.2.1 x.2.2.2) (([]:LB),([]:LB),(0:Int),(0:Int))).bind λ(aq,ar)=>
(IV (λx:Int×Int×Int×LX×LB=>wR x.1 x.2.1 x.2.2.1 x.2.2.2.1 x.2.2.2.2) ((1:Int),(8:Int),(1:Int),([(1:Int32),(2:Int32)]:LX),([]:LB))).bind λ(b,au)=>
if((Bd au 0)||(Bt (Ac b) 30))then
some false
else
(Am b (Ak (Ac b) 1)).bind λ_=>
(Am b (Ak (Ac b) 1)).bind λav=>
(Am b (Ak (Ac b) 1)).bind λ_=>
(Le b (Ak (Ac b) 1) (Xq av 1)).bind λaw=>
(IV (λx:LB×LB×UInt64=>Ic x.1 x.2.1 x.2.2) (([]:LB),aw,(43690:UInt64))).bind λ(ax,ay)=>
if((((((((((((((((((((((((true&&f)&&(geq g 2))&&(geq h 2))&&(geq m 0))&&(geq (Ac k) 100000))&&(geq n 2))&&(geq o 2))&&(geq p 2))&&(geq u 2))&&(geq v 24))&&(geq y 2))&&(geq aa 24))&&(geq ac 2))&&(geq ae 2))&&(geq ag 2))&&(geq ai 2))&&(geq ak 2))&&(geq am 2))&&(geq ap 0))&&(geq ao 0))&&(geq ar 0))&&(geq aq 0))&&(geq ay 22))&&(ax==([129]:LB)))then
(IV (λ_:Unit=>Rp) ()).bind λaz=>
some az
else
some false
noncomputable def Ml:=Vs
noncomputable def Mk(j2:LB->Bool->Option Bool):Option Bool:=
(mkI (100001:Int) (0:UInt8)).bind λa=>
(Hj (geq (100001:Int) (100001:Int))).bind λ_=>
(IV (λx:Int×UInt64×LI=>Ag x.1 x.2.1 x.2.2) ((0:Int),(255:UInt64),([]:LI))).bind λba=>
if ba then
(IV (λx:Int×UInt64×LI=>Ag x.1 x.2.1 x.2.2) ((1:Int),(255:UInt64),([(1:Int)]:LI))).bind λbb=>
if bb then
(IV (λx:Int×UInt64×LI=>Ag x.1 x.2.1 x.2.2) ((3:Int),(0:UInt64),([(3:Int)]:LI))).bind λbc=>
if bc then
(IV (λx:Int×UInt64×LI=>Ag x.1 x.2.1 x.2.2) ((3:Int),(7:UInt64),([(1:Int),(1:Int),(1:Int)]:LI))).bind λbd=>
if bd then
(IV (λx:Int×UInt64×LI=>Ag x.1 x.2.1 x.2.2) ((65:Int),(9223372036854775808:UInt64),([(64:Int),(1:Int)]:LI))).bind λbe=>
if be then
(IV (λx:Int×UInt64×LI=>Ag x.1 x.2.1 x.2.2) ((64:Int),(9223372036854775808:UInt64),([(64:Int)]:LI))).bind λbf=>
j2 a bf
else
j2 a false
else
if false then
(IV (λx:Int×UInt64×LI=>Ag x.1 x.2.1 x.2.2) ((64:Int),(9223372036854775808:UInt64),([(64:Int)]:LI))).bind λbg=>
j2 a bg
else
j2 a false
else
if false then
(IV (λx:Int×UInt64×LI=>Ag x.1 x.2.1 x.2.2) ((65:Int),(9223372036854775808:UInt64),([(64:Int),(1:Int)]:LI))).bind λbh=>
if bh then
(IV (λx:Int×UInt64×LI=>Ag x.1 x.2.1 x.2.2) ((64:Int),(9223372036854775808:UInt64),([(64:Int)]:LI))).bind λbi=>
j2 a bi
else
j2 a false
else
if false then
(IV (λx:Int×UInt64×LI=>Ag x.1 x.2.1 x.2.2) ((64:Int),(9223372036854775808:UInt64),([(64:Int)]:LI))).bind λbj=>
j2 a bj
else
j2 a false
else
if false then
(IV (λx:Int×UInt64×LI=>Ag x.1 x.2.1 x.2.2) ((3:Int),(7:UInt64),([(1:Int),(1:Int),(1:Int)]:LI))).bind λbk=>
if bk then
(IV (λx:Int×UInt64×LI=>Ag x.1 x.2.1 x.2.2) ((65:Int),(9223372036854775808:UInt64),([(64:Int),(1:Int)]:LI))).bind λbl=>
if bl then
(IV (λx:Int×UInt64×LI=>Ag x.1 x.2.1 x.2.2) ((64:Int),(9223372036854775808:UInt64),([(64:Int)]:LI))).bind λbm=>
j2 a bm
else
j2 a false
else
if false then
(IV (λx:Int×UInt64×LI=>Ag x.1 x.2.1 x.2.2) ((64:Int),(9223372036854775808:UInt64),([(64:Int)]:LI))).bind λbn=>
j2 a bn
else
j2 a false
else
if false then
(IV (λx:Int×UInt64×LI=>Ag x.1 x.2.1 x.2.2) ((65:Int),(9223372036854775808:UInt64),([(64:Int),(1:Int)]:LI))).bind λbp=>
if bp then
(IV (λx:Int×UInt64×LI=>Ag x.1 x.2.1 x.2.2) ((64:Int),(9223372036854775808:UInt64),([(64:Int)]:LI))).bind λbq=>
j2 a bq
else
j2 a false
else
if false then
(IV (λx:Int×UInt64×LI=>Ag x.1 x.2.1 x.2.2) ((64:Int),(9223372036854775808:UInt64),([(64:Int)]:LI))).bind λbr=>
j2 a br
else
j2 a false
else
if false then
(IV (λx:Int×UInt64×LI=>Ag x.1 x.2.1 x.2.2) ((3:Int),(0:UInt64),([(3:Int)]:LI))).bind λbs=>
if bs then
(IV (λx:Int×UInt64×LI=>Ag x.1 x.2.1 x.2.2) ((3:Int),(7:UInt64),([(1:Int),(1:Int),(1:Int)]:LI))).bind λbt=>
if bt then
(IV (λx:Int×UInt64×LI=>Ag x.1 x.2.1 x.2.2) ((65:Int),(9223372036854775808:UInt64),([(64:Int),(1:Int)]:LI))).bind λbu=>
if bu then
(IV (λx:Int×UInt64×LI=>Ag x.1 x.2.1 x.2.2) ((64:Int),(9223372036854775808:UInt64),([(64:Int)]:LI))).bind λbv=>
j2 a bv
else
j2 a false
else
if false then
(IV (λx:Int×UInt64×LI=>Ag x.1 x.2.1 x.2.2) ((64:Int),(9223372036854775808:UInt64),([(64:Int)]:LI))).bind λbw=>
j2 a bw
else
j2 a false
else
if false then
(IV (λx:Int×UInt64×LI=>Ag x.1 x.2.1 x.2.2) ((65:Int),(9223372036854775808:UInt64),([(64:Int),(1:Int)]:LI))).bind λbx=>
if bx then
(IV (λx:Int×UInt64×LI=>Ag x.1 x.2.1 x.2.2) ((64:Int),(9223372036854775808:UInt64),([(64:Int)]:LI))).bind λbz=>
j2 a bz
else
j2 a false
else
if false then
(IV (λx:Int×UInt64×LI=>Ag x.1 x.2.1 x.2.2) ((64:Int),(9223372036854775808:UInt64),([(64:Int)]:LI))).bind λda=>
j2 a da
else
j2 a false
else
if false then
(IV (λx:Int×UInt64×LI=>Ag x.1 x.2.1 x.2.2) ((3:Int),(7:UInt64),([(1:Int),(1:Int),(1:Int)]:LI))).bind λdb=>
if db then
(IV (λx:Int×UInt64×LI=>Ag x.1 x.2.1 x.2.2) ((65:Int),(9223372036854775808:UInt64),([(64:Int),(1:Int)]:LI))).bind λdc=>
if dc then
(IV (λx:Int×UInt64×LI=>Ag x.1 x.2.1 x.2.2) ((64:Int),(9223372036854775808:UInt64),([(64:Int)]:LI))).bind λdd=>
j2 a dd
else
j2 a false
else
if false then
(IV (λx:Int×UInt64×LI=>Ag x.1 x.2.1 x.2.2) ((64:Int),(9223372036854775808:UInt64),([(64:Int)]:LI))).bind λde=>
j2 a de
else
j2 a false
else
if false then
(IV (λx:Int×UInt64×LI=>Ag x.1 x.2.1 x.2.2) ((65:Int),(9223372036854775808:UInt64),([(64:Int),(1:Int)]:LI))).bind λdf=>
if df then
(IV (λx:Int×UInt64×LI=>Ag x.1 x.2.1 x.2.2) ((64:Int),(9223372036854775808:UInt64),([(64:Int)]:LI))).bind λdg=>
j2 a dg
else
j2 a false
else
if false then
(IV (λx:Int×UInt64×LI=>Ag x.1 x.2.1 x.2.2) ((64:Int),(9223372036854775808:UInt64),([(64:Int)]:LI))).bind λdh=>
j2 a dh
else
j2 a false
noncomputable def Ku:=Mk Ml
def ZS(a:LB):Option (LB×LB×Int×Int×Int×Int×Int×LI×Int×LB×Bool×Int×Int):=
if(Dx (Ac a) 64)then
some (([]:LB),([]:LB),0,0,0,0,0,([]:LI),0,([]:LB),false,0,2)
else
some (a,([]:LB),0,0,0,0,0,([]:LI),0,([]:LB),false,0,0)
def Ja(f g b a h:Int):Option Bool:=
if((((geq f 1)||(geq f 2))&&(Je g 1))&&(xZ g 6))then
some ((((((geq b 8)||(geq b 16))||(geq b 24))&&(Je a 1))&&(xZ a 1048576))&&(Je h 1))
else
some (((false&&(Je a 1))&&(xZ a 1048576))&&(Je h 1))
def Ux(a:Int):Option Int:=
some (nJ 1 (By (Bj 256 a) 245))
def Ny(a:LI):Option (LI):=
some a
def Nu:=Ny
def Jp(j6:LI->Option (LI))(Ou:Int->LI->Option (LI))(b f:Int)(a:LI):Option (LI):=
if(Dx f 0)then
(Ux b).bind λg=>
(De a ([(Eo f g)]:LI)).bind λh=>
(Ux b).bind λk=>
Ou (Ak f k) h
else
j6 a
def Fa(b:Int):Nat->Int->LI->Option (LI)
|0,_,_=>none
|q+1,f,a=>Jp Nu (Fa b q) b f a
def HR b:=Fa b Ar
def HI(j4:Int->Int->LI->Option (LI))(b m:Int):Option (LI):=
j4 b m ([]:LI)
def Kj:=HI HR
def Um(h a k f b:Int):Option Bool:=
(
(Hj (Bd a 0)).bind λ_=>
(
if(Dx b (By 4000 a))then
some true
else
(Kj f b).bind λg=>
some (Dx (Ac g) 1000)))
def Kn(a b f g h:Int):Option Int:=
(Ja a b f g h).bind λk=>
if(!k)then
some 8
else
(Um a b f g h).bind λm=>
if m then
some 8
else
some 0
def Ei(a f g h k:Int)(b:LB):Option Int:=
if((b==([]:LB)) !=(geq a 1))then
some 26
else
some 0
def FQ(b:Int):Option Int:=
if(Dx b 100000)then
some 8
else
some 0
def FU:=FQ
def HL(qT:Int->Int->Option Int)(a:LI)(b f:Int):Option Int:=
(Am a f).bind λg=>
qT (Ad b g) (Ad f 1)
def HP qT:=HL qT
def Uf(j8:Int->Int->Option Int)(j10:Int->Option Int)(a:LI)(b f:Int):Option Int:=
if(Bt f (Ac a))then
(Am a f).bind λh=>
if(Bt h 5)then
some 8
else
(Am a f).bind λk=>
if(Dx k 100000)then
some 8
else
j8 b f
else
j10 b
def Jw(a:LI):Nat->Int->Int->Option Int
|0,_,_=>none
|q+1,b,f=>Uf (HP (Jw a q) a) FU a b f
def HH a:=Jw a Ar
def Tr(j6:LI->Int->Int->Option Int)(a:LI):Option Int:=
if((Bt (Ac a) 1)||(Dx (Ac a) 1000))then
some 8
else
j6 a 0 0
def Hn:=Tr HH
def Fs(g h k a b:Int):Option (LI):=
(Kj a b).bind λf=>
some f
def Hq(f a b g h:Int):Option (Int×Int):=
some (a,b)
def OS(a b:Int):Option Int:=
some (By (Bj a b) 8)
def KS(k a b f g h:Int):Option Int:=
(Hq a b f g h).bind λ(p,u)=>
(OS p u).bind λv=>
some (Bj k v)
def MP:=KS
def Wl(j6:Int->Int->Int->Int->Int->Int->Option Int)(Ou:Int->Int->Option Int)(n a b f g h:Int)(m:LI)(k o:Int):Option Int:=
if(Bt o n)then
(Am m o).bind λ_=>
(Am m o).bind λw=>
Ou (Ad k w) (Ad o 1)
else
j6 k a b f g h
def Ky(n a b f g h:Int)(m:LI):Nat->Int->Int->Option Int
|0,_,_=>none
|q+1,k,o=>Wl MP (Ky n a b f g h m q) n a b f g h m k o
def jT n a b f g h m:=Ky n a b f g h m Ar
def MG(j4:Int->Int->Int->Int->Int->Int->LI->Int->Int->Option Int)(a b f g h n:Int):Option Int:=
(Fs a b f g h).bind λm=>
j4 n a b f g h m 0 0
def Vh:=MG jT
abbrev Fw:=Option (Int×Int)
def gN(a:Int):Fw:=
some (a,0)
def gD:=gN
def Ts(j6:Int->Fw)(Ou:Int->Int->Fw)(b:LB)(a f:Int):Fw:=
if(Bt f 4)then
(Am b f).bind λg=>
if(Je g 128)then
some (0,12)
else
(Am b f).bind λh=>
Ou (Ad (Bj 128 a) (Ae h:Int)) (Ad f 1)
else
j6 a
def Jy(b:LB):Nat->Int->Int->Fw
|0,_,_=>none
|q+1,a,f=>Ts gD (Jy b q) b a f
def HT b:=Jy b Ar
def HN(j4:LB->Int->Int->Fw)(b:LB):Fw:=
if(Bd (Ac b) 4)then
some (0,2)
else
j4 b 0 0
def AX:=HN HT
abbrev Gp:=Option (Int×Int)
def LD(a:LB)(g:Int):Gp:=
if(Dx g 4000)then
some (0,4)
else
if(Bt (Ac a) g)then
some (0,24)
else
(Am a 5).bind λh=>
if(geq h 16)then
(Bf a (Ak g 10) g).bind λk=>
(Bf a 3 10).bind λm=>
(De ([51,68,73]:LB) m).bind λn=>
if(k !=n)then
some (0,12)
else
some (g,0)
else
some (g,0)
def Wn:=LD
def LW(j6:LB->Int->Gp)(a:LB)(b:Int):Gp:=
(Am a 5).bind λo=>
if(geq o 16)then
j6 a (Ad (Ad 10 b) 10)
else
j6 a (Ad 10 b)
def Xd:=LW Wn
def KV(j5:LB->Int->Gp)(a:LB):Gp:=
if(Bt (Ac a) 10)then
some (0,24)
else
(Bf a 6 10).bind λp=>
(AX p).bind λ(b,f)=>
(Am a 3).bind λu=>
if(Bt u 2)then
if true then
if true then
if(true||(Bd f 0))then
some (0,12)
else
j5 a b
else
(Am a 5).bind λv=>
if(Bd v 0)then
(Am a 5).bind λw=>
if(Bd w 16)then
if(true||(Bd f 0))then
some (0,12)
else
j5 a b
else
(Am a 3).bind λy=>
if((Bd y 4)||(Bd f 0))then
some (0,12)
else
j5 a b
else
if(false||(Bd f 0))then
some (0,12)
else
j5 a b
else
(Am a 4).bind λaa=>
if(Bd aa 0)then
if(true||(Bd f 0))then
some (0,12)
else
j5 a b
else
(Am a 5).bind λab=>
if(Bd ab 0)then
(Am a 5).bind λac=>
if(Bd ac 16)then
if(true||(Bd f 0))then
some (0,12)
else
j5 a b
else
(Am a 3).bind λad=>
if((Bd ad 4)||(Bd f 0))then
some (0,12)
else
j5 a b
else
if(false||(Bd f 0))then
some (0,12)
else
j5 a b
else
(Am a 3).bind λae=>
if(Dx ae 4)then
if true then
if(true||(Bd f 0))then
some (0,12)
else
j5 a b
else
(Am a 5).bind λaf=>
if(Bd af 0)then
(Am a 5).bind λag=>
if(Bd ag 16)then
if(true||(Bd f 0))then
some (0,12)
else
j5 a b
else
(Am a 3).bind λah=>
if((Bd ah 4)||(Bd f 0))then
some (0,12)
else
j5 a b
else
if(false||(Bd f 0))then
some (0,12)
else
j5 a b
else
(Am a 4).bind λai=>
if(Bd ai 0)then
if(true||(Bd f 0))then
some (0,12)
else
j5 a b
else
(Am a 5).bind λaj=>
if(Bd aj 0)then
(Am a 5).bind λak=>
if(Bd ak 16)then
if(true||(Bd f 0))then
some (0,12)
else
j5 a b
else
(Am a 3).bind λal=>
if((Bd al 4)||(Bd f 0))then
some (0,12)
else
j5 a b
else
if(false||(Bd f 0))then
some (0,12)
else
j5 a b
def KX:=KV Xd
def LZ(j4:LB->Gp)(a:LB):Gp:=
if(Bt (Ac a) 3)then
some (0,6)
else
(Bf a 0 3).bind λam=>
if(am !=([73,68,51]:LB))then
some (0,6)
else
j4 a
def EM:=LZ KX
def TK(a:UInt64):Option UInt64:=
some a
def RU:=TK
def BI(j6:UInt64->Option UInt64)(Ou:UInt64->Int->Option UInt64)(b:LB)(a:UInt64)(f:Int):Option UInt64:=
if(Je f 0)then
(Am b f).bind λg=>
Ou (Ad (Bj 256 a) (Ae g:UInt64)) (Ak f 1)
else
j6 a
def Nj(b:LB):Nat->UInt64->Int->Option UInt64
|0,_,_=>none
|q+1,a,f=>BI RU (Nj b q) b a f
def TS b:=Nj b Ar
def RT(j4:LB->UInt64->Int->Option UInt64)(b:LB):Option UInt64:=
j4 b 0 (Ak (Ac b) 1)
def Dq:=RT TS
def Vg(b:LB):Option (Int×Int×Bool):=
(Bf b 12 16).bind λg=>
(Dq g).bind λa=>
(Bf b 16 20).bind λh=>
(Dq h).bind λf=>
if(((Bt a 32)||(Dx a 3032))||(Dx f 1000))then
some (0,0,false)
else
some ((Ak (Ae a:Int) 32),(Ae f:Int),true)
def BM(a:LB):Option (LB):=
some a
def CK:=BM
def Ra(j6:LB->Option (LB))(Ou:UInt64->Int->LB->Option (LB))(b:Int)(f:UInt64)(g:Int)(a:LB):Option (LB):=
if(Bt g b)then
(De a ([(Ae (CY f 256):UInt8)]:LB)).bind λh=>
Ou (By f 256) (Ad g 1) h
else
j6 a
def Hy(b:Int):Nat->UInt64->Int->LB->Option (LB)
|0,_,_,_=>none
|q+1,f,g,a=>Ra CK (Hy b q) b f g a
def BS b:=Hy b Ar
def CG(j4:Int->UInt64->Int->LB->Option (LB))(k:UInt64)(b:Int):Option (LB):=
j4 b k 0 ([]:LB)
def Ef:=CG BS
def Qo(a b:Int)(f:UInt64):Option (LB):=
(Ef 2000 4).bind λg=>
(De ([(65:UInt8),(80:UInt8),(69:UInt8),(84:UInt8),(65:UInt8),(71:UInt8),(69:UInt8),(88:UInt8)]:LB) g).bind λh=>
(Ef (Ae (Ad a 32):UInt64) 4).bind λk=>
(De h k).bind λm=>
(Ef (Ae b:UInt64) 4).bind λn=>
(De m n).bind λo=>
(Ef f 4).bind λp=>
(De o p).bind λu=>
(mkI (8:Int) (0:UInt8)).bind λv=>
(De u v).bind λw=>
some w
def Us(a b:Int):Option (LB):=
(Qo a b 2684354560).bind λf=>
some f
def Lj(a b:Int)(f:Bool):Option (LB):=
if f then
(Qo a b 2147483648).bind λg=>
some g
else
(Qo a b 0).bind λh=>
some h
abbrev La:=Option (Int×Int)
def HS(a:LB)(b f:Int):La:=
if(Bt (Ac a) (Ad 64 b))then
some (0,24)
else
(Bf a (Ak (Ad 64 b) 32) (Ad 64 b)).bind λg=>
(Lj b f true).bind λh=>
if(g !=h)then
some (0,12)
else
some ((Ad 64 b),0)
def IA:=HS
def HX(j4:LB->Int->Int->La)(a:LB):La:=
if(Bt (Ac a) 32)then
some (0,24)
else
(Bf a 0 32).bind λk=>
(Vg k).bind λ(b,f,m)=>
if(!m)then
some (0,12)
else
(Bf a 0 32).bind λn=>
(Us b f).bind λo=>
if(n !=o)then
some (0,12)
else
j4 a b f
def HF:=HX IA
def HD(j3:LB->La)(a:LB):La:=
if(Bt (Ac a) 8)then
some (0,6)
else
(Bf a 0 8).bind λp=>
if(p !=([65,80,69,84,65,71,69,88]:LB))then
some (0,6)
else
j3 a
def AU:=HD HF
abbrev Fv:=Option (LI×Int)
def HE(qT:Int->LI->Fv)(a:LB)(b:Int)(f:LI)(g h:Int):Fv:=
if(geq h 6)then
some (f,0)
else
if(Bd h 0)then
some (([]:LI),h)
else
if(Dx (Ad b g) 4000)then
some (([]:LI),4)
else
(De f ([g]:LI)).bind λm=>
qT (Ad b g) m
def Nt qT:=HE qT
def Uc(j9:Int->LI->Int->Int->Fv)(a:LB)(b:Int)(f:LI):Fv:=
(Bf a b (Ac a)).bind λn=>
(EM n).bind λ(o,k)=>
if(geq k 6)then
(Bf a b (Ac a)).bind λp=>
(AU p).bind λ(u,v)=>
j9 b f u v
else
j9 b f o k
def Nr(a:LB):Nat->Int->LI->Fv
|0,_,_=>none
|q+1,b,f=>Uc (Nt (Nr a q) a) a b f
def gR a:=Nr a Ar
def gL(j6:LB->Int->LI->Fv)(a:LB):Fv:=
j6 a 0 ([]:LI)
def TL:=gL gR
abbrev Fx:=Option (Int×Int)
def HW(a b:Int):Fx:=
some (b,a)
def HK:=HW
def Tx(j6:Int->Int->Fx)(Ou:Int->Int->Fx)(a:Int)(f:LI)(b g:Int):Fx:=
if(Bt g (Ac f))then
(Am f g).bind λ_=>
(Am f g).bind λh=>
Ou (Ad b h) (Ad g 1)
else
j6 a b
def Jq(a:Int)(f:LI):Nat->Int->Int->Fx
|0,_,_=>none
|q+1,b,g=>Tx HK (Jq a f q) a f b g
def Tt a f:=Jq a f Ar
def HG(j4:Int->LI->Int->Int->Fx)(k:LB):Fx:=
(TL k).bind λ(f,a)=>
j4 a f 0 0
def Nl:=HG Tt
def Qj(a b:LB):Option Bool:=
if(Bt (Ac a) (Ac b))then
(Bf b 0 (Ac a)).bind λf=>
some (a==f)
else
some false
def KY(a:UInt32)(b:Bool):Option UInt32:=
if b then
some (Xq (By a 2) 3988292384)
else
some (By a 2)
def LM:=KY
def MU(j2:UInt32->Bool->Option UInt32)(a:UInt32)(f:Int):Option UInt32:=
if(geq f 1)then
j2 a (!(geq (CY a 2) 1))
else
j2 a (geq (CY a 2) 1)
def DX:=MU LM
def NB(a:UInt32):Option UInt32:=
some a
def NC:=NB
def Xf(j6:UInt32->Option UInt32)(Ou:UInt32->UInt8->Int->Option UInt32)(a:UInt32)(b:UInt8)(f:Int):Option UInt32:=
if(Bt f 8)then
(DX a (Ae (CY b 2):Int)).bind λg=>
Ou g (By b 2) (Ad f 1)
else
j6 a
def Kw:Nat->UInt32->UInt8->Int->Option UInt32
|0,_,_,_=>none
|q+1,a,b,f=>Xf NC (Kw q) a b f
def iE:=Kw Ar
def jZ(j4:UInt32->UInt8->Int->Option UInt32)(h:UInt32)(k:UInt8):Option UInt32:=
j4 h k 0
def VZ:=jZ iE
def EY(a:UInt32):Option UInt32:=
some a
def DY:=EY
def Sn(j6:UInt32->Option UInt32)(Ou:UInt32->Int->Option UInt32)(b:LB)(a:UInt32)(f:Int):Option UInt32:=
if(Bt f (Ac b))then
(Am b f).bind λg=>
(VZ a g).bind λh=>
Ou h (Ad f 1)
else
j6 a
def Im(b:LB):Nat->UInt32->Int->Option UInt32
|0,_,_=>none
|q+1,a,f=>Sn DY (Im b q) b a f
def DN b:=Im b Ar
def EV(j4:LB->UInt32->Int->Option UInt32)(k:UInt32)(b:LB):Option UInt32:=
j4 b k 0
def PZ:=EV DN
def Tf(a:LB):Option UInt32:=
(PZ 4294967295 a).bind λb=>
some (Ak 4294967295 b)
abbrev Gs:=Option (Int×Int×Int×Int×Int×Int)
def MR(k h g f b:UInt64):Gs:=
(Ja (Ae k:Int) (Ae h:Int) (Ae g:Int) (Ae f:Int) (Ae b:Int)).bind λv=>
if(!v)then
some (0,0,0,0,0,12)
else
(Um (Ae k:Int) (Ae h:Int) (Ae g:Int) (Ae f:Int) (Ae b:Int)).bind λw=>
if w then
some (0,0,0,0,0,4)
else
some ((Ae k:Int),(Ae h:Int),(Ae g:Int),(Ae f:Int),(Ae b:Int),0)
def MM:=MR
def KR(j6:UInt64->UInt64->UInt64->UInt64->UInt64->Gs)(a:LB):Gs:=
(Bf a 4 6).bind λu=>
(Bf a 6 8).bind λp=>
(Bf a 8 10).bind λo=>
(Bf a 10 14).bind λn=>
(Bf a 14 18).bind λm=>
(
(Dq u).bind λk=>
(
(Dq p).bind λh=>
(
(Dq o).bind λg=>
(
(Dq n).bind λf=>
(
(Dq m).bind λb=>
(
j6 k h g f b))))))
def ML:=KR MM
def KT(j5:LB->Gs)(a:LB):Gs:=
if(Bt (Ac a) 22)then
some (0,0,0,0,0,24)
else
(Bf a 18 22).bind λy=>
(Bf a 0 18).bind λaa=>
(Dq y).bind λab=>
(Tf aa).bind λac=>
if(Bd ab (Ae ac:UInt64))then
some (0,0,0,0,0,22)
else
j5 a
def MZ:=KT ML
def LG(j4:LB->Gs)(a:LB):Gs:=
(Bf a 0 (Eo 4 (Ac a))).bind λad=>
(Bf ([84,84,65,49]:LB) 0 (Eo 4 (Ac a))).bind λae=>
if(ad !=ae)then
some (0,0,0,0,0,12)
else
j4 a
def Pd:=LG MZ
abbrev Rv:=Option (Int×Int×Int×Int×Int×Int×Int)
def CF(b:Int)(a:LB):Rv:=
(Pd a).bind λ(k,m,n,o,p,h)=>
if(geq h 24)then
some (0,0,0,0,0,0,(-1:Int))
else
some ((Ad b 22),k,m,n,o,p,h)
def CP:=CF
def CO(j2:Int->LB->Rv)(f:LB):Rv:=
(Nl f).bind λ(b,g)=>
if(geq g 24)then
some (0,0,0,0,0,0,(-1:Int))
else
if(Bd g 0)then
some (0,0,0,0,0,0,g)
else
(Bf f b (Ac f)).bind λa=>
(Qj a ([73,68,51]:LB)).bind λu=>
if u then
some (0,0,0,0,0,0,(-1:Int))
else
(Qj a ([65,80,69,84,65,71,69,88]:LB)).bind λv=>
if v then
some (0,0,0,0,0,0,(-1:Int))
else
j2 b a
def Vz:=CO CP
def MN(a:UInt64)(b:Bool):Option UInt64:=
if b then
some (Xq (Bj a 2) 4823603603198064275)
else
some (Bj a 2)
def Wk:=MN
def MX(j2:UInt64->Bool->Option UInt64)(a:UInt64)(f:Int):Option UInt64:=
if(geq f 1)then
j2 a (!(Je a 9223372036854775808))
else
j2 a (Je a 9223372036854775808)
def EB:=MX Wk
def MV(a:UInt64):Option UInt64:=
some a
def ME:=MV
def Wv(j6:UInt64->Option UInt64)(Ou:UInt64->Int->Option UInt64)(b:UInt8)(a:UInt64)(f:Int):Option UInt64:=
if(Dx f 0)then
(Hj (Bd f 0)).bind λ_=>
(EB a (Fl (By (Ae b:Int) f) 2)).bind λg=>
Ou g (By f 2)
else
j6 a
def Kx(b:UInt8):Nat->UInt64->Int->Option UInt64
|0,_,_=>none
|q+1,a,f=>Wv ME (Kx b q) b a f
def jA b:=Kx b Ar
def lG(j4:UInt8->UInt64->Int->Option UInt64)(h:UInt64)(b:UInt8):Option UInt64:=
j4 b h 128
def WI:=lG jA
def EW(a:UInt64):Option UInt64:=
some a
def EC:=EW
def Sf(j6:UInt64->Option UInt64)(Ou:UInt64->Int->Option UInt64)(b:LB)(a:UInt64)(f:Int):Option UInt64:=
if(Bt f (Ac b))then
(Am b f).bind λg=>
(WI a g).bind λh=>
Ou h (Ad f 1)
else
j6 a
def If(b:LB):Nat->UInt64->Int->Option UInt64
|0,_,_=>none
|q+1,a,f=>Sf EC (If b q) b a f
def dN b:=If b Ar
def dW(j4:LB->UInt64->Int->Option UInt64)(k:UInt64)(b:LB):Option UInt64:=
j4 b k 0
def Zb:=dW dN
def VI(a:LB):Option UInt64:=
(Zb 0 a).bind λb=>
some b
def Ph(a:LB):Option (LB):=
(VI a).bind λb=>
(Ef b 8).bind λf=>
some f
abbrev Ec:=Option (LI×Int)
def MA(f:LI):Ec:=
(Hn f).bind λh=>
if(Bd h 0)then
some (([]:LI),12)
else
some (f,0)
def Ww:=MA
def Xe(j8:LI->Ec)(qT:Int->LI->Ec)(b:LB)(a g:Int)(f:LI):Ec:=
if(Bt g a)then
(Bf b (Bj 4 g) (Ad (Bj 4 g) 4)).bind λk=>
(Dq k).bind λm=>
(De f ([(Ae m:Int)]:LI)).bind λn=>
qT (Ad g 1) n
else
j8 f
def Kz(b:LB)(a:Int):Nat->Int->LI->Ec
|0,_,_=>none
|q+1,g,f=>Xe Ww (Kz b a q) b a g f
def LC b a:=Kz b a Ar
def MK(j6:LB->Int->Int->LI->Ec)(b:LB)(a:Int):Ec:=
j6 b a 0 ([]:LI)
def KU:=MK LC
def KP(j5:LB->Int->Ec)(b:LB)(a:Int):Ec:=
if((Bt a 1)||(Dx a 1000))then
some (([]:LI),2)
else
if(Bt (Ac b) (Ad (Bj 4 a) 4))then
some (([]:LI),24)
else
(Bf b (Bj 4 a) (Ad (Bj 4 a) 4)).bind λo=>
(Bf b 0 (Bj 4 a)).bind λp=>
(Dq o).bind λu=>
(Tf p).bind λv=>
if(Bd u (Ae v:UInt64))then
some (([]:LI),22)
else
j5 b a
def Vr:=KP KU
abbrev Kb:=Option (Int×LI×Int)
def FY(b g:Int)(h:LI):Kb:=
if(geq g 24)then
some (0,([]:LI),(-1:Int))
else
some ((Ad (Ad b (Bj 4 (Ac h))) 4),h,g)
def GB:=FY
def DI(j4:Int->Int->LI->Kb)(a:LB)(f k m n o b:Int):Kb:=
(Bf a b (Ac a)).bind λp=>
(Fs f k m n o).bind λu=>
(Vr p (Ac u)).bind λ(h,g)=>
j4 b g h
def Ds:=DI GB
def Is(j3:LB->Int->Int->Int->Int->Int->Int->Kb)(a:LB)(f k m n o:Int)(v:LB):Kb:=
if(geq f 2)then
if(Bt (Ac a) 8)then
some (0,([]:LI),(-1:Int))
else
(Bf a 0 8).bind λw=>
(Ph v).bind λy=>
if(w !=y)then
some (0,([]:LI),26)
else
j3 a f k m n o 8
else
j3 a f k m n o 0
def Ey:=Is Ds
def UT(b:UInt64)(a:LB):Option (UInt64×Int):=
if(Dx (Ac a) 100000)then
some (0,4)
else
(Zb b a).bind λf=>
some (f,0)
def ZT(a:LB):Option (UInt64×Int):=
(UT 0 a).bind λ(b,f)=>
some (b,f)
def mY(a:LX):Option (LX):=
some a
def mV:=mY
def UF(qT:UInt64->Int->LX->Option (LX))(b:UInt64)(f:Int)(a:LX)(g:Int32):Option (LX):=
(Am a f).bind λ_=>
(Le a f g).bind λh=>
qT (By b 256) (Ad f 1) h
def AO qT:=UF qT
def BA(j8:UInt64->Int->LX->Int32->Option (LX))(j10:LX->Option (LX))(b:UInt64)(f:Int)(a:LX):Option (LX):=
if(Bt f 8)then
if(Dx (Ae (CY b 256):Int32) 127)then
j8 b f a (Ak (Ae (CY b 256):Int32) 256)
else
j8 b f a (Ae (CY b 256):Int32)
else
j10 a
def Kl:Nat->UInt64->Int->LX->Option (LX)
|0,_,_,_=>none
|q+1,b,f,a=>BA (AO (Kl q)) mV b f a
def pJ:=Kl Ar
def pK(j6:UInt64->Int->LX->Option (LX))(k:UInt64):Option (LX):=
j6 k 0 (List.replicate 16 (0:Int32))
def fM:=pK pJ
def Uy(a:LB):Option (LX×Int):=
if(Dx (Ac a) 64)then
some (([(0:Int32),(0:Int32),(0:Int32),(0:Int32),(0:Int32),(0:Int32),(0:Int32),(0:Int32),(0:Int32),(0:Int32),(0:Int32),(0:Int32),(0:Int32),(0:Int32),(0:Int32),(0:Int32)]:LX),2)
else
(ZT a).bind λ(b,g)=>
(fM b).bind λf=>
some (f,0)
def Vi(a:Int):Option Int:=
if(geq a 8)then
some 128
else
if(geq a 16)then
some 32768
else
if(geq a 24)then
some 8388608
else
some 0
def AJ(a b:Int):Option Int:=
if((Bt a 1)||(Dx a 6))then
some 2
else
(Vi b).bind λf=>
if(geq f 0)then
some 2
else
some 0
def Nd(a f b:Int):Option Int:=
(AJ a f).bind λg=>
if((Bd g 0)||(Bt b 1))then
some 2
else
(Hj (Bd a 0)).bind λ_=>
if(Dx b (By 4000 a))then
some 2
else
some 0
def Yf(b:LB):Option (LB):=
(Tf b).bind λa=>
(De ([]:LB) b).bind λf=>
(De f ([(Ae a:UInt8),(Ae (Ce a (GI.toZ (8:UInt64)).toNat):UInt8),(Ae (Ce a (GI.toZ (16:UInt64)).toNat):UInt8),(Ae (Ce a (GI.toZ (24:UInt64)).toNat):UInt8)]:LB)).bind λg=>
some g
def Qd(a:LB):Option Int:=
if(Bt (Ac a) 5)then
some 24
else
if(Dx (Ac a) 41254)then
some 4
else
(Bf a 0 (Ak (Ac a) 4)).bind λb=>
(Yf b).bind λf=>
if(f !=a)then
some 22
else
some 0
def Na:Option (Int×Int×UInt64×UInt64):=
some (10,10,16384,16384)
def gM(a:UInt64):Option UInt64:=
some a
def gG:=gM
def Tz(j6:UInt64->Option UInt64)(Ou:UInt64->Int->Option UInt64)(b:Int)(a:UInt64)(f:Int):Option UInt64:=
if(Bt f b)then
Ou (Bj a 2) (Ad f 1)
else
j6 a
def Jr(b:Int):Nat->UInt64->Int->Option UInt64
|0,_,_=>none
|q+1,a,f=>Tz gG (Jr b q) b a f
def fX b:=Jr b Ar
def gC(j4:Int->UInt64->Int->Option UInt64)(b:Int):Option UInt64:=
j4 b 1 0
def Ft:=gC fX
def ID(a g:Int)(h k:UInt64)(b:UInt32):Option Bool:=
(Ft a).bind λf=>
some (Bt (Ae b:UInt64) f)
def FO(a g:Int)(h k:UInt64)(b:UInt32):Option UInt32:=
(Ft a).bind λf=>
some (Ae (Ak (Ae b:UInt64) f):UInt32)
abbrev Yl:=Option (Int×UInt64)
def MW(b:Int)(a f:UInt64):Yl:=
if(Bt b 24)then
(Ft (Ad b 5)).bind λg=>
if(Dx (Ak (Ad a f) (By a 16)) g)then
some ((Ad b 1),(Ak (Ad a f) (By a 16)))
else
some (b,(Ak (Ad a f) (By a 16)))
else
some (b,(Ak (Ad a f) (By a 16)))
def Wb:=MW
def MQ(j2:Int->UInt64->UInt64->Yl)(b:Int)(a f:UInt64):Yl:=
if(Dx b 0)then
(Ft (Ad b 4)).bind λh=>
if(Bt (Ak (Ad a f) (By a 16)) h)then
some ((Ak b 1),(Ak (Ad a f) (By a 16)))
else
j2 b a f
else
j2 b a f
def Ur:=MQ Wb
abbrev Tv:=Option (Int×Int×UInt64×UInt64)
def FE(h:UInt32)(f a:Int)(g b:UInt64)(o:Int)(p:UInt64):Tv:=
(Ur f g (Ae h:UInt64)).bind λ(aa,ab)=>
some (aa,o,ab,p)
def Sm:=FE
def DR(j2:UInt32->Int->Int->UInt64->UInt64->Int->UInt64->Tv)(f a:Int)(g b:UInt64)(h:UInt32):Tv:=
(ID f a g b h).bind λu=>
if(!u)then
(
(
(FO f a g b h).bind λk=>
(Ur a b (Ae k:UInt64)).bind λ(m,n)=>
j2 h f a g b m n))
else
j2 h f a g b a b
def Yn:=DR Sm
abbrev Fg:=Option (Int×Int×UInt64×UInt64)
def cG(a b:Int)(f g:UInt64):Fg:=
some (a,b,f,g)
def cJ:=cG
def FN(j6:Int->Int->UInt64->UInt64->Fg)(Ou:Int->Int->Int->UInt64->UInt64->Fg)(h:Int)(k:LU)(m a b:Int)(f g:UInt64):Fg:=
if(Bt m (Ac k))then
(Am k m).bind λn=>
(Yn a b f g n).bind λ(o,p,u,v)=>
Ou (Ad m h) o p u v
else
j6 a b f g
def Me(h:Int)(k:LU):Nat->Int->Int->Int->UInt64->UInt64->Fg
|0,_,_,_,_,_=>none
|q+1,m,a,b,f,g=>FN cJ (Me h k q) h k m a b f g
def cX h k:=Me h k Ar
def EE(j4:Int->LU->Int->Int->Int->UInt64->UInt64->Fg)(h:Int)(k:LU):Fg:=
(Na).bind λ(w,y,aa,ab)=>
(Hj (Bd h 0)).bind λ_=>
j4 h k (Fl (Ac k) h) w y aa ab
def Qc:=EE cX
def RI(a:Int):Option Int:=
some (Fl a 2)
def SF:=RI
def AN(j6:Int->Option Int)(Ou:Int->Int->Option Int)(b a f:Int):Option Int:=
if(Bt f (Fl b 8))then
Ou (By a 2) (Ad f 1)
else
j6 a
def Np(b:Int):Nat->Int->Int->Option Int
|0,_,_=>none
|q+1,a,f=>AN SF (Np b q) b a f
def TN b:=Np b Ar
def RY(j4:Int->Int->Int->Option Int)(g:LB)(k b:Int):Option Int:=
(Am g (By b 8)).bind λh=>
j4 b (Ae h:Int) 0
def Lo:=RY TN
abbrev Em:=Option (LB×Int)
def OR(b g a:Int)(f:LB):Em:=
(Am f (By a 8)).bind λ_=>
(Am f (By a 8)).bind λm=>
(Am f (By a 8)).bind λ_=>
(Le f (By a 8) (Ad m (Ae (Bj b g):UInt8))).bind λn=>
some (n,(Ad a 1))
def Yu:=OR
def Yk(j8:Int->Int->Int->LB->Em)(qT:Int->Int->Em)(b a:Int)(f:LB)(g h:Int):Em:=
if(Bt h (Fl a 8))then
qT (Bj g 2) (Ad h 1)
else
j8 b g a f
def Mb(b a:Int)(f:LB):Nat->Int->Int->Em
|0,_,_=>none
|q+1,g,h=>Yk Yu (Mb b a f q) b a f g h
def OP b a f:=Mb b a f Ar
def PJ(j6:Int->Int->LB->Int->Int->Em)(b a:Int)(f:LB):Em:=
j6 b a f 1 0
def Yi:=PJ OP
def OX(j5:Int->Int->LB->Em)(k:LB)(a b:Int):Em:=
if(geq (Fl a 8) 0)then
(De k ([(0:UInt8)]:LB)).bind λo=>
j5 b a o
else
j5 b a k
def Xj:=OX Yi
abbrev Ek:=Option (LB×Int)
def YQ(a:Int)(b:LB):Ek:=
some (b,a)
def ZO:=YQ
def Qu(j6:Int->LB->Ek)(Ou:Int->Int->LB->Ek)(f:Int)(g:LB)(h k a:Int)(b:LB):Ek:=
if(Bt k f)then
(Lo g h k).bind λm=>
(Xj b a m).bind λ(n,o)=>
Ou (Ad k 1) o n
else
j6 a b
def Hv(f:Int)(g:LB)(h:Int):Nat->Int->Int->LB->Ek
|0,_,_,_=>none
|q+1,k,a,b=>Qu ZO (Hv f g h q) f g h k a b
def aB f g h:=Hv f g h Ar
def YY(j4:Int->LB->Int->Int->Int->LB->Ek)(g:LB)(h p f:Int):Ek:=
j4 f g h p 0 ([]:LB)
def NA:=YY aB
def gO(a:UInt64):Option UInt64:=
some a
def gU:=gO
def Ty(j6:UInt64->Option UInt64)(Ou:UInt64->Int->Option UInt64)(b:Int)(f:LB)(g:Int)(a:UInt64)(h:Int):Option UInt64:=
if(Je h 0)then
(Lo f g (Ad b h)).bind λk=>
Ou (Ad (Bj 2 a) (Ae k:UInt64)) (Ak h 1)
else
j6 a
def Jt(b:Int)(f:LB)(g:Int):Nat->UInt64->Int->Option UInt64
|0,_,_=>none
|q+1,a,h=>Ty gU (Jt b f g q) b f g a h
def HB b f g:=Jt b f g Ar
def HQ(j4:Int->LB->Int->UInt64->Int->Option UInt64)(f:LB)(g b m:Int):Option UInt64:=
j4 b f g 0 (Ak m 1)
def Rn:=HQ HB
abbrev Hm:=Option (Int×Int)
def PK(b a:Int)(g:LB)(f:Int):Hm:=
if(geq a 48)then
some (a,(Ad b a))
else
if(Je (Ad b a) f)then
some ((-1:Int),0)
else
some (a,(Ad (Ad b a) 1))
def Yg:=PK
def Ys(j6:Int->Int->LB->Int->Hm)(Ou:Int->Hm)(b:Int)(g:LB)(f a:Int):Hm:=
if((Bt (Ad b a) f)&&(Bt a 48))then
(Lo g f (Ad b a)).bind λh=>
if(geq h 1)then
Ou (Ad a 1)
else
j6 b a g f
else
j6 b a g f
def Lu(b:Int)(g:LB)(f:Int):Nat->Int->Hm
|0,_=>none
|q+1,a=>Ys Yg (Lu b g f q) b g f a
def mT b g f:=Lu b g f Ar
def nH(j4:Int->LB->Int->Int->Hm)(g:LB)(f b:Int):Hm:=
j4 b g f 0
def ZH:=nH mT
def ED(b:UInt32)(f:Int):Option Int:=
(Ft f).bind λa=>
(Hj (Bd a 0)).bind λ_=>
some (Ae (Eo 48 (By (Ae b:UInt64) a)):Int)
abbrev AH:=Option (UInt32×Int×Int)
def Yq(g a b:Int)(h:LB)(f k:Int):AH:=
if((Bt a 0)||(Bt (Ak f b) k))then
some (0,0,24)
else
(Rn h f b k).bind λm=>
if(Bt a 48)then
(Ft g).bind λo=>
some ((Ae (Ad (Bj (Ae a:UInt64) o) m):UInt32),(Ad b k),0)
else
(ED (Ae m:UInt32) g).bind λp=>
if(Bt p a)then
some (0,0,12)
else
some ((Ae m:UInt32),(Ad b k),0)
def Yz:=Yq
def PR(j2:Int->Int->Int->LB->Int->Int->AH)(h:LB)(f n g:Int):AH:=
if(Je n f)then
some (0,0,24)
else
(ZH h f n).bind λ(a,b)=>
if(geq a 48)then
j2 g a b h f 32
else
j2 g a b h f g
def JD:=PR Yz
def JU(g:LB)(b a f n:Int)(v w:UInt64):Option (UInt32×Int×Int):=
if(Je a b)then
some (0,0,24)
else
(Lo g b a).bind λo=>
if(geq o 0)then
if(Bt (Ak (Ak b a) 1) f)then
some (0,0,24)
else
(Rn g b (Ad a 1) f).bind λp=>
some ((Ae p:UInt32),(Ad (Ad a 1) f),0)
else
(JD g b (Ad a 1) n).bind λ(h,u,k)=>
if(Bd k 0)then
some (0,0,k)
else
(Ft f).bind λm=>
if(Dx (Ad (Ae h:UInt64) m) 4294967295)then
some (0,0,12)
else
some ((Ae (Ad (Ae h:UInt64) m):UInt32),u,0)
abbrev Bm:=Option (LU×Int)
def gT(b:LU):Bm:=
some (b,0)
def gE:=gT
def Uh(j18:LU->Bm)(Hg:Int->Bm)(a:LB)(b:LU)(m:Int):Bm:=
if(Bt m (Bj 8 (Ac a)))then
(Lo a (Bj 8 (Ac a)) m).bind λn=>
if(Bd n 0)then
some (b,12)
else
Hg (Ad m 1)
else
j18 b
def Jv(a:LB)(b:LU):Nat->Int->Bm
|0,_=>none
|q+1,m=>Uh gE (Jv a b q) a b m
def HO a b:=Jv a b Ar
def IB(j16:LB->LU->Int->Bm)(f:Int)(a:LB)(b:LU):Bm:=
if(Dx (Ak (Bj 8 (Ac a)) f) 7)then
some (b,12)
else
j16 a b f
def Uj:=IB HO
def HY(Aeb:Int->Int->LU->Bm)(g h:Int)(a:LB)(f k:Int)(b:LU)(o p:Int)(u v:UInt64):Bm:=
(NA a (Bj 8 (Ac a)) f (Eo (Ad f 81) (Bj 8 (Ac a)))).bind λ(y,aa)=>
(JU y aa 0 o p u v).bind λ(ab,ac,w)=>
if(Bd w 0)then
some (b,w)
else
(De b ([ab]:LU)).bind λad=>
Aeb (Ad f ac) (Ad k 1) ad
def Ka Aeb:=HY Aeb
def HJ(j13:Int->Int->LU->Int->Int->UInt64->UInt64->Bm)(j15:Int->LB->LU->Bm)(g h:Int)(a:LB)(f k:Int)(b:LU):Bm:=
if(Bt k (Bj h g))then
(Na).bind λ(n,ae,af,ag)=>
if(Je k g)then
(Qc g b).bind λ(ah,ai,aj,ak)=>
j13 f k b ah ai aj ak
else
j13 f k b n ae af ag
else
j15 f a b
def Fb(g h:Int)(a:LB):Nat->Int->Int->LU->Bm
|0,_,_,_=>none
|q+1,f,k,b=>HJ (Ka (Fb g h a q) g h a) Uj g h a f k b
def gS g h a:=Fb g h a Ar
def MC(j10:Int->Int->LB->Int->Int->LU->Bm)(g h:Int)(a:LB):Bm:=
j10 g h a 0 0 ([]:LU)
def FR:=MC gS
def qD(a:Int):Option (Int×Int):=
if(geq a 8)then
some (4,0)
else
if((geq a 16)||(geq a 24))then
some (5,0)
else
some (0,2)
def vS(a:Int)(b:LX):Option (Int×LX×LX×Int):=
(qD a).bind λ(g,f)=>
if(Bd f 0)then
some (0,(List.replicate 16 (0:Int32)),(List.replicate 16 (0:Int32)),2)
else
if(geq a 16)then
some (9,b,(List.replicate 16 (0:Int32)),0)
else
some (10,b,(List.replicate 16 (0:Int32)),0)
def YN(a:Int)(b:LX):Option (Int×Int32×Int×LX×LX×Int):=
(vS a b).bind λ(f,g,h,k)=>
if(Bd k 0)then
some (0,0,0,(List.replicate 16 (0:Int32)),(List.replicate 16 (0:Int32)),2)
else
some (a,0,f,g,h,0)
def FM(a:UInt32):Option Int32:=
if(geq (CY a 2) 0)then
some (Ae (By a 2):Int32)
else
some (Ae (By (rF (Ad (Ae a:Int) 1)) 2):Int32)
def Cy(a:Int):Option Int32:=
some (Ae (Ae (Ae a:UInt64):UInt32):Int32)
def PO(a:Int):Option Int32:=
some (Ae a:Int32)
def OO:=PO
def Ym(j6:Int->Option Int32)(Ou:Int->Int->Option Int32)(h:Int)(f g:LX)(a b:Int):Option Int32:=
if(Bt b 16)then
(Am f b).bind λ_=>
(Am g b).bind λ_=>
(Am f b).bind λk=>
(Am g b).bind λm=>
(Cy (Bj (Ae k:Int) (Ae m:Int))).bind λn=>
(Cy (Ad a (Ae n:Int))).bind λo=>
Ou (Ae o:Int) (Ad b 1)
else
j6 a
def Lz(h:Int)(f g:LX):Nat->Int->Int->Option Int32
|0,_,_=>none
|q+1,a,b=>Ym OO (Lz h f g q) h f g a b
def nG h f g:=Lz h f g Ar
def nF(j4:Int->LX->LX->Int->Int->Option Int32)(h:Int)(f g:LX):Option Int32:=
j4 h f g 0 0
def aK:=nF nG
def MT(b:Int)(f g:LX)(a:Int):Option Int32:=
(aK b f g).bind λk=>
(Cy (Ad (Ae k:Int) (By a 2))).bind λh=>
(Hj (Bd a 0)).bind λ_=>
(Hj (Bd a 0)).bind λ_=>
if(Bt (Fl (Ae h:Int) a) 0)then
some (Ae (Ak (By (Ae h:Int) a) 1):Int32)
else
some (Ae (By (Ae h:Int) a):Int32)
def Wj:=MT
def MO(j2:Int->LX->LX->Int->Option Int32)(b:Int)(f g:LX):Option Int32:=
if(geq b 9)then
j2 b f g 512
else
j2 b f g 1024
def FT:=MO Wj
def FC(a:Int):Option Int32:=
if(geq a 0)then
some 4
else
if(xZ a 3)then
some 2
else
some 1
def Ut(a:Int32):Option Int32:=
if(Bt a 0)then
some (-1:Int32)
else
if(Dx a 0)then
some 1
else
some 0
abbrev Ej:=Option (Int×LX×LX)
def aW(g:Int)(b a:LX):Ej:=
some (g,b,a)
def YI:=aW
def Qy(j6:Int->LX->LX->Ej)(Ou:Int->LX->Ej)(h:Int32)(g:Int)(a:LX)(f:Int)(b:LX):Ej:=
if(Bt f 16)then
(Am b f).bind λ_=>
(Am a f).bind λ_=>
(Am b f).bind λk=>
(Am a f).bind λm=>
(FC f).bind λn=>
(Ut m).bind λo=>
(Ut h).bind λp=>
(Am b f).bind λ_=>
(Le b f (Ad k (Bj (Bj n o) p))).bind λu=>
Ou (Ad f 1) u
else
j6 g b a
def Ht(h:Int32)(g:Int)(a:LX):Nat->Int->LX->Ej
|0,_,_=>none
|q+1,f,b=>Qy YI (Ht h g a q) h g a f b
def ZW h g a:=Ht h g a Ar
def YZ(j4:Int32->Int->LX->Int->LX->Ej)(g:Int)(v a:LX)(h:Int32):Ej:=
j4 h g a 0 v
def MI:=YZ ZW
abbrev Fh:=Option (Int×LX×LX)
def DZ(b:Int32)(f:Int)(g a:LX):Fh:=
(Am a 0).bind λ_=>
(Le a 0 b).bind λk=>
some (f,g,k)
def EJ:=DZ
def Rt(j6:Int32->Int->LX->LX->Fh)(Ou:Int->LX->Fh)(b:Int32)(f:Int)(g:LX)(h:Int)(a:LX):Fh:=
if(Dx h 0)then
(Am a (Ak h 1)).bind λ_=>
(Am a (Ak h 1)).bind λm=>
(Am a h).bind λ_=>
(Le a h m).bind λn=>
Ou (Ak h 1) n
else
j6 b f g a
def Iq(b:Int32)(f:Int)(g:LX):Nat->Int->LX->Fh
|0,_,_=>none
|q+1,h,a=>Rt EJ (Iq b f g q) b f g h a
def bU b f g:=Iq b f g Ar
def dT(j4:Int32->Int->LX->Int->LX->Fh)(f:Int)(g o:LX)(b:Int32):Fh:=
j4 b f g 15 o
def PQ:=dT bU
def We(a:Int)(b f:LX)(g:Int32):Option (Int32×Int×LX×LX):=
(FT a b f).bind λk=>
(Cy (Ad (Ae g:Int) (Ae k:Int))).bind λh=>
(MI a b f g).bind λ(m,n,o)=>
(PQ m n o h).bind λ(p,u,v)=>
some (h,p,u,v)
def FX(b:Int32)(a:Int):Option Int32:=
(Hj (Bd a 0)).bind λ_=>
(Hj (Bd a 0)).bind λ_=>
if(Bt (Fl (Bj (Ak a 1) (Ae b:Int)) a) 0)then
some (Ae (Ak (By (Bj (Ak a 1) (Ae b:Int)) a) 1):Int32)
else
some (Ae (By (Bj (Ak a 1) (Ae b:Int)) a):Int32)
def Sa:=FX
def EX(j2:Int32->Int->Option Int32)(f:Int)(b:Int32):Option Int32:=
if(geq f 5)then
j2 b 32
else
j2 b 16
def Qg:=EX Sa
def Yv(b:Int)(a:Int32)(h:Int)(k m:LX):Option Int:=
if(geq b 8)then
(Qg 4 a).bind λf=>
some (Ae f:Int)
else
(Qg 5 a).bind λg=>
some (Ae g:Int)
def Wy(a:Int)(k:Int32)(b:Int)(f g:LX)(m:Int32):Option (Int32×Int×Int32×Int×LX×LX):=
(We b f g m).bind λ(n,o,p,u)=>
(Yv a k b f g).bind λv=>
(Cy (Ad (Ae n:Int) v)).bind λh=>
some (h,a,h,o,p,u)
def Rz(a:Int)(b:LX):Option Int:=
if((Bt a 1)||(Dx a 6))then
some 2
else
if(Dx (Ac b) 4000)then
some 4
else
(Hj (Bd a 0)).bind λ_=>
if(Dx (Fl (Ac b) a) 0)then
some 2
else
some 0
def aJ(b:LX):Option (LX):=
some b
def YS:=aJ
def Rh(j8:LX->Option (LX))(qT:Int->LX->Option (LX))(a:LX)(f:Int)(b:LX):Option (LX):=
if(Je f 0)then
(Am b (Ad f 1)).bind λ_=>
(Am a f).bind λm=>
(Am b (Ad f 1)).bind λn=>
(Cy (Ak (Ae n:Int) (Ae m:Int))).bind λo=>
(Am b f).bind λ_=>
(Le b f o).bind λp=>
qT (Ak f 1) p
else
j8 b
def Hr(a:LX):Nat->Int->LX->Option (LX)
|0,_,_=>none
|q+1,f,b=>Rh YS (Hr a q) a f b
def aL a:=Hr a Ar
def CH(j6:LX->Int->LX->Option (LX))(a g:LX):Option (LX):=
j6 a (Ak (Ac a) 2) g
def Qz:=CH aL
def CA(j5:LX->LX->Option (LX))(a:LX):Option (LX):=
(mkI (Ac a) (0:Int32)).bind λk=>
(Hj (geq (Ac a) (Ac a))).bind λ_=>
(Am a (Ak (Ac a) 1)).bind λu=>
(Am k (Ak (Ac a) 1)).bind λ_=>
(Le k (Ak (Ac a) 1) u).bind λh=>
if(Dx (Ac a) 1)then
(Am a (Ak (Ac a) 1)).bind λv=>
(Am a (Ak (Ac a) 2)).bind λw=>
(Cy (Ad (Ae v:Int) (By (Ae w:Int) 2))).bind λy=>
(Am h (Ak (Ac a) 1)).bind λ_=>
(Le h (Ak (Ac a) 1) y).bind λaa=>
j5 a aa
else
j5 a h
def Wp:=CA Qz
abbrev Gt:=Option (LX×Int)
def hH(f:LX):Gt:=
some (f,0)
def hU:=hH
def KQ(j6:LX->Gt)(Ou:Int->LX->Gt)(a:Int)(b:LX)(g:Int)(f:LX):Gt:=
if(Bt g (Ac b))then
(Bf b g (Ad g a)).bind λh=>
(Wp h).bind λk=>
(De f k).bind λm=>
Ou (Ad g a) m
else
j6 f
def Pc(a:Int)(b:LX):Nat->Int->LX->Gt
|0,_,_=>none
|q+1,g,f=>KQ hU (Pc a b q) a b g f
def iB a b:=Pc a b Ar
def KW(j4:Int->LX->Int->LX->Gt)(a:Int)(b:LX):Gt:=
(Rz a b).bind λn=>
if(Bd n 0)then
(Rz a b).bind λo=>
some (([]:LX),o)
else
j4 a b 0 ([]:LX)
def DF:=KW iB
def CR(a f:Int)(w:LX):Option (LX):=
(DF a w).bind λ(aj,ai)=>
some aj
def Ql:=CR
def CE(R6:Int->LX->Option (LX))(b:LU)(a f:Int)(g:LX)(h:Int)(m:LX):Option (LX):=
R6 (Ad h 1) m
def BQ R6:=CE R6
def CQ(Aec:Int->LX->Int->Int32->Int->LX->LX->Option (LX))(b:LU)(h a f:Int)(g:LX)(k:Int)(af:LX)(y:Int)(aa:Int32)(ab:Int)(ac ad:LX):Option (LX):=
Aec (Ad k a) af y aa ab ac ad
def CD Aec:=CQ Aec
def CB(j30:Int->LX->Int->Int32->Int->LX->LX->Option (LX))(b:LU)(h a f:Int)(g:LX)(k:Int)(ae:Int32)(m:LX)(n:Int)(o:Int32)(p:Int)(u v:LX)(y:Int)(aa:Int32)(ab:Int)(ac ad:LX):Option (LX):=
(Am m k).bind λ_=>
(Le m k ae).bind λaf=>
j30 k af y aa ab ac ad
def BP Aec b h a f g:=CB (CD Aec b h a f g) b h a f g
def BW(j29:Int->Int32->LX->Int->Int32->Int->LX->LX->Int->Int32->Int->LX->LX->Option (LX))(j32:Int->LX->Option (LX))(b:LU)(a f:Int)(g:LX)(h k:Int)(m:LX)(n:Int)(o:Int32)(p:Int)(u v:LX):Option (LX):=
if(Bt k (Ac b))then
(Am b k).bind λah=>
(
(FM ah).bind λag=>
(
(Wy n o p u v ag).bind λ(ae,y,aa,ab,ac,ad)=>
j29 k ae m n o p u v y aa ab ac ad))
else
j32 h m
def Li(R6:Int->LX->Option (LX))(b:LU)(a f:Int)(g:LX)(h:Int):Nat->Int->LX->Int->Int32->Int->LX->LX->Option (LX)
|0,_,_,_,_,_,_,_=>none
|q+1,k,m,n,o,p,u,v=>BW (BP (Li R6 b a f g h q) b h a f g) (BQ R6 b a f g) b a f g h k m n o p u v
def CN R6 b a f g h:=Li R6 b a f g h Ar
def Qq(j26:Int->Int->LX->Int->Int32->Int->LX->LX->Option (LX))(j34:Int->Int->LX->Option (LX))(b:LU)(a f:Int)(g:LX)(h:Int)(w:LX):Option (LX):=
if(Bt h a)then
(YN f g).bind λ(ak,ai,al,am,an,aq)=>
j26 h h w ak ai al am an
else
j34 a f w
def Fo(b:LU)(a f:Int)(g:LX):Nat->Int->LX->Option (LX)
|0,_,_=>none
|q+1,h,w=>Qq (CN (Fo b a f g q) b a f g) Ql b a f g h w
def CC b a f g:=Fo b a f g Ar
def GU(j18:LU->Int->Int->LX->Int->LX->Option (LX))(a f:Int)(g:LX)(b:LU):Option (LX):=
(mkI (Ac b) (0:Int32)).bind λao=>
(Hj (geq (Ac b) (Ac b))).bind λ_=>
j18 b a f g 0 ao
def Qf:=GU CC
def gJ:Option Int:=
some 0
def gQ:=gJ
def Fc(j6:Option Int)(Ou:Int->Option Int)(a:LX)(b f:Int):Option Int:=
if(Bt f (Ac a))then
(Am a f).bind λg=>
if(Bt (Ae g:Int) (rF b))then
some 16
else
(Am a f).bind λh=>
if(Je (Ae h:Int) b)then
some 16
else
Ou (Ad f 1)
else
j6
def Bp(a:LX)(b:Int):Nat->Int->Option Int
|0,_=>none
|q+1,f=>Fc gQ (Bp a b q) a b f
def gA a b:=Bp a b Ar
def Jz(j4:LX->Int->Int->Option Int)(k:Int)(a:LX):Option Int:=
(Vi k).bind λb=>
if(geq b 0)then
some 2
else
if(Dx (Ac a) 4000)then
some 4
else
j4 a b 0
def Bn:=Jz gA
def Yt(g f:Int)(a:LX):Option (LX×Int):=
(Bn f a).bind λb=>
if(Bd b 0)then
some (([]:LX),b)
else
some (a,0)
abbrev Ua:=Option (LX×Int)
def Ir(f a b:Int)(g:LX)(h:LU):Ua:=
if(Bd f 0)then
some (([]:LX),f)
else
(
(
(Qf a b g h).bind λm=>
(Yt a b m).bind λ(n,o)=>
some (n,o)))
def Iw:=Ir
def Rw(j2:Int->Int->Int->LX->LU->Ua)(a b:Int)(g:LX)(p:Int)(k:LB):Ua:=
(Nd a b p).bind λy=>
if(Bd y 0)then
some (([]:LX),2)
else
(Qd k).bind λaa=>
if(Bd aa 0)then
(Qd k).bind λab=>
some (([]:LX),ab)
else
(Bf k 0 (Ak (Ac k) 4)).bind λac=>
(FR a p ac).bind λ(h,f)=>
j2 f a b g h
def Ez:=Rw Iw
def Yj(a b:Int):Option (LB):=
if(geq a 24)then
(De ([(Ae (Fl b 256):UInt8),(Ae (Fl (By b 256) 256):UInt8)]:LB) ([(Ae (By b 65536):UInt8)]:LB)).bind λg=>
some g
else
some ([(Ae (Fl b 256):UInt8),(Ae (Fl (By b 256) 256):UInt8)]:LB)
def Ly:=Yj
def PG(j2:Int->Int->Option (LB))(a:Int)(f:Int32):Option (LB):=
if(geq a 8)then
some ([(Ae (Ad (Ae f:Int) 128):UInt8)]:LB)
else
if(Bt (Ae f:Int) 0)then
(Vi a).bind λh=>
j2 a (Ad (Ae f:Int) (Bj 2 h))
else
j2 a (Ae f:Int)
def IS:=PG Ly
abbrev Fz:=Option (LB×Int)
def gK(b:LB):Fz:=
some (b,0)
def fZ:=gK
def Tu(j6:LB->Fz)(Ou:Int->LB->Fz)(f:Int)(a:LX)(g:Int)(b:LB):Fz:=
if(Bt g (Ac a))then
(Am a g).bind λh=>
(IS f h).bind λk=>
(De b k).bind λm=>
Ou (Ad g 1) m
else
j6 b
def Jo(f:Int)(a:LX):Nat->Int->LB->Fz
|0,_,_=>none
|q+1,g,b=>Tu fZ (Jo f a q) f a g b
def fY f a:=Jo f a Ar
def HV(j4:Int->LX->Int->LB->Fz)(f:Int)(a:LX):Fz:=
(Bn f a).bind λn=>
if(Bd n 0)then
(Bn f a).bind λo=>
some (([]:LB),o)
else
j4 f a 0 ([]:LB)
def Sc:=HV fY
abbrev Ug:=Option (LB×Int)
def Ge(o:LX)(f:Int)(p g:LB)(h k a m n:Int)(u:LI)(b:Int)(v:LB)(w:Bool)(y:Int):Ug:=
if(Bd f 0)then
some (([]:LB),f)
else
(Sc a o).bind λ(ac,ai)=>
some (ac,0)
def Gj:=Ge
def Gf(j2:LX->Int->LB->LB->Int->Int->Int->Int->Int->LI->Int->LB->Bool->Int->Ug)(p g:LB)(h k a m n:Int)(u:LI)(b:Int)(v:LB)(w:Bool)(y:Int):Ug:=
(Am u b).bind λaa=>
if(Bt (Ac g) aa)then
some (([]:LB),(-1:Int))
else
(Uy p).bind λ(ad,aj)=>
(Bf g 0 aa).bind λae=>
(Hq h k a m n).bind λ(af,ag)=>
(Fs h k a m n).bind λab=>
(Am ab b).bind λ_=>
(Am ab b).bind λah=>
(Ez af ag ad ah ae).bind λ(o,f)=>
j2 o f p g h k a m n u b v w y
def Dm:=Gf Gj
abbrev Ma:=Option (LB×LB×Int×Int×Int×Int×Int×LI×Int×LB×Bool×Int×Int)
def Cs(g a:LB)(m o p u v:Int)(b:LI)(f:Int)(n:LB)(h:Bool)(k:Int):Ma:=
if(geq (Ac b) 0)then
(Ey a m o p u v g).bind λ(ag,ak,w)=>
if(Bd w 0)then
some (g,a,m,o,p,u,v,b,f,n,h,k,w)
else
(Bf a ag (Ac a)).bind λal=>
some (g,al,m,o,p,u,v,ak,f,n,h,k,0)
else
if(geq f (Ac b))then
if(Dx (Ac a) 4000)then
some (g,a,m,o,p,u,v,b,f,n,h,k,38)
else
some (g,a,m,o,p,u,v,b,f,n,h,k,(-1:Int))
else
(Dm g a m o p u v b f n h k).bind λ(am,y)=>
if(Bd y 0)then
some (g,a,m,o,p,u,v,b,f,n,h,k,y)
else
(De ([]:LB) n).bind λan=>
(De an am).bind λah=>
(
(
(
(Am b f).bind λad=>
(
(Bf a ad (Ac a)).bind λae=>
some (g,ae,m,o,p,u,v,b,(Ad f 1),ah,h,k,0)))))
def Cu:=Cs
def Hz(g af:LB)(aa w ab ac y:Int)(b:LI)(f:Int)(n:LB)(h:Bool)(k:Int):Ma:=
(Ei aa w ab ac y g).bind λaw=>
some (g,af,aa,w,ab,ac,y,b,f,n,h,k,aw)
def Hu:=Hz
def Cx(j3:LB->LB->Int->Int->Int->Int->Int->LI->Int->LB->Bool->Int->Ma)(j4:LB->LB->Int->Int->Int->Int->Int->LI->Int->LB->Bool->Int->Ma)(g a:LB)(m o p u v:Int)(b:LI)(f:Int)(n:LB)(h:Bool)(k:Int):Ma:=
if(geq m 0)then
(Vz a).bind λ(ag,aa,w,ab,ac,y,ai)=>
if(Bd ai 0)then
some (g,a,m,o,p,u,v,b,f,n,h,k,ai)
else
(
(Bf a ag (Ac a)).bind λaf=>
(
j3 g af aa w ab ac y b f n h k))
else
j4 g a m o p u v b f n h k
def Al:=Cx Hu Cu
def Ue(o p:LB)(b f g h k:Int)(m:LI)(a:Int)(n:LB)(u:Bool)(v:Int):Option Bool:=
(Al o p b f g h k m a n u v).bind λ(af,ag,ah,ai,aj,ak,al,am,an,ao,ap,aq,w)=>
some (geq w (-1:Int))
def Cc:=Ue
def Nw(j4:LB->LB->Int->Int->Int->Int->Int->LI->Int->LB->Bool->Int->Option Bool)(o p:LB)(b f g h k:Int)(m:LI)(a:Int)(n:LB)(u:Bool)(v:Int):Option Bool:=
if(geq (Ac m) 0)then
if((Bd a 0)||(Dx (Ac n) 0))then
some false
else
j4 o p b f g h k m a n u v
else
(Hn m).bind λy=>
if(Bd y 0)then
if((true||(Bt a 0))||(Dx a (Ac m)))then
some false
else
(Vh b f g h k a).bind λaa=>
if(Dx (Ac n) aa)then
some false
else
j4 o p b f g h k m a n u v
else
(Fs b f g h k).bind λab=>
if(((Bd (Ac m) (Ac ab))||(Bt a 0))||(Dx a (Ac m)))then
some false
else
(Vh b f g h k a).bind λac=>
if(Dx (Ac n) ac)then
some false
else
j4 o p b f g h k m a n u v
def Nv:=Nw Cc
def Ui(j4:LB->LB->Int->Int->Int->Int->Int->LI->Int->LB->Bool->Int->Option Bool)(j3:LB->LB->Int->Int->Int->Int->Int->LI->Int->LB->Bool->Int->Option Bool)(o p:LB)(b f g h k:Int)(m:LI)(a:Int)(n:LB)(u:Bool)(v:Int):Option Bool:=
if((geq b 0)&&((geq f 0)&&((geq g 0)&&((geq h 0)&&((geq k 0)&&true)))))then
if(((Dx (Ac m) 0)||(Bd a 0))||(Dx (Ac n) 0))then
some false
else
j4 o p b f g h k m a n u v
else
(Kn b f g h k).bind λad=>
if(Bd ad 0)then
some false
else
(Ei b f g h k o).bind λae=>
if(Bd ae 0)then
some false
else
j3 o p b f g h k m a n u v
def Kk:=Ui Cc Nv
def Wm(a:Int):Option Bool:=
some (((((((geq a 4)||(geq a 12))||(geq a 16))||(geq a 22))||(geq a 24))||(geq a 26))||(geq a 38))
def Dy(h k:LB)(m n o p u:Int)(v:LI)(f:Int)(g:LB)(b:Bool)(a:Int):Option Int:=
if(Dx (Ac h) 64)then
some 8
else
if((geq a 0)&&(!b))then
(Kk h k m n o p u v f g b a).bind λw=>
if(!w)then
some 8
else
some 0
else
if((geq (Ac k) 0)&&(geq (Ac v) 0))then
if((!(((geq m 0)&&((geq n 0)&&((geq o 0)&&((geq p 0)&&((geq u 0)&&true)))))&&(geq f 0)))||(Dx (Ac g) 12000))then
some 8
else
if(Bd a 0)then
if b then
some 8
else
(Wm a).bind λy=>
if(!y)then
some 8
else
some 0
else
some 0
else
if((!(false&&(geq f 0)))||(Dx (Ac g) 12000))then
some 8
else
if(Bd a 0)then
if b then
some 8
else
(Wm a).bind λaa=>
if(!aa)then
some 8
else
some 0
else
some 0
abbrev Yh:=Option (LB×LB×Int×Int×Int×Int×Int×LI×Int×LB×Bool×Int)
def MY(f:LB)(g h k m n:Int)(o:LI)(p:Int)(u:Bool)(v:Int)(a b:LB):Yh:=
(De ([]:LI) o).bind λaf=>
some (f,a,g,h,k,m,n,af,p,b,u,v)
def LY:=MY
def ND(j2:LB->Int->Int->Int->Int->Int->LI->Int->Bool->Int->LB->LB->Yh)(f w:LB)(g h k m n:Int)(o:LI)(p:Int)(y:LB)(u:Bool)(v:Int):Yh:=
(
(
(
(De ([]:LB) w).bind λa=>
(
(De ([]:LB) y).bind λb=>
j2 f g h k m n o p u v a b))))
def Oz:=ND LY
def Ia(f g:LB)(h k m n o:Int)(p:LI)(u:Int)(v:LB)(b:Bool)(a:Int):Option Int:=
if(Bd a 0)then
some a
else
if b then
some 36
else
some 0
def Vj(a m:LB)(n o p u v:Int)(w:LI)(y:Int)(b:LB)(aa:Bool)(ab:Int):Option (LB×LB×Int×Int×Int×Int×Int×LI×Int×LB×Bool×Int):=
(
(
(De ([]:LB) b).bind λf=>
some (a,([]:LB),0,0,0,0,0,([]:LI),0,f,false,0)))
def Qh(b f:LB)(g h k m n:Int)(o:LI)(p:Int)(u:LB)(v:Bool)(w a:Int):Option (LB×LB×Int×Int×Int×Int×Int×LI×Int×LB×Bool×Int×Int):=
(Vj b f g h k m n o p u v w).bind λ(y,aa,ab,ac,ad,ae,af,ag,ah,ai,aj,ak)=>
some (y,aa,ab,ac,ad,ae,af,ag,ah,ai,aj,a,a)
abbrev Lw:=Option (LB×LB×Int×Int×Int×Int×Int×LI×Int×LB×Bool×Int×Int)
def Df(bk3:LB->LB->Int->Int->Int->Int->Int->LI->Int->LB->Bool->Int->Lw)(a b:LB)(f g h k m:Int)(n:LI)(o:Int)(p:LB)(u:Bool)(v:Int):Lw:=
(Al a b f g h k m n o p u v).bind λ(bb,bc,bd,be,bf,bg,bh,bi,bj,bk,bl,bm,w)=>
if(geq w (-1:Int))then
(Oz a b f g h k m n o p u v).bind λ(bn,bp,bq,br,bs,bt,bu,bv,bw,bx,bz,da)=>
some (bn,bp,bq,br,bs,bt,bu,bv,bw,bx,bz,da,0)
else
if(Bd w 0)then
(Qh a b f g h k m n o p u v w).bind λ(db,dc,dd,de,df,dg,dh,di,dj,dk,dl,dm,dn)=>
some (db,dc,dd,de,df,dg,dh,di,dj,dk,dl,dm,dn)
else
bk3 bb bc bd be bf bg bh bi bj bk bl bm
def Bk:Nat->LB->LB->Int->Int->Int->Int->Int->LI->Int->LB->Bool->Int->Lw
|0,_,_,_,_,_,_,_,_,_,_,_,_=>none
|q+1,a,b,f,g,h,k,m,n,o,p,u,v=>Df (Bk q) a b f g h k m n o p u v
def kZ:=Bk Ar
def Pe(j3:LB->LB->Int->Int->Int->Int->Int->LI->Int->LB->Bool->Int->Lw)(al am:LB)(an ao ap aq ar:Int)(au:LI)(av:Int)(aw:LB)(ax:Bool)(ay:Int)(dp:LB):Lw:=
(Dy al am an ao ap aq ar au av aw ax ay).bind λaz=>
if(Bd az 0)then
some (([]:LB),([]:LB),0,0,0,0,0,([]:LI),0,([]:LB),false,0,az)
else
(Oz al am an ao ap aq ar au av aw ax ay).bind λ(y,aa,ab,ac,ad,ae,af,ag,ah,ai,aj,ak)=>
(Ia y aa ab ac ad ae af ag ah ai aj ak).bind λba=>
if(Bd ba 0)then
some (y,aa,ab,ac,ad,ae,af,ag,ah,ai,aj,ak,ba)
else
(De aa dp).bind λdq=>
j3 y dq ab ac ad ae af ag ah ai aj ak
def Gv:=Pe kZ
abbrev Gq:=Option (Int×Int)
def Xg(a:LB)(f g:Int)(b h:LB)(k:Int):Gq:=
if(Bt (Ac a) k)then
some (0,24)
else
if(b==h)then
(Bf a (Ak (Ac a) k) (Ad (Ak (Ac a) k) 32)).bind λo=>
(Us f g).bind λp=>
if(o !=p)then
some (0,12)
else
some (k,0)
else
some (k,0)
def Xc:=Xg
def Wu(j6:LB->Int->Int->LB->LB->Int->Gq)(a:LB)(f g:Int)(b h:LB):Gq:=
if(b==h)then
j6 a f g b h (Ad (Ad 32 f) 32)
else
j6 a f g b h (Ad 32 f)
def Wz:=Wu Xc
def LO(j5:LB->Int->Int->LB->LB->Gq)(a:LB):Gq:=
(Bf a (Ak (Ac a) 32) (Ac a)).bind λb=>
(Vg b).bind λ(f,g,n)=>
if(!n)then
some (0,12)
else
(Lj f g true).bind λh=>
(
if(!(b==h))then
(Lj f g false).bind λm=>
if(b !=m)then
some (0,12)
else
j5 a f g b h
else
j5 a f g b h)
def KO:=LO Wz
def MH(j4:LB->Gq)(a:LB):Gq:=
if(Bt (Ac a) 32)then
some (0,6)
else
(Bf a (Ak (Ac a) 32) (Ad (Ak (Ac a) 32) 8)).bind λu=>
if(u !=([65,80,69,84,65,71,69,88]:LB))then
some (0,6)
else
j4 a
def DO:=MH KO
abbrev Ff:=Option (Int×Int)
def cK(a:Int):Ff:=
some (a,0)
def dJ:=cK
def EN(j6:Int->Ff)(Ou:LB->Int->Ff)(b:LB)(a:Int):Ff:=
if(Dx (Ac b) 0)then
(DO b).bind λ(g,h)=>
if(Bd h 0)then
some (0,38)
else
(Bf b 0 (Ak (Ac b) g)).bind λk=>
Ou k (Ad a 1)
else
j6 a
def Mi:Nat->LB->Int->Ff
|0,_,_=>none
|q+1,b,a=>EN dJ (Mi q) b a
def bP:=Mi Ar
def DQ(j4:LB->Int->Ff)(f:LB):Ff:=
if(Dx (Ac f) 4000)then
some (0,38)
else
j4 f 0
def Za:=DQ bP
def Yp(p a:LB)(g u v w y:Int)(b:LI)(h:Int)(aa:LB)(ab:Bool)(ac:Int):Option Int:=
if(geq g 0)then
(Nl a).bind λ(k,f)=>
if(Bd f 0)then
some f
else
(Bf a k (Ac a)).bind λm=>
(Pd m).bind λ(ad,ae,af,ag,ah,n)=>
some n
else
if((geq (Ac b) 0)||(Bt h (Ac b)))then
some 24
else
(Za a).bind λ(ai,o)=>
if(Bd o 0)then
some 38
else
some 0
def Yy(w y:LB)(aa ab ac ad ae:Int)(af:LI)(ag:Int)(ah:LB)(ai:Bool)(aj:Int):Option (LB×LB×Int×Int×Int×Int×Int×LI×Int×LB×Bool×Int×Int):=
(Dy w y aa ab ac ad ae af ag ah ai aj).bind λak=>
if(Bd ak 0)then
some (([]:LB),([]:LB),0,0,0,0,0,([]:LI),0,([]:LB),false,0,ak)
else
(Oz w y aa ab ac ad ae af ag ah ai aj).bind λ(a,b,f,g,h,k,m,n,o,p,u,v)=>
(Ia a b f g h k m n o p u v).bind λal=>
if(Bd al 0)then
some (a,b,f,g,h,k,m,n,o,p,u,v,al)
else
(Yp a b f g h k m n o p u v).bind λam=>
if(Bd am 0)then
(Qh a b f g h k m n o p u v am).bind λ(an,ao,ap,aq,ar,au,av,aw,ax,ay,az,ba,bb)=>
some (an,ao,ap,aq,ar,au,av,aw,ax,ay,az,ba,bb)
else
(Vj a b f g h k m n o p u v).bind λ(bc,bd,be,bf,bg,bh,bi,bj,bk,bl,bn,bm)=>
some (bc,bd,be,bf,bg,bh,bi,bj,bk,bl,true,bm,0)
abbrev XV:=Option (Int×Int×Int×Int×Int×Int×LI×Int)
def zT(a:LB)(b f g h k n:Int):XV:=
(Dn b f g h k).bind λ(ab,p)=>
if(Bd p 0)then
some (0,0,0,0,0,0,([]:LI),p)
else
(Bf a n (Ac a)).bind λac=>
(JB ac (Ac ab)).bind λ(u,v)=>
if(Bd v 0)then
some (0,0,0,0,0,0,([]:LI),v)
else
some (b,f,g,h,k,(Ad (Ad n (Bj 4 (Ac u))) 4),u,0)
def P4:=zT
def D2(j2:LB->Int->Int->Int->Int->Int->Int->XV)(a o:LB):XV:=
if(Dx (Ac o) 64)then
some (0,0,0,0,0,0,([]:LI),2)
else
if(Dx (Ac a) 100000)then
some (0,0,0,0,0,0,([]:LI),4)
else
(Jd a).bind λ(m,w)=>
if(Bd w 0)then
some (0,0,0,0,0,0,([]:LI),w)
else
(Bf a m (Ac a)).bind λad=>
(Mm ad).bind λ(b,f,g,h,k,y)=>
if(Bd y 0)then
some (0,0,0,0,0,0,([]:LI),y)
else
if((o==([]:LB)) !=(geq b 1))then
some (0,0,0,0,0,0,([]:LI),26)
else
if(o !=([]:LB))then
if(Bt (Ac a) (Ad (Ad m 22) 8))then
some (0,0,0,0,0,0,([]:LI),24)
else
(Bf a (Ad m 22) (Ad (Ad m 22) 8)).bind λae=>
(Xn ae o).bind λ(af,aa)=>
if(Bd aa 0)then
some (0,0,0,0,0,0,([]:LI),aa)
else
if(!af)then
some (0,0,0,0,0,0,([]:LI),26)
else
j2 a b f g h k (Ad (Ad m 22) 8)
else
j2 a b f g h k (Ad m 22)
def yw:=D2 P4
abbrev Ju:=Option (Int×Int×Int×Int×Int×Int×LI×Int)
def dK(m n b h k f g:Int)(o:LI):Ju:=
if(Bd n 0)then
some (0,0,0,0,0,0,([]:LI),n)
else
some (b,h,k,f,g,(Ad (Ad m (Bj 4 (Ac o))) 4),o,0)
def bN:=dK
def cZ(j4:Int->Int->Int->Int->Int->Int->Int->LI->Ju)(a:LB)(b h k f g m:Int):Ju:=
(Bf a m (Ac a)).bind λy=>
(Kj f g).bind λaa=>
(Vr y (Ac aa)).bind λ(o,n)=>
j4 m n b h k f g o
def bW:=cZ bN
def cP(j3:LB->Int->Int->Int->Int->Int->Int->Ju)(a u:LB):Ju:=
if(Dx (Ac a) 100000)then
some (0,0,0,0,0,0,([]:LI),4)
else
(Nl a).bind λ(p,v)=>
if(Bd v 0)then
some (0,0,0,0,0,0,([]:LI),v)
else
(Bf a p (Ac a)).bind λab=>
(Pd ab).bind λ(b,h,k,f,g,w)=>
if(Bd w 0)then
some (0,0,0,0,0,0,([]:LI),w)
else
if((u==([]:LB)) !=(geq b 1))then
some (0,0,0,0,0,0,([]:LI),26)
else
if(geq b 2)then
if(Bt (Ak (Ac a) (Ad p 22)) 8)then
some (0,0,0,0,0,0,([]:LI),24)
else
(Bf a (Ad p 22) (Ad (Ad p 22) 8)).bind λac=>
(Ph u).bind λad=>
if(ac !=ad)then
some (0,0,0,0,0,0,([]:LI),26)
else
j3 a b h k f g (Ad (Ad p 22) 8)
else
j3 a b h k f g (Ad p 22)
def nI:=cP bW
def gH(a:Int):Option Int:=
some a
def gI:=gH
def Tw(j6:Int->Option Int)(Ou:Int->Int->Option Int)(b h k m n o f:Int)(g:LI)(a p:Int):Option Int:=
if(Bt p b)then
(Am g p).bind λu=>
Ou (Ad a u) (Ad p 1)
else
j6 a
def Js(b h k m n o f:Int)(g:LI):Nat->Int->Int->Option Int
|0,_,_=>none
|q+1,a,p=>Tw gI (Js b h k m n o f g q) b h k m n o f g a p
def gV b h k m n o f g:=Js b h k m n o f g Ar
def gP(j4:Int->Int->Int->Int->Int->Int->Int->LI->Int->Int->Option Int)(h k m n o f:Int)(g:LI)(b:Int):Option Int:=
j4 b h k m n o f g f 0
def SC:=gP gV
abbrev AP:=Option (LB×Int)
def QB(p:LX)(m n g b h k o:Int)(a:LI):AP:=
if(Bd m 0)then
some (([]:LB),m)
else
(Sc b p).bind λ(af,ai)=>
some (af,0)
def PX:=QB
def OQ(j2:LX->Int->Int->Int->Int->Int->Int->Int->LI->AP)(v y:LB)(n g b h k o:Int)(a:LI)(f:Int):AP:=
(SC n g b h k o a f).bind λu=>
(Am a f).bind λaa=>
if(Bt (Ak (Ac v) u) aa)then
some (([]:LB),24)
else
(Uy y).bind λ(ab,ag)=>
(Am a f).bind λac=>
(Bf v u (Ad u ac)).bind λad=>
(
(Kj h k).bind λw=>
(Am w f).bind λ_=>
(Am w f).bind λae=>
(Ez g b ab ae ad).bind λ(p,m)=>
j2 p m n g b h k o a)
def Rc:=OQ PX
abbrev Sj:=Option (Int×Int×Int×LX×Int)
def iD(a:LB)(aa b f h:Int)(ad:LX):Sj:=
(Bf a aa (Ac a)).bind λaq=>
(GQ aq).bind λ(bb,ar)=>
if(Bd ar 0)then
some (0,0,0,([]:LX),38)
else
some (b,f,h,ad,0)
def iS:=iD
def lD(Aea:Int->Int->LX->Sj)(a:LB)(w:LI)(m b f h o p n g y ab:Int)(ac:LX)(k:LI)(aa aj ak ae:Int)(am ad:LX):Sj:=
if(Bd ak 0)then
some (0,0,0,([]:LX),ak)
else
(De ad am).bind λau=>
Aea (Ad aa aj) (Ad ae 1) au
def jO Aea:=lD Aea
def TY(j24:Int->Int->Int->Int->LX->LX->Sj)(j26:LB->Int->Int->Int->Int->LX->Sj)(a:LB)(w:LI)(m b f h o p n g y ab:Int)(ac:LX)(k:LI)(aa ae:Int)(ad:LX):Sj:=
if(Bt ae (Ac w))then
(Am w ae).bind λ_=>
(Am w ae).bind λaj=>
if(Bt (Ac a) (Ad aa aj))then
some (0,0,0,([]:LX),24)
else
(Am k ae).bind λ_=>
(Bf a aa (Ad aa aj)).bind λav=>
(Am k ae).bind λaw=>
(Nq b f ac aw av).bind λ(am,ak)=>
j24 aa aj ak ae am ad
else
j26 a aa b f h ad
def FH(a:LB)(w:LI)(m b f h o p n g y ab:Int)(ac:LX)(k:LI):Nat->Int->Int->LX->Sj
|0,_,_,_=>none
|q+1,aa,ae,ad=>TY (jO (FH a w m b f h o p n g y ab ac k q) a w m b f h o p n g y ab ac k) iS a w m b f h o p n g y ab ac k aa ae ad
abbrev Dj:=Option (LB×Int)
def BY(h:LB)(k m n o p u:Int)(v:Bool)(w:Int)(y:LB)(aa:LI)(ab:LB):Dj:=
(Yy h y k m n o p aa u ab v w).bind λ(bk,bl,bm,bn,ad,ae,af,bp,ag,ac,bq,br,au)=>
some (ac,au)
def BK:=BY
def EL(qT:Int->Int->LB->Int->Int->Int->Int->Int->Int->Bool->Int->LB->LI->LB->Dj)(b:LB)(a:LI)(ah g f:Int)(aj:LB)(ad ae af ak ag al:Int)(am:Bool)(an:Int)(ao:LB)(ac:LI)(ai:LB):Dj:=
if(Bd ah 0)then
some (ai,ah)
else
(Am a f).bind λav=>
qT (Ad g av) (Ad f 1) aj ad ae af ak ag al am an ao ac ai
def DL qT:=EL qT
def DV(j8:Int->Int->Int->LB->Int->Int->Int->Int->Int->Int->Bool->Int->LB->LI->LB->Dj)(j10:LB->Int->Int->Int->Int->Int->Int->Bool->Int->LB->LI->LB->Dj)(b:LB)(a:LI)(g f:Int)(h:LB)(k m n o p u:Int)(v:Bool)(w:Int)(y:LB)(aa:LI)(ab:LB):Dj:=
if(Bt f (Ac a))then
(Am a f).bind λap=>
(
(Bf b g (Ad g ap)).bind λaq=>
(Gv h y k m n o p aa u ab v w aq).bind λ(aj,ao,ad,ae,af,ak,ag,ac,al,ai,am,an,ah)=>
j8 ah g f aj ad ae af ak ag al am an ao ac ai)
else
j10 h k m n o p u v w y aa ab
def Mf(b:LB)(a:LI):Nat->Int->Int->LB->Int->Int->Int->Int->Int->Int->Bool->Int->LB->LI->LB->Dj
|0,_,_,_,_,_,_,_,_,_,_,_,_,_,_=>none
|q+1,g,f,h,k,m,n,o,p,u,v,w,y,aa,ab=>DV (DL (Mf b a q) b a) BK b a g f h k m n o p u v w y aa ab
def bM b a:=Mf b a Ar
def EU(j6:LB->LI->Int->Int->LB->Int->Int->Int->Int->Int->Int->Bool->Int->LB->LI->LB->Dj)(aw b:LB)(a:LI):Dj:=
(ZS aw).bind λ(ax,ay,az,ba,bb,bc,bd,be,bf,bg,bh,bi,ar)=>
if(Bd ar 0)then
some (([]:LB),ar)
else
j6 b a 0 0 ax az ba bb bc bd bf bh bi ay be bg
def QA:=EU bM
end Go.Pl
