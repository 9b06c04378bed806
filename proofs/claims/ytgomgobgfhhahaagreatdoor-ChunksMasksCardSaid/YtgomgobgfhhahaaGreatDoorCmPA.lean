/- A part of a proof (see the text that ends in Proof). No conditions. -/
import Derived.Test.YtgomgobgfhhahaaGreatDoorCmBA
set_option linter.unusedVariables false
namespace Go.Pl
open Go Go.Lv
abbrev LB:=List UInt8
abbrev LI:=List Int
abbrev LX:=List Int32
abbrev LU:=List UInt32
abbrev LQ:=List UInt64
abbrev Ny:=Option (LI×Int)
def J3(b:LI):Ny:=
some (b,0)
def iG:=J3
def CG(j6:LI->Ny)(Re:Int->Int->LI->Ny)(f:Int)(g:UInt64)(h a:Int)(b:LI):Ny:=
if(Cj a f)then
if(geq a (Ao f 1))then
(Ds b ([(Ao (Ad a 1) h)]:LI)).bind λk=>
Re (Ad a 1) (Ad a 1) k
else
(Je (Ms (Fo a 64) 0)).bind λ_=>
if(geq (Et (Ci g (GI.toZ (Fo a 64)).toNat) 1) 1)then
(Ds b ([(Ao (Ad a 1) h)]:LI)).bind λm=>
Re (Ad a 1) (Ad a 1) m
else
Re h (Ad a 1) b
else
j6 b
def Pm(f:Int)(g:UInt64):Nat->Int->Int->LI->Ny
|0,_,_,_=>none
|q+1,h,a,b=>CG iG (Pm f g q) f g h a b
def RB f g:=Pm f g Au
def OU(j4:Int->UInt64->Int->Int->LI->Ny)(f:Int)(g:UInt64):Ny:=
if((Cj f 0)||(Ef f 100000))then
some (([]:LI),2)
else
j4 f g 0 0 ([]:LI)
def Xp:=OU RB
def Oq(a:Int):Option (Int×Int):=
if((Cj a 1)||(Ef a 1048576))then
some (0,2)
else
some ((uT 1 (Bt (Bf 256 a) 245)),0)
abbrev fW:=Option (Int32×Int32×Int)
def qC(a:Int)(b:Bool):fW:=
if b then
(Je (Ms (Ao a 1) 0)).bind λ_=>
some ((yP (Dp (1:Int32) (GI.toZ (Ao a 1)).toNat)),(Ao (Dp (1:Int32) (GI.toZ (Ao a 1)).toNat) 1),0)
else
some (0,0,2)
def bV:=qC
def aK(j2:Int->Bool->fW)(a:Int):fW:=
if(geq a 8)then
j2 a (geq a 8)
else
if(geq a 16)then
j2 a (geq a 16)
else
j2 a (geq a 24)
def Sg:=aK bV
def Gi(a b:Int):Option Int:=
(Sg b).bind λ(g,h,f)=>
if(((Bc f 0)||(Cj a 1))||(Ef a 6))then
some 2
else
some 0
def EC(a b f:Int)(g:LB):Option (Int×Bool):=
(Oq f).bind λ(h,k)=>
(Gi a b).bind λm=>
some (h,(((geq m 0)&&(geq k 0))&&(I8 (Ac g) 64)))
def dQ(a b f:Int)(g:LB):Option (Int×Int×Int×LB×LB×LX×(List LB)×LB×Bool×Int×Int):=
(EC a b f g).bind λ(k,h)=>
if(!h)then
some (0,0,0,([]:LB),([]:LB),([]:LX),([]:List LB),([]:LB),false,0,2)
else
some (a,b,f,g,([]:LB),([]:LX),([]:List LB),([]:LB),false,0,0)
def JG(a b:Int):Option Int:=
some (Bt (Bf a b) 8)
def ug:Option Int:=
some 0
def rL:=ug
def IU(j6:Option Int)(Re:Int->Option Int)(b f:Int32)(a:LX)(g:Int):Option Int:=
if(Cj g (Ac a))then
(Ap a g).bind λh=>
if((Cj h b)||(Ef h f))then
some 16
else
Re (Ad g 1)
else
j6
def Up(b f:Int32)(a:LX):Nat->Int->Option Int
|0,_=>none
|q+1,g=>IU rL (Up b f a q) b f a g
def pQ b f a:=Up b f a Au
def aU(j4:Int32->Int32->LX->Int->Option Int)(m:Int)(a:LX):Option Int:=
(Sg m).bind λ(b,f,k)=>
if(Bc k 0)then
some k
else
if(Ef (Ac a) 4000)then
some 4
else
j4 b f a 0
def Rv:=aU pQ
def Xs(a h k:Int)(m n:LB)(b:LX)(f:List LB)(o:LB)(p:Bool)(u g:Int):Option Int:=
(Je (Bc a 0)).bind λ_=>
some (Ad (Bf (Ac f) g) (Bt (Ac b) a))
def Xc(a g h:Int)(k m:LB)(n:LX)(o:List LB)(p:LB)(u:Bool)(v b f:Int):Option Bool:=
some ((I8 b 1000)&&(I8 (Bf f a) 4000))
def uV(w:Bool):Option Bool:=
some (!w)
def WZ:=uV
def WM(j24:Bool->Option Bool)(w:Bool):Option Bool:=
j24 w
def DK:=WM WZ
def WW(j23:Bool->Option Bool):Option Bool:=
j23 (Ms (-1:Int) (0:Int))
def WO:=WW DK
def WX(Iv:Int->Option Bool)(b:List LB)(f a g:Int):Option Bool:=
Iv (Ad g 1)
def CX Iv:=WX Iv
def DJ(j23:Bool->Option Bool)(j20:Int->Option Bool)(b:List LB)(f a g:Int)(y:LB):Option Bool:=
if((Cj (Ac y) 5)||(Ef (Ac y) (Ad (Bt (Ad (Bf (Bf 81 f) a) 7) 8) 4)))then
j23 (Ms g 0)
else
j20 g
def CN Iv b f a:=DJ DK (CX Iv b f a) b f a
def Ua(j19:Int->LB->Option Bool)(j22:Option Bool)(b:List LB)(f a g:Int):Option Bool:=
if(Cj g (Ac b))then
(Ap b g).bind λy=>
j19 g y
else
j22
def Le(b:List LB)(f a:Int):Nat->Int->Option Bool
|0,_=>none
|q+1,g=>Ua (CN (Le b f a q) b f a) WO b f a g
def Tu b f a:=Le b f a Au
def Tt(j16:(List LB)->Int->Int->Int->Option Bool)(f a k o:Int)(p m:LB)(h:LX)(b:List LB)(n:LB)(u:Bool)(v:Int):Option Bool:=
j16 b f a 0
def Ui:=Tt Tu
def Tv(j15:Int->Int->Int->Int->LB->LB->LX-> (List LB)->LB->Bool->Int->Option Bool)(f a k o:Int)(p m:LB)(h:LX)(b:List LB)(n:LB)(u:Bool)(v aa:Int):Option Bool:=
(Xs a k o p m h b n u v f).bind λab=>
(Xc a k o p m h b n u v aa ab).bind λac=>
if(!ac)then
some false
else
j15 f a k o p m h b n u v
def Tw:=Tv Ui
def CZ(j14:Int->Int->Int->Int->LB->LB->LX-> (List LB)->LB->Bool->Int->Int->Option Bool)(f a k o:Int)(p m:LB)(h:LX)(b:List LB)(n:LB)(u:Bool)(v:Int):Option Bool:=
(Rv k h).bind λad=>
if(Bc ad 0)then
some false
else
if(Ef (Ac h) 0)then
j14 f a k o p m h b n u v (Ad (Ac b) 1)
else
j14 f a k o p m h b n u v (Ac b)
def CR:=CZ Tw
def FO(j13:Int->Int->Int->Int->LB->LB->LX-> (List LB)->LB->Bool->Int->Option Bool)(a k o:Int)(p m:LB)(h:LX)(b:List LB)(n:LB)(u:Bool)(v f:Int):Option Bool:=
if(Ef (Ac n) 0)then
if true then
if true then
if(true||(Ef (Ac b) 1000))then
some false
else
j13 f a k o p m h b n u v
else
(Je (Bc a 0)).bind λ_=>
if((Ms (Bt (Ac h) a) f)||(Ef (Ac b) 1000))then
some false
else
j13 f a k o p m h b n u v
else
(Je (Bc a 0)).bind λ_=>
if(Bc (Fo (Ac h) a) 0)then
if(true||(Ef (Ac b) 1000))then
some false
else
j13 f a k o p m h b n u v
else
(Je (Bc a 0)).bind λ_=>
if((Ms (Bt (Ac h) a) f)||(Ef (Ac b) 1000))then
some false
else
j13 f a k o p m h b n u v
else
(JG a k).bind λae=>
if(Ms (Ac m) ae)then
if true then
if(true||(Ef (Ac b) 1000))then
some false
else
j13 f a k o p m h b n u v
else
(Je (Bc a 0)).bind λ_=>
if((Ms (Bt (Ac h) a) f)||(Ef (Ac b) 1000))then
some false
else
j13 f a k o p m h b n u v
else
(Je (Bc a 0)).bind λ_=>
if(Bc (Fo (Ac h) a) 0)then
if(true||(Ef (Ac b) 1000))then
some false
else
j13 f a k o p m h b n u v
else
(Je (Bc a 0)).bind λ_=>
if((Ms (Bt (Ac h) a) f)||(Ef (Ac b) 1000))then
some false
else
j13 f a k o p m h b n u v
def ES:=FO CR
def Sr(m n o:Int)(p b:LB)(f:LX)(g:List LB)(h:LB)(k:Bool)(a:Int):Option Int:=
(EC m n o p).bind λ(u,v)=>
if(!v)then
some 8
else
if(Bc a 0)then
if(!(((((geq a 18)||(geq a 24))&&(!k))&&(geq (Ad (Ad (Ac b) (Ac f)) (Ac g)) 0))&&(geq (Ac h) 0)))then
some 8
else
some 0
else
if k then
if(!((geq (Ad (Ad (Ac b) (Ac f)) (Ac g)) 0)&&(I8 (Ac h) 100000)))then
some 8
else
some 0
else
(ES m n o p b f g h k a u).bind λw=>
if(!w)then
some 8
else
some 0
def Bo(a:LB):Option (LB):=
(
(Ds ([]:LB) a).bind λb=>
some b)
def Di(a:LX):Option (LX):=
(
(Ds ([]:LX) a).bind λb=>
some b)
abbrev Ko:=Option (Int×Int×Int×LB×LB×LX×(List LB)×LB×Bool×Int)
def R2(b f g:Int)(h:LB)(a:List LB)(k:Bool)(m:Int)(u:List LB)(n:LB)(o:LX)(p:LB):Ko:=
some (b,f,g,h,n,o,u,p,k,m)
def nT:=R2
def FC(j8:Int->Int->Int->LB-> (List LB)->Bool->Int-> (List LB)->LB->LX->LB->Ko)(K8:Int-> (List LB)->Ko)(w a:List LB)(b f g:Int)(h:LB)(k:Bool)(m:Int)(n:LB)(o:LX)(p:LB)(v:Int)(u:List LB):Ko:=
if(Cj v (Ac (XG w a)))then
(Ap u v).bind λ_=>
(Ap u v).bind λy=>
(Bo y).bind λaa=>
(Ap u v).bind λ_=>
(Nj u v aa).bind λab=>
K8 (Ad v 1) ab
else
j8 b f g h a k m u n o p
def Rs(w a:List LB)(b f g:Int)(h:LB)(k:Bool)(m:Int)(n:LB)(o:LX)(p:LB):Nat->Int-> (List LB)->Ko
|0,_,_=>none
|q+1,v,u=>FC nT (Rs w a b f g h k m n o p q) w a b f g h k m n o p v u
def nN w a b f g h k m n o p:=Rs w a b f g h k m n o p Au
def VM(j6:(List LB)-> (List LB)->Int->Int->Int->LB->Bool->Int->LB->LX->LB->Int-> (List LB)->Ko)(b f g:Int)(h:LB)(a:List LB)(k:Bool)(m:Int)(n:LB)(o:LX)(p:LB):Ko:=
(mkI (Ac a) ([]:LB)).bind λw=>
(Je (geq (Ac a) (Ac a))).bind λ_=>
j6 w a b f g h k m n o p 0 (XG w a)
def VH:=VM nN
def UY(j5:Int->Int->Int->LB-> (List LB)->Bool->Int->LB->LX->LB->Ko)(b f g:Int)(h ac:LB)(ad:LX)(a:List LB)(ae:LB)(k:Bool)(m:Int):Ko:=
(Bo ac).bind λn=>
(Di ad).bind λo=>
(Bo ae).bind λp=>
j5 b f g h a k m n o p
def LH:=UY VH
abbrev VC:=Option (Int×Int×Int×LB×LB×LX×(List LB)×LB×Bool×Int×Int×Int)
def gV(u g h b:Int)(k m:LB)(n:LX)(o:List LB)(p:LB)(f:Bool)(a v:Int):VC:=
(LH g h b k m n o p f a).bind λ(y,aa,ab,ac,ad,ae,af,ag,ah,ai)=>
some (y,aa,ab,ac,ad,ae,af,ag,ah,ai,u,v)
def RD:=gV
def OX(j2:Int->Int->Int->Int->LB->LB->LX-> (List LB)->LB->Bool->Int->Int->VC)(g h b:Int)(k m:LB)(n:LX)(o:List LB)(p:LB)(f:Bool)(a:Int):VC:=
(Sr g h b k m n o p f a).bind λw=>
if(Bc w 0)then
some (0,0,0,([]:LB),([]:LB),([]:LX),([]:List LB),([]:LB),false,0,0,w)
else
(Oq b).bind λ(u,aj)=>
if(Bc a 0)then
j2 u g h b k m n o p f a a
else
if f then
j2 u g h b k m n o p f a 36
else
j2 u g h b k m n o p f a aj
def EH:=OX RD
abbrev Dc:=Option (LX×Int)
def A8(g:LX):Dc:=
some (g,0)
def dO:=A8
def Zg(Iv:Int->LX->Dc)(a:Int)(b:LB)(f:Int)(m:LX):Dc:=
Iv (Ad f (Bt a 8)) m
def Ki Iv:=Zg Iv
def Yx(j28:Int->LX->Dc)(a:Int)(b:LB)(f:Int)(h:Int32)(g:LX):Dc:=
(Je (Ms (Ao 32 a) 0)).bind λ_=>
(Je (Ms (Ao 32 a) 0)).bind λ_=>
(Ds g ([(Ci (Dp h (GI.toZ (Ao 32 a)).toNat) (GI.toZ (Ao 32 a)).toNat)]:LX)).bind λp=>
j28 f p
def Zm Iv a b:=Yx (Ki Iv a b) a b
def Gv(j27:Int->Int32->LX->Dc)(Bfu:Int32->Int->Dc)(a:Int)(b:LB)(f:Int)(g:LX)(h:Int32)(k:Int):Dc:=
if(Cj k (Bt a 8))then
(Ap b (Ad f k)).bind λn=>
(Je (Ms (Bf 8 k) 0)).bind λ_=>
Bfu (xC h (Dp (Af n:Int32) (GI.toZ (Bf 8 k)).toNat)) (Ad k 1)
else
j27 f h g
def Fl(Iv:Int->LX->Dc)(a:Int)(b:LB)(f:Int)(g:LX):Nat->Int32->Int->Dc
|0,_,_=>none
|q+1,h,k=>Gv (Zm Iv a b) (Fl Iv a b f g q) a b f g h k
def Np Iv a b f g:=Fl Iv a b f g Au
def Gz(j28:Int->LX->Dc)(j25:Int->LX->Int32->Int->Dc)(j30:LX->Dc)(a:Int)(b:LB)(f:Int)(g:LX):Dc:=
if(Cj f (Ac b))then
if(geq a 8)then
(Ap b f).bind λn=>
(Ds g ([(Ao (Af n:Int32) 128)]:LX)).bind λu=>
j28 f u
else
j25 f g 0 0
else
j30 g
def Eo(a:Int)(b:LB):Nat->Int->LX->Dc
|0,_,_=>none
|q+1,f,g=>Gz (Ki (Eo a b q) a b) (Np (Eo a b q) a b) dO a b f g
def MR a b:=Eo a b Au
def QF(j16:Int->LB->Int->LX->Dc)(a:Int)(b:LB):Dc:=
(Sg a).bind λ(v,w,o)=>
if(Bc o 0)then
some (([]:LX),o)
else
(Je (Bc (Bt a 8) 0)).bind λ_=>
if(Bc (Fo (Ac b) (Bt a 8)) 0)then
some (([]:LX),12)
else
(Je (Bc (Bt a 8) 0)).bind λ_=>
if(Ef (Bt (Ac b) (Bt a 8)) 4000)then
some (([]:LX),4)
else
j16 a b 0 ([]:LX)
def Xu:=QF MR
abbrev Cu:=Option (UInt64×Int)
def qZ(h:UInt64):Cu:=
some (h,0)
def aJ:=qZ
def ZA(j30:UInt64->Cu)(h b:UInt64)(a:LB)(f:LQ):Cu:=
j30 h
def aT:=ZA aJ
def KG(j29:UInt64->UInt64->LB->LQ->Cu)(nB:UInt64->Int->Cu)(a:LB)(b:UInt64)(f:LQ)(h:UInt64)(m:Int):Cu:=
if(Cj m (Ac a))then
(Ap a m).bind λp=>
Option.bind (Ap f (GI.toZ (BA (Af (Ci h (GI.toZ (56:UInt64)).toNat):UInt8) p))) λ_=>
Option.bind (Ap f (GI.toZ (BA (Af (Ci h (GI.toZ (56:UInt64)).toNat):UInt8) p))) λu=>
nB (BA (Dp h (GI.toZ (8:UInt64)).toNat) u) (Ad m 1)
else
j29 h b a f
def Ux(a:LB)(b:UInt64)(f:LQ):Nat->UInt64->Int->Cu
|0,_,_=>none
|q+1,h,m=>KG aT (Ux a b f q) a b f h m
def ZJ a b f:=Ux a b f Au
def YX(j27:LB->UInt64->LQ->UInt64->Int->Cu)(b:UInt64)(a:LB)(f:LQ):Cu:=
j27 a b f b 0
def KU:=YX ZJ
def pM(Iv:Int->LQ->Cu)(b:UInt64)(a:LB)(g:Int)(o:LQ):Cu:=
Iv (Ad g 1) o
def ZP Iv:=pM Iv
def ZG(j24:Int->LQ->Cu)(b:UInt64)(a:LB)(g:Int)(k:UInt64)(f:LQ):Cu:=
(Ap f g).bind λ_=>
(Nj f g k).bind λo=>
j24 g o
def JN Iv b a:=ZG (ZP Iv b a) b a
def IJ(j23:Int->UInt64->LQ->Cu)(Akk:UInt64->Int->Cu)(b:UInt64)(a:LB)(g:Int)(f:LQ)(k:UInt64)(n:Int):Cu:=
if(Cj n 8)then
Akk (BA (Dp k (GI.toZ (1:UInt64)).toNat) (Bf 4823603603198064275 (Ci k (GI.toZ (63:UInt64)).toNat))) (Ad n 1)
else
j23 g k f
def Vn(Iv:Int->LQ->Cu)(b:UInt64)(a:LB)(g:Int)(f:LQ):Nat->UInt64->Int->Cu
|0,_,_=>none
|q+1,k,n=>IJ (JN Iv b a) (Vn Iv b a g f q) b a g f k n
def bW Iv b a g f:=Vn Iv b a g f Au
def KL(j21:Int->LQ->UInt64->Int->Cu)(j26:UInt64->LB->LQ->Cu)(b:UInt64)(a:LB)(g:Int)(f:LQ):Cu:=
if(Cj g 256)then
j21 g f (Dp (Af g:UInt64) (GI.toZ (56:UInt64)).toNat) 0
else
j26 b a f
def Qn(b:UInt64)(a:LB):Nat->Int->LQ->Cu
|0,_,_=>none
|q+1,g,f=>KL (bW (Qn b a q) b a) KU b a g f
def aD b a:=Qn b a Au
def fX(j16:UInt64->LB->Int->LQ->Cu)(b:UInt64)(a:LB):Cu:=
if(Ef (Ac a) 100000)then
some (0,4)
else
j16 b a 0 (List.replicate 256 (0:UInt64))
def mF:=fX aD
def iH(a:LB):Option (UInt64×Int):=
(mF 0 a).bind λ(b,f)=>
some (b,f)
def Akf(a:LX):Option (LX):=
some a
def Z5:=Akf
def mZ(j6:LX->Option (LX))(Re:Int->LX->Option (LX))(f:UInt64)(b:Int)(a:LX):Option (LX):=
if(Cj b 8)then
(Je (Ms (Bf 8 b) 0)).bind λ_=>
(Ap a b).bind λ_=>
(Nj a b (Af (Af (Ci f (GI.toZ (Bf 8 b)).toNat):Int8):Int32)).bind λg=>
Re (Ad b 1) g
else
j6 a
def QG(f:UInt64):Nat->Int->LX->Option (LX)
|0,_,_=>none
|q+1,b,a=>mZ Z5 (QG f q) f b a
def xe f:=QG f Au
def rq(j4:UInt64->Int->LX->Option (LX))(f:UInt64):Option (LX):=
j4 f 0 (List.replicate 16 (0:Int32))
def Ab0:=rq xe
def Nq(a:LB):Option (LX×Int):=
if(Ef (Ac a) 64)then
some (([(0:Int32),(0:Int32),(0:Int32),(0:Int32),(0:Int32),(0:Int32),(0:Int32),(0:Int32),(0:Int32),(0:Int32),(0:Int32),(0:Int32),(0:Int32),(0:Int32),(0:Int32),(0:Int32)]:LX),2)
else
(iH a).bind λ(f,b)=>
if(Bc b 0)then
some (([(0:Int32),(0:Int32),(0:Int32),(0:Int32),(0:Int32),(0:Int32),(0:Int32),(0:Int32),(0:Int32),(0:Int32),(0:Int32),(0:Int32),(0:Int32),(0:Int32),(0:Int32),(0:Int32)]:LX),b)
else
(Ab0 f).bind λg=>
some (g,0)
def RJ(a f:Int)(b:LX):Option Int:=
(Gi a f).bind λg=>
if(Bc g 0)then
some g
else
(Rv f b).bind λh=>
if(Bc h 0)then
some h
else
if(geq (Ac b) 0)then
some 2
else
(Je (Bc a 0)).bind λ_=>
if(Bc (Fo (Ac b) a) 0)then
some 2
else
some 0
def iV(a:Int)(b:LX):Option Int:=
if((Cj a 1)||(Ef a 6))then
some 2
else
if(Ef (Ac b) 4000)then
some 4
else
(Je (Bc a 0)).bind λ_=>
if(Bc (Fo (Ac b) a) 0)then
some 2
else
some 0
abbrev Lf:=Option (LX×Int)
def Af3(f:LX):Lf:=
some (f,0)
def L8:=Af3
def pV(gI:Int->LX->Lf)(b a:Int)(k:LX):Lf:=
gI (Ad a b) k
def dV gI:=pV gI
def sR(j20:Int->LX->Lf)(b a:Int)(g:LX):Lf:=
if(Ef (Ao ((Ad a b)-a) 1) 0)then
(Je (decide (0<= (Ao ((Ad a b)-a) 1)/\ (Ao ((Ad a b)-a) 1)<((Ad a b)-a)))).bind λ_=>
Option.bind (Je (decide (0<= (Ao (Ao ((Ad a b)-a) 1) 1)/\ (Ao (Ao ((Ad a b)-a) 1) 1)<((Ad a b)-a)))) λ_=>
(Ap g (a+(Ao ((Ad a b)-a) 1))).bind λm=>
(Ap g (a+(Ao (Ao ((Ad a b)-a) 1) 1))).bind λn=>
(Je (decide (0<= (Ao ((Ad a b)-a) 1)/\ (Ao ((Ad a b)-a) 1)<((Ad a b)-a)))).bind λ_=>
(Nj g (a+(Ao ((Ad a b)-a) 1)) (Ao m (Bt n 2))).bind λo=>
j20 a o
else
j20 a g
def pL gI b:=sR (dV gI b) b
def cR(j19:Int->LX->Lf)(Bb3:Int->LX->Lf)(b a h:Int)(g:LX):Lf:=
if(Cj h (Ao ((Ad a b)-a) 1))then
(Je (decide (0<= (Ad h 1)/\ (Ad h 1)<((Ad a b)-a)))).bind λ_=>
(Je (decide (0<=h/\h<((Ad a b)-a)))).bind λ_=>
(Ap g (a+(Ad h 1))).bind λm=>
(Ap g (a+h)).bind λn=>
(Je (decide (0<=h/\h<((Ad a b)-a)))).bind λ_=>
(Nj g (a+h) (Ao m n)).bind λo=>
Bb3 (Ad h 1) o
else
j19 a g
def HP(gI:Int->LX->Lf)(b a:Int):Nat->Int->LX->Lf
|0,_,_=>none
|q+1,h,g=>cR (pL gI b) (HP gI b a q) b a h g
def N0 gI b a:=HP gI b a Au
def pT(j17:Int->Int->LX->Lf)(j22:LX->Lf)(b a:Int)(f:LX):Lf:=
if(Cj a (Ac f))then
(iM (Ac f) a (Ad a b)).bind λ_=>
j17 a 0 f
else
j22 f
def HU(b:Int):Nat->Int->LX->Lf
|0,_,_=>none
|q+1,a,f=>pT (N0 (HU b q) b) L8 b a f
def pR b:=HU b Au
def wU(j12:Int->Int->LX->Lf)(b:Int)(p:LX):Lf:=
(iV b p).bind λu=>
if(Bc u 0)then
some (([]:LX),u)
else
(Di p).bind λv=>
j12 b 0 v
def T6:=wU pR
abbrev wM:=Option (Int×LX×LX×Int)
def Ahi(a:Int)(b:LX)(f:Bool):wM:=
if f then
some (10,b,(List.replicate 16 (0:Int32)),0)
else
if(geq a 16)then
some (9,b,(List.replicate 16 (0:Int32)),0)
else
some (0,(List.replicate 16 (0:Int32)),(List.replicate 16 (0:Int32)),2)
def N9:=Ahi
def P3(j2:Int->LX->Bool->wM)(a:Int)(b:LX):wM:=
if(geq a 8)then
j2 a b (geq a 8)
else
j2 a b (geq a 24)
def zZ:=P3 N9
def K5(a:Int)(f:LX):Option (Int×Int32×Int×LX×LX×Int):=
(zZ a f).bind λ(g,h,k,b)=>
if(Bc b 0)then
some (0,0,0,(List.replicate 16 (0:Int32)),(List.replicate 16 (0:Int32)),b)
else
some (a,0,g,h,k,0)
def AL(a:Int)(k:Int32)(b:Int)(f m:LX):Option Int:=
(zZ a f).bind λ(g,n,o,h)=>
if((Bc h 0)||(Bc g b))then
some 8
else
some 0
def qT(a:Int):Option (Int×Int):=
if(geq a 8)then
some (4,0)
else
if(geq a 16)then
if(geq a 16)then
some (5,0)
else
some (0,2)
else
if(geq a 24)then
some (5,0)
else
some (0,2)
def cU(a:Int)(b:Int32):Option Int32:=
(Je (Ms a 0)).bind λ_=>
(Je (Ms a 0)).bind λ_=>
some (Af (Acx (Ao (Dp (Af b:Int) (GI.toZ a).toNat) (Af b:Int)) (GI.toZ a).toNat):Int32)
def AM(b:Int)(f:Int32):Option (Int32×Int):=
(qT b).bind λ(g,a)=>
if(Bc a 0)then
some (0,a)
else
(cU g f).bind λh=>
some (h,0)
def QB(a:Int)(b f:LX):Option Int:=
if((Bc a 9)&&(Bc a 10))then
some 8
else
some 0
abbrev Wu:=Option (Int32×Int)
def vX(g:Int32)(a:Int)(b f:LX):Wu:=
(Je (Ms a 0)).bind λ_=>
some ((Ci g (GI.toZ a).toNat),0)
def fF:=vX
def RM(j6:Int32->Int->LX->LX->Wu)(Re:Int32->Int->Wu)(b:LX)(a:Int)(f:LX)(g:Int32)(h:Int):Wu:=
if(Cj h 16)then
(Ap b h).bind λm=>
(Ap f h).bind λ_=>
(Ap f h).bind λn=>
Re (Ad g (Bf m n)) (Ad h 1)
else
j6 g a b f
def Xz(b:LX)(a:Int)(f:LX):Nat->Int32->Int->Wu
|0,_,_=>none
|q+1,g,h=>RM fF (Xz b a f q) b a f g h
def fN b a f:=Xz b a f Au
def fA(j4:LX->Int->LX->Int32->Int->Wu)(a:Int)(b f:LX):Wu:=
(QB a b f).bind λk=>
if(Bc k 0)then
some (0,k)
else
(Je (Ms (Ao a 1) 0)).bind λ_=>
j4 b a f (Dp (1:Int32) (GI.toZ (Ao a 1)).toNat) 0
def aN:=fA fN
def iB(a:Int):Option Int32:=
if(geq a 0)then
some 4
else
if(Cj a 4)then
some 2
else
some 1
abbrev Vz:=Option (Int×LX×LX×Int)
def yf(g:Int)(b f:LX):Vz:=
some (g,b,f,0)
def vP:=yf
def RN(j6:Int->LX->LX->Vz)(Re:Int->LX->Vz)(h:Int32)(f:LX)(g a:Int)(b:LX):Vz:=
if(Cj a 16)then
(Ap f a).bind λm=>
if(geq m 0)then
Re (Ad a 1) b
else
if((Cj m 0)==(Cj h 0))then
(Ap b a).bind λ_=>
(Ap b a).bind λo=>
(iB a).bind λp=>
(Ap b a).bind λ_=>
(Nj b a (Ad o p)).bind λu=>
Re (Ad a 1) u
else
(Ap b a).bind λ_=>
(Ap b a).bind λv=>
(iB a).bind λw=>
(Ap b a).bind λ_=>
(Nj b a (Ao v w)).bind λy=>
Re (Ad a 1) y
else
j6 g b f
def Xr(h:Int32)(f:LX)(g:Int):Nat->Int->LX->Vz
|0,_,_=>none
|q+1,a,b=>RN vP (Xr h f g q) h f g a b
def vK h f g:=Xr h f g Au
def fU(j4:Int32->LX->Int->Int->LX->Vz)(g:Int)(k f:LX)(h:Int32):Vz:=
(QB g k f).bind λn=>
if(Bc n 0)then
some (0,(List.replicate 16 (0:Int32)),(List.replicate 16 (0:Int32)),n)
else
if(geq h 0)then
some (g,k,f,0)
else
j4 h f g 0 k
def nA:=fU vK
abbrev sE:=Option (Int×LX×LX×Int)
def yO(g:Int32)(b:Int)(f a:LX):sE:=
(Ap (Yf a 1 ((16:Int)-(1:Int)) (aV a 0 ((16:Int)-(0:Int)))) 0).bind λ_=>
(Nj (Yf a 1 ((16:Int)-(1:Int)) (aV a 0 ((16:Int)-(0:Int)))) 0 g).bind λk=>
some (b,f,k,0)
def lW:=yO
def XW(j2:Int32->Int->LX->LX->sE)(b:Int)(f a:LX)(g:Int32):sE:=
(QB b f a).bind λh=>
if(Bc h 0)then
some (0,(List.replicate 16 (0:Int32)),(List.replicate 16 (0:Int32)),h)
else
(
(iM 16 1 16).bind λ_=>
(iM 16 0 16).bind λ_=>
j2 g b f a)
def uI:=XW lW
def YZ(a:Int)(b f:LX)(g h:Int32):Option (Int×LX×LX):=
(nA a b f h).bind λ(k,m,n,v)=>
(uI k m n g).bind λ(o,p,u,w)=>
some (o,p,u)
def eN(b:Int)(f g:LX)(a:Int32):Option (Int32×Int×LX×LX×Int):=
(aN b f g).bind λ(h,k)=>
if(Bc k 0)then
some (0,0,(List.replicate 16 (0:Int32)),(List.replicate 16 (0:Int32)),k)
else
(YZ b f g a (Ao a h)).bind λ(m,n,o)=>
some ((Ao a h),m,n,o,0)
def Xq(a:Int)(b:Int32)(f:Int)(g h:LX)(k:Int32):Option (Int32×Int×Int32×Int×LX×LX×Int):=
(AL a b f g h).bind λm=>
if(Bc m 0)then
some (0,0,0,0,(List.replicate 16 (0:Int32)),(List.replicate 16 (0:Int32)),m)
else
(AM a b).bind λ(n,y)=>
(eN f g h (Ao k n)).bind λ(o,p,u,v,w)=>
(
some (o,a,k,p,u,v,w))
def tJ(a:Int32):Option UInt32:=
some (BA (Dp (Af a:UInt32) (GI.toZ (1:UInt64)).toNat) (Af (Ci a (GI.toZ (31:UInt64)).toNat):UInt32))
abbrev Dy:=Option (LU×Int)
def xO(k:LU):Dy:=
some (k,0)
def cG:=xO
def Wy(j12:LU->Dy)(Akl:Int-> (List (Int×Int32×(Int×LX×LX×Unit)×Unit))->LU->Dy)(b:LX)(a f g:Int)(o:List (Int×Int32×(Int×LX×LX×Unit)×Unit))(k:LU):Dy:=
if(Cj g (Ac b))then
(Ap b g).bind λ_=>
(Ap b g).bind λac=>
(Je (Bc a 0)).bind λ_=>
(Ap o (Fo g a)).bind λ_=>
(Ap o (Fo g a)).bind λp=>
(Xq p.1 p.2.1 p.2.2.1.1 p.2.2.1.2.1 p.2.2.1.2.2.1 ac).bind λ(u,ad,ae,v,af,ag,w)=>
if(Bc w 0)then
some (([]:LU),w)
else
(Nj o (Fo g a) (ad,ae,(v,af,ag,()),())).bind λah=>
(tJ u).bind λai=>
(Ds k ([ai]:LU)).bind λaj=>
Akl (Ad g 1) ah aj
else
j12 k
def Mf(b:LX)(a f:Int):Nat->Int-> (List (Int×Int32×(Int×LX×LX×Unit)×Unit))->LU->Dy
|0,_,_,_=>none
|q+1,g,o,k=>Wy cG (Mf b a f q) b a f g o k
def ZB b a f:=Mf b a f Au
def cP(j10:LX->Int->Int->Int-> (List (Int×Int32×(Int×LX×LX×Unit)×Unit))->LU->Dy)(a f:Int)(b:LX)(h:List (Int×Int32×(Int×LX×LX×Unit)×Unit)):Dy:=
j10 b a f 0 h ([]:LU)
def II:=cP ZB
def cW(j9:Int->Int->LX-> (List (Int×Int32×(Int×LX×LX×Unit)×Unit))->Dy)(bk7:Int-> (List (Int×Int32×(Int×LX×LX×Unit)×Unit))->Dy)(a f:Int)(m b:LX)(n:Int)(h:List (Int×Int32×(Int×LX×LX×Unit)×Unit)):Dy:=
if(Cj n 6)then
(K5 f m).bind λ(ak,al,u,am,an,v)=>
(Ap h n).bind λ_=>
(Nj h n (ak,al,(u,am,an,()),())).bind λao=>
bk7 (Ad n 1) ao
else
j9 a f b h
def KN(a f:Int)(m b:LX):Nat->Int-> (List (Int×Int32×(Int×LX×LX×Unit)×Unit))->Dy
|0,_,_=>none
|q+1,n,h=>cW II (KN a f m b q) a f m b n h
def Zr a f m b:=KN a f m b Au
def JT(j7:Int->Int->LX->LX->Int-> (List (Int×Int32×(Int×LX×LX×Unit)×Unit))->Dy)(a f:Int)(m y:LX):Dy:=
(RJ a f y).bind λaa=>
if(Bc aa 0)then
some (([]:LU),aa)
else
(T6 a y).bind λ(b,ab)=>
if(Bc ab 0)then
some (([]:LU),ab)
else
j7 a f m b 0 (List.replicate 6 ((0:Int),(0:Int32),((0:Int),(List.replicate 16 (0:Int32)),(List.replicate 16 (0:Int32)),()),()))
def JS:=JT Zr
def yB:Option (Int×Int×UInt64×UInt64):=
some (10,10,16384,16384)
abbrev Md:=Option ((List (Int×Int×UInt64×UInt64×Unit)))
def A9(a:List (Int×Int×UInt64×UInt64×Unit)):Md:=
some a
def eB:=A9
def eG(j6:(List (Int×Int×UInt64×UInt64×Unit))->Md)(Re:Int-> (List (Int×Int×UInt64×UInt64×Unit))->Md)(b:Int)(a:List (Int×Int×UInt64×UInt64×Unit)):Md:=
if(Cj b 6)then
(yB).bind λ(f,g,h,k)=>
(Ap a b).bind λ_=>
(Nj a b (f,g,h,k,())).bind λm=>
Re (Ad b 1) m
else
j6 a
def ID:Nat->Int-> (List (Int×Int×UInt64×UInt64×Unit))->Md
|0,_,_=>none
|q+1,b,a=>eG eB (ID q) b a
def MG:=ID Au
def JL(j4:Int-> (List (Int×Int×UInt64×UInt64×Unit))->Md):Md:=
j4 0 (List.replicate 6 ((0:Int),(0:Int),(0:UInt64),(0:UInt64),()))
def LG:=JL MG
def Kv(b:LB)(a:Int):Option Int:=
if(((Cj a 0)||(Ef a 330000))||(Bc (Ac b) (Acx (Ad a 7) (GI.toZ (3:UInt64)).toNat)))then
some 8
else
if(Ef (Et a 7) 0)then
(Ap b (Ao (Ac b) 1)).bind λf=>
(Je (Ms (Et a 7) 0)).bind λ_=>
if(Bc (Ci f (GI.toZ (Et a 7)).toNat) 0)then
some 8
else
some 0
else
some 0
def vE(a b:Int)(f g:UInt64):Option Int:=
if(!((geq (Fi (uT a 0) 24) a)&&((geq (Fi (uT b 0) 24) b)&&((geq (Fi f 68719476735) f)&&((geq (Fi g 68719476735) g)&&true)))))then
some 8
else
some 0
def eQ:=vE
def RI(j4:Int->Int->UInt64->UInt64->Option Int)(a b:Int)(f g:UInt64):Option Int:=
(
(
j4 a b f g))
def gC:=RI eQ
def RP(j3:Int->Int->UInt64->UInt64->Option Int)(a b:Int)(f g:UInt64):Option Int:=
(
(
j3 a b f g))
def bL:=RP gC
def QH(a f:Int)(g h:UInt64)(b:UInt32):Option (Int×UInt32):=
(Je (Ms a 0)).bind λ_=>
if(geq (Ci b (GI.toZ a).toNat) 0)then
some (0,b)
else
(Je (Ms a 0)).bind λ_=>
some (1,(Ao b (Dp (1:UInt32) (GI.toZ a).toNat)))
def iF(a:LB)(b:Int):Option (LB×Int):=
(Bo a).bind λf=>
some (f,b)
abbrev Er:=Option (LB×Int×Int)
def yE(f:Int)(o:LB):Er:=
some (o,f,0)
def kO:=yE
def zX(Avc:UInt64->Int->Int->LB->Er)(b:UInt64)(a:Int)(m:UInt64)(h f:Int)(w:LB):Er:=
(Je (Ms (Fi h (Ao 8 (Et f 7))) 0)).bind λ_=>
Avc (Ci m (GI.toZ (Fi h (Ao 8 (Et f 7)))).toNat) (Ao h (Fi h (Ao 8 (Et f 7)))) (Ad f (Fi h (Ao 8 (Et f 7)))) w
def mS Avc:=zX Avc
def lX(j19:UInt64->Int->Int->LB->Er)(b:UInt64)(a:Int)(m:UInt64)(h f:Int)(u:LB):Er:=
(Ap u (Ao (Ac u) 1)).bind λ_=>
(Je (Ms (Fi h (Ao 8 (Et f 7))) 0)).bind λ_=>
(Je (Ms (Et f 7) 0)).bind λ_=>
(Ap u (Ao (Ac u) 1)).bind λad=>
(Ap u (Ao (Ac u) 1)).bind λ_=>
Option.bind (Nj u (Ao (Ac u) 1) (xC ad (Dp (Af (Et m (Ao (Dp (1:UInt64) (GI.toZ (Fi h (Ao 8 (Et f 7)))).toNat) 1)):UInt8) (GI.toZ (Et f 7)).toNat))) λw=>
j19 m h f w
def XT Avc b a:=lX (mS Avc b a) b a
def XU(j18:UInt64->Int->Int->LB->Er)(j21:Int->LB->Er)(b:UInt64)(a:Int)(m:UInt64)(h f:Int)(o:LB):Er:=
if(Ef h 0)then
if(geq (Et f 7) 0)then
(Ds o ([(0:UInt8)]:LB)).bind λab=>
j18 m h f ab
else
j18 m h f o
else
j21 f o
def Rt(b:UInt64)(a:Int):Nat->UInt64->Int->Int->LB->Er
|0,_,_,_,_=>none
|q+1,m,h,f,o=>XU (XT (Rt b a q) b a) kO b a m h f o
def D0 b a:=Rt b a Au
def Ab3(g:Int)(p:LB):Er:=
some (p,g,0)
def C6:=Ab3
def Aco(Avd:UInt64->Int->Int->LB->Er)(b:UInt64)(a:Int)(n:UInt64)(k g:Int)(y:LB):Er:=
(Je (Ms (Fi k (Ao 8 (Et g 7))) 0)).bind λ_=>
Avd (Ci n (GI.toZ (Fi k (Ao 8 (Et g 7)))).toNat) (Ao k (Fi k (Ao 8 (Et g 7)))) (Ad g (Fi k (Ao 8 (Et g 7)))) y
def zD Avd:=Aco Avd
def yQ(j26:UInt64->Int->Int->LB->Er)(b:UInt64)(a:Int)(n:UInt64)(k g:Int)(v:LB):Er:=
(Ap v (Ao (Ac v) 1)).bind λ_=>
(Je (Ms (Fi k (Ao 8 (Et g 7))) 0)).bind λ_=>
(Je (Ms (Et g 7) 0)).bind λ_=>
(Ap v (Ao (Ac v) 1)).bind λae=>
(Ap v (Ao (Ac v) 1)).bind λ_=>
Option.bind (Nj v (Ao (Ac v) 1) (xC ae (Dp (Af (Et n (Ao (Dp (1:UInt64) (GI.toZ (Fi k (Ao 8 (Et g 7)))).toNat) 1)):UInt8) (GI.toZ (Et g 7)).toNat))) λy=>
j26 n k g y
def zV Avd b a:=yQ (zD Avd b a) b a
def yF(j25:UInt64->Int->Int->LB->Er)(j28:Int->LB->Er)(b:UInt64)(a:Int)(n:UInt64)(k g:Int)(p:LB):Er:=
if(Ef k 0)then
if(geq (Et g 7) 0)then
(Ds p ([(0:UInt8)]:LB)).bind λw=>
j25 n k g w
else
j25 n k g p
else
j28 g p
def lG(b:UInt64)(a:Int):Nat->UInt64->Int->Int->LB->Er
|0,_,_,_,_=>none
|q+1,n,k,g,p=>yF (zV (lG b a q) b a) C6 b a n k g p
def zO b a:=lG b a Au
def pX(j15:UInt64->Int->UInt64->Int->Int->LB->Er)(j22:UInt64->Int->UInt64->Int->Int->LB->Er)(ac:LB)(aa:Int)(b:UInt64)(a:Int):Er:=
(Kv ac aa).bind λaf=>
if(Bc af 0)then
some (([]:LB),0,8)
else
if((Cj a 0)||(Ef a 64))then
some (([]:LB),0,2)
else
if(Cj a 64)then
(Je (Ms a 0)).bind λ_=>
if(Bc (Ci b (GI.toZ a).toNat) 0)then
some (([]:LB),0,16)
else
if(Ef (Ad aa a) 330000)then
some (([]:LB),0,18)
else
(iF ac aa).bind λ(ag,ah)=>
j15 b a b a ah ag
else
if(Ef (Ad aa a) 330000)then
some (([]:LB),0,18)
else
(iF ac aa).bind λ(ab,ai)=>
j22 b a b a ai ab
def aZ:=pX D0 zO
def CE(b:UInt32)(a:Int):Option Bool:=
(Je (Ms a 0)).bind λ_=>
some (Ms (Ci b (GI.toZ a).toNat) 48)
def mJ(a:Int):Option (Int×Int):=
if((Cj a 0)||(Ef a 48))then
some (0,2)
else
some ((Fi (Ad a 1) 48),0)
def dX(b:LB)(f a:Int):Option (LB×Int×Int):=
(Kv b f).bind λg=>
if(Bc g 0)then
some (([]:LB),0,g)
else
(mJ a).bind λ(k,h)=>
if(Bc h 0)then
some (([]:LB),0,h)
else
(Je (Ms a 0)).bind λ_=>
(aZ b f (Ao (Dp (1:UInt64) (GI.toZ a).toNat) 1) k).bind λ(m,n,o)=>
some (m,n,o)
abbrev kI:=Option (LB×Int×Int)
def gE(b:LB)(f h:Int)(k:UInt32)(m:Int):kI:=
(dX b f h).bind λ(p,u,n)=>
if(Bc n 0)then
some (([]:LB),0,n)
else
(aZ p u (Af k:UInt64) m).bind λ(v,w,y)=>
some (v,w,y)
def RT:=gE
def eU(j2:LB->Int->Int->UInt32->Int->kI)(b:LB)(f:Int)(g:UInt32)(a:Int):kI:=
(Kv b f).bind λo=>
if(Bc o 0)then
some (([]:LB),0,o)
else
if((Cj a 0)||(Ef a 24))then
some (([]:LB),0,2)
else
(Je (Ms a 0)).bind λ_=>
(Je (Ms a 0)).bind λ_=>
(CE g a).bind λaa=>
if aa then
j2 b f 48 g 32
else
j2 b f (Af (Ci g (GI.toZ a).toNat):Int) (Et g (Ao (Dp (1:UInt32) (GI.toZ a).toNat) 1)) a
def lL:=eU RT
abbrev Kw:=Option (LB×Int×Int×Int×UInt64×UInt64×Int)
def ND(k u n:Int)(a:UInt64)(b:UInt32)(o:UInt64)(m:LB):Kw:=
(
(
some (m,k,u,n,(Ad a (Ao (Af b:UInt64) (Ci a (GI.toZ (4:UInt64)).toNat))),o,0)))
def bX:=ND
def fP(j10:Int->Int->Int->UInt64->UInt32->UInt64->LB->Kw)(b:UInt32)(k n:Int)(a o:UInt64)(m:LB)(u:Int):Kw:=
j10 k u n a b o m
def fY:=fP bX
def eW(j9:UInt32->Int->Int->UInt64->UInt64->LB->Int->Kw)(b:UInt32)(f:Int)(a:UInt64)(k:Int)(m:LB)(n:Int)(o:UInt64):Kw:=
if(Ef f 0)then
(Je (Ms f 0)).bind λ_=>
if(Cj (Ad a (Ao (Af b:UInt64) (Ci a (GI.toZ (4:UInt64)).toNat))) (Dp (16:UInt64) (GI.toZ f).toNat))then
j9 b k n a o m (Ao f 1)
else
if(Cj f 24)then
(Je (Ms f 0)).bind λ_=>
if(Ef (Ad a (Ao (Af b:UInt64) (Ci a (GI.toZ (4:UInt64)).toNat))) (Dp (32:UInt64) (GI.toZ f).toNat))then
j9 b k n a o m (Ad f 1)
else
j9 b k n a o m f
else
j9 b k n a o m f
else
if(Cj f 24)then
(Je (Ms f 0)).bind λ_=>
if(Ef (Ad a (Ao (Af b:UInt64) (Ci a (GI.toZ (4:UInt64)).toNat))) (Dp (32:UInt64) (GI.toZ f).toNat))then
j9 b k n a o m (Ad f 1)
else
j9 b k n a o m f
else
j9 b k n a o m f
def DT:=eW fY
def eS(j8:UInt32->Int->UInt64->Int->LB->Int->UInt64->Kw)(b:UInt32)(f h:Int)(a g:UInt64)(y k:Int)(m:LB):Kw:=
if(Bc y 0)then
some (([]:LB),0,0,0,0,0,y)
else
(QH f h a g b).bind λ(ag,p)=>
if(geq ag 1)then
if(Ef h 0)then
(Je (Ms h 0)).bind λ_=>
if(Cj (Ad g (Ao (Af p:UInt64) (Ci g (GI.toZ (4:UInt64)).toNat))) (Dp (16:UInt64) (GI.toZ h).toNat))then
j8 b f a k m (Ao h 1) (Ad g (Ao (Af p:UInt64) (Ci g (GI.toZ (4:UInt64)).toNat)))
else
if(Cj h 24)then
(Je (Ms h 0)).bind λ_=>
if(Ef (Ad g (Ao (Af p:UInt64) (Ci g (GI.toZ (4:UInt64)).toNat))) (Dp (32:UInt64) (GI.toZ h).toNat))then
j8 b f a k m (Ad h 1) (Ad g (Ao (Af p:UInt64) (Ci g (GI.toZ (4:UInt64)).toNat)))
else
j8 b f a k m h (Ad g (Ao (Af p:UInt64) (Ci g (GI.toZ (4:UInt64)).toNat)))
else
j8 b f a k m h (Ad g (Ao (Af p:UInt64) (Ci g (GI.toZ (4:UInt64)).toNat)))
else
if(Cj h 24)then
(Je (Ms h 0)).bind λ_=>
if(Ef (Ad g (Ao (Af p:UInt64) (Ci g (GI.toZ (4:UInt64)).toNat))) (Dp (32:UInt64) (GI.toZ h).toNat))then
j8 b f a k m (Ad h 1) (Ad g (Ao (Af p:UInt64) (Ci g (GI.toZ (4:UInt64)).toNat)))
else
j8 b f a k m h (Ad g (Ao (Af p:UInt64) (Ci g (GI.toZ (4:UInt64)).toNat)))
else
j8 b f a k m h (Ad g (Ao (Af p:UInt64) (Ci g (GI.toZ (4:UInt64)).toNat)))
else
j8 b f a k m h g
def RS:=eS DT
def gA(j7:UInt32->Int->Int->UInt64->UInt64->Int->Int->LB->Kw)(b:UInt32)(v:LB)(w f h:Int)(a g:UInt64):Kw:=
(QH f h a g b).bind λ(ad,ae)=>
(aZ v w (Af ad:UInt64) 1).bind λ(aa,ab,ac)=>
if((geq ac 0)&&(geq ad 0))then
(aZ aa ab (Af ae:UInt64) f).bind λ(ah,ai,aj)=>
j7 b f h a g aj ai ah
else
if(geq ac 0)then
(lL aa ab ae h).bind λ(ak,al,am)=>
j7 b f h a g am al ak
else
j7 b f h a g ac ab aa
def eZ:=gA RS
def gH(j6:UInt32->LB->Int->Int->Int->UInt64->UInt64->Kw)(v:LB)(w f h:Int)(a g:UInt64)(b:UInt32):Kw:=
(Kv v w).bind λan=>
if(Bc an 0)then
some (([]:LB),0,0,0,0,0,8)
else
(bL f h a g).bind λao=>
if(Bc ao 0)then
some (([]:LB),0,0,0,0,0,8)
else
j6 b v w f h a g
def kZ:=gH eZ
abbrev Cs:=Option (UInt32×Int)
def qJ(h:UInt32):Cs:=
some (h,0)
def ZL:=qJ
def MI(j30:UInt32->Cs)(Bfv:UInt32->Int->Cs)(a:LB)(b:LU)(h:UInt32)(m:Int):Cs:=
if(Cj m (Ac a))then
(Ap a m).bind λp=>
(Ap b (GI.toZ (BA (Af h:UInt8) p))).bind λ_=>
(Ap b (GI.toZ (BA (Af h:UInt8) p))).bind λu=>
Bfv (BA (Ci h (GI.toZ (8:UInt64)).toNat) u) (Ad m 1)
else
j30 h
def Vg(a:LB)(b:LU):Nat->UInt32->Int->Cs
|0,_,_=>none
|q+1,h,m=>MI ZL (Vg a b q) a b h m
def aG a b:=Vg a b Au
def ZX(j28:LB->LU->UInt32->Int->Cs)(f:UInt32)(a:LB)(b:LU):Cs:=
j28 a b f 0
def ZQ:=ZX aG
def ZO(j27:UInt32->LB->LU->Cs)(f:UInt32)(a:LB)(b:LU):Cs:=
j27 f a b
def KJ:=ZO ZQ
def pY(Iv:Int->LU->Cs)(f:UInt32)(a:LB)(g:Int)(o:LU):Cs:=
Iv (Ad g 1) o
def bP Iv:=pY Iv
def aE(j24:Int->LU->Cs)(f:UInt32)(a:LB)(g:Int)(k:UInt32)(b:LU):Cs:=
(Ap b g).bind λ_=>
(Nj b g k).bind λo=>
j24 g o
def KE Iv f a:=aE (bP Iv f a) f a
def JM(j23:Int->UInt32->LU->Cs)(Akk:UInt32->Int->Cs)(f:UInt32)(a:LB)(g:Int)(b:LU)(k:UInt32)(n:Int):Cs:=
if(Cj n 8)then
Akk (BA (Ci k (GI.toZ (1:UInt64)).toNat) (Bf 3988292384 (Et k 1))) (Ad n 1)
else
j23 g k b
def Un(Iv:Int->LU->Cs)(f:UInt32)(a:LB)(g:Int)(b:LU):Nat->UInt32->Int->Cs
|0,_,_=>none
|q+1,k,n=>JM (KE Iv f a) (Un Iv f a g b q) f a g b k n
def YU Iv f a g b:=Un Iv f a g b Au
def MK(j21:Int->LU->UInt32->Int->Cs)(j26:UInt32->LB->LU->Cs)(f:UInt32)(a:LB)(g:Int)(b:LU):Cs:=
if(Cj g 256)then
j21 g b (Af g:UInt32) 0
else
j26 f a b
def Pz(f:UInt32)(a:LB):Nat->Int->LU->Cs
|0,_,_=>none
|q+1,g,b=>MK (YU (Pz f a q) f a) KJ f a g b
def ZI f a:=Pz f a Au
def fK(j16:UInt32->LB->Int->LU->Cs)(f:UInt32)(a:LB):Cs:=
if(Ef (Ac a) 100000)then
some (0,4)
else
j16 f a 0 (List.replicate 256 (0:UInt32))
def mO:=fK ZI
def BN(b:LB):Option (UInt32×Int):=
(mO 4294967295 b).bind λ(f,a)=>
if(Bc a 0)then
some (0,a)
else
some ((qc f),0)
def T5(b:UInt64)(a:Int):Option Bool:=
if(geq a 8)then
some true
else
(Je (Ms (Bf 8 a) 0)).bind λ_=>
some (geq (Ci b (GI.toZ (Bf 8 a)).toNat) 0)
abbrev GK:=Option (LB×Int)
def P0(a:LB):GK:=
some (a,0)
def pS:=P0
def dG(j6:LB->GK)(Re:Int->LB->GK)(f:UInt64)(g:LB)(b:Int)(a:LB):GK:=
if(Cj b (Ac g))then
(Je (Ms (Bf 8 b) 0)).bind λ_=>
(Ap a b).bind λ_=>
(Nj a b (Af (Ci f (GI.toZ (Bf 8 b)).toNat):UInt8)).bind λk=>
Re (Ad b 1) k
else
j6 a
def HO(f:UInt64)(g:LB):Nat->Int->LB->GK
|0,_,_=>none
|q+1,b,a=>dG pS (HO f g q) f g b a
def rI f g:=HO f g Au
def rA(j4:UInt64->LB->Int->LB->GK)(f:UInt64)(h:Int):GK:=
if((Cj h 1)||(Ef h 8))then
some (([]:LB),2)
else
(T5 f h).bind λm=>
if(!m)then
some (([]:LB),16)
else
(mkI h (0:UInt8)).bind λg=>
(Je (geq h h)).bind λ_=>
j4 f g 0 g
def DQ:=rA rI
def YE(f:LB):Option (LB):=
some f
def Zd:=YE
def Dt(j16:LB->Option (LB))(sY:Int->LB->Option (LB))(a:List LB)(g:Int)(f:LB):Option (LB):=
if(Cj g (Ac a))then
(Ap a g).bind λo=>
(Ds f o).bind λp=>
sY (Ad g 1) p
else
j16 f
def Ct(a:List LB):Nat->Int->LB->Option (LB)
|0,_,_=>none
|q+1,g,f=>Dt Zd (Ct a q) a g f
def Ju a:=Ct a Au
def Jv(j14:(List LB)->Int->LB->Option (LB))(a:List LB)(k:LB):Option (LB):=
j14 a 0 k
def Ew:=Jv Ju
def Jy(j13:(List LB)->LB->Option (LB))(b:Int)(a:List LB):Option (LB):=
if(Ef (Ao b (Ao (0:Int) (0:Int))) 0)then
(iM 0 0 0).bind λ_=>
(mkI (Ao b (Ao (0:Int) (0:Int))) (0:UInt8)).bind λu=>
(Ds ([]:LB) u).bind λm=>
(iM (Ac m) 0 0).bind λ_=>
j13 a (aV m 0 ((0:Int)-(0:Int)))
else
j13 a ([]:LB)
def Jz:=Jy Ew
def Jw(j12:Int-> (List LB)->Option (LB))(a:List LB)(b:Int):Option (LB):=
if(Cj b 0)then
none
else
j12 b a
def Ex:=Jw Jz
def Eb(j11:(List LB)->Int->Option (LB))(bk9:Int->Int->Option (LB))(a:List LB)(b h:Int):Option (LB):=
if(Cj h (Ac a))then
(Ap a h).bind λn=>
if(Cj (Ad b (Ac n)) 0)then
none
else
bk9 (Ad b (Ac n)) (Ad h 1)
else
j11 a b
def Cw(a:List LB):Nat->Int->Int->Option (LB)
|0,_,_=>none
|q+1,b,h=>Eb Ex (Cw a q) a b h
def Qb a:=Cw a Au
def Qo(j9:(List LB)->Int->Int->Option (LB))(a:List LB):Option (LB):=
j9 a 0 0
def Fj:=Qo Qb
abbrev By:=Option (LB×Int)
def bB(u:Int)(p:LB):By:=
(BN p).bind λ(af,ac)=>
if(Bc ac 0)then
some (([]:LB),ac)
else
(DQ (Af af:UInt64) 4).bind λ(m,h)=>
if(Bc h 0)then
some (([]:LB),h)
else
(Fj ([p,m]:List LB)).bind λag=>
some (ag,0)
def FW:=bB
def ZT(nB:Int-> (List (Int×Int×UInt64×UInt64×Unit))->Int->LB->By)(a:LU)(b f g:Int)(k:List (Int×Int×UInt64×UInt64×Unit))(n:Int)(v:LB):By:=
nB (Ad g 1) k n v
def GJ nB:=ZT nB
def bY(xm:Int->Int->LB->By)(h:Int)(a:LU)(g b f:Int)(k:List (Int×Int×UInt64×UInt64×Unit))(m:LB)(o n:Int)(aa:LB):By:=
xm (Ad o 1) (Ad n 1) aa
def FT xm:=bY xm
def FM(j48:Int->Int->LB->By)(h:Int)(a:LU)(g b f:Int)(k:List (Int×Int×UInt64×UInt64×Unit))(m:LB)(o n:Int)(y:LB):By:=
(Ap m (Bt o 8)).bind λ_=>
(Ap m (Bt o 8)).bind λah=>
(Je (Ms (Fo o 8) 0)).bind λ_=>
(Ap y (Bt n 8)).bind λ_=>
(Je (Ms (Fo n 8) 0)).bind λ_=>
(Ap y (Bt n 8)).bind λai=>
(Ap y (Bt n 8)).bind λ_=>
Option.bind (Nj y (Bt n 8) (xC ai (Dp (Et (Ci ah (GI.toZ (Fo o 8)).toNat) 1) (GI.toZ (Fo n 8)).toNat))) λaa=>
j48 o n aa
def Wg xm h a g b f k m:=FM (FT xm h a g b f k m) h a g b f k m
def Xb(j47:Int->Int->LB->By)(j50:Int-> (List (Int×Int×UInt64×UInt64×Unit))->Int->LB->By)(a:LU)(b f h g:Int)(k:List (Int×Int×UInt64×UInt64×Unit))(m:LB)(o n:Int)(v:LB):By:=
if(Cj o h)then
if(geq (Fo n 8) 0)then
(Ds v ([(0:UInt8)]:LB)).bind λaj=>
j47 o n aj
else
j47 o n v
else
j50 g k n v
def Hp(nB:Int-> (List (Int×Int×UInt64×UInt64×Unit))->Int->LB->By)(a:LU)(b f h g:Int)(k:List (Int×Int×UInt64×UInt64×Unit))(m:LB):Nat->Int->Int->LB->By
|0,_,_,_=>none
|q+1,o,n,v=>Xb (Wg (Hp nB a b f h g k m q) h a g b f k m) (GJ nB a b f) a b f h g k m o n v
def aI nB a b f h g k m:=Hp nB a b f h g k m Au
def Wp(j44:Int->Int-> (List (Int×Int×UInt64×UInt64×Unit))->LB->Int->Int->LB->By)(j52:Int->LB->By)(a:LU)(b f g:Int)(w:List (Int×Int×UInt64×UInt64×Unit))(u:Int)(p:LB):By:=
if(Cj g (Ac a))then
(Ap a g).bind λ_=>
(Ap a g).bind λak=>
(Je (Bc b 0)).bind λ_=>
(Ap w (Fo g b)).bind λ_=>
(Ap w (Fo g b)).bind λab=>
(kZ ([]:LB) 0 ab.1 ab.2.1 ab.2.2.1 ab.2.2.2.1 ak).bind λ(m,h,al,am,an,ao,ad)=>
if(Bc ad 0)then
some (([]:LB),ad)
else
(Je (Bc b 0)).bind λ_=>
(Ap w (Fo g b)).bind λ_=>
(Nj w (Fo g b) (al,am,an,ao,())).bind λk=>
j44 h g k m 0 u p
else
j52 u p
def Jj(a:LU)(b f:Int):Nat->Int-> (List (Int×Int×UInt64×UInt64×Unit))->Int->LB->By
|0,_,_,_,_=>none
|q+1,g,w,u,p=>Wp (aI (Jj a b f q) a b f) FW a b f g w u p
def FI a b f:=Jj a b f Au
def JE(j27:LU->Int->Int->Int-> (List (Int×Int×UInt64×UInt64×Unit))->Int->LB->By)(b f:Int)(ap aq:LX):By:=
(JS b f ap aq).bind λ(a,ae)=>
if(Bc ae 0)then
some (([]:LB),ae)
else
(LG).bind λar=>
j27 a b f 0 ar 0 ([]:LB)
def Nh:=JE FI
def Wx(b f g:Int)(h k:LB)(m:LX)(n:List LB)(o:LB)(p:Bool)(u a:Int):Option (Int×Int×Int×LB×LB×LX×(List LB)×LB×Bool×Int×Int):=
some (b,f,g,h,([]:LB),([]:LX),([]:List LB),([]:LB),false,a,a)
abbrev Cc:=Option (Int×Int×Int×LB×LB×LX×(List LB)×LB×Bool×Int×Int)
def gX(a b g:Int)(f:LB)(h:Bool)(k:Int)(y:LB)(w:LX)(v:List LB)(m:LB):Cc:=
some (a,b,g,f,y,w,v,m,h,k,0)
def QZ:=gX
def BO(sY:Int->LB->LX-> (List LB)->Cc)(p:Int)(n:LB)(a b g:Int)(f:LB)(h:Bool)(k o:Int)(m:LB)(u:Int)(ah:LB)(ai:LX)(aj:List LB):Cc:=
sY (Ad u 1) ah ai aj
def Pj sY:=BO sY
def Vf(j24:Int->LB->LX-> (List LB)->Cc)(p:Int)(n:LB)(a b g:Int)(f:LB)(h:Bool)(k o:Int)(m:LB)(u ad:Int)(ae:LB)(af:LX)(ag:List LB):Cc:=
if(Bc ad 0)then
(Wx a b g f ae af ag m h k ad).bind λ(au,av,aw,ax,ay,az,ba,bb,bc,bd,be)=>
some (au,av,aw,ax,ay,az,ba,bb,bc,bd,be)
else
j24 u ae af ag
def Jt sY p n a b g f h k o m:=Vf (Pj sY p n a b g f h k o m) p n a b g f h k o m
def gP(j23:Int->Int->LB->LX-> (List LB)->Cc)(p:Int)(n:LB)(a b g:Int)(f:LB)(h:Bool)(k o:Int)(m:LB)(u:Int)(ab:LX)(v:List LB)(ak:Int):Cc:=
j23 u ak ([]:LB) ab v
def jC sY p n a b g f h k o m:=gP (Jt sY p n a b g f h k o m) p n a b g f h k o m
def QS(j23:Int->Int->LB->LX-> (List LB)->Cc)(p:Int)(n:LB)(a b g:Int)(f:LB)(h:Bool)(k o:Int)(m:LB)(u:Int)(ac:List LB):Cc:=
j23 u 0 ([]:LB) ([]:LX) ac
def PR sY p n a b g f h k o m:=QS (Jt sY p n a b g f h k o m) p n a b g f h k o m
def PJ(j23:Int->Int->LB->LX-> (List LB)->Cc)(j21:Int->LX-> (List LB)->Int->Cc)(j22:Int-> (List LB)->Cc)(p:Int)(n:LB)(a b g:Int)(f:LB)(h:Bool)(k o:Int)(m:LB)(u:Int)(aa:LB)(w:LX)(v:List LB):Cc:=
(Xu b aa).bind λ(bf,al)=>
if(Bc al 0)then
j23 u al aa w v
else
(Ds w bf).bind λab=>
if(Cj (Ac ab) (Bf o a))then
j23 u 0 ([]:LB) ab v
else
(Nq f).bind λ(bg,am)=>
if(Bc am 0)then
j21 u ab v am
else
(Nh a b bg ab).bind λ(bh,an)=>
if(Bc an 0)then
j21 u ab v an
else
(Ds v ([bh]:List LB)).bind λac=>
j22 u ac
def PK sY p n a b g f h k o m:=PJ (Jt sY p n a b g f h k o m) (jC sY p n a b g f h k o m) (PR sY p n a b g f h k o m) p n a b g f h k o m
def CB(j24:Int->LB->LX-> (List LB)->Cc)(j23:Int->Int->LB->LX-> (List LB)->Cc)(j20:Int->LB->LX-> (List LB)->Cc)(j26:Int->Int->Int->LB->Bool->Int->LB->LX-> (List LB)->LB->Cc)(p:Int)(n:LB)(a b g:Int)(f:LB)(h:Bool)(k o:Int)(m:LB)(u:Int)(y:LB)(w:LX)(v:List LB):Cc:=
if(Cj u (Ac n))then
(Ap n u).bind λbi=>
(Ds y ([bi]:LB)).bind λaa=>
if(Cj (Ac aa) p)then
j24 u aa w v
else
(Xs a b g f aa w v m h k o).bind λbj=>
(Xc a b g f aa w v m h k (Ad (Ac v) 1) (Ad bj 1)).bind λbk=>
if(!bk)then
j23 u 18 aa w v
else
j20 u aa w v
else
j26 a b g f h k y w v m
def Jm(p:Int)(n:LB)(a b g:Int)(f:LB)(h:Bool)(k o:Int)(m:LB):Nat->Int->LB->LX-> (List LB)->Cc
|0,_,_,_,_=>none
|q+1,u,y,w,v=>CB (Pj (Jm p n a b g f h k o m q) p n a b g f h k o m) (Jt (Jm p n a b g f h k o m q) p n a b g f h k o m) (PK (Jm p n a b g f h k o m q) p n a b g f h k o m) QZ p n a b g f h k o m u y w v
def QM p n a b g f h k o m:=Jm p n a b g f h k o m Au
def WA(j14:Int->LB->Int->Int->Int->LB->Bool->Int->Int->LB->Int->LB->LX-> (List LB)->Cc)(bl bm bn:Int)(bp bq:LB)(br:LX)(bs:List LB)(bt:LB)(bu:Bool)(bv:Int)(n:LB):Cc:=
(EH bl bm bn bp bq br bs bt bu bv).bind λ(a,b,g,f,ao,ap,aq,m,h,k,o,ar)=>
if(Bc ar 0)then
some (a,b,g,f,ao,ap,aq,m,h,k,ar)
else
(JG a b).bind λp=>
j14 p n a b g f h k o m 0 ao ap aq
def XM:=WA QM
def RY(a:LB):Option (Int×Int):=
if(Ef (Ac a) 64)then
some (0,2)
else
if(geq (Ac a) 0)then
some (1,0)
else
some (2,0)
def PQ(b f a g h:Int):Option Bool:=
some (((((((geq b 1)||(geq b 2))&&(Ef f 0))&&(I8 f 6))&&(Ef g 0))&&(I8 g 1048576))&&(Ef h 0))
def Pp:=PQ
def BM(j2:Int->Int->Int->Int->Int->Option Bool)(b f a g h:Int):Option Bool:=
if(geq a 8)then
if(geq a 8)then
j2 b f a g h
else
some false
else
if(geq a 16)then
if(geq a 16)then
j2 b f a g h
else
some false
else
if(geq a 24)then
j2 b f a g h
else
some false
def Sn:=BM Pp
def Kb(g b:Int):Option (Int×Int):=
(Oq g).bind λ(a,f)=>
if(Bc f 0)then
some (0,f)
else
if((Cj b 1)||(Ef b 4000))then
some (0,2)
else
(Je (Bc a 0)).bind λ_=>
if(Ef (Bt (Ao (Ad b a) 1) a) 1000)then
some (0,4)
else
some ((Bt (Ao (Ad b a) 1) a),0)
def UG(k a m f b:Int):Option Bool:=
(Je (Bc a 0)).bind λ_=>
if(Ef b (Bt 4000 a))then
some false
else
(Kb f b).bind λ(g,h)=>
some ((geq h 0)&&(I8 g 1000))
def Oo(a b f g h:Int):Option Int:=
(Sn a b f g h).bind λk=>
if(!k)then
some 8
else
(UG a b f g h).bind λm=>
if(!m)then
some 8
else
some 0
abbrev Qj:=Option (LB×Int)
def nJ(a:LB):Qj:=
(BN a).bind λ(u,aa)=>
(DQ (Af u:UInt64) 4).bind λ(n,v)=>
(Ds a n).bind λo=>
some (o,0)
def FA:=nJ
def EY(j6:LB->Qj)(Re:Int->LB->Qj)(b f g h k m:Int)(a:LB):Qj:=
if(Cj m 5)then
(Ap ([b,f,g,h,k]:LI) m).bind λw=>
(Ap ([(2:Int),(2:Int),(2:Int),(4:Int),(4:Int)]:LI) m).bind λy=>
(DQ (Af w:UInt64) y).bind λ(n,v)=>
(Ds a n).bind λo=>
Re (Ad m 1) o
else
j6 a
def Nu(b f g h k:Int):Nat->Int->LB->Qj
|0,_,_=>none
|q+1,m,a=>EY FA (Nu b f g h k q) b f g h k m a
def VI b f g h k:=Nu b f g h k Au
def WB(j4:Int->Int->Int->Int->Int->Int->LB->Qj)(b f g h k:Int):Qj:=
(Oo b f g h k).bind λp=>
if(Bc p 0)then
some (([]:LB),p)
else
j4 b f g h k 0 ([(84:UInt8),(84:UInt8),(65:UInt8),(49:UInt8)]:LB)
def LC:=WB VI
def J2(a:LB):Option (UInt64×Int):=
if(Ef (Ac a) 64)then
some (0,2)
else
(iH a).bind λ(b,f)=>
some (b,0)
def BY(b:LB):Option (LB×Int):=
(J2 b).bind λ(f,a)=>
if(Bc a 0)then
some (([]:LB),a)
else
(DQ f 8).bind λ(g,h)=>
some (g,h)
def qd:Option Int:=
some 0
def sX:=qd
def MY(j6:Option Int)(Re:Int->Int->Option Int)(a:LI)(f b:Int):Option Int:=
if(Cj b (Ac a))then
(Ap a b).bind λg=>
if((Cj g 5)||(Ef g f))then
some 8
else
Re (Ao f g) (Ad b 1)
else
j6
def Vh(a:LI):Nat->Int->Int->Option Int
|0,_,_=>none
|q+1,f,b=>MY sX (Vh a q) a f b
def aO a:=Vh a Au
def LZ(j4:LI->Int->Int->Option Int)(a:LI):Option Int:=
if((geq (Ac a) 0)||(Ef (Ac a) 1000))then
some 8
else
j4 a 100000 0
def Sf:=LZ aO
abbrev Ip:=Option (LB×Int)
def Q4(g:LB):Ip:=
some (g,0)
def nW:=Q4
def VB(j14:LB->Ip)(b:LB):Ip:=
(BN b).bind λ(m,u)=>
(DQ (Af m:UInt64) 4).bind λ(n,v)=>
(Ds b n).bind λg=>
j14 g
def UX:=VB nW
def oA(bk8:Int->LB->Ip)(a:LI)(f:Int)(h:LB):Ip:=
bk8 (Ad f 1) h
def VG bk8:=oA bk8
def MW(j11:Int->LB->Ip)(j13:LB->Ip)(a:LI)(f:Int)(b:LB):Ip:=
if(Cj f (Ac a))then
(Ap a f).bind λo=>
(DQ (Af o:UInt64) 4).bind λ(p,w)=>
(Ds b p).bind λh=>
j11 f h
else
j13 b
def Ul(a:LI):Nat->Int->LB->Ip
|0,_,_=>none
|q+1,f,b=>MW (VG (Ul a q) a) UX a f b
def sI a:=Ul a Au
def ZN(j8:LI->Int->LB->Ip)(a:LI):Ip:=
(Sf a).bind λk=>
if(Bc k 0)then
some (([]:LB),k)
else
j8 a 0 ([]:LB)
def HS:=ZN sI
abbrev Kf:=Option (LB×Int)
def EP(f g h:Int)(b k:LB)(m:LX)(a:List LB)(n:LB)(o:Bool)(p:Int)(u:LB)(v:LI):Kf:=
(HS v).bind λ(aa,y)=>
if(Bc y 0)then
some (([]:LB),y)
else
(
(Ds u aa).bind λab=>
(Fj a).bind λac=>
(Ds ab ac).bind λad=>
some (ad,0))
def Xl:=EP
def ER(j8:Int->Int->Int->LB->LB->LX-> (List LB)->LB->Bool->Int->LB->LI->Kf)(K8:Int->LI->Kf)(a:List LB)(f g h:Int)(b k:LB)(m:LX)(n:LB)(o:Bool)(p:Int)(u:LB)(w:Int)(v:LI):Kf:=
if(Cj w (Ac a))then
(Ap a w).bind λai=>
(Ds v ([(Ac ai)]:LI)).bind λaj=>
K8 (Ad w 1) aj
else
j8 f g h b k m a n o p u v
def Rr(a:List LB)(f g h:Int)(b k:LB)(m:LX)(n:LB)(o:Bool)(p:Int)(u:LB):Nat->Int->LI->Kf
|0,_,_=>none
|q+1,w,v=>ER Xl (Rr a f g h b k m n o p u q) a f g h b k m n o p u w v
def nQ a f g h b k m n o p u:=Rr a f g h b k m n o p u Au
def FD(j6:(List LB)->Int->Int->Int->LB->LB->LX->LB->Bool->Int->LB->Int->LI->Kf)(f g h:Int)(b k:LB)(m:LX)(a:List LB)(n:LB)(o:Bool)(p:Int)(u:LB):Kf:=
j6 a f g h b k m n o p u 0 ([]:LI)
def EK:=FD nQ
def UR(j5:Int->Int->Int->LB->LB->LX-> (List LB)->LB->Bool->Int->LB->Kf)(f g h:Int)(b k:LB)(m:LX)(a:List LB)(n:LB)(o:Bool)(p ak:Int):Kf:=
(RY b).bind λ(al,ae)=>
if(Bc ae 0)then
some (([]:LB),ae)
else
(LC al f g h ak).bind λ(af,ag)=>
if(Bc ag 0)then
some (([]:LB),ag)
else
if(b !=([]:LB))then
(BY b).bind λ(am,ah)=>
if(Bc ah 0)then
some (([]:LB),ah)
else
(Ds af am).bind λan=>
j5 f g h b k m a n o p an
else
j5 f g h b k m a n o p af
def YC:=UR EK
abbrev Po:=Option (Int×Int×Int×LB×LB×LX×(List LB)×LB×Bool×Int×Int)
def JI(o a b g:Int)(f:LB)(k:Bool)(m:Int)(h n:LB)(v:LX)(w:List LB):Po:=
(YC a b g f h v w n k m o).bind λ(aj,y)=>
if(Bc y 0)then
(Wx a b g f h v w n k m y).bind λ(ad,ak,al,am,ae,af,an,ao,ap,aq,ar)=>
some (ad,ak,al,am,ae,af,an,ao,ap,aq,ar)
else
some (a,b,g,f,([]:LB),([]:LX),([]:List LB),aj,true,0,0)
def Rz:=JI
def JQ(j4:Int->Int->Int->Int->LB->Bool->Int->LB->LB->LX-> (List LB)->Po)(o a b g:Int)(f:LB)(k:Bool)(m:Int)(h n:LB)(aa:Int)(ab:LX)(ac:List LB):Po:=
if(Bc aa 0)then
(Wx a b g f h ab ac n k m aa).bind λ(au,y,ad,av,aw,ax,ae,af,ay,az,ba)=>
some (au,y,ad,av,aw,ax,ae,af,ay,az,ba)
else
j4 o a b g f k m h n ab ac
def KM:=JQ Rz
def MT(j3:Int->Int->Int->Int->LB->Bool->Int->LB->LB->Int->LX-> (List LB)->Po)(j4:Int->Int->Int->Int->LB->Bool->Int->LB->LB->LX-> (List LB)->Po)(bb bc bd:Int)(be bf:LB)(bg:LX)(bh:List LB)(bi:LB)(bj:Bool)(bk:Int):Po:=
(EH bb bc bd be bf bg bh bi bj bk).bind λ(a,b,g,f,h,p,u,n,k,m,bl,ag)=>
if(Bc ag 0)then
some (a,b,g,f,h,p,u,n,k,m,ag)
else
(Xs a b g f h p u n k m bl).bind λo=>
if((Ef (Ac h) 0)||(geq o 0))then
(Wx a b g f h p u n k m 24).bind λ(bm,bn,bp,bq,br,bs,bt,bu,bv,bw,bx)=>
some (bm,bn,bp,bq,br,bs,bt,bu,bv,bw,bx)
else
if(Ef (Ac p) 0)then
(Nq f).bind λ(bz,ah)=>
if(Bc ah 0)then
j3 o a b g f k m h n ah p u
else
(Nh a b bz p).bind λ(da,ai)=>
if(Bc ai 0)then
j3 o a b g f k m h n ai p u
else
(Ds u ([da]:List LB)).bind λdb=>
j3 o a b g f k m h n 0 ([]:LX) db
else
j4 o a b g f k m h n p u
def JA:=MT KM Rz
def RO(f g h:Int)(k m:LB)(n:LX)(o:List LB)(p:LB)(u:Bool)(v b:Int):Option (Int×Int×Int×LB×LB×LX×(List LB)×LB×Bool×Int×LB×Int):=
(Sr f g h k m n o p u v).bind λw=>
if(Bc w 0)then
some (0,0,0,([]:LB),([]:LB),([]:LX),([]:List LB),([]:LB),false,0,([]:LB),w)
else
if(Cj b 0)then
some (0,0,0,([]:LB),([]:LB),([]:LX),([]:List LB),([]:LB),false,0,([]:LB),2)
else
(LH f g h k m n o p u v).bind λ(y,aa,ab,ac,ad,ae,af,a,ag,ah)=>
(Bp a 0 (Fi b (Ac a))).bind λai=>
(Bo ai).bind λaj=>
(Bp a (Fi b (Ac a)) (Ac a)).bind λak=>
some (y,aa,ab,ac,ad,ae,af,ak,ag,ah,aj,0)
abbrev Ja:=Option (LB×Int)
def dU(g h k:Int)(m:LB)(n:Bool)(o:Int)(p:LB)(u:LX)(v:List LB)(w:LB):Ja:=
(JA g h k m p u v w n o).bind λ(ap,aq,y,ar,au,av,aa,ab,aw,ax,al)=>
if(Bc al 0)then
some (([]:LB),al)
else
(RO ap aq y ar au av aa ab aw ax 100000).bind λ(ad,ac,bs,bt,bu,bv,bw,bx,bz,da,ay,az)=>
some (ay,az)
def LA:=dU
def QT(K8:LB->Int->Int->Int->Int->LB->Bool->Int->LB->LX-> (List LB)->LB->Ja)(a:LI)(f:LB)(ac ae b y af ag:Int)(ah:LB)(ai:Bool)(ad:Int)(aa:LB)(ab:LX)(aj:List LB)(ak:LB):Ja:=
if(Bc ac 0)then
some (([]:LB),ac)
else
(Bp f ae (Ac f)).bind λba=>
K8 ba (Ad b 1) y af ag ah ai ad aa ab aj ak
def BF K8:=QT K8
def BH(j8:LB->Int->Int->Int->Int->Int->Int->LB->Bool->Int->LB->LX-> (List LB)->LB->Ja)(j10:Int->Int->Int->LB->Bool->Int->LB->LX-> (List LB)->LB->Ja)(a:LI)(f:LB)(b g h k:Int)(m:LB)(n:Bool)(o:Int)(p:LB)(u:LX)(v:List LB)(w:LB):Ja:=
if(Cj b (Ac a))then
(Ap a b).bind λ_=>
(Ap a b).bind λae=>
(Bp f 0 ae).bind λbb=>
(XM g h k m p u v w n o bb).bind λ(y,af,ag,ah,aa,ab,aj,ak,ai,ad,ac)=>
j8 f ac ae b y af ag ah ai ad aa ab aj ak
else
j10 g h k m n o p u v w
def Pr(a:LI):Nat->LB->Int->Int->Int->Int->LB->Bool->Int->LB->LX-> (List LB)->LB->Ja
|0,_,_,_,_,_,_,_,_,_,_,_,_=>none
|q+1,f,b,g,h,k,m,n,o,p,u,v,w=>BH (BF (Pr a q) a) LA a f b g h k m n o p u v w
def gW a:=Pr a Au
def PB(j6:LI->LB->Int->Int->Int->Int->LB->Bool->Int->LB->LX-> (List LB)->LB->Ja)(bc bd be:Int)(bf am:LB)(bg:UInt64):Ja:=
(Xp (Ac am) bg).bind λ(a,an)=>
if(Bc an 0)then
some (([]:LB),an)
else
(dQ bc bd be bf).bind λ(bh,bi,bj,bk,bl,bm,bn,bp,bq,br,ao)=>
if(Bc ao 0)then
some (([]:LB),ao)
else
j6 a am 0 bh bi bj bk bq br bl bm bn bp
def Tp:=PB gW
def rM(a:LB):Option (LB×LB×Int×Int×Int×Int×Int×LI×Int×LB×Bool×Int×Int):=
if(Ef (Ac a) 64)then
some (([]:LB),([]:LB),0,0,0,0,0,([]:LI),0,([]:LB),false,0,2)
else
some (a,([]:LB),0,0,0,0,0,([]:LI),0,([]:LB),false,0,0)
def Nb(a:LB):Option (LB):=
(
(Ds ([]:LB) a).bind λb=>
some b)
def Ho(a:LI):Option (LI):=
(
(Ds ([]:LI) a).bind λb=>
some b)
def En(a b:LB)(f g h k m:Int)(n:LI)(o:Int)(p:LB)(u:Bool)(v:Int):Option (LB×LB×Int×Int×Int×Int×Int×LI×Int×LB×Bool×Int):=
(Nb b).bind λw=>
(Nb p).bind λy=>
(Ho n).bind λaa=>
some (a,w,f,g,h,k,m,aa,o,y,u,v)
def VN(a b:UInt64):Option (UInt64×UInt64):=
some ((Ad (Ad (Bf (Ci a (GI.toZ (32:UInt64)).toNat) (Ci b (GI.toZ (32:UInt64)).toNat)) (Ci (Ad (Bf (Ci a (GI.toZ (32:UInt64)).toNat) (Et b 4294967295)) (Ci (Bf (Et a 4294967295) (Et b 4294967295)) (GI.toZ (32:UInt64)).toNat)) (GI.toZ (32:UInt64)).toNat)) (Ci (Ad (Et (Ad (Bf (Ci a (GI.toZ (32:UInt64)).toNat) (Et b 4294967295)) (Ci (Bf (Et a 4294967295) (Et b 4294967295)) (GI.toZ (32:UInt64)).toNat)) 4294967295) (Bf (Et a 4294967295) (Ci b (GI.toZ (32:UInt64)).toNat))) (GI.toZ (32:UInt64)).toNat)),(Bf a b))
def RW(a b:UInt64):Option (UInt64×UInt64):=
(VN a b).bind λ(f,g)=>
some (f,g)
def Rh(a:LI):Option (LI):=
some a
def Ll:=Rh
def Iq(j10:LI->Option (LI))(bk8:Int->LI->Option (LI))(b:Int)(a:LI):Option (LI):=
if(Cj b (Ac a))then
(
(iM (Ac a) b (Ac a)).bind λ_=>
(iM (Ac a) 0 b).bind λ_=>
bk8 (Ad b (bC ((Ac a)-b) (aV a 0 (b-(0:Int))).length)) (Yf a b ((Ac a)-b) (aV a 0 (b-(0:Int)))))
else
j10 a
def Gj:Nat->Int->LI->Option (LI)
|0,_,_=>none
|q+1,b,a=>Iq Ll (Gj q) b a
def Ti:=Gj Au
def Tk(j8:Int->LI->Option (LI))(f:LI)(g:UInt64):Option (LI):=
(mkI (Af g:Int) (0:Int)).bind λk=>
(Je (geq (Af g:Int) (Af g:Int))).bind λ_=>
j8 (bC (Ac k) f.length) (XG k f)
def Td:=Tk Ti
def Sp(j7:LI->UInt64->Option (LI))(f:LI)(h:Int):Option (LI):=
(RW (Af (Ac f):UInt64) (Af h:UInt64)).bind λ(m,g)=>
if((Ef m 0)||(Ef g 9223372036854775807))then
none
else
j7 f g
def Tl:=Sp Td
def Tg(j6:LI->Int->Option (LI))(f:LI)(h:Int):Option (LI):=
if(Cj h 0)then
none
else
j6 f h
def Qy:=Tg Tl
def cL(f:LI):Option (LI):=
some f
def CJ:=cL
def Ia(j16:LI->Option (LI))(sY:Int->LI->Option (LI))(a:List LI)(g:Int)(f:LI):Option (LI):=
if(Cj g (Ac a))then
(Ap a g).bind λo=>
(Ds f o).bind λp=>
sY (Ad g 1) p
else
j16 f
def Fs(a:List LI):Nat->Int->LI->Option (LI)
|0,_,_=>none
|q+1,g,f=>Ia CJ (Fs a q) a g f
def Rm a:=Fs a Au
def Ri(j14:(List LI)->Int->LI->Option (LI))(a:List LI)(k:LI):Option (LI):=
j14 a 0 k
def Ln:=Ri Rm
def Rj(j13:(List LI)->LI->Option (LI))(b:Int)(a:List LI):Option (LI):=
if(Ef (Ao b (Ao (0:Int) (0:Int))) 0)then
(iM 0 0 0).bind λ_=>
(mkI (Ao b (Ao (0:Int) (0:Int))) (0:Int)).bind λu=>
(Ds ([]:LI) u).bind λm=>
(iM (Ac m) 0 0).bind λ_=>
j13 a (aV m 0 ((0:Int)-(0:Int)))
else
j13 a ([]:LI)
def Rl:=Rj Ln
def Rn(j12:Int-> (List LI)->Option (LI))(a:List LI)(b:Int):Option (LI):=
if(Cj b 0)then
none
else
j12 b a
def Rf:=Rn Rl
def Io(j11:(List LI)->Int->Option (LI))(bk9:Int->Int->Option (LI))(a:List LI)(b h:Int):Option (LI):=
if(Cj h (Ac a))then
(Ap a h).bind λn=>
if(Cj (Ad b (Ac n)) 0)then
none
else
bk9 (Ad b (Ac n)) (Ad h 1)
else
j11 a b
def Gh(a:List LI):Nat->Int->Int->Option (LI)
|0,_,_=>none
|q+1,b,h=>Io Rf (Gh a q) a b h
def Sy a:=Gh a Au
def Tf(j9:(List LI)->Int->Int->Option (LI))(a:List LI):Option (LI):=
j9 a 0 0
def Qs:=Tf Sy
def aH(a b:LI):Option (LI):=
(Qs ([a,b]:List LI)).bind λf=>
some f
def AF(a b:Int):Option (LI×Int):=
(Kb a b).bind λ(f,g)=>
if(Bc g 0)then
some (([]:LI),g)
else
(Oq a).bind λ(h,n)=>
(Qy ([h]:LI) (Ao f 1)).bind λk=>
(aH k ([(Ao b (Bf (Ao f 1) h))]:LI)).bind λm=>
some (m,0)
def Dw(g h k a b:Int):Option (LI×Int):=
(Oo g h k a b).bind λf=>
if(Bc f 0)then
some (([]:LI),f)
else
(AF a b).bind λ(m,n)=>
some (m,n)
def Qf(a f g h k:Int)(b:LB):Option Int:=
if((b==([]:LB)) !=(geq a 1))then
some 26
else
some 0
def nD(w:Int)(o p:LB)(h b f k m:Int)(g:LI)(a:Int)(n:LB)(u:Bool)(v:Int):Option Bool:=
some (I8 (Ac n) w)
def VQ:=nD
def EL(j8:Int->LB->LB->Int->Int->Int->Int->Int->LI->Int->LB->Bool->Int->Option Bool)(K8:Int->Int->Option Bool)(y:LI)(o p:LB)(h b f k m:Int)(g:LI)(a:Int)(n:LB)(u:Bool)(v w aa:Int):Option Bool:=
if(Cj aa (Ac y))then
(Ap y aa).bind λac=>
K8 (Ad w (Bt (Bf (Bf ac b) f) 8)) (Ad aa 1)
else
j8 w o p h b f k m g a n u v
def Rq(y:LI)(o p:LB)(h b f k m:Int)(g:LI)(a:Int)(n:LB)(u:Bool)(v:Int):Nat->Int->Int->Option Bool
|0,_,_=>none
|q+1,w,aa=>EL VQ (Rq y o p h b f k m g a n u v q) y o p h b f k m g a n u v w aa
def VU y o p h b f k m g a n u v:=Rq y o p h b f k m g a n u v Au
def VP(j6:LI->LB->LB->Int->Int->Int->Int->Int->LI->Int->LB->Bool->Int->Int->Int->Option Bool)(o p:LB)(h b f k m:Int)(g:LI)(a:Int)(n:LB)(u:Bool)(v:Int)(ab:LI):Option Bool:=
if(geq (Ac g) 0)then
some ((geq a 0)&&(geq (Ac n) 0))
else
(Sf g).bind λad=>
if((((Bc ad 0)||(Bc (Ac g) (Ac ab)))||(Cj a 0))||(Ef a (Ac ab)))then
some false
else
(Bp ab 0 a).bind λy=>
j6 y o p h b f k m g a n u v 0 0
def VO:=VP VU
def VW(j5:LB->LB->Int->Int->Int->Int->Int->LI->Int->LB->Bool->Int->LI->Option Bool)(o p:LB)(h b f k m:Int)(g:LI)(a:Int)(n:LB)(u:Bool)(v:Int):Option Bool:=
if((geq h 0)&&((geq b 0)&&((geq f 0)&&((geq k 0)&&((geq m 0)&&true)))))then
some (((geq (Ac g) 0)&&(geq a 0))&&(geq (Ac n) 0))
else
(Dw h b f k m).bind λ(ab,ae)=>
if(Bc ae 0)then
some false
else
(Qf h b f k m o).bind λaf=>
if(Bc af 0)then
some false
else
j5 o p h b f k m g a n u v ab
def BL:=VW VO
def Ij(a b:LB):Option Bool:=
some (a==b)
def Nw(b a:LB):Option Bool:=
if(Ms (Ac b) (Ac a))then
(Bp b 0 (Ac a)).bind λf=>
(Ij f a).bind λg=>
some g
else
some false
abbrev Oa:=Option (Int×Int)
def H9(b:Int):Oa:=
some (b,0)
def jG:=H9
def BQ(j6:Int->Oa)(Re:Int->Int->Oa)(a:LB)(b f:Int):Oa:=
if(Cj f (Ac a))then
(Ap a f).bind λg=>
if(Ef g 127)then
some (0,12)
else
Re (xC (Dp b (GI.toZ (7:UInt64)).toNat) (Af g:Int)) (Ad f 1)
else
j6 b
def Pn(a:LB):Nat->Int->Int->Oa
|0,_,_=>none
|q+1,b,f=>BQ jG (Pn a q) a b f
def PC a:=Pn a Au
def QR(j4:LB->Int->Int->Oa)(a:LB):Oa:=
if(Bc (Ac a) 4)then
some (0,2)
else
j4 a 0 0
def RL:=QR PC
abbrev Ks:=Option (Int×Int)
def nL(a:LB)(b:UInt8)(h:Int):Ks:=
if(Ef h 4000)then
some (0,4)
else
if(Cj (Ac a) h)then
some (0,24)
else
if(geq b 16)then
(Bp a (Ao h 10) h).bind λk=>
(Bp k 0 3).bind λu=>
if(u !=([51,68,73]:LB))then
some (0,12)
else
(Bp k 3 (Ac k)).bind λv=>
(Bp a 3 10).bind λw=>
(Ij v w).bind λy=>
if(!y)then
some (0,12)
else
some (h,0)
else
some (h,0)
def EN:=nL
def VL(j8:LB->UInt8->Int->Ks)(a:LB)(g:Int)(b:UInt8):Ks:=
if(geq b 16)then
j8 a b (Ad (Ad g 10) 10)
else
j8 a b (Ad g 10)
def FB:=VL EN
def US(j7:LB->Int->UInt8->Ks)(a:LB)(g:Int)(b:UInt8)(m:Bool):Ks:=
if m then
some (0,12)
else
j7 a g b
def UT:=US FB
def VZ(j6:LB->Int->UInt8->Bool->Ks)(a:LB)(f b:UInt8):Ks:=
(Bp a 6 10).bind λaa=>
(RL aa).bind λ(g,ab)=>
if(Bc ab 0)then
if true then
j6 a g b true
else
if(geq b 0)then
j6 a g b (!((Ms f 2)&&(I8 f 4)))
else
if(geq b 16)then
j6 a g b (!(geq f 4))
else
j6 a g b (!false)
else
(Ap a 4).bind λac=>
if(Bc ac 0)then
j6 a g b true
else
if(geq b 0)then
j6 a g b (!((Ms f 2)&&(I8 f 4)))
else
if(geq b 16)then
j6 a g b (!(geq f 4))
else
j6 a g b (!false)
def VD:=VZ UT
def EO(j5:LB->UInt8->UInt8->Ks)(a:LB):Ks:=
(Nw a ([(73:UInt8),(68:UInt8),(51:UInt8)]:LB)).bind λn=>
if(!n)then
some (0,6)
else
if(Cj (Ac a) 10)then
some (0,24)
else
(Ap a 3).bind λf=>
(Ap a 5).bind λb=>
(
(
(
j5 a f b)))
def XL:=EO VD
abbrev GL:=Option (UInt64×Int)
def Aem(b:UInt64):GL:=
some (b,0)
def N6:=Aem
def dK(j6:UInt64->GL)(Re:UInt64->Int->GL)(a:LB)(b:UInt64)(f:Int):GL:=
if(Cj f (Ac a))then
(Ap a f).bind λg=>
(Je (Ms (Bf 8 f) 0)).bind λ_=>
Re (xC b (Dp (Af g:UInt64) (GI.toZ (Bf 8 f)).toNat)) (Ad f 1)
else
j6 b
def GV(a:LB):Nat->UInt64->Int->GL
|0,_,_=>none
|q+1,b,f=>dK N6 (GV a q) a b f
def rP a:=GV a Au
def sV(j4:LB->UInt64->Int->GL)(a:LB):GL:=
if((Cj (Ac a) 1)||(Ef (Ac a) 8))then
some (0,2)
else
j4 a 0 0
def qI:=sV rP
def iY(f:LB)(a b:Int):Option (UInt64×Int):=
if(((Cj b 1)||(Ef b 8))||(Cj a 0))then
some (0,2)
else
if(Ef a (Ao (Ac f) b))then
some (0,24)
else
(Bp f a (Ad a b)).bind λg=>
(qI g).bind λ(h,k)=>
some (h,k)
def qp(g:LB):Option (LB):=
some g
def wT:=qp
def lI(j6:LB->Option (LB))(Re:Int->LB->Option (LB))(a b:Int)(f:UInt64)(h:Int)(g:LB):Option (LB):=
if(Cj h (Ac ([(2000:UInt64),(Af (Ad a 32):UInt64),(Af b:UInt64),f,(0:UInt64),(0:UInt64)]:LQ)))then
(Ap ([(2000:UInt64),(Af (Ad a 32):UInt64),(Af b:UInt64),f,(0:UInt64),(0:UInt64)]:LQ) h).bind λ_=>
(Ap ([(2000:UInt64),(Af (Ad a 32):UInt64),(Af b:UInt64),f,(0:UInt64),(0:UInt64)]:LQ) h).bind λk=>
(DQ k 4).bind λ(m,o)=>
(Ds g m).bind λn=>
Re (Ad h 1) n
else
j6 g
def GO(a b:Int)(f:UInt64):Nat->Int->LB->Option (LB)
|0,_,_=>none
|q+1,h,g=>lI wT (GO a b f q) a b f h g
def wN a b f:=GO a b f Au
def xN(j4:Int->Int->UInt64->Int->LB->Option (LB))(a b:Int)(f:UInt64):Option (LB):=
j4 a b f 0 ([(65:UInt8),(80:UInt8),(69:UInt8),(84:UInt8),(65:UInt8),(71:UInt8),(69:UInt8),(88:UInt8)]:LB)
def tN:=xN wN
def YJ(b:LB)(g:UInt64):Option (Int×Int×Bool):=
(iY b 12 4).bind λ(a,m)=>
(iY b 16 4).bind λ(f,n)=>
if(((Cj a 32)||(Ef a 3032))||(Ef f 1000))then
some (0,0,false)
else
(tN (Ao (Af a:Int) 32) (Af f:Int) g).bind λh=>
(Ij b h).bind λk=>
some ((Ao (Af a:Int) 32),(Af f:Int),k)
def tR(a:LB):Option (Int×Int):=
(Nw a ([(65:UInt8),(80:UInt8),(69:UInt8),(84:UInt8),(65:UInt8),(71:UInt8),(69:UInt8),(88:UInt8)]:LB)).bind λf=>
if(!f)then
some (0,6)
else
if(Cj (Ac a) 32)then
some (0,24)
else
(Bp a 0 32).bind λg=>
(YJ g 2684354560).bind λ(b,h,k)=>
if(!k)then
some (0,12)
else
if(Cj (Ac a) (Ad b 64))then
some (0,24)
else
(Bp a (Ao (Ad b 64) 32) (Ad b 64)).bind λm=>
(tN b h 2147483648).bind λn=>
(Ij m n).bind λo=>
if(!o)then
some (0,12)
else
some ((Ad b 64),0)
def AK(a:LB):Option (Int×Int):=
(XL a).bind λ(f,b)=>
if(Bc b 6)then
some (f,b)
else
(tR a).bind λ(g,h)=>
some (g,h)
def Xy(b:List UInt8):Nat->Int->Option (Int×Int)
  |0,_=>none
  |q+1,x=>Option.bind (Bp b x (Ac b)) λs=>Option.bind (AK s) λr=>
    if geq r.2 (6:Int)=true then some (x,0)
    else if(geq r.2 (0:Int)&&Ef (Ad x r.1) (4000:Int))=true then some (0,4)
    else if Bc r.2 (0:Int)=true then some (0,r.2)
    else Xy b q (Ad x r.1)
def Jr(b:List UInt8):Option (Int×Int):=Xy b Au 0
def Am(a:Int):Option (Bool×Int):=
some (false,a)
def Hw(b a:LB):Option Bool:=
if(Ms (Ac b) (Ac a))then
(Bp b 0 (Ac a)).bind λf=>
some (f==a)
else
some false
def Ke(a b:LB):Option Bool:=
(Hw a b).bind λf=>
some f
def Q7:Option Bool:=
some false
def nK:=Q7
def Xj(j6:Option Bool)(Re:Int->Option Bool)(a:LB)(b:Int):Option Bool:=
if(Cj b 2)then
(Ap ([([73,68,51]:LB),([65,80,69,84,65,71,69,88]:LB)]:List LB) b).bind λf=>
if(Cj (Ac a) (Ac f))then
(Ke f a).bind λg=>
if g then
some true
else
Re (Ad b 1)
else
Re (Ad b 1)
else
j6
def Lg(a:LB):Nat->Int->Option Bool
|0,_=>none
|q+1,b=>Xj nK (Lg a q) a b
def VE a:=Lg a Au
def VT(j4:LB->Int->Option Bool)(a:LB):Option Bool:=
j4 a 0
def Sj:=VT VE
abbrev Tm:=Option (Int×Int×Int×Int×Int×Int)
def sJ(a:LI):Tm:=
(Ap a 0).bind λ_=>
(Ap a 0).bind λh=>
(Ap a 1).bind λ_=>
(Ap a 1).bind λk=>
(Ap a 2).bind λ_=>
(Ap a 2).bind λm=>
(Ap a 3).bind λ_=>
(Ap a 3).bind λn=>
(Ap a 4).bind λ_=>
(Ap a 4).bind λo=>
(Sn h k m n o).bind λp=>
if(!p)then
some (0,0,0,0,0,12)
else
(UG h k m n o).bind λu=>
if(!u)then
some (0,0,0,0,0,4)
else
some (h,k,m,n,o,0)
def JB:=sJ
def JD(j6:LI->Tm)(Re:Int->Int->LI->Tm)(b:LB)(g f:Int)(a:LI):Tm:=
if(Cj f 5)then
(Ap ([(2:Int),(2:Int),(2:Int),(4:Int),(4:Int)]:LI) f).bind λh=>
(iY b g h).bind λ(v,ae)=>
(Ap a f).bind λ_=>
(Nj a f (Af v:Int)).bind λw=>
Re (Ad g h) (Ad f 1) w
else
j6 a
def Py(b:LB):Nat->Int->Int->LI->Tm
|0,_,_,_=>none
|q+1,g,f,a=>JD JB (Py b q) b g f a
def KD b:=Py b Au
def bF(j4:LB->Int->Int->LI->Tm)(b:LB):Tm:=
(Bp b 0 (Fi 4 (Ac b))).bind λy=>
(Ke ([84,84,65,49]:LB) y).bind λaa=>
if(!aa)then
some (0,0,0,0,0,12)
else
if(Cj (Ac b) 22)then
some (0,0,0,0,0,24)
else
(iY b 18 4).bind λ(ab,af)=>
(Bp b 0 18).bind λac=>
(BN ac).bind λ(ad,ag)=>
if(Bc (Af ad:UInt64) ab)then
some (0,0,0,0,0,22)
else
j4 b 4 0 (List.replicate 5 (0:Int))
def Mw:=bF KD
def Pa(a f:LB):Option (Bool×Int):=
(BY f).bind λ(b,g)=>
if((Bc g 0)||(Bc (Ac a) (Ac b)))then
some (false,2)
else
(Ij a b).bind λh=>
some (h,0)
abbrev Wr:=Option (LI×Int)
def wC(a:LI):Wr:=
(Sf a).bind λk=>
if(Bc k 0)then
some (([]:LI),12)
else
some (a,0)
def RH:=wC
def RK(j6:LI->Wr)(Re:Int->LI->Wr)(b:LB)(f:LI)(g:Int)(a:LI):Wr:=
if(Cj g (Ac f))then
(iY b (Bf 4 g) 4).bind λ(k,u)=>
(Ap a g).bind λ_=>
(Nj a g (Af k:Int)).bind λm=>
Re (Ad g 1) m
else
j6 a
def Xv(b:LB)(f:LI):Nat->Int->LI->Wr
|0,_,_=>none
|q+1,g,a=>RK RH (Xv b f q) b f g a
def fM b f:=Xv b f Au
def gG(j4:LB->LI->Int->LI->Wr)(b:LB)(h:Int):Wr:=
if((Cj h 1)||(Ef h 1000))then
some (([]:LI),2)
else
if(Cj (Ac b) (Ad (Bf 4 h) 4))then
some (([]:LI),24)
else
(iY b (Bf 4 h) 4).bind λ(n,v)=>
(Bp b 0 (Bf 4 h)).bind λo=>
(BN o).bind λ(p,w)=>
if(Bc (Af p:UInt64) n)then
some (([]:LI),22)
else
(mkI h (0:Int)).bind λf=>
(Je (geq h h)).bind λ_=>
j4 b f 0 f
def FY:=gG fM
def DV(f a b g h:Int):Option (Int×Int):=
some (a,b)
def KR(a:LB):Option (LB×Int):=
if(Cj (Ac a) 5)then
some (([]:LB),24)
else
if(Ef (Ac a) 41254)then
some (([]:LB),4)
else
(Bp a 0 (Ao (Ac a) 4)).bind λf=>
(BN f).bind λ(g,b)=>
if(Bc b 0)then
some (([]:LB),b)
else
(Bp a (Ao (Ac a) 4) (Ac a)).bind λh=>
(qI h).bind λ(k,m)=>
if((Bc m 0)||(Bc k (Af g:UInt64)))then
some (([]:LB),22)
else
(Bp a 0 (Ao (Ac a) 4)).bind λn=>
some (n,0)
def Ac9(a:LB):Option (LB×Int×Int):=
if(Ef (Ac a) 41250)then
some (([]:LB),0,4)
else
(Bo a).bind λb=>
some (b,(Bf 8 (Ac a)),0)
def Ahl(g:UInt64):Option UInt64:=
some g
def P2:=Ahl
def rE(j6:UInt64->Option UInt64)(Re:UInt64->Int->Option UInt64)(b f:Int)(h:LB)(k:Int)(g:UInt64)(a:Int):Option UInt64:=
if(Cj a f)then
(Ap h (Acx (Ad b a) (GI.toZ (3:UInt64)).toNat)).bind λm=>
(Je (Ms (Et (Ad b a) 7) 0)).bind λ_=>
(Je (Ms (Fi (Ao f a) (Ao 8 (Et (Ad b a) 7))) 0)).bind λ_=>
(Je (Ms a 0)).bind λ_=>
Re (xC g (Dp (Af (Et (Ci m (GI.toZ (Et (Ad b a) 7)).toNat) (Ao (Dp (1:UInt8) (GI.toZ (Fi (Ao f a) (Ao 8 (Et (Ad b a) 7)))).toNat) 1)):UInt64) (GI.toZ a).toNat)) (Ad a (Fi (Ao f a) (Ao 8 (Et (Ad b a) 7))))
else
j6 g
def TJ(b f:Int)(h:LB)(k:Int):Nat->UInt64->Int->Option UInt64
|0,_,_=>none
|q+1,g,a=>rE P2 (TJ b f h k q) b f h k g a
def O3 b f h k:=TJ b f h k Au
def M1(j4:Int->Int->LB->Int->UInt64->Int->Option UInt64)(h:LB)(k b f:Int):Option UInt64:=
j4 b f h k 0 0
def B4:=M1 O3
abbrev Gs:=Option (LB×Int×Int)
def B8(o:Int)(p:LB):Gs:=
some (p,o,0)
def kQ:=B8
def zI(nB:Int->Int->LB->Gs)(a:Int)(g:LB)(f b h:Int)(u:LB):Gs:=
nB (Ad b 64) h u
def XK nB:=zI nB
def zK(xm:UInt64->Int->Int->LB->Gs)(a b:Int)(g:LB)(f:Int)(k n:UInt64)(m h:Int)(w:LB):Gs:=
(Je (Ms (Fi m (Ao 8 (Et h 7))) 0)).bind λ_=>
xm (Ci n (GI.toZ (Fi m (Ao 8 (Et h 7)))).toNat) (Ao m (Fi m (Ao 8 (Et h 7)))) (Ad h (Fi m (Ao 8 (Et h 7)))) w
def mC xm:=zK xm
def mV(j48:UInt64->Int->Int->LB->Gs)(a b:Int)(g:LB)(f:Int)(k n:UInt64)(m h:Int)(v:LB):Gs:=
(Ap v (Ao (Ac v) 1)).bind λ_=>
(Je (Ms (Fi m (Ao 8 (Et h 7))) 0)).bind λ_=>
(Je (Ms (Et h 7) 0)).bind λ_=>
(Ap v (Ao (Ac v) 1)).bind λaa=>
(Ap v (Ao (Ac v) 1)).bind λ_=>
Option.bind (Nj v (Ao (Ac v) 1) (xC aa (Dp (Af (Et n (Ao (Dp (1:UInt64) (GI.toZ (Fi m (Ao 8 (Et h 7)))).toNat) 1)):UInt8) (GI.toZ (Et h 7)).toNat))) λw=>
j48 n m h w
def XV xm a b g f k:=mV (mC xm a b g f k) a b g f k
def XS(j47:UInt64->Int->Int->LB->Gs)(j50:Int->Int->LB->Gs)(a:Int)(g:LB)(f b:Int)(k n:UInt64)(m h:Int)(u:LB):Gs:=
if(Ef m 0)then
if(geq (Et h 7) 0)then
(Ds u ([(0:UInt8)]:LB)).bind λab=>
j47 n m h ab
else
j47 n m h u
else
j50 b h u
def Ru(nB:Int->Int->LB->Gs)(a:Int)(g:LB)(f b:Int)(k:UInt64):Nat->UInt64->Int->Int->LB->Gs
|0,_,_,_,_=>none
|q+1,n,m,h,u=>XS (XV (Ru nB a g f b k q) a b g f k) (XK nB a g f) a g f b k n m h u
def mG nB a g f b k:=Ru nB a g f b k Au
def mE(j44:Int->UInt64->UInt64->Int->Int->LB->Gs)(j52:Int->LB->Gs)(a:Int)(g:LB)(f b o:Int)(p:LB):Gs:=
if(Cj b a)then
(B4 g f b (Fi 64 (Ao a b))).bind λk=>
j44 b k k (Fi 64 (Ao a b)) o p
else
j52 o p
def BJ(a:Int)(g:LB)(f:Int):Nat->Int->Int->LB->Gs
|0,_,_,_=>none
|q+1,b,o,p=>mE (mG (BJ a g f q) a g f) kQ a g f b o p
def jZ a g f:=BJ a g f Au
def rK(j27:Int->LB->Int->Int->Int->LB->Gs)(g:LB)(f y a:Int):Gs:=
(Kv g f).bind λac=>
if(Bc ac 0)then
some (([]:LB),0,8)
else
if(((Cj y 0)||(Ef y a))||(Ef a f))then
some (([]:LB),0,2)
else
j27 a g f y 0 ([]:LB)
def rC:=rK jZ
def LO(g:LB)(b f a:Int):Option (UInt64×Int):=
(Kv g b).bind λh=>
if(Bc h 0)then
some (0,8)
else
if(((Cj a 0)||(Ef a 64))||(Cj f 0))then
some (0,2)
else
if(Ef f (Ao b a))then
some (0,24)
else
(B4 g b f a).bind λk=>
some (k,0)
def Hz(a:UInt64):Option Int:=
if(geq a 0)then
some 64
else
(Ap ([(0:UInt8),(1:UInt8),(56:UInt8),(2:UInt8),(57:UInt8),(49:UInt8),(28:UInt8),(3:UInt8),(61:UInt8),(58:UInt8),(42:UInt8),(50:UInt8),(38:UInt8),(29:UInt8),(17:UInt8),(4:UInt8),(62:UInt8),(47:UInt8),(59:UInt8),(36:UInt8),(45:UInt8),(43:UInt8),(51:UInt8),(22:UInt8),(53:UInt8),(39:UInt8),(33:UInt8),(30:UInt8),(24:UInt8),(18:UInt8),(12:UInt8),(5:UInt8),(63:UInt8),(55:UInt8),(48:UInt8),(27:UInt8),(60:UInt8),(41:UInt8),(37:UInt8),(16:UInt8),(46:UInt8),(35:UInt8),(44:UInt8),(21:UInt8),(52:UInt8),(32:UInt8),(23:UInt8),(11:UInt8),(54:UInt8),(26:UInt8),(40:UInt8),(15:UInt8),(34:UInt8),(20:UInt8),(31:UInt8),(10:UInt8),(25:UInt8),(14:UInt8),(19:UInt8),(9:UInt8),(13:UInt8),(8:UInt8),(7:UInt8),(6:UInt8)]:LB) (GI.toZ (Ci (Bf (Et a (yP a)) 285870213051353865) (GI.toZ (58:UInt64)).toNat))).bind λb=>
some (Af b:Int)
abbrev Kj:=Option (Int×Int×Int)
def jk:Kj:=
some (0,0,24)
def qO:=jk
def vW(j10:Kj):Kj:=
j10
def vG:=vW qO
def fG(j9:Kj)(f a:Int):Kj:=
if(geq f 48)then
some (f,(Ad 0 (Ad a f)),0)
else
j9
def fO:=fG vG
def fL(j8:Int->Int->Kj)(f b a:Int):Kj:=
if(Cj f (Fi 48 (Ao b a)))then
some (f,(Ad (Ad (0:Int) (1:Int)) (Ad a f)),0)
else
j8 f a
def fV:=fL fO
def fR(j7:Int->Int->Int->Kj)(h:Int)(k:UInt64)(a:Int)(g:LB)(b:Int):Kj:=
if(Bc h 0)then
some (0,0,h)
else
(Hz (qc k)).bind λf=>
j7 f b a
def fD:=fR fV
def EG(j6:Int->UInt64->Int->LB->Int->Kj)(g:LB)(b a:Int):Kj:=
(Kv g b).bind λm=>
if(Bc m 0)then
some (0,0,m)
else
if(Cj a 0)then
some (0,0,2)
else
if(Ms a b)then
some (0,0,24)
else
(
(
(LO g b a (Fi 48 (Ao b a))).bind λ(k,h)=>
j6 h k a g b))
def QE:=EG fD
abbrev rO:=Option (UInt32×Int×Int)
def lN(a b f:Int)(g:LB)(h k:Int):rO:=
(LO g h b k).bind λ(m,n)=>
if(Bc n 0)then
some (0,0,n)
else
if(Cj f 48)then
(Je (Ms a 0)).bind λ_=>
some ((xC (Dp (Af f:UInt32) (GI.toZ a).toNat) (Af m:UInt32)),(Ad b k),0)
else
(CE (Af m:UInt32) a).bind λu=>
if(!u)then
some (0,0,12)
else
some ((Af m:UInt32),(Ad b k),0)
def YA:=lN
def lV(j2:Int->Int->Int->LB->Int->Int->rO)(g:LB)(h v a:Int):rO:=
(Kv g h).bind λo=>
if(Bc o 0)then
some (0,0,o)
else
if((Cj a 0)||(Ef a 24))then
some (0,0,2)
else
(QE g h v).bind λ(f,b,p)=>
if(Bc p 0)then
some (0,0,p)
else
if(geq f 48)then
j2 a b f g h 32
else
j2 a b f g h a
def tW:=lV YA
abbrev Ng:=Option (UInt32×Int×Int×Int×UInt64×UInt64×Int)
def vC(f:UInt32)(k w m:Int)(a n:UInt64):Ng:=
some (f,k,w,m,(Ad a (Ao (Af f:UInt64) (Ci a (GI.toZ (4:UInt64)).toNat))),n,0)
def fJ:=vC
def mI(j10:UInt32->Int->Int->Int->UInt64->UInt64->Ng)(f:UInt32)(k m:Int)(a n:UInt64)(w:Int):Ng:=
j10 f k w m a n
def kF:=mI fJ
def mQ(j9:UInt32->Int->Int->UInt64->UInt64->Int->Ng)(f:UInt32)(k b:Int)(a:UInt64)(m:Int)(n:UInt64):Ng:=
if(Ef b 0)then
(Je (Ms b 0)).bind λ_=>
if(Cj (Ad a (Ao (Af f:UInt64) (Ci a (GI.toZ (4:UInt64)).toNat))) (Dp (16:UInt64) (GI.toZ b).toNat))then
j9 f k m a n (Ao b 1)
else
if(Cj b 24)then
(Je (Ms b 0)).bind λ_=>
if(Ef (Ad a (Ao (Af f:UInt64) (Ci a (GI.toZ (4:UInt64)).toNat))) (Dp (32:UInt64) (GI.toZ b).toNat))then
j9 f k m a n (Ad b 1)
else
j9 f k m a n b
else
j9 f k m a n b
else
if(Cj b 24)then
(Je (Ms b 0)).bind λ_=>
if(Ef (Ad a (Ao (Af f:UInt64) (Ci a (GI.toZ (4:UInt64)).toNat))) (Dp (32:UInt64) (GI.toZ b).toNat))then
j9 f k m a n (Ad b 1)
else
j9 f k m a n b
else
j9 f k m a n b
def MQ:=mQ kF
def kR(j8:UInt32->Int->Int->UInt64->Int->UInt64->Ng)(b h:Int)(a g:UInt64)(f:UInt32)(k:Int):Ng:=
(QH b h a g f).bind λ(ad,o)=>
if(geq ad 1)then
if(Ef h 0)then
(Je (Ms h 0)).bind λ_=>
if(Cj (Ad g (Ao (Af o:UInt64) (Ci g (GI.toZ (4:UInt64)).toNat))) (Dp (16:UInt64) (GI.toZ h).toNat))then
j8 f k b a (Ao h 1) (Ad g (Ao (Af o:UInt64) (Ci g (GI.toZ (4:UInt64)).toNat)))
else
if(Cj h 24)then
(Je (Ms h 0)).bind λ_=>
if(Ef (Ad g (Ao (Af o:UInt64) (Ci g (GI.toZ (4:UInt64)).toNat))) (Dp (32:UInt64) (GI.toZ h).toNat))then
j8 f k b a (Ad h 1) (Ad g (Ao (Af o:UInt64) (Ci g (GI.toZ (4:UInt64)).toNat)))
else
j8 f k b a h (Ad g (Ao (Af o:UInt64) (Ci g (GI.toZ (4:UInt64)).toNat)))
else
j8 f k b a h (Ad g (Ao (Af o:UInt64) (Ci g (GI.toZ (4:UInt64)).toNat)))
else
if(Cj h 24)then
(Je (Ms h 0)).bind λ_=>
if(Ef (Ad g (Ao (Af o:UInt64) (Ci g (GI.toZ (4:UInt64)).toNat))) (Dp (32:UInt64) (GI.toZ h).toNat))then
j8 f k b a (Ad h 1) (Ad g (Ao (Af o:UInt64) (Ci g (GI.toZ (4:UInt64)).toNat)))
else
j8 f k b a h (Ad g (Ao (Af o:UInt64) (Ci g (GI.toZ (4:UInt64)).toNat)))
else
j8 f k b a h (Ad g (Ao (Af o:UInt64) (Ci g (GI.toZ (4:UInt64)).toNat)))
else
j8 f k b a h g
def XR:=kR MQ
def kY(j7:Int->Int->UInt64->UInt64->UInt32->Int->Ng)(p:Int)(u:LB)(v b h:Int)(a g:UInt64):Ng:=
(LO u v p 1).bind λ(ae,aa)=>
if(Bc aa 0)then
some (0,0,0,0,0,0,aa)
else
if(geq ae 0)then
(LO u v (Ad p 1) b).bind λ(af,ab)=>
if(Bc ab 0)then
some (0,0,0,0,0,0,ab)
else
j7 b h a g (Af af:UInt32) (Ad (Ad p 1) b)
else
(tW u v (Ad p 1) h).bind λ(y,ag,ac)=>
if(Bc ac 0)then
some (0,0,0,0,0,0,ac)
else
(Je (Ms b 0)).bind λ_=>
if(Cj (Ad y (Dp (1:UInt32) (GI.toZ b).toNat)) y)then
some (0,0,0,0,0,0,12)
else
j7 b h a g (Ad y (Dp (1:UInt32) (GI.toZ b).toNat)) ag
def mU:=kY XR
def mX(j6:Int->LB->Int->Int->Int->UInt64->UInt64->Ng)(u:LB)(v p b h:Int)(a g:UInt64):Ng:=
(Kv u v).bind λah=>
if(Bc ah 0)then
some (0,0,0,0,0,0,8)
else
(bL b h a g).bind λai=>
if(Bc ai 0)then
some (0,0,0,0,0,0,8)
else
j6 p u v b h a g
def PW:=mX mU
abbrev Cl:=Option (LU×Int×Int)
def wZ(k:Int)(m:LU):Cl:=
some (m,k,0)
def bM:=wZ
def bG(Iv:Int->Int-> (List (Int×Int×UInt64×UInt64×Unit))->LU->Cl)(a f:Int)(g:LB)(b k v:Int)(w:UInt32)(h:Int)(ag:List (Int×Int×UInt64×UInt64×Unit))(m:LU):Cl:=
(Ds m ([w]:LU)).bind λak=>
Iv (Ad k v) (Ad h 1) ag ak
def FK Iv:=bG Iv
def Wl(j22:Int->Int->UInt32->Int-> (List (Int×Int×UInt64×UInt64×Unit))->LU->Cl)(a f:Int)(g:LB)(b k h y:Int)(w:UInt32)(v:Int)(n:List (Int×Int×UInt64×UInt64×Unit))(m:LU)(aa ab:Int)(ac ad:UInt64):Cl:=
if(Bc y 0)then
some (([]:LU),0,y)
else
(Je (Bc a 0)).bind λ_=>
(Ap n (Fo h a)).bind λ_=>
(Nj n (Fo h a) (aa,ab,ac,ad,())).bind λag=>
j22 k v w h ag m
def Wm Iv a f g b:=Wl (FK Iv a f g b) a f g b
def Xd(j21:Int->Int->Int->UInt32->Int-> (List (Int×Int×UInt64×UInt64×Unit))->LU->Int->Int->UInt64->UInt64->Cl)(j24:Int->LU->Cl)(a f:Int)(g:LB)(b k h:Int)(n:List (Int×Int×UInt64×UInt64×Unit))(m:LU):Cl:=
if(Cj h (Bf f a))then
(rC g b k (Fi (Ad k 81) b)).bind λ(ah,ae,af)=>
if(Bc af 0)then
some (([]:LU),0,af)
else
(Je (Bc a 0)).bind λ_=>
(Ap n (Fo h a)).bind λ_=>
(
(
(Ap n (Fo h a)).bind λp=>
(
(PW ah ae 0 p.1 p.2.1 p.2.2.1 p.2.2.2.1).bind λ(w,v,aa,ab,ac,ad,y)=>
j21 k h y w v n m aa ab ac ad)))
else
j24 k m
def Pw(a f:Int)(g:LB)(b:Int):Nat->Int->Int-> (List (Int×Int×UInt64×UInt64×Unit))->LU->Cl
|0,_,_,_,_=>none
|q+1,k,h,n,m=>Xd (Wm (Pw a f g b q) a f g b) bM a f g b k h n m
def bZ a f g b:=Pw a f g b Au
def YT(j16:Int->Int->LB->Int->Int->Int-> (List (Int×Int×UInt64×UInt64×Unit))->LU->Cl)(a f:Int)(g:LB)(b:Int)(o:List (Int×Int×UInt64×UInt64×Unit)):Cl:=
j16 a f g b 0 0 o ([]:LU)
def FG:=YT bZ
def ZC(j15:Int->Int->LB->Int-> (List (Int×Int×UInt64×UInt64×Unit))->Cl)(Ave:Int-> (List (Int×Int×UInt64×UInt64×Unit))->Cl)(a f:Int)(g:LB)(b u:Int)(o:List (Int×Int×UInt64×UInt64×Unit)):Cl:=
if(Cj u 6)then
(yB).bind λ(al,ae,af,am)=>
(Ap o u).bind λ_=>
(Nj o u (al,ae,af,am,())).bind λan=>
Ave (Ad u 1) an
else
j15 a f g b o
def FN(a f:Int)(g:LB)(b:Int):Nat->Int-> (List (Int×Int×UInt64×UInt64×Unit))->Cl
|0,_,_=>none
|q+1,u,o=>ZC FG (FN a f g b q) a f g b u o
def Xe a f g b:=FN a f g b Au
def KP(j13:Int->Int->LB->Int->Int-> (List (Int×Int×UInt64×UInt64×Unit))->Cl)(a f:Int)(g:LB)(b:Int):Cl:=
j13 a f g b 0 (List.replicate 6 ((0:Int),(0:Int),(0:UInt64),(0:UInt64),()))
def KQ:=KP Xe
def CC(a:UInt32):Option Int32:=
some (BA (Af (Ci a (GI.toZ (1:UInt64)).toNat):Int32) (yP (Af (Et a 1):Int32)))
def sM(b:Int)(f g:LX)(a:Int32):Option (Int32×Int×LX×LX×Int):=
(aN b f g).bind λ(h,k)=>
if(Bc k 0)then
some (0,0,(List.replicate 16 (0:Int32)),(List.replicate 16 (0:Int32)),k)
else
(YZ b f g (Ad a h) a).bind λ(m,n,o)=>
some ((Ad a h),m,n,o,0)
def Nz(a:Int)(b:Int32)(f:Int)(g h:LX)(o:Int32):Option (Int32×Int×Int32×Int×LX×LX×Int):=
(AL a b f g h).bind λk=>
if(Bc k 0)then
some (0,0,0,0,(List.replicate 16 (0:Int32)),(List.replicate 16 (0:Int32)),k)
else
(AM a b).bind λ(m,y)=>
(sM f g h o).bind λ(n,p,u,v,w)=>
(
some ((Ad n m),a,(Ad n m),p,u,v,w))
abbrev If:=Option (LX×Int)
def Acd(f:LX):If:=
some (f,0)
def yU:=Acd
def zR(gI:Int->LX->If)(b a:Int)(h:LX):If:=
gI (Ad a b) h
def lS gI:=zR gI
def XP(j20:Int->LX->If)(yh:Int->LX->If)(b a g:Int)(h:LX):If:=
if(Ms g 0)then
(Je (decide (0<= (Ad g 1)/\ (Ad g 1)<((Ad a b)-a)))).bind λ_=>
(Je (decide (0<=g/\g<((Ad a b)-a)))).bind λ_=>
(Ap h (a+(Ad g 1))).bind λo=>
(Ap h (a+g)).bind λp=>
(Je (decide (0<=g/\g<((Ad a b)-a)))).bind λ_=>
(Nj h (a+g) (Ao o p)).bind λu=>
yh (Ao g 1) u
else
j20 a h
def BZ(gI:Int->LX->If)(b a:Int):Nat->Int->LX->If
|0,_,_=>none
|q+1,g,h=>XP (lS gI b) (BZ gI b a q) b a g h
def kP gI b a:=BZ gI b a Au
def kB(j18:Int->Int->LX->If)(b a:Int)(k:LX):If:=
j18 a (Ao (Ao ((Ad a b)-a) 1) 1) k
def XZ gI b:=kB (kP gI b) b
def kL(j17:Int->LX->If)(j22:LX->If)(b a:Int)(f:LX):If:=
if(Cj a (Ac f))then
(iM (Ac f) a (Ad a b)).bind λ_=>
if(Ef (Ao ((Ad a b)-a) 1) 0)then
(Je (decide (0<= (Ao ((Ad a b)-a) 1)/\ (Ao ((Ad a b)-a) 1)<((Ad a b)-a)))).bind λ_=>
Option.bind (Je (decide (0<= (Ao (Ao ((Ad a b)-a) 1) 1)/\ (Ao (Ao ((Ad a b)-a) 1) 1)<((Ad a b)-a)))) λ_=>
(Ap f (a+(Ao ((Ad a b)-a) 1))).bind λv=>
(Ap f (a+(Ao (Ao ((Ad a b)-a) 1) 1))).bind λw=>
(Je (decide (0<= (Ao ((Ad a b)-a) 1)/\ (Ao ((Ad a b)-a) 1)<((Ad a b)-a)))).bind λ_=>
(Nj f (a+(Ao ((Ad a b)-a) 1)) (Ad v (Bt w 2))).bind λy=>
j17 a y
else
j17 a f
else
j22 f
def Wo(b:Int):Nat->Int->LX->If
|0,_,_=>none
|q+1,a,f=>kL (XZ (Wo b q) b) yU b a f
def lY b:=Wo b Au
def sQ(j12:Int->Int->LX->If)(b:Int)(m:LX):If:=
(iV b m).bind λn=>
if(Bc n 0)then
some (([]:LX),n)
else
(Di m).bind λaa=>
j12 b 0 aa
def zG:=sQ lY
abbrev Cx:=Option (LX×Int)
def WG(a b:Int)(k:LX):Cx:=
(zG a k).bind λ(ah,af)=>
if(Bc af 0)then
some (([]:LX),af)
else
(Rv b ah).bind λae=>
if(Bc ae 0)then
some (([]:LX),ae)
else
some (ah,0)
def Og:=WG
def WT(Ave:Int-> (List (Int×Int32×(Int×LX×LX×Unit)×Unit))->LX->Cx)(a:Int)(f:LU)(b g:Int)(w:Int32)(u:Int)(h:List (Int×Int32×(Int×LX×LX×Unit)×Unit))(k:LX)(y:Int)(v:Int32)(aa:Int)(ab ac:LX):Cx:=
if(Bc u 0)then
some (([]:LX),u)
else
(Nj h (Fo g a) (y,v,(aa,ab,ac,()),())).bind λai=>
(Ds k ([w]:LX)).bind λaj=>
Ave (Ad g 1) ai aj
def DA Ave:=WT Ave
def Of(j16:Int->Int32->Int-> (List (Int×Int32×(Int×LX×LX×Unit)×Unit))->LX->Int->Int32->Int->LX->LX->Cx)(j18:Int->Int->LX->Cx)(f:LU)(a b g:Int)(h:List (Int×Int32×(Int×LX×LX×Unit)×Unit))(k:LX):Cx:=
if(Cj g (Ac f))then
(Ap f g).bind λag=>
(Je (Bc a 0)).bind λ_=>
(Ap h (Fo g a)).bind λ_=>
(
(Ap h (Fo g a)).bind λm=>
(
(CC ag).bind λae=>
(
(Nz m.1 m.2.1 m.2.2.1.1 m.2.2.1.2.1 m.2.2.1.2.2.1 ae).bind λ(w,y,v,aa,ab,ac,u)=>
j16 g w u h k y v aa ab ac)))
else
j18 a b k
def La(f:LU)(a b:Int):Nat->Int-> (List (Int×Int32×(Int×LX×LX×Unit)×Unit))->LX->Cx
|0,_,_,_=>none
|q+1,g,h,k=>Of (DA (La f a b q) a f b) Og f a b g h k
def XJ f a b:=La f a b Au
def XD(j13:LU->Int->Int->Int-> (List (Int×Int32×(Int×LX×LX×Unit)×Unit))->LX->Cx)(f:LU)(a b:Int)(n:List (Int×Int32×(Int×LX×LX×Unit)×Unit)):Cx:=
j13 f a b 0 n ([]:LX)
def DM:=XD XJ
def XH(j12:LU->Int->Int-> (List (Int×Int32×(Int×LX×LX×Unit)×Unit))->Cx)(Akl:Int-> (List (Int×Int32×(Int×LX×LX×Unit)×Unit))->Cx)(f:LU)(a b:Int)(o:LX)(p:Int)(n:List (Int×Int32×(Int×LX×LX×Unit)×Unit)):Cx:=
if(Cj p 6)then
(K5 b o).bind λ(ak,af,ae,al,am,v)=>
(Ap n p).bind λ_=>
(Nj n p (ak,af,(ae,al,am,()),())).bind λan=>
Akl (Ad p 1) an
else
j12 f a b n
def DH(f:LU)(a b:Int)(o:LX):Nat->Int-> (List (Int×Int32×(Int×LX×LX×Unit)×Unit))->Cx
|0,_,_=>none
|q+1,p,n=>XH DM (DH f a b o q) f a b o p n
def Uf f a b o:=DH f a b o Au
def GH(j10:LU->Int->Int->LX->Int-> (List (Int×Int32×(Int×LX×LX×Unit)×Unit))->Cx)(a b:Int)(o:LX)(f:LU):Cx:=
j10 f a b o 0 (List.replicate 6 ((0:Int),(0:Int32),((0:Int),(List.replicate 16 (0:Int32)),(List.replicate 16 (0:Int32)),()),()))
def Xk:=GH Uf
def Pu(a h:Int)(u:LX)(f:Int)(v:LB):Option (LX×Int):=
(Gi a h).bind λk=>
if(Bc k 0)then
some (([]:LX),k)
else
if(Cj f 1)then
some (([]:LX),2)
else
(Je (Bc a 0)).bind λ_=>
if(Ef f (Bt 4000 a))then
some (([]:LX),2)
else
(KR v).bind λ(w,m)=>
if(Bc m 0)then
some (([]:LX),m)
else
(Ac9 w).bind λ(n,b,o)=>
if(Bc o 0)then
some (([]:LX),o)
else
(KQ a f n b).bind λ(y,g,p)=>
if(Bc p 0)then
some (([]:LX),p)
else
if(Ms (Ao b g) 8)then
some (([]:LX),12)
else
(LO n b g (Ao b g)).bind λ(aa,ab)=>
if((Bc ab 0)||(Bc aa 0))then
some (([]:LX),12)
else
(Xk a h u y).bind λ(ac,ad)=>
some (ac,ad)
abbrev Eg:=Option (LB×Int)
def Q6(g:LB):Eg:=
some (g,0)
def oB:=Q6
def nY(Iv:Int->LB->Eg)(b:Int)(a:LX)(f:Int)(h:LB):Eg:=
Iv (Ad f 1) h
def VK Iv:=nY Iv
def EM(j28:Int->LB->Eg)(Akm:Int->LB->Eg)(b:Int)(a:LX)(k:Int32)(f m:Int)(h:LB):Eg:=
if(Cj m (Bt b 8))then
(Je (Ms (Bf 8 m) 0)).bind λ_=>
(Ds h ([(Af (Ci k (GI.toZ (Bf 8 m)).toNat):UInt8)]:LB)).bind λp=>
Akm (Ad m 1) p
else
j28 f h
def Li(Iv:Int->LB->Eg)(b:Int)(a:LX)(k:Int32)(f:Int):Nat->Int->LB->Eg
|0,_,_=>none
|q+1,m,h=>EM (VK Iv b a) (Li Iv b a k f q) b a k f m h
def WC Iv b a k f:=Li Iv b a k f Au
def UQ(j26:Int32->Int->Int->LB->Eg)(b:Int)(a:LX)(f:Int)(g:LB)(k:Int32):Eg:=
j26 k f 0 g
def Oc Iv b a:=UQ (WC Iv b a) b a
def EX(j25:Int->LB->Int32->Eg)(j30:LB->Eg)(b:Int)(a:LX)(f:Int)(g:LB):Eg:=
if(Cj f (Ac a))then
(Ap a f).bind λn=>
if(geq b 8)then
j25 f g (Ad n 128)
else
j25 f g n
else
j30 g
def Hs(b:Int)(a:LX):Nat->Int->LB->Eg
|0,_,_=>none
|q+1,f,g=>EX (Oc (Hs b a q) b a) oB b a f g
def nV b a:=Hs b a Au
def aW(j16:Int->LX->Int->LB->Eg)(b:Int)(a:LX):Eg:=
(Rv b a).bind λo=>
if(Bc o 0)then
some (([]:LB),o)
else
j16 b a 0 ([]:LB)
def Ni:=aW nV
def EE:Option Int:=
some (-1:Int)
def Pf:=EE
def Fm(j6:Option Int)(Re:Int->Option Int)(a:LI)(b f:Int):Option Int:=
if(Cj f (Ac a))then
(Ap a f).bind λg=>
if(geq b g)then
some f
else
Re (Ad f 1)
else
j6
def Cb(a:LI)(b:Int):Nat->Int->Option Int
|0,_=>none
|q+1,f=>Fm Pf (Cb a b q) a b f
def Iu a b:=Cb a b Au
def Is(j4:LI->Int->Int->Option Int)(a:LI)(b:Int):Option Int:=
j4 a b 0
def Kl:=Is Iu
def Im(a:LI)(b:Int):Option Bool:=
(Kl a b).bind λf=>
some (Ms f 0)
def Te(a:Int):Option Bool:=
(Im ([(4:Int),(12:Int),(16:Int),(22:Int),(24:Int),(26:Int),(38:Int)]:LI) a).bind λb=>
some b
def eE(bi:Bool):Option Int:=
if(!bi)then
some 8
else
some 0
def Bw:=eE
def MB(j22:Bool->Option Int):Option Int:=
j22 ((true==true)&&((geq (0:Int) (0:Int))&&true))
def Zn:=MB Bw
def IB(j22:Bool->Option Int)(bj:Bool)(bk:Int):Option Int:=
j22 ((bj==true)&&((geq bk 0)&&true))
def Fk:=IB Bw
def MX(j13:Bool->Int->Option Int)(g ak:LB)(ae af aa ag ab b:Int)(m:Bool)(n:Int)(f:LI)(h:LB):Option Int:=
(Qf ae af aa ag ab g).bind λdm=>
(Am dm).bind λ(dn,am)=>
j13 dn am
def Ze:=MX Fk
def JW(j22:Bool->Option Int)(bl:Bool)(bm:Int):Option Int:=
j22 ((bl==true)&&((geq bm 0)&&true))
def Km:=JW Bw
def IX(j25:Bool->Int->Option Int)(g a:LB)(k p o u v b:Int)(m:Bool)(n:Int)(f:LI)(h:LB)(bg:Int):Option Int:=
(Dw k p o u v).bind λ(dp,bh)=>
if(Bc bh 0)then
(Am bh).bind λ(an,bn)=>
j25 an bn
else
(Bp a bg (Ac a)).bind λdq=>
(FY dq (Ac dp)).bind λ(dr,aa)=>
if(geq aa 24)then
j25 true 0
else
if(Bc aa 0)then
(Am aa).bind λ(ds,ab)=>
j25 ds ab
else
(Bp a (Ad (Ad bg (Bf 4 (Ac dr))) 4) (Ac a)).bind λfc=>
j25 false 0
def Kz:=IX Km
def JH(j25:Bool->Int->Option Int)(j24:LB->LB->Int->Int->Int->Int->Int->Int->Bool->Int->LI->LB->Int->Option Int)(bd:Bool)(bc:Int)(g a:LB)(k p o u v b:Int)(m:Bool)(n:Int)(f:LI)(h:LB):Option Int:=
if(Bc bc 0)then
(Am bc).bind λ(dt,bh)=>
j25 dt bh
else
if(!bd)then
(Am 26).bind λ(an,bn)=>
j25 an bn
else
j24 g a k p o u v b m n f h 8
def ML:=JH Km Kz
def MV(j15:Bool->Int->LB->LB->Int->Int->Int->Int->Int->Int->Bool->Int->LI->LB->Option Int)(g a:LB)(k p o u v b:Int)(m:Bool)(n:Int)(f:LI)(h:LB):Option Int:=
(Bp a 0 8).bind λdu=>
(Pa du g).bind λ(bd,bc)=>
j15 bd bc g a k p o u v b m n f h
def Zb:=MV ML
def IW(j22:Bool->Option Int)(bp:Bool)(bq:Int):Option Int:=
j22 ((bp==true)&&((geq bq 0)&&true))
def Ii:=IW Bw
def Zp(j28:Bool->Int->Option Int)(w ah:Int)(g a:LB)(k p o u v b:Int)(m:Bool)(n:Int)(ao:LX)(f:LI)(h:LB):Option Int:=
if(Bc ah 0)then
(Am ah).bind λ(br,bs)=>
j28 br bs
else
(Ni o ao).bind λ(bt,be)=>
if(Bc be 0)then
(Am be).bind λ(bu,bv)=>
j28 bu bv
else
(Ds h bt).bind λdv=>
(
(Bp a w (Ac a)).bind λdw=>
j28 false 0)
def NF:=Zp Ii
def KV(j27:Int->Int->LB->LB->Int->Int->Int->Int->Int->Int->Bool->Int->LX->LI->LB->Option Int)(w:Int)(g a:LB)(k p o u v b:Int)(m:Bool)(n:Int)(ap:LX)(ad f:LI)(h:LB):Option Int:=
(Ap ad b).bind λ_=>
(Bp a 0 w).bind λdx=>
(Ap ad b).bind λdy=>
(DV k p o u v).bind λ(dz,bf)=>
(Pu dz bf ap dy dx).bind λ(ao,ah)=>
j27 w ah g a k p o u v b m n ao f h
def Yz:=KV NF
def BW(j13:Bool->Int->Option Int)(j12:LB->LB->Int->Int->Int->Int->Int->Int->Bool->Int->LI->LB->Option Int)(j25:Bool->Int->Option Int)(j23:LB->LB->Int->Int->Int->Int->Int->Int->Bool->Int->LI->LB->Option Int)(j24:LB->LB->Int->Int->Int->Int->Int->Int->Bool->Int->LI->LB->Int->Option Int)(j28:Bool->Int->Option Int)(j26:Int->LB->LB->Int->Int->Int->Int->Int->Int->Bool->Int->LX->LI->LI->LB->Option Int)(j22:Bool->Option Int)(j21:Option Int)(aq ar:LB)(au av aw ax ay:Int)(az:LI)(ai:Int)(aj:LB)(ac:Bool)(y:Int):Option Int:=
if(Ef (Ac aq) 64)then
some 8
else
if((geq y 0)&&(!ac))then
(En aq ar au av aw ax ay az ai aj ac y).bind λ(g,a,k,p,o,u,v,f,b,h,m,n)=>
(BL aq ar au av aw ax ay az ai aj ac y).bind λbw=>
if bw then
if(geq k 0)then
(Jr a).bind λ(al,ba)=>
if(geq ba 24)then
j13 true 0
else
if(Bc ba 0)then
(Am ba).bind λ(bx,bz)=>
j13 bx bz
else
(Bp a al (Ac a)).bind λda=>
(Sj da).bind λan=>
if an then
j13 true 0
else
(Bp a al (Ac a)).bind λdb=>
(Mw db).bind λ(ae,af,aa,ag,ab,bb)=>
if(geq bb 24)then
j13 true 0
else
if(Bc bb 0)then
(Am bb).bind λ(dc,dd)=>
j13 dc dd
else
(
(Bp a (Ad al 22) (Ac a)).bind λak=>
(
j12 g ak ae af aa ag ab b m n f h))
else
if(geq (Ac f) 0)then
if(geq k 2)then
if(Cj (Ac a) 8)then
j25 true 0
else
j23 g a k p o u v b m n f h
else
j24 g a k p o u v b m n f h 0
else
if(Cj b (Ac f))then
(Ap f b).bind λ_=>
(Ap f b).bind λw=>
if(Cj (Ac a) w)then
j28 true 0
else
(Nq g).bind λ(ap,am)=>
if(Bc am 0)then
(Am am).bind λ(de,df)=>
j28 de df
else
(Dw k p o u v).bind λ(ad,dg)=>
if((Bc dg 0)||(Ms b (Ac ad)))then
(Am 8).bind λ(dh,di)=>
j28 dh di
else
j26 w g a k p o u v b m n ap ad f h
else
if(Ef (Ac a) 4000)then
(Am 38).bind λ(dj,bf)=>
j22 ((dj==true)&&((geq bf 0)&&true))
else
j21
else
j22 false
else
if((geq (Ac ar) 0)&&(geq (Ac az) 0))then
if((((geq au 0)&&((geq av 0)&&((geq aw 0)&&((geq ax 0)&&((geq ay 0)&&true)))))&&(geq ai 0))&&(I8 (Ac aj) 12000))then
if(geq y 0)then
j22 true
else
if(!ac)then
(Te y).bind λdk=>
j22 dk
else
j22 false
else
j22 false
else
if((false&&(geq ai 0))&&(I8 (Ac aj) 12000))then
if(geq y 0)then
j22 true
else
if(!ac)then
(Te y).bind λdl=>
j22 dl
else
j22 false
else
j22 false
def Ph:=BW Fk Ze Km Zb Kz Ii Yz Bw Zn
def Tn(f g:LB)(h k m n o:Int)(p:LI)(u:Int)(v:LB)(b:Bool)(a:Int):Option (LB×LB×Int×Int×Int×Int×Int×LI×Int×LB×Bool×Int×Int):=
(Ph f g h k m n o p u v b a).bind λw=>
if(Bc w 0)then
some (([]:LB),([]:LB),0,0,0,0,0,([]:LI),0,([]:LB),false,0,w)
else
if(Bc a 0)then
(
(
(En f g h k m n o p u v b a).bind λ(y,aa,ab,ac,ad,ae,af,ag,ah,ai,aj,ak)=>
(
some (y,aa,ab,ac,ad,ae,af,ag,ah,ai,aj,ak,a))))
else
if b then
(En f g h k m n o p u v b a).bind λ(al,am,an,ao,ap,aq,ar,au,av,aw,ax,ay)=>
some (al,am,an,ao,ap,aq,ar,au,av,aw,ax,ay,36)
else
(En f g h k m n o p u v b a).bind λ(az,ba,bb,bc,bd,be,bf,bg,bh,bi,bj,bk)=>
some (az,ba,bb,bc,bd,be,bf,bg,bh,bi,bj,bk,0)
def YB(b g:LB)(h k m n o:Int)(p:LI)(u:Int)(f:LB)(v:Bool)(w a:Int):Option (LB×LB×Int×Int×Int×Int×Int×LI×Int×LB×Bool×Int×Int):=
some (b,([]:LB),0,0,0,0,0,([]:LI),0,f,false,a,a)
abbrev Ax:=Option (LB×LB×Int×Int×Int×Int×Int×LI×Int×LB×Bool×Int×Int)
def OY(YF:LB->Int->Int->Int->Int->Int->Int->LI->LB->Ax)(a:LB)(b:Bool)(f:Int)(ar:LB)(au av aw ax ay az:Int)(bh:Bool)(be:Int)(ba:LI)(bb:LB):Ax:=
if bh then
(En a ar au av aw ax ay ba az bb b f).bind λ(fh,fi,fj,bc,bi,ai,fk,fl,fm,fn,fo,aj)=>
some (fh,fi,fj,bc,bi,ai,fk,fl,fm,fn,fo,aj,0)
else
if(Bc be 0)then
(YB a ar au av aw ax ay ba az bb b f be).bind λ(fp,fq,fs,ft,fu,fv,fw,fx,fy,fz,ga,gb,gc)=>
some (fp,fq,fs,ft,fu,fv,fw,fx,fy,fz,ga,gb,gc)
else
YF ar au av aw ax ay az ba bb
def Cr YF:=OY YF
def jQ(j71:LB->Int->Int->Int->Int->Int->Int->Bool->Int->LI->LB->Ax)(a:LB)(b:Bool)(f:Int)(g:LB)(m p o u v h:Int)(k:LI)(n:LB):Ax:=
j71 g m p o u v h true 0 k n
def CA YF a b f:=jQ (Cr YF a b f) a b f
def iU(j71:LB->Int->Int->Int->Int->Int->Int->Bool->Int->LI->LB->Ax)(a:LB)(b:Bool)(f h:Int)(k:LI)(n:LB)(bj:Bool)(bk:Int)(bl:LB)(bm bn bp bq br:Int):Ax:=
j71 bl bm bn bp bq br h bj bk k n
def Ps YF a b f:=iU (Cr YF a b f) a b f
def QV(j62:Int->LI->LB->Bool->Int->LB->Int->Int->Int->Int->Int->Ax)(a:LB)(b:Bool)(f:Int)(af:LB)(ab ac y ad aa h:Int)(k:LI)(n:LB):Ax:=
(Qf ab ac y ad aa a).bind λgd=>
(Am gd).bind λ(ge,ak)=>
j62 h k n ge ak af ab ac y ad aa
def Uo YF a b f:=QV (Ps YF a b f) a b f
def iR(j71:LB->Int->Int->Int->Int->Int->Int->Bool->Int->LI->LB->Ax)(a:LB)(b:Bool)(f m p o u v h:Int)(n:LB)(bs:Bool)(bt:Int)(bu:LB)(bv:LI):Ax:=
j71 bu m p o u v h bs bt bv n
def Mg YF a b f:=iR (Cr YF a b f) a b f
def RC(j75:Int->Int->Int->Int->Int->Int->LB->Bool->Int->LB->LI->Ax)(a:LB)(b:Bool)(f:Int)(g:LB)(m p o u v h:Int)(k:LI)(n:LB)(bf:Int):Ax:=
(Dw m p o u v).bind λ(gf,bg)=>
if(Bc bg 0)then
(Am bg).bind λ(al,bw)=>
j75 m p o u v h n al bw g k
else
(Bp g bf (Ac g)).bind λgg=>
(FY gg (Ac gf)).bind λ(dw,y)=>
if(geq y 24)then
j75 m p o u v h n true 0 g k
else
if(Bc y 0)then
(Am y).bind λ(gh,aa)=>
j75 m p o u v h n gh aa g k
else
(Bp g (Ad (Ad bf (Bf 4 (Ac dw))) 4) (Ac g)).bind λgi=>
j75 m p o u v h n false 0 gi dw
def Mm YF a b f:=RC (Mg YF a b f) a b f
def QU(j75:Int->Int->Int->Int->Int->Int->LB->Bool->Int->LB->LI->Ax)(j74:LB->Int->Int->Int->Int->Int->Int->LI->LB->Int->Ax)(a:LB)(b:Bool)(f:Int)(bd:Bool)(aq:Int)(g:LB)(m p o u v h:Int)(k:LI)(n:LB):Ax:=
if(Bc aq 0)then
(Am aq).bind λ(gj,bg)=>
j75 m p o u v h n gj bg g k
else
if(!bd)then
(Am 26).bind λ(al,bw)=>
j75 m p o u v h n al bw g k
else
j74 g m p o u v h k n 8
def OW YF a b f:=QU (Mg YF a b f) (Mm YF a b f) a b f
def PG(j64:Bool->Int->LB->Int->Int->Int->Int->Int->Int->LI->LB->Ax)(a:LB)(b:Bool)(f:Int)(g:LB)(m p o u v h:Int)(k:LI)(n:LB):Ax:=
(Bp g 0 8).bind λgk=>
(Pa gk a).bind λ(bd,aq)=>
j64 bd aq g m p o u v h k n
def Uq YF a b f:=PG (OW YF a b f) a b f
def iJ(j71:LB->Int->Int->Int->Int->Int->Int->Bool->Int->LI->LB->Ax)(a:LB)(b:Bool)(f m p o u v:Int)(k:LI)(bx:Bool)(bz:Int)(da:LB)(db:Int)(dc:LB):Ax:=
j71 da m p o u v db bx bz k dc
def Pq YF a b f:=iJ (Cr YF a b f) a b f
def BU(j78:Int->Int->Int->Int->Int->LI->Bool->Int->LB->Int->LB->Ax)(a:LB)(b:Bool)(f w ag:Int)(g:LB)(m p o u v h:Int)(am:LX)(k:LI)(n:LB):Ax:=
if(Bc ag 0)then
(Am ag).bind λ(dd,de)=>
j78 m p o u v k dd de g h n
else
(Ni o am).bind λ(df,aj)=>
if(Bc aj 0)then
(Am aj).bind λ(dg,dh)=>
j78 m p o u v k dg dh g h n
else
(Ds n df).bind λdi=>
(
(Bp g w (Ac g)).bind λdj=>
j78 m p o u v k false 0 dj (Ad h 1) di)
def PZ YF a b f:=BU (Pq YF a b f) a b f
def PF(j77:Int->Int->LB->Int->Int->Int->Int->Int->Int->LX->LI->LB->Ax)(a:LB)(b:Bool)(f w:Int)(g:LB)(m p o u v h:Int)(an:LX)(ae k:LI)(n:LB):Ax:=
(Ap ae h).bind λ_=>
(Bp g 0 w).bind λgl=>
(Ap ae h).bind λgm=>
(DV m p o u v).bind λ(bi,ai)=>
(Pu bi ai an gm gl).bind λ(am,ag)=>
j77 w ag g m p o u v h am k n
def Vv YF a b f:=PF (PZ YF a b f) a b f
def Jl(j62:Int->LI->LB->Bool->Int->LB->Int->Int->Int->Int->Int->Ax)(j61:LB->Int->Int->Int->Int->Int->Int->LI->LB->Ax)(j75:Int->Int->Int->Int->Int->Int->LB->Bool->Int->LB->LI->Ax)(j73:LB->Int->Int->Int->Int->Int->Int->LI->LB->Ax)(j74:LB->Int->Int->Int->Int->Int->Int->LI->LB->Int->Ax)(j78:Int->Int->Int->Int->Int->LI->Bool->Int->LB->Int->LB->Ax)(j76:Int->LB->Int->Int->Int->Int->Int->Int->LX->LI->LI->LB->Ax)(j71:LB->Int->Int->Int->Int->Int->Int->Bool->Int->LI->LB->Ax)(j70:LB->Int->Int->Int->Int->Int->Int->LI->LB->Ax)(a:LB)(b:Bool)(f:Int)(g:LB)(m p o u v h:Int)(k:LI)(n:LB):Ax:=
if(geq m 0)then
(Jr g).bind λ(ah,ao)=>
if(geq ao 24)then
j62 h k n true 0 g m p o u v
else
if(Bc ao 0)then
(Am ao).bind λ(dk,dl)=>
j62 h k n dk dl g m p o u v
else
(Bp g ah (Ac g)).bind λdm=>
(Sj dm).bind λal=>
if al then
j62 h k n true 0 g m p o u v
else
(Bp g ah (Ac g)).bind λdn=>
(Mw dn).bind λ(ab,ac,y,ad,aa,ap)=>
if(geq ap 24)then
j62 h k n true 0 g m p o u v
else
if(Bc ap 0)then
(Am ap).bind λ(dp,dq)=>
j62 h k n dp dq g m p o u v
else
(
(Bp g (Ad ah 22) (Ac g)).bind λaf=>
(
j61 af ab ac y ad aa h k n))
else
if(geq (Ac k) 0)then
if(geq m 2)then
if(Cj (Ac g) 8)then
j75 m p o u v h n true 0 g k
else
j73 g m p o u v h k n
else
j74 g m p o u v h k n 0
else
if(Cj h (Ac k))then
(Ap k h).bind λ_=>
(Ap k h).bind λw=>
if(Cj (Ac g) w)then
j78 m p o u v k true 0 g h n
else
(Nq a).bind λ(an,ak)=>
if(Bc ak 0)then
(Am ak).bind λ(dr,ds)=>
j78 m p o u v k dr ds g h n
else
(Dw m p o u v).bind λ(ae,dt)=>
if((Bc dt 0)||(Ms h (Ac ae)))then
(Am 8).bind λ(du,bc)=>
j78 m p o u v k du bc g h n
else
j76 w g m p o u v h an ae k n
else
if(Ef (Ac g) 4000)then
(Am 38).bind λ(dv,ai)=>
j71 g m p o u v h dv ai k n
else
j70 g m p o u v h k n
def Bd(a:LB)(b:Bool)(f:Int):Nat->LB->Int->Int->Int->Int->Int->Int->LI->LB->Ax
|0,_,_,_,_,_,_,_,_,_=>none
|q+1,g,m,p,o,u,v,h,k,n=>Jl (Ps (Bd a b f q) a b f) (Uo (Bd a b f q) a b f) (Mg (Bd a b f q) a b f) (Uq (Bd a b f q) a b f) (Mm (Bd a b f q) a b f) (Pq (Bd a b f q) a b f) (Vv (Bd a b f q) a b f) (Cr (Bd a b f q) a b f) (CA (Bd a b f q) a b f) a b f g m p o u v h k n
def iK a b f:=Bd a b f Au
def Xn(j37:LB->Bool->Int->LB->Int->Int->Int->Int->Int->Int->LI->LB->Ax)(gn go:LB)(gp gq gr gs gt:Int)(gu:LI)(gv:Int)(gw:LB)(gx:Bool)(gy:Int)(gz:LB):Ax:=
(Tn gn go gp gq gr gs gt gu gv gw gx gy).bind λ(a,dx,dy,dz,fa,fb,fc,fd,fe,ff,b,f,fg)=>
if(Bc fg 0)then
some (a,dx,dy,dz,fa,fb,fc,fd,fe,ff,b,f,fg)
else
(Ds dx gz).bind λha=>
j37 a b f ha dy dz fa fb fc fe fd ff
def Mq:=Xn iK
abbrev xW:=Option (Int×Int)
def P4(a:LB):xW:=
(Bp a (Ao (Ac a) 32) (Ac a)).bind λg=>
(YJ g 0).bind λ(f,y,h)=>
if h then
if(Cj (Ao (Ac a) 32) f)then
some (0,24)
else
some ((Ad f 32),0)
else
(Bp a (Ao (Ac a) 32) (Ac a)).bind λk=>
(YJ k 2147483648).bind λ(b,m,n)=>
if(!n)then
some (0,12)
else
if(Cj (Ac a) (Ad b 64))then
some (0,24)
else
(Bp a (Ao (Ac a) (Ad b 64)) (Ad (Ao (Ac a) (Ad b 64)) 32)).bind λo=>
(tN b m 2684354560).bind λp=>
(Ij o p).bind λu=>
if(!u)then
some (0,12)
else
some ((Ad b 64),0)
def pD:=P4
def rD(j2:LB->xW)(a:LB):xW:=
if(Cj (Ao (Ac a) 32) 0)then
some (0,6)
else
(Bp a (Ao (Ac a) 32) (Ac a)).bind λv=>
(Nw v ([(65:UInt8),(80:UInt8),(69:UInt8),(84:UInt8),(65:UInt8),(71:UInt8),(69:UInt8),(88:UInt8)]:LB)).bind λw=>
if(!w)then
some (0,6)
else
j2 a
def zA:=rD pD
abbrev Hf:=Option (Int×Int)
def J5(a:Int):Hf:=
some (a,0)
def jK:=J5
def jP(bk8:Int->LB->Hf)(a:Int)(g:LB):Hf:=
bk8 (Ad a 1) g
def QX bk8:=jP bk8
def QW(j12:Int->LB->Hf)(a f:Int)(b:LB):Hf:=
if(geq f 0)then
some (0,38)
else
(Bp b 0 (Ao (Ac b) f)).bind λg=>
j12 a g
def PY bk8:=QW (QX bk8)
def VY(j11:Int->Int->LB->Hf)(j14:Int->Hf)(a:Int)(b:LB):Hf:=
if(Ef (Ac b) 0)then
(zA b).bind λ(f,k)=>
j11 a f b
else
j14 a
def Xi:Nat->Int->LB->Hf
|0,_,_=>none
|q+1,a,b=>VY (PY (Xi q)) jK a b
def nU:=Xi Au
def VR(j8:Int->LB->Hf)(h:LB):Hf:=
if(Ef (Ac h) 4000)then
some (0,38)
else
j8 0 h
def KC:=VR nU
def JP(p a:LB)(g u v w y:Int)(b:LI)(h:Int)(aa:LB)(ab:Bool)(ac:Int):Option Int:=
if(geq g 0)then
(Jr a).bind λ(k,f)=>
if(Bc f 0)then
some f
else
(Bp a k (Ac a)).bind λm=>
(Mw m).bind λ(ad,ae,af,ag,ah,n)=>
some n
else
if((Cj h (Ac b))||(geq (Ac b) 0))then
some 24
else
(KC a).bind λ(ai,o)=>
some o
def Gc(aa ab:LB)(ac ad ae af ag:Int)(ah:LI)(ai:Int)(aj:LB)(ak:Bool)(al:Int):Option (LB×LB×Int×Int×Int×Int×Int×LI×Int×LB×Bool×Int×Int):=
(Tn aa ab ac ad ae af ag ah ai aj ak al).bind λ(a,f,g,h,k,m,n,o,p,b,u,v,w)=>
if(Bc w 0)then
some (a,f,g,h,k,m,n,o,p,b,u,v,w)
else
(JP a f g h k m n o p b u v).bind λy=>
if(Bc y 0)then
(YB a f g h k m n o p b u v y).bind λ(am,an,ao,ap,aq,ar,au,av,aw,ax,ay,az,ba)=>
some (am,an,ao,ap,aq,ar,au,av,aw,ax,ay,az,ba)
else
some (a,([]:LB),0,0,0,0,0,([]:LI),0,b,true,0,0)
abbrev Iz:=Option (LB×Int)
def cQ(g:LB)(h k m n o p:Int)(u:LB)(v:Bool)(w:Int)(y:LB)(aa:LI):Iz:=
(Gc g y h k m n o aa p u v w).bind λ(bj,ap,bk,bl,ac,ad,ae,bm,af,ab,bn,bp,ar)=>
some (ab,ar)
def JJ:=cQ
def dR(bk7:LB->Int->LB->Int->Int->Int->Int->Int->Int->LB->Bool->Int->LB->LI->Iz)(a:LI)(b:LB)(ag ah f:Int)(aj:LB)(ac ad ae ak af al:Int)(ai:LB)(am:Bool)(an:Int)(ao:LB)(ab:LI):Iz:=
if(Bc ag 0)then
some (ai,ag)
else
(Bp b ah (Ac b)).bind λau=>
bk7 au (Ad f 1) aj ac ad ae ak af al ai am an ao ab
def NA bk7:=dR bk7
def QN(j10:LB->Int->Int->Int->LB->Int->Int->Int->Int->Int->Int->LB->Bool->Int->LB->LI->Iz)(j12:LB->Int->Int->Int->Int->Int->Int->LB->Bool->Int->LB->LI->Iz)(a:LI)(b:LB)(f:Int)(g:LB)(h k m n o p:Int)(u:LB)(v:Bool)(w:Int)(y:LB)(aa:LI):Iz:=
if(Cj f (Ac a))then
(Ap a f).bind λah=>
(Bp b 0 ah).bind λap=>
(Mq g y h k m n o aa p u v w ap).bind λ(aj,ao,ac,ad,ae,ak,af,ab,al,ai,am,an,ag)=>
j10 b ag ah f aj ac ad ae ak af al ai am an ao ab
else
j12 g h k m n o p u v w y aa
def Vw(a:LI):Nat->LB->Int->LB->Int->Int->Int->Int->Int->Int->LB->Bool->Int->LB->LI->Iz
|0,_,_,_,_,_,_,_,_,_,_,_,_,_,_=>none
|q+1,b,f,g,h,k,m,n,o,p,u,v,w,y,aa=>QN (NA (Vw a q) a) JJ a b f g h k m n o p u v w y aa
def jA a:=Vw a Au
def QY(j7:LI->LB->Int->LB->Int->Int->Int->Int->Int->Int->LB->Bool->Int->LB->LI->Iz)(av aw:LB)(a:LI):Iz:=
(rM av).bind λ(ax,ay,az,ba,bb,bc,bd,be,bf,bg,bh,bi,aq)=>
if(Bc aq 0)then
some (([]:LB),aq)
else
j7 a aw 0 ax az ba bb bc bd bf bg bh bi ay be
def RG:=QY jA
def Xx(f a:LB)(g:UInt64):Option (LB×Int):=
(Xp (Ac a) g).bind λ(h,b)=>
if(Bc b 0)then
some (([]:LB),b)
else
(RG f a h).bind λ(k,m)=>
some (k,m)
def fT:Option Bool:=
some true
def DZ:=fT
def DR(j6:Option Bool)(Re:Int->Option Bool)(a b:LI)(f:Int):Option Bool:=
if(Cj f (Ac a))then
(Ap a f).bind λg=>
(Ap b f).bind λh=>
if(Bc g h)then
some false
else
Re (Ad f 1)
else
j6
def To(a b:LI):Nat->Int->Option Bool
|0,_=>none
|q+1,f=>DR DZ (To a b q) a b f
def EF a b:=To a b Au
def DW(j4:LI->LI->Int->Option Bool)(a b:LI):Option Bool:=
if(Bc (Ac a) (Ac b))then
some false
else
j4 a b 0
def OJ:=DW EF
def CO(a:Int)(b:UInt64)(f:LI):Option Bool:=
(Xp a b).bind λ(g,h)=>
if(geq h 0)then
(OJ g f).bind λk=>
some k
else
some false
def Wj:Option Bool:=
(Tp 1 8 8000 ([]:LB) ([(200:UInt8)]:LB) 0).bind λ(a,b)=>
(Xx ([]:LB) a 18446744073709551615).bind λ(f,g)=>
(CO 7 10 ([(2:Int),(2:Int),(3:Int)]:LI)).bind λh=>
if h then
(CO 130 1 ([(1:Int),(64:Int),(64:Int),(1:Int)]:LI)).bind λk=>
some ((((k&&(geq b 0))&&(geq (Ac a) 36))&&(geq g 0))&&(f==([200]:LB)))
else
some ((((false&&(geq b 0))&&(geq (Ac a) 36))&&(geq g 0))&&(f==([200]:LB)))
def Gy(a:Int):Option (Int×Int):=
if((Cj a 1)||(Ef a 1048576))then
some (0,2)
else
if(geq (Bt (Bf a 256) 245) 0)then
some (1,0)
else
some ((Bt (Bf a 256) 245),0)
def Kx(a:Int):Option Int:=
if(geq a 8)then
some 128
else
if(geq a 16)then
some 32768
else
if(geq a 24)then
some 8388608
else
some 0
def Bn(a b:Int):Option Int:=
if((Cj a 1)||(Ef a 6))then
some 2
else
(Kx b).bind λf=>
if(geq f 0)then
some 2
else
some 0
def Ji(a b f:Int)(g:LB):Option Int:=
(Gy f).bind λ(m,h)=>
(Bn a b).bind λk=>
if(((Bc k 0)||(Bc h 0))||(Ef (Ac g) 64))then
some 2
else
some 0
def pK(f:LB):Option (Int×Int×Int×Int×Int×Int×Int×Int×Int×Int×LI×Int):=
if(Ef (Ac f) 100000)then
some (0,0,0,0,0,0,0,0,0,0,([]:LI),4)
else
(Jr f).bind λ(a,n)=>
if(Bc n 0)then
some (0,0,0,0,0,0,0,0,0,0,([]:LI),n)
else
(Bp f a (Ac f)).bind λu=>
(Mw u).bind λ(b,g,h,k,m,o)=>
if(Bc o 0)then
some (b,g,h,k,m,0,0,0,0,0,([]:LI),o)
else
(Dw b g h k m).bind λ(p,v)=>
if(geq b 2)then
some (b,g,h,k,m,a,(Ad a 22),(Ad (Ad a 22) 8),0,0,p,0)
else
some (b,g,h,k,m,a,(Ad a 22),(Ad a 22),0,0,p,0)
abbrev Ch:=Option (Int×Int×Int×LX×Int)
def pI(a:LB)(aa b f h:Int)(ad:LX):Ch:=
(Bp a aa (Ac a)).bind λaq=>
(KC aq).bind λ(bb,ar)=>
if(Bc ar 0)then
some (0,0,0,([]:LX),38)
else
some (b,f,h,ad,0)
def aB:=pI
def qL(Akk:Int->Int->LX->Ch)(a:LB)(w:LI)(m b f h o p n g y ab:Int)(ac:LX)(k:LI)(aa aj ak ae:Int)(am ad:LX):Ch:=
if(Bc ak 0)then
some (0,0,0,([]:LX),ak)
else
(Ds ad am).bind λau=>
Akk (Ad aa aj) (Ad ae 1) au
def ZY Akk:=qL Akk
def LV(j24:Int->Int->Int->Int->LX->LX->Ch)(j26:LB->Int->Int->Int->Int->LX->Ch)(a:LB)(w:LI)(m b f h o p n g y ab:Int)(ac:LX)(k:LI)(aa ae:Int)(ad:LX):Ch:=
if(Cj ae (Ac w))then
(Ap w ae).bind λ_=>
(Ap w ae).bind λaj=>
if(Cj (Ac a) (Ad aa aj))then
some (0,0,0,([]:LX),24)
else
(Ap k ae).bind λ_=>
(Bp a aa (Ad aa aj)).bind λav=>
(Ap k ae).bind λaw=>
(Pu b f ac aw av).bind λ(am,ak)=>
j24 aa aj ak ae am ad
else
j26 a aa b f h ad
def Uz(a:LB)(w:LI)(m b f h o p n g y ab:Int)(ac:LX)(k:LI):Nat->Int->Int->LX->Ch
|0,_,_,_=>none
|q+1,aa,ae,ad=>LV (ZY (Uz a w m b f h o p n g y ab ac k q) a w m b f h o p n g y ab ac k) aB a w m b f h o p n g y ab ac k aa ae ad
def qN a w m b f h o p n g y ab ac k:=Uz a w m b f h o p n g y ab ac k Au
def KT(j21:LB->LI->Int->Int->Int->Int->Int->Int->Int->Int->Int->Int->LX->LI->Int->Int->LX->Ch)(a u:LB)(m b f h o p n g:Int)(k:LI)(an y ab:Int)(w:LI):Ch:=
if(Bc an 0)then
some (0,0,0,([]:LX),an)
else
(Nq u).bind λ(ac,bc)=>
j21 a w m b f h o p n g y ab ac k y 0 ([]:LX)
def Qd:=KT qN
def ZD(j20:LB->LB->Int->Int->Int->Int->Int->Int->Int->Int->LI->Int->Int->Int->LI->Ch)(a u:LB)(v:LI)(m b f h o p n g af:Int)(k:LI):Ch:=
j20 a u m b f h o p n g k 0 (Ad (Ad g (Bf 4 (Ac v))) 4) af v
def KB:=ZD Qd
def KI(j19:LB->LB->LI->Int->Int->Int->Int->Int->Int->Int->Int->Int->LI->Ch)(Bb3:Int->Int->Ch)(v:LI)(a u:LB)(m b f h o p n g:Int)(k:LI)(ag af:Int):Ch:=
if(Cj ag (Ac v))then
(Ap v ag).bind λ_=>
(Ap v ag).bind λax=>
Bb3 (Ad ag 1) (Ad af ax)
else
j19 a u v m b f h o p n g af k
def Um(v:LI)(a u:LB)(m b f h o p n g:Int)(k:LI):Nat->Int->Int->Ch
|0,_,_=>none
|q+1,ag,af=>KI KB (Um v a u m b f h o p n g k q) v a u m b f h o p n g k ag af
def YS v a u m b f h o p n g k:=Um v a u m b f h o p n g k Au
def JC(j20:LB->LB->Int->Int->Int->Int->Int->Int->Int->Int->LI->Int->Int->Int->LI->Ch)(j17:LI->LB->LB->Int->Int->Int->Int->Int->Int->Int->Int->LI->Int->Int->Ch)(al:Int)(a u:LB)(m b f h o p n g ah ai:Int)(v k:LI):Ch:=
if(Bc al 0)then
j20 a u m b f h o p n g k al ah ai ([]:LI)
else
j17 v a u m b f h o p n g k 0 (Ad (Ad g (Bf 4 (Ac v))) 4)
def IC:=JC Qd YS
def aM(j20:LB->LB->Int->Int->Int->Int->Int->Int->Int->Int->LI->Int->Int->Int->LI->Ch)(j16:Int->LB->LB->Int->Int->Int->Int->Int->Int->Int->Int->Int->Int->LI->LI->Ch)(a u:LB)(m b f h o p n g ah ai:Int)(k:LI):Ch:=
if(Cj (Ac a) g)then
j20 a u m b f h o p n g k 24 ah ai ([]:LI)
else
(Bp a g (Ac a)).bind λay=>
(FY ay (Ac k)).bind λ(v,al)=>
j16 al a u m b f h o p n g ah ai v k
def AU:=aM Qd IC
def KZ(j15:LB->LB->Int->Int->Int->Int->Int->Int->Int->Int->Int->Int->LI->Ch)(a u:LB)(m b f h o p n g ah ai:Int)(k:LI)(ao:Int):Ch:=
if(Bc ao 0)then
some (0,0,0,([]:LX),ao)
else
j15 a u m b f h o p n g ah ai k
def Va:=KZ AU
def eX(j14:LB->LB->Int->Int->Int->Int->Int->Int->Int->Int->Int->Int->LI->Int->Ch)(a u:LB):Ch:=
if(Ef (Ac u) 64)then
some (0,0,0,([]:LX),2)
else
(pK a).bind λ(m,b,f,h,o,p,n,g,ah,ai,k,ap)=>
if(Bc ap 0)then
some (0,0,0,([]:LX),ap)
else
if((u==([]:LB)) !=(geq m 1))then
j14 a u m b f h o p n g ah ai k 26
else
if(geq m 1)then
j14 a u m b f h o p n g ah ai k 0
else
if(Cj (Ac a) g)then
j14 a u m b f h o p n g ah ai k 24
else
(Bp a n g).bind λaz=>
(Pa az u).bind λ(ba,bd)=>
if(!ba)then
j14 a u m b f h o p n g ah ai k 26
else
j14 a u m b f h o p n g ah ai k 0
def Tc:=eX Va
def PL(a b f:Int)(g:LX):Option (Int×Int):=
some (a,b)
def PD(a g f:Int)(h:LX)(b:Int):Option Int:=
(PL a g f h).bind λ(k,m)=>
(Gi k m).bind λn=>
if((Bc n 0)||(Cj b 1))then
some 8
else
(Je (Bc a 0)).bind λ_=>
if(Ef b (Bt 4000 a))then
some 8
else
(Kb f b).bind λ(p,o)=>
if(Bc o 0)then
some 8
else
some 0
def Ep(a f h:Int)(b:LX):Option Int:=
if(Cj a 1)then
some 8
else
(Je (Bc a 0)).bind λ_=>
if(Bc (Fo (Ac b) a) 0)then
some 8
else
(Je (Bc a 0)).bind λ_=>
(PD a f h b (Bt (Ac b) a)).bind λg=>
if(Bc g 0)then
some g
else
(Rv f b).bind λk=>
if(Bc k 0)then
some 8
else
some 0
abbrev gB:=Option (Int×Int×Int×Int×Int×Int)
def qU(h:LB)(a b f:Int)(g:LX):gB:=
if(h !=([]:LB))then
some (2,a,b,f,(Bt (Ac g) a),0)
else
some (1,a,b,f,(Bt (Ac g) a),0)
def aF:=qU
def IE(j2:LB->Int->Int->Int->LX->gB)(a b f:Int)(g:LX)(h:LB):gB:=
(Ep a b f g).bind λk=>
if(Bc k 0)then
some (0,0,0,0,0,k)
else
if(Ef (Ac h) 64)then
some (0,0,0,0,0,2)
else
(Je (Bc a 0)).bind λ_=>
(
j2 h a b f g)
def dT:=IE aF
def Tq(a:Int)(b:LX):LI->Int->Option (List LX)
  |[],_=>some []
  |n::l,x=>Option.bind (Bp b x (Ad x (Bf n a))) λp=>Option.bind (Tq a b l (Ad x (Bf n a))) λps=>some (p::ps)
def Tj(a f:Int)(t:LX):List LX->List LB->Option (List LB×Int)
  |[],o=>some (o,0)
  |x::xs,o=>Option.bind (Nh a f t x) λy=>
    if(Bc y.2 0)=true then some ([],y.2)
    else Option.bind (Ds o [y.1]) λo'=>Tj a f t xs o'
def bJ(a h:Int)(b:LX):Option (List LX):=
  Option.bind (Je (Bc a 0)) λ_=>Option.bind (AF h (Bt (Ac b) a)) λl=>Option.bind (Je (decide (Ac l.1<=17179869184))) λ_=>Tq a b l.1 0
def SY(a f h:Int)(b:LX)(p:LB):Option (List LB×Int):=
  Option.bind (Ep a f h b) λe=>
    if(Bc e 0)=true then some ([],e)
    else Option.bind (Nq p) λt=>
      if(Bc t.2 0)=true then some ([],t.2)
      else Option.bind (bJ a h b) λxs=>Tj a f t.1 xs []
def fC(a:LB):Option Int:=
some (Ac a)
def ji(a:LB):Option (LB):=
some a
def sD:=ji
def LN(j6:LB->Option (LB))(Re:Int->LB->Option (LB))(b:List LB)(f:Int)(a:LB):Option (LB):=
if(Cj f (Ac b))then
(Ap b f).bind λg=>
(Ds a g).bind λh=>
Re (Ad f 1) h
else
j6 a
def Vu(b:List LB):Nat->Int->LB->Option (LB)
|0,_,_=>none
|q+1,f,a=>LN sD (Vu b q) b f a
def rJ b:=Vu b Au
def qF(j4:(List LB)->Int->LB->Option (LB))(b:List LB):Option (LB):=
j4 b 0 ([]:LB)
def sL:=qF rJ
abbrev Gf:=Option (LB×Int)
def nF(k:Int)(a:List LB)(b f n:LB):Gf:=
if(Bc k 0)then
some (([]:LB),k)
else
(Ds ([b,f,n]:List LB) a).bind λm=>
(sL m).bind λad=>
some (ad,0)
def VX:=nF
def UU(j14:Int-> (List LB)->LB->LB->LB->Gf)(h:LI)(a:List LB)(b f:LB):Gf:=
(HS h).bind λ(n,k)=>
j14 k a b f n
def Xo:=UU VX
def nC(bk9:Int->LI->Gf)(a:List LB)(b f:LB)(g:Int)(m:LI):Gf:=
bk9 (Ad g 1) m
def VF bk9:=nC bk9
def KW(j11:Int->LI->Gf)(j13:LI-> (List LB)->LB->LB->Gf)(a:List LB)(b f:LB)(g:Int)(h:LI):Gf:=
if(Cj g (Ac a))then
(Ap a g).bind λ_=>
(Ap a g).bind λae=>
(fC ae).bind λk=>
(Ap h g).bind λ_=>
(Nj h g k).bind λm=>
j11 g m
else
j13 h a b f
def Vs(a:List LB)(b f:LB):Nat->Int->LI->Gf
|0,_,_=>none
|q+1,g,h=>KW (VF (Vs a b f q) a b f) Xo a b f g h
def rR a b f:=Vs a b f Au
def YV(j9:(List LB)->LB->LB->Int->LI->Gf)(a:List LB)(b f:LB):Gf:=
(mkI (Ac a) (0:Int)).bind λaf=>
(Je (geq (Ac a) (Ac a))).bind λ_=>
j9 a b f 0 af
def KH:=YV rR
def ZH(j8:(List LB)->LB->LB->Gf)(p u v:Int)(w:LX)(o:LB):Gf:=
(dT p u v w o).bind λ(y,ag,ah,ai,aj,aa)=>
if(Bc aa 0)then
some (([]:LB),aa)
else
(SY p u v w o).bind λ(a,ab)=>
if(Bc ab 0)then
some (([]:LB),ab)
else
(LC y ag ah ai aj).bind λ(b,ac)=>
if(Bc ac 0)then
some (([]:LB),ac)
else
if(geq y 2)then
(BY o).bind λ(ak,al)=>
j8 a b ak
else
j8 a b ([]:LB)
def eD:=ZH KH
def Pc(g:Int)(a b:LB)(h:Bool)(n k f:Int)(m:LB):Option Bool:=
if(Bc n 0)then
some (h&&(geq (Ac m) 0))
else
(Xu f b).bind λ(w,y)=>
(eD k f g w a).bind λ(aa,ab)=>
some (((h&&(geq y 0))&&(geq ab 0))&&(m==aa))
def Ev:=Pc
def Pd(j2:Int->LB->LB->Bool->Int->Int->Int->LB->Option Bool)(k f g:Int)(a b:LB)(p u:UInt64):Option Bool:=
(Wj).bind λh=>
(Ji k f g a).bind λac=>
if(((Bc ac 0)||(Ef (Ac b) 400))||(!h))then
some h
else
(Xx a b p).bind λ(v,o)=>
(Xx a b u).bind λ(ad,ae)=>
(Tp k f g a b p).bind λ(m,n)=>
(Tp k f g a b u).bind λ(af,ag)=>
(Tc b a).bind λ(am,ah,an,ai,aj)=>
if(((((Bc o ae)||(v !=ad))||(Bc n ag))||(m !=af))||(Bc o aj))then
some false
else
if(geq o 0)then
(Ni ah ai).bind λ(ak,al)=>
if((Bc al 0)||(v !=ak))then
some false
else
j2 g a b h n k f m
else
j2 g a b h n k f m
def Mt:=Pd Ev
def Lc(f g b a h:Int):Option Bool:=
if((((geq f 1)||(geq f 2))&&(Ms g 1))&&(I8 g 6))then
some ((((((geq b 8)||(geq b 16))||(geq b 24))&&(Ms a 1))&&(I8 a 1048576))&&(Ms h 1))
else
some (((false&&(Ms a 1))&&(I8 a 1048576))&&(Ms h 1))
def Zl(a:Int):Option Int:=
some (uT 1 (Bt (Bf 256 a) 245))
def Qu(a:LI):Option (LI):=
some a
def Ra:=Qu
def Lw(j6:LI->Option (LI))(Re:Int->LI->Option (LI))(b f:Int)(a:LI):Option (LI):=
if(Ef f 0)then
(Zl b).bind λg=>
(Ds a ([(Fi f g)]:LI)).bind λh=>
(Zl b).bind λk=>
Re (Ao f k) h
else
j6 a
def Gn(b:Int):Nat->Int->LI->Option (LI)
|0,_,_=>none
|q+1,f,a=>Lw Ra (Gn b q) b f a
def NN b:=Gn b Au
def OA(j4:Int->Int->LI->Option (LI))(b m:Int):Option (LI):=
j4 b m ([]:LI)
def Fw:=OA NN
def Zq(h a k f b:Int):Option Bool:=
(
(Je (Bc a 0)).bind λ_=>
(
if(Ef b (Bt 4000 a))then
some true
else
(Fw f b).bind λg=>
some (Ef (Ac g) 1000)))
def Mj(a b f g h:Int):Option Int:=
(Lc a b f g h).bind λk=>
if(!k)then
some 8
else
(Zq a b f g h).bind λm=>
if m then
some 8
else
some 0
def Es(a f g h k:Int)(b:LB):Option Int:=
if((b==([]:LB)) !=(geq a 1))then
some 26
else
some 0
def MM(b:Int):Option Int:=
if(Ef b 100000)then
some 8
else
some 0
def LW:=MM
def OC(K8:Int->Int->Option Int)(a:LI)(b f:Int):Option Int:=
(Ap a f).bind λg=>
K8 (Ad b g) (Ad f 1)
def OH K8:=OC K8
def Yr(j8:Int->Int->Option Int)(j10:Int->Option Int)(a:LI)(b f:Int):Option Int:=
if(Cj f (Ac a))then
(Ap a f).bind λh=>
if(Cj h 5)then
some 8
else
(Ap a f).bind λk=>
if(Ef k 100000)then
some 8
else
j8 b f
else
j10 b
def Ma(a:LI):Nat->Int->Int->Option Int
|0,_,_=>none
|q+1,b,f=>Yr (OH (Ma a q) a) LW a b f
def OO a:=Ma a Au
def Ye(j6:LI->Int->Int->Option Int)(a:LI):Option Int:=
if((Cj (Ac a) 1)||(Ef (Ac a) 1000))then
some 8
else
j6 a 0 0
def Jd:=Ye OO
def Hk(g h k a b:Int):Option (LI):=
(Fw a b).bind λf=>
some f
def Hn(f a b g h:Int):Option (Int×Int):=
some (a,b)
def WY(a b:Int):Option Int:=
some (Bt (Bf a b) 8)
def TS(k a b f g h:Int):Option Int:=
(Hn a b f g h).bind λ(p,u)=>
(WY p u).bind λv=>
some (Bf k v)
def SF:=TS
def AG(j6:Int->Int->Int->Int->Int->Int->Option Int)(Re:Int->Int->Option Int)(n a b f g h:Int)(m:LI)(k o:Int):Option Int:=
if(Cj o n)then
(Ap m o).bind λ_=>
(Ap m o).bind λw=>
Re (Ad k w) (Ad o 1)
else
j6 k a b f g h
def My(n a b f g h:Int)(m:LI):Nat->Int->Int->Option Int
|0,_,_=>none
|q+1,k,o=>AG SF (My n a b f g h m q) n a b f g h m k o
def pE n a b f g h m:=My n a b f g h m Au
def TH(j4:Int->Int->Int->Int->Int->Int->LI->Int->Int->Option Int)(a b f g h n:Int):Option Int:=
(Hk a b f g h).bind λm=>
j4 n a b f g h m 0 0
def Zo:=TH pE
abbrev He:=Option (Int×Int)
def oM(a:Int):He:=
some (a,0)
def oZ:=oM
def Yq(j6:Int->He)(Re:Int->Int->He)(b:LB)(a f:Int):He:=
if(Cj f 4)then
(Ap b f).bind λg=>
if(Ms g 128)then
some (0,12)
else
(Ap b f).bind λh=>
Re (Ad (Bf 128 a) (Af h:Int)) (Ad f 1)
else
j6 a
def Lz(b:LB):Nat->Int->Int->He
|0,_,_=>none
|q+1,a,f=>Yq oZ (Lz b q) b a f
def NV b:=Lz b Au
def OM(j4:LB->Int->Int->He)(b:LB):He:=
if(Bc (Ac b) 4)then
some (0,2)
else
j4 b 0 0
def GD:=OM NV
abbrev Ih:=Option (Int×Int)
def TQ(a:LB)(g:Int):Ih:=
if(Ef g 4000)then
some (0,4)
else
if(Cj (Ac a) g)then
some (0,24)
else
(Ap a 5).bind λh=>
if(geq h 16)then
(Bp a (Ao g 10) g).bind λk=>
(Bp a 3 10).bind λm=>
(Ds ([51,68,73]:LB) m).bind λn=>
if(k !=n)then
some (0,12)
else
some (g,0)
else
some (g,0)
def Zv:=TQ
def SN(j6:LB->Int->Ih)(a:LB)(b:Int):Ih:=
(Ap a 5).bind λo=>
if(geq o 16)then
j6 a (Ad (Ad 10 b) 10)
else
j6 a (Ad 10 b)
def AB:=SN Zv
def TC(j5:LB->Int->Ih)(a:LB):Ih:=
if(Cj (Ac a) 10)then
some (0,24)
else
(Bp a 6 10).bind λp=>
(GD p).bind λ(b,f)=>
(Ap a 3).bind λu=>
if(Cj u 2)then
if true then
if true then
if(true||(Bc f 0))then
some (0,12)
else
j5 a b
else
(Ap a 5).bind λv=>
if(Bc v 0)then
(Ap a 5).bind λw=>
if(Bc w 16)then
if(true||(Bc f 0))then
some (0,12)
else
j5 a b
else
(Ap a 3).bind λy=>
if((Bc y 4)||(Bc f 0))then
some (0,12)
else
j5 a b
else
if(false||(Bc f 0))then
some (0,12)
else
j5 a b
else
(Ap a 4).bind λaa=>
if(Bc aa 0)then
if(true||(Bc f 0))then
some (0,12)
else
j5 a b
else
(Ap a 5).bind λab=>
if(Bc ab 0)then
(Ap a 5).bind λac=>
if(Bc ac 16)then
if(true||(Bc f 0))then
some (0,12)
else
j5 a b
else
(Ap a 3).bind λad=>
if((Bc ad 4)||(Bc f 0))then
some (0,12)
else
j5 a b
else
if(false||(Bc f 0))then
some (0,12)
else
j5 a b
else
(Ap a 3).bind λae=>
if(Ef ae 4)then
if true then
if(true||(Bc f 0))then
some (0,12)
else
j5 a b
else
(Ap a 5).bind λaf=>
if(Bc af 0)then
(Ap a 5).bind λag=>
if(Bc ag 16)then
if(true||(Bc f 0))then
some (0,12)
else
j5 a b
else
(Ap a 3).bind λah=>
if((Bc ah 4)||(Bc f 0))then
some (0,12)
else
j5 a b
else
if(false||(Bc f 0))then
some (0,12)
else
j5 a b
else
(Ap a 4).bind λai=>
if(Bc ai 0)then
if(true||(Bc f 0))then
some (0,12)
else
j5 a b
else
(Ap a 5).bind λaj=>
if(Bc aj 0)then
(Ap a 5).bind λak=>
if(Bc ak 16)then
if(true||(Bc f 0))then
some (0,12)
else
j5 a b
else
(Ap a 3).bind λal=>
if((Bc al 4)||(Bc f 0))then
some (0,12)
else
j5 a b
else
if(false||(Bc f 0))then
some (0,12)
else
j5 a b
def UM:=TC AB
def SS(j4:LB->Ih)(a:LB):Ih:=
if(Cj (Ac a) 3)then
some (0,6)
else
(Bp a 0 3).bind λam=>
if(am !=([73,68,51]:LB))then
some (0,6)
else
j4 a
def JR:=SS UM
def YY(a:UInt64):Option UInt64:=
some a
def aQ:=YY
def GM(j6:UInt64->Option UInt64)(Re:UInt64->Int->Option UInt64)(b:LB)(a:UInt64)(f:Int):Option UInt64:=
if(Ms f 0)then
(Ap b f).bind λg=>
Re (Ad (Bf 256 a) (Af g:UInt64)) (Ao f 1)
else
j6 a
def Qm(b:LB):Nat->UInt64->Int->Option UInt64
|0,_,_=>none
|q+1,a,f=>GM aQ (Qm b q) b a f
def ZZ b:=Qm b Au
def ZW(j4:LB->UInt64->Int->Option UInt64)(b:LB):Option UInt64:=
j4 b 0 (Ao (Ac b) 1)
def El:=ZW ZZ
def Za(b:LB):Option (Int×Int×Bool):=
(Bp b 12 16).bind λg=>
(El g).bind λa=>
(Bp b 16 20).bind λh=>
(El h).bind λf=>
if(((Cj a 32)||(Ef a 3032))||(Ef f 1000))then
some (0,0,false)
else
some ((Ao (Af a:Int) 32),(Af f:Int),true)
def HF(a:LB):Option (LB):=
some a
def GR:=HF
def Vq(j6:LB->Option (LB))(Re:UInt64->Int->LB->Option (LB))(b:Int)(f:UInt64)(g:Int)(a:LB):Option (LB):=
if(Cj g b)then
(Ds a ([(Af (HZ f 256):UInt8)]:LB)).bind λh=>
Re (Bt f 256) (Ad g 1) h
else
j6 a
def Jn(b:Int):Nat->UInt64->Int->LB->Option (LB)
|0,_,_,_=>none
|q+1,f,g,a=>Vq GR (Jn b q) b f g a
def HE b:=Jn b Au
def HM(j4:Int->UInt64->Int->LB->Option (LB))(k:UInt64)(b:Int):Option (LB):=
j4 b k 0 ([]:LB)
def Fq:=HM HE
def Vj(a b:Int)(f:UInt64):Option (LB):=
(Fq 2000 4).bind λg=>
(Ds ([(65:UInt8),(80:UInt8),(69:UInt8),(84:UInt8),(65:UInt8),(71:UInt8),(69:UInt8),(88:UInt8)]:LB) g).bind λh=>
(Fq (Af (Ad a 32):UInt64) 4).bind λk=>
(Ds h k).bind λm=>
(Fq (Af b:UInt64) 4).bind λn=>
(Ds m n).bind λo=>
(Fq f 4).bind λp=>
(Ds o p).bind λu=>
(mkI (8:Int) (0:UInt8)).bind λv=>
(Ds u v).bind λw=>
some w
def Zi(a b:Int):Option (LB):=
(Vj a b 2684354560).bind λf=>
some f
def Nr(a b:Int)(f:Bool):Option (LB):=
if f then
(Vj a b 2147483648).bind λg=>
some g
else
(Vj a b 0).bind λh=>
some h
abbrev Mz:=Option (Int×Int)
def OG(a:LB)(b f:Int):Mz:=
if(Cj (Ac a) (Ad 64 b))then
some (0,24)
else
(Bp a (Ao (Ad 64 b) 32) (Ad 64 b)).bind λg=>
(Nr b f true).bind λh=>
if(g !=h)then
some (0,12)
else
some ((Ad 64 b),0)
def OT:=OG
def NX(j4:LB->Int->Int->Mz)(a:LB):Mz:=
if(Cj (Ac a) 32)then
some (0,24)
else
(Bp a 0 32).bind λk=>
(Za k).bind λ(b,f,m)=>
if(!m)then
some (0,12)
else
(Bp a 0 32).bind λn=>
(Zi b f).bind λo=>
if(n !=o)then
some (0,12)
else
j4 a b f
def OE:=NX OT
def NQ(j3:LB->Mz)(a:LB):Mz:=
if(Cj (Ac a) 8)then
some (0,6)
else
(Bp a 0 8).bind λp=>
if(p !=([65,80,69,84,65,71,69,88]:LB))then
some (0,6)
else
j3 a
def FZ:=NQ OE
abbrev Hj:=Option (LI×Int)
def OD(K8:Int->LI->Hj)(a:LB)(b:Int)(f:LI)(g h:Int):Hj:=
if(geq h 6)then
some (f,0)
else
if(Bc h 0)then
some (([]:LI),h)
else
if(Ef (Ad b g) 4000)then
some (([]:LI),4)
else
(Ds f ([g]:LI)).bind λm=>
K8 (Ad b g) m
def Qz K8:=OD K8
def Yu(j9:Int->LI->Int->Int->Hj)(a:LB)(b:Int)(f:LI):Hj:=
(Bp a b (Ac a)).bind λn=>
(JR n).bind λ(o,k)=>
if(geq k 6)then
(Bp a b (Ac a)).bind λp=>
(FZ p).bind λ(u,v)=>
j9 b f u v
else
j9 b f o k
def Qr(a:LB):Nat->Int->LI->Hj
|0,_,_=>none
|q+1,b,f=>Yu (Qz (Qr a q) a) a b f
def pB a:=Qr a Au
def oG(j6:LB->Int->LI->Hj)(a:LB):Hj:=
j6 a 0 ([]:LI)
def ZF:=oG pB
abbrev Hq:=Option (Int×Int)
def NP(a b:Int):Hq:=
some (b,a)
def OS:=NP
def Yd(j6:Int->Int->Hq)(Re:Int->Int->Hq)(a:Int)(f:LI)(b g:Int):Hq:=
if(Cj g (Ac f))then
(Ap f g).bind λ_=>
(Ap f g).bind λh=>
Re (Ad b h) (Ad g 1)
else
j6 a b
def Lr(a:Int)(f:LI):Nat->Int->Int->Hq
|0,_,_=>none
|q+1,b,g=>Yd OS (Lr a f q) a f b g
def Yg a f:=Lr a f Au
def OB(j4:Int->LI->Int->Int->Hq)(k:LB):Hq:=
(ZF k).bind λ(f,a)=>
j4 a f 0 0
def Ml:=OB Yg
def Ue(a b:LB):Option Bool:=
if(Cj (Ac a) (Ac b))then
(Bp b 0 (Ac a)).bind λf=>
some (a==f)
else
some false
def TO(a:UInt32)(b:Bool):Option UInt32:=
if b then
some (BA (Bt a 2) 3988292384)
else
some (Bt a 2)
def SP:=TO
def RZ(j2:UInt32->Bool->Option UInt32)(a:UInt32)(f:Int):Option UInt32:=
if(geq f 1)then
j2 a (!(geq (HZ a 2) 1))
else
j2 a (geq (HZ a 2) 1)
def ME:=RZ SP
def UA(a:UInt32):Option UInt32:=
some a
def UP:=UA
def AX(j6:UInt32->Option UInt32)(Re:UInt32->UInt8->Int->Option UInt32)(a:UInt32)(b:UInt8)(f:Int):Option UInt32:=
if(Cj f 8)then
(ME a (Af (HZ b 2):Int)).bind λg=>
Re g (Bt b 2) (Ad f 1)
else
j6 a
def Mv:Nat->UInt32->UInt8->Int->Option UInt32
|0,_,_,_=>none
|q+1,a,b,f=>AX UP (Mv q) a b f
def qB:=Mv Au
def sP(j4:UInt32->UInt8->Int->Option UInt32)(h:UInt32)(k:UInt8):Option UInt32:=
j4 h k 0
def dY:=sP qB
def KO(a:UInt32):Option UInt32:=
some a
def NC:=KO
def We(j6:UInt32->Option UInt32)(Re:UInt32->Int->Option UInt32)(b:LB)(a:UInt32)(f:Int):Option UInt32:=
if(Cj f (Ac b))then
(Ap b f).bind λg=>
(dY a g).bind λh=>
Re h (Ad f 1)
else
j6 a
def Kr(b:LB):Nat->UInt32->Int->Option UInt32
|0,_,_=>none
|q+1,a,f=>We NC (Kr b q) b a f
def LK b:=Kr b Au
def KF(j4:LB->UInt32->Int->Option UInt32)(k:UInt32)(b:LB):Option UInt32:=
j4 b k 0
def WH:=KF LK
def Xm(a:LB):Option UInt32:=
(WH 4294967295 a).bind λb=>
some (Ao 4294967295 b)
abbrev Ig:=Option (Int×Int×Int×Int×Int×Int)
def TK(k h g f b:UInt64):Ig:=
(Lc (Af k:Int) (Af h:Int) (Af g:Int) (Af f:Int) (Af b:Int)).bind λv=>
if(!v)then
some (0,0,0,0,0,12)
else
(Zq (Af k:Int) (Af h:Int) (Af g:Int) (Af f:Int) (Af b:Int)).bind λw=>
if w then
some (0,0,0,0,0,4)
else
some ((Af k:Int),(Af h:Int),(Af g:Int),(Af f:Int),(Af b:Int),0)
def TW:=TK
def TL(j6:UInt64->UInt64->UInt64->UInt64->UInt64->Ig)(a:LB):Ig:=
(Bp a 4 6).bind λu=>
(Bp a 6 8).bind λp=>
(Bp a 8 10).bind λo=>
(Bp a 10 14).bind λn=>
(Bp a 14 18).bind λm=>
(
(El u).bind λk=>
(
(El p).bind λh=>
(
(El o).bind λg=>
(
(El n).bind λf=>
(
(El m).bind λb=>
(
j6 k h g f b))))))
def UD:=TL TW
def TA(j5:LB->Ig)(a:LB):Ig:=
if(Cj (Ac a) 22)then
some (0,0,0,0,0,24)
else
(Bp a 18 22).bind λy=>
(Bp a 0 18).bind λaa=>
(El y).bind λab=>
(Xm aa).bind λac=>
if(Bc ab (Af ac:UInt64))then
some (0,0,0,0,0,22)
else
j5 a
def TZ:=TA UD
def SX(j4:LB->Ig)(a:LB):Ig:=
(Bp a 0 (Fi 4 (Ac a))).bind λad=>
(Bp ([84,84,65,49]:LB) 0 (Fi 4 (Ac a))).bind λae=>
if(ad !=ae)then
some (0,0,0,0,0,12)
else
j4 a
def Nm:=SX TZ
abbrev Wb:=Option (Int×Int×Int×Int×Int×Int×Int)
def HC(b:Int)(a:LB):Wb:=
(Nm a).bind λ(k,m,n,o,p,h)=>
if(geq h 24)then
some (0,0,0,0,0,0,(-1:Int))
else
some ((Ad b 22),k,m,n,o,p,h)
def GP:=HC
def GU(j2:Int->LB->Wb)(f:LB):Wb:=
(Ml f).bind λ(b,g)=>
if(geq g 24)then
some (0,0,0,0,0,0,(-1:Int))
else
if(Bc g 0)then
some (0,0,0,0,0,0,g)
else
(Bp f b (Ac f)).bind λa=>
(Ue a ([73,68,51]:LB)).bind λu=>
if u then
some (0,0,0,0,0,0,(-1:Int))
else
(Ue a ([65,80,69,84,65,71,69,88]:LB)).bind λv=>
if v then
some (0,0,0,0,0,0,(-1:Int))
else
j2 b a
def AS:=GU GP
def UC(a:UInt64)(b:Bool):Option UInt64:=
if b then
some (BA (Bf a 2) 4823603603198064275)
else
some (Bf a 2)
def Zw:=UC
def TG(j2:UInt64->Bool->Option UInt64)(a:UInt64)(f:Int):Option UInt64:=
if(geq f 1)then
j2 a (!(Ms a 9223372036854775808))
else
j2 a (Ms a 9223372036854775808)
def MF:=TG Zw
def UH(a:UInt64):Option UInt64:=
some a
def SC:=UH
def BE(j6:UInt64->Option UInt64)(Re:UInt64->Int->Option UInt64)(b:UInt8)(a:UInt64)(f:Int):Option UInt64:=
if(Ef f 0)then
(Je (Bc f 0)).bind λ_=>
(MF a (Fo (Bt (Af b:Int) f) 2)).bind λg=>
Re g (Bt f 2)
else
j6 a
def Mx(b:UInt8):Nat->UInt64->Int->Option UInt64
|0,_,_=>none
|q+1,a,f=>BE SC (Mx b q) b a f
def pW b:=Mx b Au
def qG(j4:UInt8->UInt64->Int->Option UInt64)(h:UInt64)(b:UInt8):Option UInt64:=
j4 b h 128
def cT:=qG pW
def LJ(a:UInt64):Option UInt64:=
some a
def LD:=LJ
def Wn(j6:UInt64->Option UInt64)(Re:UInt64->Int->Option UInt64)(b:LB)(a:UInt64)(f:Int):Option UInt64:=
if(Cj f (Ac b))then
(Ap b f).bind λg=>
(cT a g).bind λh=>
Re h (Ad f 1)
else
j6 a
def Kq(b:LB):Nat->UInt64->Int->Option UInt64
|0,_,_=>none
|q+1,a,f=>Wn LD (Kq b q) b a f
def lR b:=Kq b Au
def kJ(j4:LB->UInt64->Int->Option UInt64)(k:UInt64)(b:LB):Option UInt64:=
j4 b k 0
def CT:=kJ lR
def dP(a:LB):Option UInt64:=
(CT 0 a).bind λb=>
some b
def Nd(a:LB):Option (LB):=
(dP a).bind λb=>
(Fq b 8).bind λf=>
some f
abbrev Fb:=Option (LI×Int)
def TR(f:LI):Fb:=
(Jd f).bind λh=>
if(Bc h 0)then
some (([]:LI),12)
else
some (f,0)
def AP:=TR
def AJ(j8:LI->Fb)(K8:Int->LI->Fb)(b:LB)(a g:Int)(f:LI):Fb:=
if(Cj g a)then
(Bp b (Bf 4 g) (Ad (Bf 4 g) 4)).bind λk=>
(El k).bind λm=>
(Ds f ([(Af m:Int)]:LI)).bind λn=>
K8 (Ad g 1) n
else
j8 f
def Mu(b:LB)(a:Int):Nat->Int->LI->Fb
|0,_,_=>none
|q+1,g,f=>AJ AP (Mu b a q) b a g f
def UF b a:=Mu b a Au
def SG(j6:LB->Int->Int->LI->Fb)(b:LB)(a:Int):Fb:=
j6 b a 0 ([]:LI)
def SZ:=SG UF
def SI(j5:LB->Int->Fb)(b:LB)(a:Int):Fb:=
if((Cj a 1)||(Ef a 1000))then
some (([]:LI),2)
else
if(Cj (Ac b) (Ad (Bf 4 a) 4))then
some (([]:LI),24)
else
(Bp b (Bf 4 a) (Ad (Bf 4 a) 4)).bind λo=>
(Bp b 0 (Bf 4 a)).bind λp=>
(El o).bind λu=>
(Xm p).bind λv=>
if(Bc u (Af v:UInt64))then
some (([]:LI),22)
else
j5 b a
def Sd:=SI SZ
abbrev Mb:=Option (Int×LI×Int)
def MN(b g:Int)(h:LI):Mb:=
if(geq g 24)then
some (0,([]:LI),(-1:Int))
else
some ((Ad (Ad b (Bf 4 (Ac h))) 4),h,g)
def LM:=MN
def NB(j4:Int->Int->LI->Mb)(a:LB)(f k m n o b:Int):Mb:=
(Bp a b (Ac a)).bind λp=>
(Hk f k m n o).bind λu=>
(Sd p (Ac u)).bind λ(h,g)=>
j4 b g h
def Du:=NB LM
def Hy(j3:LB->Int->Int->Int->Int->Int->Int->Mb)(a:LB)(f k m n o:Int)(v:LB):Mb:=
if(geq f 2)then
if(Cj (Ac a) 8)then
some (0,([]:LI),(-1:Int))
else
(Bp a 0 8).bind λw=>
(Nd v).bind λy=>
if(w !=y)then
some (0,([]:LI),26)
else
j3 a f k m n o 8
else
j3 a f k m n o 0
def Ff:=Hy Du
def dN(b:UInt64)(a:LB):Option (UInt64×Int):=
if(Ef (Ac a) 100000)then
some (0,4)
else
(CT b a).bind λf=>
some (f,0)
def jD(a:LB):Option (UInt64×Int):=
(dN 0 a).bind λ(b,f)=>
some (b,f)
def uY(a:LX):Option (LX):=
some a
def uR:=uY
def aP(K8:UInt64->Int->LX->Option (LX))(b:UInt64)(f:Int)(a:LX)(g:Int32):Option (LX):=
(Ap a f).bind λ_=>
(Nj a f g).bind λh=>
K8 (Bt b 256) (Ad f 1) h
def GB K8:=aP K8
def FP(j8:UInt64->Int->LX->Int32->Option (LX))(j10:LX->Option (LX))(b:UInt64)(f:Int)(a:LX):Option (LX):=
if(Cj f 8)then
if(Ef (Af (HZ b 256):Int32) 127)then
j8 b f a (Ao (Af (HZ b 256):Int32) 256)
else
j8 b f a (Af (HZ b 256):Int32)
else
j10 a
def Mn:Nat->UInt64->Int->LX->Option (LX)
|0,_,_,_=>none
|q+1,b,f,a=>FP (GB (Mn q)) uR b f a
def wI:=Mn Au
def xS(j6:UInt64->Int->LX->Option (LX))(k:UInt64):Option (LX):=
j6 k 0 (List.replicate 16 (0:Int32))
def nP:=xS wI
def Nl(a:LB):Option (LX×Int):=
if(Ef (Ac a) 64)then
some (([(0:Int32),(0:Int32),(0:Int32),(0:Int32),(0:Int32),(0:Int32),(0:Int32),(0:Int32),(0:Int32),(0:Int32),(0:Int32),(0:Int32),(0:Int32),(0:Int32),(0:Int32),(0:Int32)]:LX),2)
else
(jD a).bind λ(b,g)=>
(nP b).bind λf=>
some (f,0)
def Eu(a f b:Int):Option Int:=
(Bn a f).bind λg=>
if((Bc g 0)||(Cj b 1))then
some 2
else
(Je (Bc a 0)).bind λ_=>
if(Ef b (Bt 4000 a))then
some 2
else
some 0
def CV(b:LB):Option (LB):=
(Xm b).bind λa=>
(Ds ([]:LB) b).bind λf=>
(Ds f ([(Af a:UInt8),(Af (Ci a (GI.toZ (8:UInt64)).toNat):UInt8),(Af (Ci a (GI.toZ (16:UInt64)).toNat):UInt8),(Af (Ci a (GI.toZ (24:UInt64)).toNat):UInt8)]:LB)).bind λg=>
some g
def Uc(a:LB):Option Int:=
if(Cj (Ac a) 5)then
some 24
else
if(Ef (Ac a) 41254)then
some 4
else
(Bp a 0 (Ao (Ac a) 4)).bind λb=>
(CV b).bind λf=>
if(f !=a)then
some 22
else
some 0
def Qc:Option (Int×Int×UInt64×UInt64):=
some (10,10,16384,16384)
def oR(a:UInt64):Option UInt64:=
some a
def oF:=oR
def Ys(j6:UInt64->Option UInt64)(Re:UInt64->Int->Option UInt64)(b:Int)(a:UInt64)(f:Int):Option UInt64:=
if(Cj f b)then
Re (Bf a 2) (Ad f 1)
else
j6 a
def Lp(b:Int):Nat->UInt64->Int->Option UInt64
|0,_,_=>none
|q+1,a,f=>Ys oF (Lp b q) b a f
def oO b:=Lp b Au
def oC(j4:Int->UInt64->Int->Option UInt64)(b:Int):Option UInt64:=
j4 b 1 0
def Hl:=oC oO
def PT(a g:Int)(h k:UInt64)(b:UInt32):Option Bool:=
(Hl a).bind λf=>
some (Cj (Af b:UInt64) f)
def KS(a g:Int)(h k:UInt64)(b:UInt32):Option UInt32:=
(Hl a).bind λf=>
some (Af (Ao (Af b:UInt64) f):UInt32)
abbrev DL:=Option (Int×UInt64)
def UJ(b:Int)(a f:UInt64):DL:=
if(Cj b 24)then
(Hl (Ad b 5)).bind λg=>
if(Ef (Ao (Ad a f) (Bt a 16)) g)then
some ((Ad b 1),(Ao (Ad a f) (Bt a 16)))
else
some (b,(Ao (Ad a f) (Bt a 16)))
else
some (b,(Ao (Ad a f) (Bt a 16)))
def Zx:=UJ
def TD(j2:Int->UInt64->UInt64->DL)(b:Int)(a f:UInt64):DL:=
if(Ef b 0)then
(Hl (Ad b 4)).bind λh=>
if(Cj (Ao (Ad a f) (Bt a 16)) h)then
some ((Ao b 1),(Ao (Ad a f) (Bt a 16)))
else
j2 b a f
else
j2 b a f
def Zh:=TD Zx
abbrev Yn:=Option (Int×Int×UInt64×UInt64)
def MA(h:UInt32)(f a:Int)(g b:UInt64)(o:Int)(p:UInt64):Yn:=
(Zh f g (Af h:UInt64)).bind λ(aa,ab)=>
some (aa,o,ab,p)
def Wh:=MA
def IY(j2:UInt32->Int->Int->UInt64->UInt64->Int->UInt64->Yn)(f a:Int)(g b:UInt64)(h:UInt32):Yn:=
(PT f a g b h).bind λu=>
if(!u)then
(
(
(KS f a g b h).bind λk=>
(Zh a b (Af k:UInt64)).bind λ(m,n)=>
j2 h f a g b m n))
else
j2 h f a g b a b
def CM:=IY Wh
abbrev Gp:=Option (Int×Int×UInt64×UInt64)
def lM(a b:Int)(f g:UInt64):Gp:=
some (a,b,f,g)
def kH:=lM
def LY(j6:Int->Int->UInt64->UInt64->Gp)(Re:Int->Int->Int->UInt64->UInt64->Gp)(h:Int)(k:LU)(m a b:Int)(f g:UInt64):Gp:=
if(Cj m (Ac k))then
(Ap k m).bind λn=>
(CM a b f g n).bind λ(o,p,u,v)=>
Re (Ad m h) o p u v
else
j6 a b f g
def Oz(h:Int)(k:LU):Nat->Int->Int->Int->UInt64->UInt64->Gp
|0,_,_,_,_,_=>none
|q+1,m,a,b,f,g=>LY kH (Oz h k q) h k m a b f g
def mT h k:=Oz h k Au
def KA(j4:Int->LU->Int->Int->Int->UInt64->UInt64->Gp)(h:Int)(k:LU):Gp:=
(Qc).bind λ(w,y,aa,ab)=>
(Je (Bc h 0)).bind λ_=>
j4 h k (Fo (Ac k) h) w y aa ab
def Ty:=KA mT
def bR(a:Int):Option Int:=
some (Fo a 2)
def cF:=bR
def GC(j6:Int->Option Int)(Re:Int->Int->Option Int)(b a f:Int):Option Int:=
if(Cj f (Fo b 8))then
Re (Bt a 2) (Ad f 1)
else
j6 a
def Qp(b:Int):Nat->Int->Int->Option Int
|0,_,_=>none
|q+1,a,f=>GC cF (Qp b q) b a f
def bS b:=Qp b Au
def bU(j4:Int->Int->Int->Option Int)(g:LB)(k b:Int):Option Int:=
(Ap g (Bt b 8)).bind λh=>
j4 b (Af h:Int) 0
def Nx:=bU bS
abbrev Fv:=Option (LB×Int)
def WN(b g a:Int)(f:LB):Fv:=
(Ap f (Bt a 8)).bind λ_=>
(Ap f (Bt a 8)).bind λm=>
(Ap f (Bt a 8)).bind λ_=>
(Nj f (Bt a 8) (Ad m (Af (Bf b g):UInt8))).bind λn=>
some (n,(Ad a 1))
def CP:=WN
def DP(j8:Int->Int->Int->LB->Fv)(K8:Int->Int->Fv)(b a:Int)(f:LB)(g h:Int):Fv:=
if(Cj h (Fo a 8))then
K8 (Bf g 2) (Ad h 1)
else
j8 b g a f
def On(b a:Int)(f:LB):Nat->Int->Int->Fv
|0,_,_=>none
|q+1,g,h=>DP CP (On b a f q) b a f g h
def WK b a f:=On b a f Au
def XB(j6:Int->Int->LB->Int->Int->Fv)(b a:Int)(f:LB):Fv:=
j6 b a f 1 0
def CU:=XB WK
def WR(j5:Int->Int->LB->Fv)(k:LB)(a b:Int):Fv:=
if(geq (Fo a 8) 0)then
(Ds k ([(0:UInt8)]:LB)).bind λo=>
j5 b a o
else
j5 b a k
def BP:=WR CU
abbrev Ga:=Option (LB×Int)
def jU(a:Int)(b:LB):Ga:=
some (b,a)
def jH:=jU
def Vp(j6:Int->LB->Ga)(Re:Int->Int->LB->Ga)(f:Int)(g:LB)(h k a:Int)(b:LB):Ga:=
if(Cj k f)then
(Nx g h k).bind λm=>
(BP b a m).bind λ(n,o)=>
Re (Ad k 1) o n
else
j6 a b
def Jp(f:Int)(g:LB)(h:Int):Nat->Int->Int->LB->Ga
|0,_,_,_=>none
|q+1,k,a,b=>Vp jH (Jp f g h q) f g h k a b
def jF f g h:=Jp f g h Au
def jX(j4:Int->LB->Int->Int->Int->LB->Ga)(g:LB)(h p f:Int):Ga:=
j4 f g h p 0 ([]:LB)
def TM:=jX jF
def oW(a:UInt64):Option UInt64:=
some a
def oJ:=oW
def Yp(j6:UInt64->Option UInt64)(Re:UInt64->Int->Option UInt64)(b:Int)(f:LB)(g:Int)(a:UInt64)(h:Int):Option UInt64:=
if(Ms h 0)then
(Nx f g (Ad b h)).bind λk=>
Re (Ad (Bf 2 a) (Af k:UInt64)) (Ao h 1)
else
j6 a
def Lq(b:Int)(f:LB)(g:Int):Nat->UInt64->Int->Option UInt64
|0,_,_=>none
|q+1,a,h=>Yp oJ (Lq b f g q) b f g a h
def NY b f g:=Lq b f g Au
def OI(j4:Int->LB->Int->UInt64->Int->Option UInt64)(f:LB)(g b m:Int):Option UInt64:=
j4 b f g 0 (Ao m 1)
def Wv:=OI NY
abbrev Jf:=Option (Int×Int)
def XF(b a:Int)(g:LB)(f:Int):Jf:=
if(geq a 48)then
some (a,(Ad b a))
else
if(Ms (Ad b a) f)then
some ((-1:Int),0)
else
some (a,(Ad (Ad b a) 1))
def DO:=XF
def DG(j6:Int->Int->LB->Int->Jf)(Re:Int->Jf)(b:Int)(g:LB)(f a:Int):Jf:=
if((Cj (Ad b a) f)&&(Cj a 48))then
(Nx g f (Ad b a)).bind λh=>
if(geq h 1)then
Re (Ad a 1)
else
j6 b a g f
else
j6 b a g f
def Od(b:Int)(g:LB)(f:Int):Nat->Int->Jf
|0,_=>none
|q+1,a=>DG DO (Od b g f q) b g f a
def uQ b g f:=Od b g f Au
def vA(j4:Int->LB->Int->Int->Jf)(g:LB)(f b:Int):Jf:=
j4 b g f 0
def hH:=vA uQ
def IM(b:UInt32)(f:Int):Option Int:=
(Hl f).bind λa=>
(Je (Bc a 0)).bind λ_=>
some (Af (Fi 48 (Bt (Af b:UInt64) a)):Int)
abbrev FU:=Option (UInt32×Int×Int)
def CY(g a b:Int)(h:LB)(f k:Int):FU:=
if((Cj a 0)||(Cj (Ao f b) k))then
some (0,0,24)
else
(Wv h f b k).bind λm=>
if(Cj a 48)then
(Hl g).bind λo=>
some ((Af (Ad (Bf (Af a:UInt64) o) m):UInt32),(Ad b k),0)
else
(IM (Af m:UInt32) g).bind λp=>
if(Cj p a)then
some (0,0,12)
else
some ((Af m:UInt32),(Ad b k),0)
def DI:=CY
def WI(j2:Int->Int->Int->LB->Int->Int->FU)(h:LB)(f n g:Int):FU:=
if(Ms n f)then
some (0,0,24)
else
(hH h f n).bind λ(a,b)=>
if(geq a 48)then
j2 g a b h f 32
else
j2 g a b h f g
def QA:=WI DI
def PX(g:LB)(b a f n:Int)(v w:UInt64):Option (UInt32×Int×Int):=
if(Ms a b)then
some (0,0,24)
else
(Nx g b a).bind λo=>
if(geq o 0)then
if(Cj (Ao (Ao b a) 1) f)then
some (0,0,24)
else
(Wv g b (Ad a 1) f).bind λp=>
some ((Af p:UInt32),(Ad (Ad a 1) f),0)
else
(QA g b (Ad a 1) n).bind λ(h,u,k)=>
if(Bc k 0)then
some (0,0,k)
else
(Hl f).bind λm=>
if(Ef (Ad (Af h:UInt64) m) 4294967295)then
some (0,0,12)
else
some ((Af (Ad (Af h:UInt64) m):UInt32),u,0)
abbrev Bz:=Option (LU×Int)
def oX(b:LU):Bz:=
some (b,0)
def oL:=oX
def Yk(j18:LU->Bz)(Iv:Int->Bz)(a:LB)(b:LU)(m:Int):Bz:=
if(Cj m (Bf 8 (Ac a)))then
(Nx a (Bf 8 (Ac a)) m).bind λn=>
if(Bc n 0)then
some (b,12)
else
Iv (Ad m 1)
else
j18 b
def Lt(a:LB)(b:LU):Nat->Int->Bz
|0,_=>none
|q+1,m=>Yk oL (Lt a b q) a b m
def NZ a b:=Lt a b Au
def NS(j16:LB->LU->Int->Bz)(f:Int)(a:LB)(b:LU):Bz:=
if(Ef (Ao (Bf 8 (Ac a)) f) 7)then
some (b,12)
else
j16 a b f
def Yv:=NS NZ
def OK(Akl:Int->Int->LU->Bz)(g h:Int)(a:LB)(f k:Int)(b:LU)(o p:Int)(u v:UInt64):Bz:=
(TM a (Bf 8 (Ac a)) f (Fi (Ad f 81) (Bf 8 (Ac a)))).bind λ(y,aa)=>
(PX y aa 0 o p u v).bind λ(ab,ac,w)=>
if(Bc w 0)then
some (b,w)
else
(Ds b ([ab]:LU)).bind λad=>
Akl (Ad f ac) (Ad k 1) ad
def Ls Akl:=OK Akl
def OP(j13:Int->Int->LU->Int->Int->UInt64->UInt64->Bz)(j15:Int->LB->LU->Bz)(g h:Int)(a:LB)(f k:Int)(b:LU):Bz:=
if(Cj k (Bf h g))then
(Qc).bind λ(n,ae,af,ag)=>
if(Ms k g)then
(Ty g b).bind λ(ah,ai,aj,ak)=>
j13 f k b ah ai aj ak
else
j13 f k b n ae af ag
else
j15 f a b
def Gq(g h:Int)(a:LB):Nat->Int->Int->LU->Bz
|0,_,_,_=>none
|q+1,f,k,b=>OP (Ls (Gq g h a q) g h a) Yv g h a f k b
def oI g h a:=Gq g h a Au
def TX(j10:Int->Int->LB->Int->Int->LU->Bz)(g h:Int)(a:LB):Bz:=
j10 g h a 0 0 ([]:LU)
def IQ:=TX oI
def xT(a:Int):Option (Int×Int):=
if(geq a 8)then
some (4,0)
else
if((geq a 16)||(geq a 24))then
some (5,0)
else
some (0,2)
def E0(a:Int)(b:LX):Option (Int×LX×LX×Int):=
(xT a).bind λ(g,f)=>
if(Bc f 0)then
some (0,(List.replicate 16 (0:Int32)),(List.replicate 16 (0:Int32)),2)
else
if(geq a 16)then
some (9,b,(List.replicate 16 (0:Int32)),0)
else
some (10,b,(List.replicate 16 (0:Int32)),0)
def gL(a:Int)(b:LX):Option (Int×Int32×Int×LX×LX×Int):=
(E0 a b).bind λ(f,g,h,k)=>
if(Bc k 0)then
some (0,0,0,(List.replicate 16 (0:Int32)),(List.replicate 16 (0:Int32)),2)
else
some (a,0,f,g,h,0)
def JV(a:UInt32):Option Int32:=
if(geq (HZ a 2) 0)then
some (Af (Bt a 2):Int32)
else
some (Af (Bt (yP (Ad (Af a:Int) 1)) 2):Int32)
def Dl(a:Int):Option Int32:=
some (Af (Af (Af a:UInt64):UInt32):Int32)
def XI(a:Int):Option Int32:=
some (Af a:Int32)
def WJ:=XI
def CK(j6:Int->Option Int32)(Re:Int->Int->Option Int32)(h:Int)(f g:LX)(a b:Int):Option Int32:=
if(Cj b 16)then
(Ap f b).bind λ_=>
(Ap g b).bind λ_=>
(Ap f b).bind λk=>
(Ap g b).bind λm=>
(Dl (Bf (Af k:Int) (Af m:Int))).bind λn=>
(Dl (Ad a (Af n:Int))).bind λo=>
Re (Af o:Int) (Ad b 1)
else
j6 a
def Oh(h:Int)(f g:LX):Nat->Int->Int->Option Int32
|0,_,_=>none
|q+1,a,b=>CK WJ (Oh h f g q) h f g a b
def uN h f g:=Oh h f g Au
def uZ(j4:Int->LX->LX->Int->Int->Option Int32)(h:Int)(f g:LX):Option Int32:=
j4 h f g 0 0
def gS:=uZ uN
def SK(b:Int)(f g:LX)(a:Int):Option Int32:=
(gS b f g).bind λk=>
(Dl (Ad (Af k:Int) (Bt a 2))).bind λh=>
(Je (Bc a 0)).bind λ_=>
(Je (Bc a 0)).bind λ_=>
if(Cj (Fo (Af h:Int) a) 0)then
some (Af (Ao (Bt (Af h:Int) a) 1):Int32)
else
some (Af (Bt (Af h:Int) a):Int32)
def AZ:=SK
def SQ(j2:Int->LX->LX->Int->Option Int32)(b:Int)(f g:LX):Option Int32:=
if(geq b 9)then
j2 b f g 512
else
j2 b f g 1024
def KK:=SQ AZ
def MP(a:Int):Option Int32:=
if(geq a 0)then
some 4
else
if(I8 a 3)then
some 2
else
some 1
def Yy(a:Int32):Option Int32:=
if(Cj a 0)then
some (-1:Int32)
else
if(Ef a 0)then
some 1
else
some 0
abbrev Fz:=Option (Int×LX×LX)
def jY(g:Int)(b a:LX):Fz:=
some (g,b,a)
def jT:=jY
def Ur(j6:Int->LX->LX->Fz)(Re:Int->LX->Fz)(h:Int32)(g:Int)(a:LX)(f:Int)(b:LX):Fz:=
if(Cj f 16)then
(Ap b f).bind λ_=>
(Ap a f).bind λ_=>
(Ap b f).bind λk=>
(Ap a f).bind λm=>
(MP f).bind λn=>
(Yy m).bind λo=>
(Yy h).bind λp=>
(Ap b f).bind λ_=>
(Nj b f (Ad k (Bf (Bf n o) p))).bind λu=>
Re (Ad f 1) u
else
j6 g b a
def Js(h:Int32)(g:Int)(a:LX):Nat->Int->LX->Fz
|0,_,_=>none
|q+1,f,b=>Ur jT (Js h g a q) h g a f b
def iX h g a:=Js h g a Au
def iL(j4:Int32->Int->LX->Int->LX->Fz)(g:Int)(v a:LX)(h:Int32):Fz:=
j4 h g a 0 v
def SJ:=iL iX
abbrev Gm:=Option (Int×LX×LX)
def JZ(b:Int32)(f:Int)(g a:LX):Gm:=
(Ap a 0).bind λ_=>
(Nj a 0 b).bind λk=>
some (f,g,k)
def IL:=JZ
def Xa(j6:Int32->Int->LX->LX->Gm)(Re:Int->LX->Gm)(b:Int32)(f:Int)(g:LX)(h:Int)(a:LX):Gm:=
if(Ef h 0)then
(Ap a (Ao h 1)).bind λ_=>
(Ap a (Ao h 1)).bind λm=>
(Ap a h).bind λ_=>
(Nj a h m).bind λn=>
Re (Ao h 1) n
else
j6 b f g a
def Ku(b:Int32)(f:Int)(g:LX):Nat->Int->LX->Gm
|0,_,_=>none
|q+1,h,a=>Xa IL (Ku b f g q) b f g h a
def lU b f g:=Ku b f g Au
def kT(j4:Int32->Int->LX->Int->LX->Gm)(f:Int)(g o:LX)(b:Int32):Gm:=
j4 b f g 15 o
def WE:=kT lU
def AE(a:Int)(b f:LX)(g:Int32):Option (Int32×Int×LX×LX):=
(KK a b f).bind λk=>
(Dl (Ad (Af g:Int) (Af k:Int))).bind λh=>
(SJ a b f g).bind λ(m,n,o)=>
(WE m n o h).bind λ(p,u,v)=>
some (h,p,u,v)
def IP(b:Int32)(a:Int):Option Int32:=
(Je (Bc a 0)).bind λ_=>
(Je (Bc a 0)).bind λ_=>
if(Cj (Fo (Bf (Ao a 1) (Af b:Int)) a) 0)then
some (Af (Ao (Bt (Bf (Ao a 1) (Af b:Int)) a) 1):Int32)
else
some (Af (Bt (Bf (Ao a 1) (Af b:Int)) a):Int32)
def Ws:=IP
def MH(j2:Int32->Int->Option Int32)(f:Int)(b:Int32):Option Int32:=
if(geq f 5)then
j2 b 32
else
j2 b 16
def Ud:=MH Ws
def DC(b:Int)(a:Int32)(h:Int)(k m:LX):Option Int:=
if(geq b 8)then
(Ud 4 a).bind λf=>
some (Af f:Int)
else
(Ud 5 a).bind λg=>
some (Af g:Int)
def Zy(a:Int)(k:Int32)(b:Int)(f g:LX)(m:Int32):Option (Int32×Int×Int32×Int×LX×LX):=
(AE b f g m).bind λ(n,o,p,u)=>
(DC a k b f g).bind λv=>
(Dl (Ad (Af n:Int) v)).bind λh=>
some (h,a,h,o,p,u)
def Wi(a:Int)(b:LX):Option Int:=
if((Cj a 1)||(Ef a 6))then
some 2
else
if(Ef (Ac b) 4000)then
some 4
else
(Je (Bc a 0)).bind λ_=>
if(Ef (Fo (Ac b) a) 0)then
some 2
else
some 0
def jJ(b:LX):Option (LX):=
some b
def jB:=jJ
def Vm(j8:LX->Option (LX))(K8:Int->LX->Option (LX))(a:LX)(f:Int)(b:LX):Option (LX):=
if(Ms f 0)then
(Ap b (Ad f 1)).bind λ_=>
(Ap a f).bind λm=>
(Ap b (Ad f 1)).bind λn=>
(Dl (Ao (Af n:Int) (Af m:Int))).bind λo=>
(Ap b f).bind λ_=>
(Nj b f o).bind λp=>
K8 (Ao f 1) p
else
j8 b
def Jo(a:LX):Nat->Int->LX->Option (LX)
|0,_,_=>none
|q+1,f,b=>Vm jB (Jo a q) a f b
def gQ a:=Jo a Au
def HV(j6:LX->Int->LX->Option (LX))(a g:LX):Option (LX):=
j6 a (Ao (Ac a) 2) g
def Uv:=HV gQ
def GX(j5:LX->LX->Option (LX))(a:LX):Option (LX):=
(mkI (Ac a) (0:Int32)).bind λk=>
(Je (geq (Ac a) (Ac a))).bind λ_=>
(Ap a (Ao (Ac a) 1)).bind λu=>
(Ap k (Ao (Ac a) 1)).bind λ_=>
(Nj k (Ao (Ac a) 1) u).bind λh=>
if(Ef (Ac a) 1)then
(Ap a (Ao (Ac a) 1)).bind λv=>
(Ap a (Ao (Ac a) 2)).bind λw=>
(Dl (Ad (Af v:Int) (Bt (Af w:Int) 2))).bind λy=>
(Ap h (Ao (Ac a) 1)).bind λ_=>
(Nj h (Ao (Ac a) 1) y).bind λaa=>
j5 a aa
else
j5 a h
def AW:=GX Uv
abbrev Ic:=Option (LX×Int)
def rV(f:LX):Ic:=
some (f,0)
def sG:=rV
def UL(j6:LX->Ic)(Re:Int->LX->Ic)(a:Int)(b:LX)(g:Int)(f:LX):Ic:=
if(Cj g (Ac b))then
(Bp b g (Ad g a)).bind λh=>
(AW h).bind λk=>
(Ds f k).bind λm=>
Re (Ad g a) m
else
j6 f
def Rw(a:Int)(b:LX):Nat->Int->LX->Ic
|0,_,_=>none
|q+1,g,f=>UL sG (Rw a b q) a b g f
def rH a b:=Rw a b Au
def SO(j4:Int->LX->Int->LX->Ic)(a:Int)(b:LX):Ic:=
(Wi a b).bind λn=>
if(Bc n 0)then
(Wi a b).bind λo=>
some (([]:LX),o)
else
j4 a b 0 ([]:LX)
def JY:=SO rH
def HI(a f:Int)(w:LX):Option (LX):=
(JY a w).bind λ(aj,ai)=>
some aj
def Us:=HI
def HL(yh:Int->LX->Option (LX))(b:LU)(a f:Int)(g:LX)(h:Int)(m:LX):Option (LX):=
yh (Ad h 1) m
def GZ yh:=HL yh
def HB(Akm:Int->LX->Int->Int32->Int->LX->LX->Option (LX))(b:LU)(h a f:Int)(g:LX)(k:Int)(af:LX)(y:Int)(aa:Int32)(ab:Int)(ac ad:LX):Option (LX):=
Akm (Ad k a) af y aa ab ac ad
def GQ Akm:=HB Akm
def HH(j30:Int->LX->Int->Int32->Int->LX->LX->Option (LX))(b:LU)(h a f:Int)(g:LX)(k:Int)(ae:Int32)(m:LX)(n:Int)(o:Int32)(p:Int)(u v:LX)(y:Int)(aa:Int32)(ab:Int)(ac ad:LX):Option (LX):=
(Ap m k).bind λ_=>
(Nj m k ae).bind λaf=>
j30 k af y aa ab ac ad
def HN Akm b h a f g:=HH (GQ Akm b h a f g) b h a f g
def HG(j29:Int->Int32->LX->Int->Int32->Int->LX->LX->Int->Int32->Int->LX->LX->Option (LX))(j32:Int->LX->Option (LX))(b:LU)(a f:Int)(g:LX)(h k:Int)(m:LX)(n:Int)(o:Int32)(p:Int)(u v:LX):Option (LX):=
if(Cj k (Ac b))then
(Ap b k).bind λah=>
(
(JV ah).bind λag=>
(
(Zy n o p u v ag).bind λ(ae,y,aa,ab,ac,ad)=>
j29 k ae m n o p u v y aa ab ac ad))
else
j32 h m
def Nn(yh:Int->LX->Option (LX))(b:LU)(a f:Int)(g:LX)(h:Int):Nat->Int->LX->Int->Int32->Int->LX->LX->Option (LX)
|0,_,_,_,_,_,_,_=>none
|q+1,k,m,n,o,p,u,v=>HG (HN (Nn yh b a f g h q) b h a f g) (GZ yh b a f g) b a f g h k m n o p u v
def HK yh b a f g h:=Nn yh b a f g h Au
def Ut(j26:Int->Int->LX->Int->Int32->Int->LX->LX->Option (LX))(j34:Int->Int->LX->Option (LX))(b:LU)(a f:Int)(g:LX)(h:Int)(w:LX):Option (LX):=
if(Cj h a)then
(gL f g).bind λ(ak,ai,al,am,an,aq)=>
j26 h h w ak ai al am an
else
j34 a f w
def Hb(b:LU)(a f:Int)(g:LX):Nat->Int->LX->Option (LX)
|0,_,_=>none
|q+1,h,w=>Ut (HK (Hb b a f g q) b a f g) Us b a f g h w
def HW b a f g:=Hb b a f g Au
def JO(j18:LU->Int->Int->LX->Int->LX->Option (LX))(a f:Int)(g:LX)(b:LU):Option (LX):=
(mkI (Ac b) (0:Int32)).bind λao=>
(Je (geq (Ac b) (Ac b))).bind λ_=>
j18 b a f g 0 ao
def Ub:=JO HW
def oS:Option Int:=
some 0
def oE:=oS
def Df(j6:Option Int)(Re:Int->Option Int)(a:LX)(b f:Int):Option Int:=
if(Cj f (Ac a))then
(Ap a f).bind λg=>
if(Cj (Af g:Int) (yP b))then
some 16
else
(Ap a f).bind λh=>
if(Ms (Af h:Int) b)then
some 16
else
Re (Ad f 1)
else
j6
def Ba(a:LX)(b:Int):Nat->Int->Option Int
|0,_=>none
|q+1,f=>Df oE (Ba a b q) a b f
def oY a b:=Ba a b Au
def Ed(j4:LX->Int->Int->Option Int)(k:Int)(a:LX):Option Int:=
(Kx k).bind λb=>
if(geq b 0)then
some 2
else
if(Ef (Ac a) 4000)then
some 4
else
j4 a b 0
def Ay:=Ed oY
def DF(g f:Int)(a:LX):Option (LX×Int):=
(Ay f a).bind λb=>
if(Bc b 0)then
some (([]:LX),b)
else
some (a,0)
abbrev Yh:=Option (LX×Int)
def Kt(f a b:Int)(g:LX)(h:LU):Yh:=
if(Bc f 0)then
some (([]:LX),f)
else
(
(
(Ub a b g h).bind λm=>
(DF a b m).bind λ(n,o)=>
some (n,o)))
def Kg:=Kt
def Xg(j2:Int->Int->Int->LX->LU->Yh)(a b:Int)(g:LX)(p:Int)(k:LB):Yh:=
(Eu a b p).bind λy=>
if(Bc y 0)then
some (([]:LX),2)
else
(Uc k).bind λaa=>
if(Bc aa 0)then
(Uc k).bind λab=>
some (([]:LX),ab)
else
(Bp k 0 (Ao (Ac k) 4)).bind λac=>
(IQ a p ac).bind λ(h,f)=>
j2 f a b g h
def Fc:=Xg Kg
def DD(a b:Int):Option (LB):=
if(geq a 24)then
(Ds ([(Af (Fo b 256):UInt8),(Af (Fo (Bt b 256) 256):UInt8)]:LB) ([(Af (Bt b 65536):UInt8)]:LB)).bind λg=>
some g
else
some ([(Af (Fo b 256):UInt8),(Af (Fo (Bt b 256) 256):UInt8)]:LB)
def Oi:=DD
def XA(j2:Int->Int->Option (LB))(a:Int)(f:Int32):Option (LB):=
if(geq a 8)then
some ([(Af (Ad (Af f:Int) 128):UInt8)]:LB)
else
if(Cj (Af f:Int) 0)then
(Kx a).bind λh=>
j2 a (Ad (Af f:Int) (Bf 2 h))
else
j2 a (Af f:Int)
def OZ:=XA Oi
abbrev Hm:=Option (LB×Int)
def oK(b:LB):Hm:=
some (b,0)
def oN:=oK
def Yo(j6:LB->Hm)(Re:Int->LB->Hm)(f:Int)(a:LX)(g:Int)(b:LB):Hm:=
if(Cj g (Ac a))then
(Ap a g).bind λh=>
(OZ f h).bind λk=>
(Ds b k).bind λm=>
Re (Ad g 1) m
else
j6 b
def Lu(f:Int)(a:LX):Nat->Int->LB->Hm
|0,_,_=>none
|q+1,g,b=>Yo oN (Lu f a q) f a g b
def oU f a:=Lu f a Au
def OL(j4:Int->LX->Int->LB->Hm)(f:Int)(a:LX):Hm:=
(Ay f a).bind λn=>
if(Bc n 0)then
(Ay f a).bind λo=>
some (([]:LB),o)
else
j4 f a 0 ([]:LB)
def Wf:=OL oU
abbrev Ym:=Option (LB×Int)
def Ft(o:LX)(f:Int)(p g:LB)(h k a m n:Int)(u:LI)(b:Int)(v:LB)(w:Bool)(y:Int):Ym:=
if(Bc f 0)then
some (([]:LB),f)
else
(Wf a o).bind λ(ac,ai)=>
some (ac,0)
def Gb:=Ft
def Fy(j2:LX->Int->LB->LB->Int->Int->Int->Int->Int->LI->Int->LB->Bool->Int->Ym)(p g:LB)(h k a m n:Int)(u:LI)(b:Int)(v:LB)(w:Bool)(y:Int):Ym:=
(Ap u b).bind λaa=>
if(Cj (Ac g) aa)then
some (([]:LB),(-1:Int))
else
(Nl p).bind λ(ad,aj)=>
(Bp g 0 aa).bind λae=>
(Hn h k a m n).bind λ(af,ag)=>
(Hk h k a m n).bind λab=>
(Ap ab b).bind λ_=>
(Ap ab b).bind λah=>
(Fc af ag ad ah ae).bind λ(o,f)=>
j2 o f p g h k a m n u b v w y
def Dn:=Fy Gb
abbrev Oe:=Option (LB×LB×Int×Int×Int×Int×Int×LI×Int×LB×Bool×Int×Int)
def Cn(g a:LB)(m o p u v:Int)(b:LI)(f:Int)(n:LB)(h:Bool)(k:Int):Oe:=
if(geq (Ac b) 0)then
(Ff a m o p u v g).bind λ(ag,ak,w)=>
if(Bc w 0)then
some (g,a,m,o,p,u,v,b,f,n,h,k,w)
else
(Bp a ag (Ac a)).bind λal=>
some (g,al,m,o,p,u,v,ak,f,n,h,k,0)
else
if(geq f (Ac b))then
if(Ef (Ac a) 4000)then
some (g,a,m,o,p,u,v,b,f,n,h,k,38)
else
some (g,a,m,o,p,u,v,b,f,n,h,k,(-1:Int))
else
(Dn g a m o p u v b f n h k).bind λ(am,y)=>
if(Bc y 0)then
some (g,a,m,o,p,u,v,b,f,n,h,k,y)
else
(Ds ([]:LB) n).bind λan=>
(Ds an am).bind λah=>
(
(
(
(Ap b f).bind λad=>
(
(Bp a ad (Ac a)).bind λae=>
some (g,ae,m,o,p,u,v,b,(Ad f 1),ah,h,k,0)))))
def Cq:=Cn
def Hg(g af:LB)(aa w ab ac y:Int)(b:LI)(f:Int)(n:LB)(h:Bool)(k:Int):Oe:=
(Es aa w ab ac y g).bind λaw=>
some (g,af,aa,w,ab,ac,y,b,f,n,h,k,aw)
def Hh:=Hg
def Ca(j3:LB->LB->Int->Int->Int->Int->Int->LI->Int->LB->Bool->Int->Oe)(j4:LB->LB->Int->Int->Int->Int->Int->LI->Int->LB->Bool->Int->Oe)(g a:LB)(m o p u v:Int)(b:LI)(f:Int)(n:LB)(h:Bool)(k:Int):Oe:=
if(geq m 0)then
(AS a).bind λ(ag,aa,w,ab,ac,y,ai)=>
if(Bc ai 0)then
some (g,a,m,o,p,u,v,b,f,n,h,k,ai)
else
(
(Bp a ag (Ac a)).bind λaf=>
(
j3 g af aa w ab ac y b f n h k))
else
j4 g a m o p u v b f n h k
def Al:=Ca Hh Cq
def Yw(o p:LB)(b f g h k:Int)(m:LI)(a:Int)(n:LB)(u:Bool)(v:Int):Option Bool:=
(Al o p b f g h k m a n u v).bind λ(af,ag,ah,ai,aj,ak,al,am,an,ao,ap,aq,w)=>
some (geq w (-1:Int))
def Cv:=Yw
def Qv(j4:LB->LB->Int->Int->Int->Int->Int->LI->Int->LB->Bool->Int->Option Bool)(o p:LB)(b f g h k:Int)(m:LI)(a:Int)(n:LB)(u:Bool)(v:Int):Option Bool:=
if(geq (Ac m) 0)then
if((Bc a 0)||(Ef (Ac n) 0))then
some false
else
j4 o p b f g h k m a n u v
else
(Jd m).bind λy=>
if(Bc y 0)then
if((true||(Cj a 0))||(Ef a (Ac m)))then
some false
else
(Zo b f g h k a).bind λaa=>
if(Ef (Ac n) aa)then
some false
else
j4 o p b f g h k m a n u v
else
(Hk b f g h k).bind λab=>
if(((Bc (Ac m) (Ac ab))||(Cj a 0))||(Ef a (Ac m)))then
some false
else
(Zo b f g h k a).bind λac=>
if(Ef (Ac n) ac)then
some false
else
j4 o p b f g h k m a n u v
def Qx:=Qv Cv
def Yt(j4:LB->LB->Int->Int->Int->Int->Int->LI->Int->LB->Bool->Int->Option Bool)(j3:LB->LB->Int->Int->Int->Int->Int->LI->Int->LB->Bool->Int->Option Bool)(o p:LB)(b f g h k:Int)(m:LI)(a:Int)(n:LB)(u:Bool)(v:Int):Option Bool:=
if((geq b 0)&&((geq f 0)&&((geq g 0)&&((geq h 0)&&((geq k 0)&&true)))))then
if(((Ef (Ac m) 0)||(Bc a 0))||(Ef (Ac n) 0))then
some false
else
j4 o p b f g h k m a n u v
else
(Mj b f g h k).bind λad=>
if(Bc ad 0)then
some false
else
(Es b f g h k o).bind λae=>
if(Bc ae 0)then
some false
else
j3 o p b f g h k m a n u v
def Mi:=Yt Cv Qx
def AR(a:Int):Option Bool:=
some (((((((geq a 4)||(geq a 12))||(geq a 16))||(geq a 22))||(geq a 24))||(geq a 26))||(geq a 38))
def Ec(h k:LB)(m n o p u:Int)(v:LI)(f:Int)(g:LB)(b:Bool)(a:Int):Option Int:=
if(Ef (Ac h) 64)then
some 8
else
if((geq a 0)&&(!b))then
(Mi h k m n o p u v f g b a).bind λw=>
if(!w)then
some 8
else
some 0
else
if((geq (Ac k) 0)&&(geq (Ac v) 0))then
if((!(((geq m 0)&&((geq n 0)&&((geq o 0)&&((geq p 0)&&((geq u 0)&&true)))))&&(geq f 0)))||(Ef (Ac g) 12000))then
some 8
else
if(Bc a 0)then
if b then
some 8
else
(AR a).bind λy=>
if(!y)then
some 8
else
some 0
else
some 0
else
if((!(false&&(geq f 0)))||(Ef (Ac g) 12000))then
some 8
else
if(Bc a 0)then
if b then
some 8
else
(AR a).bind λaa=>
if(!aa)then
some 8
else
some 0
else
some 0
abbrev CQ:=Option (LB×LB×Int×Int×Int×Int×Int×LI×Int×LB×Bool×Int)
def SR(f:LB)(g h k m n:Int)(o:LI)(p:Int)(u:Bool)(v:Int)(a b:LB):CQ:=
(Ds ([]:LI) o).bind λaf=>
some (f,a,g,h,k,m,n,af,p,b,u,v)
def SW:=SR
def SA(j2:LB->Int->Int->Int->Int->Int->LI->Int->Bool->Int->LB->LB->CQ)(f w:LB)(g h k m n:Int)(o:LI)(p:Int)(y:LB)(u:Bool)(v:Int):CQ:=
(
(
(
(Ds ([]:LB) w).bind λa=>
(
(Ds ([]:LB) y).bind λb=>
j2 f g h k m n o p u v a b))))
def Zc:=SA SW
def Sa(f g:LB)(h k m n o:Int)(p:LI)(u:Int)(v:LB)(b:Bool)(a:Int):Option Int:=
if(Bc a 0)then
some a
else
if b then
some 36
else
some 0
def eC(a m:LB)(n o p u v:Int)(w:LI)(y:Int)(b:LB)(aa:Bool)(ab:Int):Option (LB×LB×Int×Int×Int×Int×Int×LI×Int×LB×Bool×Int):=
(
(
(Ds ([]:LB) b).bind λf=>
some (a,([]:LB),0,0,0,0,0,([]:LI),0,f,false,0)))
def DN(b f:LB)(g h k m n:Int)(o:LI)(p:Int)(u:LB)(v:Bool)(w a:Int):Option (LB×LB×Int×Int×Int×Int×Int×LI×Int×LB×Bool×Int×Int):=
(eC b f g h k m n o p u v w).bind λ(y,aa,ab,ac,ad,ae,af,ag,ah,ai,aj,ak)=>
some (y,aa,ab,ac,ad,ae,af,ag,ah,ai,aj,a,a)
abbrev Ok:=Option (LB×LB×Int×Int×Int×Int×Int×LI×Int×LB×Bool×Int×Int)
def Cp(bk3:LB->LB->Int->Int->Int->Int->Int->LI->Int->LB->Bool->Int->Ok)(a b:LB)(f g h k m:Int)(n:LI)(o:Int)(p:LB)(u:Bool)(v:Int):Ok:=
(Al a b f g h k m n o p u v).bind λ(bb,bc,bd,be,bf,bg,bh,bi,bj,bk,bl,bm,w)=>
if(geq w (-1:Int))then
(Zc a b f g h k m n o p u v).bind λ(bn,bp,bq,br,bs,bt,bu,bv,bw,bx,bz,da)=>
some (bn,bp,bq,br,bs,bt,bu,bv,bw,bx,bz,da,0)
else
if(Bc w 0)then
(DN a b f g h k m n o p u v w).bind λ(db,dc,dd,de,df,dg,dh,di,dj,dk,dl,dm,dn)=>
some (db,dc,dd,de,df,dg,dh,di,dj,dk,dl,dm,dn)
else
bk3 bb bc bd be bf bg bh bi bj bk bl bm
def Bk:Nat->LB->LB->Int->Int->Int->Int->Int->LI->Int->LB->Bool->Int->Ok
|0,_,_,_,_,_,_,_,_,_,_,_,_=>none
|q+1,a,b,f,g,h,k,m,n,o,p,u,v=>Cp (Bk q) a b f g h k m n o p u v
def qK:=Bk Au
def Sc(j3:LB->LB->Int->Int->Int->Int->Int->LI->Int->LB->Bool->Int->Ok)(al am:LB)(an ao ap aq ar:Int)(au:LI)(av:Int)(aw:LB)(ax:Bool)(ay:Int)(dp:LB):Ok:=
(Ec al am an ao ap aq ar au av aw ax ay).bind λaz=>
if(Bc az 0)then
some (([]:LB),([]:LB),0,0,0,0,0,([]:LI),0,([]:LB),false,0,az)
else
(Zc al am an ao ap aq ar au av aw ax ay).bind λ(y,aa,ab,ac,ad,ae,af,ag,ah,ai,aj,ak)=>
(Sa y aa ab ac ad ae af ag ah ai aj ak).bind λba=>
if(Bc ba 0)then
some (y,aa,ab,ac,ad,ae,af,ag,ah,ai,aj,ak,ba)
else
(Ds aa dp).bind λdq=>
j3 y dq ab ac ad ae af ag ah ai aj ak
def Kh:=Sc qK
abbrev Ie:=Option (Int×Int)
def BD(a:LB)(f g:Int)(b h:LB)(k:Int):Ie:=
if(Cj (Ac a) k)then
some (0,24)
else
if(b==h)then
(Bp a (Ao (Ac a) k) (Ad (Ao (Ac a) k) 32)).bind λo=>
(Zi f g).bind λp=>
if(o !=p)then
some (0,12)
else
some (k,0)
else
some (k,0)
def AY:=BD
def AA(j6:LB->Int->Int->LB->LB->Int->Ie)(a:LB)(f g:Int)(b h:LB):Ie:=
if(b==h)then
j6 a f g b h (Ad (Ad 32 f) 32)
else
j6 a f g b h (Ad 32 f)
def AQ:=AA AY
def UB(j5:LB->Int->Int->LB->LB->Ie)(a:LB):Ie:=
(Bp a (Ao (Ac a) 32) (Ac a)).bind λb=>
(Za b).bind λ(f,g,n)=>
if(!n)then
some (0,12)
else
(Nr f g true).bind λh=>
(
if(!(b==h))then
(Nr f g false).bind λm=>
if(b !=m)then
some (0,12)
else
j5 a f g b h
else
j5 a f g b h)
def UE:=UB AQ
def SB(j4:LB->Ie)(a:LB):Ie:=
if(Cj (Ac a) 32)then
some (0,6)
else
(Bp a (Ao (Ac a) 32) (Ad (Ao (Ac a) 32) 8)).bind λu=>
if(u !=([65,80,69,84,65,71,69,88]:LB))then
some (0,6)
else
j4 a
def JU:=SB UE
abbrev Gt:=Option (Int×Int)
def kN(a:Int):Gt:=
some (a,0)
def kA:=kN
def NG(j6:Int->Gt)(Re:LB->Int->Gt)(b:LB)(a:Int):Gt:=
if(Ef (Ac b) 0)then
(JU b).bind λ(g,h)=>
if(Bc h 0)then
some (0,38)
else
(Bp b 0 (Ao (Ac b) g)).bind λk=>
Re k (Ad a 1)
else
j6 a
def Pb:Nat->LB->Int->Gt
|0,_,_=>none
|q+1,b,a=>NG kA (Pb q) b a
def lO:=Pb Au
def IV(j4:LB->Int->Gt)(f:LB):Gt:=
if(Ef (Ac f) 4000)then
some (0,38)
else
j4 f 0
def Tx:=IV lO
def Cy(p a:LB)(g u v w y:Int)(b:LI)(h:Int)(aa:LB)(ab:Bool)(ac:Int):Option Int:=
if(geq g 0)then
(Ml a).bind λ(k,f)=>
if(Bc f 0)then
some f
else
(Bp a k (Ac a)).bind λm=>
(Nm m).bind λ(ad,ae,af,ag,ah,n)=>
some n
else
if((geq (Ac b) 0)||(Cj h (Ac b)))then
some 24
else
(Tx a).bind λ(ai,o)=>
if(Bc o 0)then
some 38
else
some 0
abbrev eT:=Option (Int×Int×Int×Int×Int×Int×LI×Int)
def qP(a:LB)(b f g h k n:Int):eT:=
(Dw b f g h k).bind λ(ab,p)=>
if(Bc p 0)then
some (0,0,0,0,0,0,([]:LI),p)
else
(Bp a n (Ac a)).bind λac=>
(FY ac (Ac ab)).bind λ(u,v)=>
if(Bc v 0)then
some (0,0,0,0,0,0,([]:LI),v)
else
some (b,f,g,h,k,(Ad (Ad n (Bf 4 (Ac u))) 4),u,0)
def Qg:=qP
def Uw(j2:LB->Int->Int->Int->Int->Int->Int->eT)(a o:LB):eT:=
if(Ef (Ac o) 64)then
some (0,0,0,0,0,0,([]:LI),2)
else
if(Ef (Ac a) 100000)then
some (0,0,0,0,0,0,([]:LI),4)
else
(Jr a).bind λ(m,w)=>
if(Bc w 0)then
some (0,0,0,0,0,0,([]:LI),w)
else
(Bp a m (Ac a)).bind λad=>
(Mw ad).bind λ(b,f,g,h,k,y)=>
if(Bc y 0)then
some (0,0,0,0,0,0,([]:LI),y)
else
if((o==([]:LB)) !=(geq b 1))then
some (0,0,0,0,0,0,([]:LI),26)
else
if(o !=([]:LB))then
if(Cj (Ac a) (Ad (Ad m 22) 8))then
some (0,0,0,0,0,0,([]:LI),24)
else
(Bp a (Ad m 22) (Ad (Ad m 22) 8)).bind λae=>
(Pa ae o).bind λ(af,aa)=>
if(Bc aa 0)then
some (0,0,0,0,0,0,([]:LI),aa)
else
if(!af)then
some (0,0,0,0,0,0,([]:LI),26)
else
j2 a b f g h k (Ad (Ad m 22) 8)
else
j2 a b f g h k (Ad m 22)
def Dh:=Uw Qg
abbrev Lo:=Option (Int×Int×Int×Int×Int×Int×LI×Int)
def JX(m n b h k f g:Int)(o:LI):Lo:=
if(Bc n 0)then
some (0,0,0,0,0,0,([]:LI),n)
else
some (b,h,k,f,g,(Ad (Ad m (Bf 4 (Ac o))) 4),o,0)
def JF:=JX
def JK(j4:Int->Int->Int->Int->Int->Int->Int->LI->Lo)(a:LB)(b h k f g m:Int):Lo:=
(Bp a m (Ac a)).bind λy=>
(Fw f g).bind λaa=>
(Sd y (Ac aa)).bind λ(o,n)=>
j4 m n b h k f g o
def Ou:=JK JF
def Wa(j3:LB->Int->Int->Int->Int->Int->Int->Lo)(a u:LB):Lo:=
if(Ef (Ac a) 100000)then
some (0,0,0,0,0,0,([]:LI),4)
else
(Ml a).bind λ(p,v)=>
if(Bc v 0)then
some (0,0,0,0,0,0,([]:LI),v)
else
(Bp a p (Ac a)).bind λab=>
(Nm ab).bind λ(b,h,k,f,g,w)=>
if(Bc w 0)then
some (0,0,0,0,0,0,([]:LI),w)
else
if((u==([]:LB)) !=(geq b 1))then
some (0,0,0,0,0,0,([]:LI),26)
else
if(geq b 2)then
if(Cj (Ao (Ac a) (Ad p 22)) 8)then
some (0,0,0,0,0,0,([]:LI),24)
else
(Bp a (Ad p 22) (Ad (Ad p 22) 8)).bind λac=>
(Nd u).bind λad=>
if(ac !=ad)then
some (0,0,0,0,0,0,([]:LI),26)
else
j3 a b h k f g (Ad (Ad p 22) 8)
else
j3 a b h k f g (Ad p 22)
def Fg:=Wa Ou
def pA(a:Int):Option Int:=
some a
def oQ:=pA
def Yi(j6:Int->Option Int)(Re:Int->Int->Option Int)(b h k m n o f:Int)(g:LI)(a p:Int):Option Int:=
if(Cj p b)then
(Ap g p).bind λu=>
Re (Ad a u) (Ad p 1)
else
j6 a
def Ly(b h k m n o f:Int)(g:LI):Nat->Int->Int->Option Int
|0,_,_=>none
|q+1,a,p=>Yi oQ (Ly b h k m n o f g q) b h k m n o f g a p
def oD b h k m n o f g:=Ly b h k m n o f g Au
def oP(j4:Int->Int->Int->Int->Int->Int->Int->LI->Int->Int->Option Int)(h k m n o f:Int)(g:LI)(b:Int):Option Int:=
j4 b h k m n o f g f 0
def YQ:=oP oD
abbrev GF:=Option (LB×Int)
def XC(p:LX)(m n g b h k o:Int)(a:LI):GF:=
if(Bc m 0)then
some (([]:LB),m)
else
(Wf b p).bind λ(af,ai)=>
some (af,0)
def WU:=XC
def WS(j2:LX->Int->Int->Int->Int->Int->Int->Int->LI->GF)(v y:LB)(n g b h k o:Int)(a:LI)(f:Int):GF:=
(YQ n g b h k o a f).bind λu=>
(Ap a f).bind λaa=>
if(Cj (Ao (Ac v) u) aa)then
some (([]:LB),24)
else
(Nl y).bind λ(ab,ag)=>
(Ap a f).bind λac=>
(Bp v u (Ad u ac)).bind λad=>
(
(Fw h k).bind λw=>
(Ap w f).bind λ_=>
(Ap w f).bind λae=>
(Fc g b ab ae ad).bind λ(p,m)=>
j2 p m n g b h k o a)
def Vk:=WS WU
def aL(a:LB):Option (Int×Int×Int×Int×Int×Int×Int):=
if(Ef (Ac a) 100000)then
some (0,0,0,0,0,0,4)
else
(Ml a).bind λ(b,f)=>
if(Bc f 0)then
some (0,0,0,0,0,0,f)
else
(Bp a b (Ac a)).bind λg=>
(Nm g).bind λ(h,k,m,n,o,p)=>
some (b,h,k,m,n,o,p)
def WV(f:LB)(a g m n o p:Int)(b:LB):Option (Int×Int):=
if((b==([]:LB)) !=(geq g 1))then
some (0,26)
else
if(b==([]:LB))then
some (a,0)
else
if(Cj (Ac f) (Ad a 8))then
some (0,24)
else
(Bp f a (Ad a 8)).bind λh=>
(Nd b).bind λk=>
if(h !=k)then
some (0,26)
else
some ((Ad a 8),0)
def FV(a:LB)(b o p u f g:Int):Option (LI×Int):=
(Bp a b (Ac a)).bind λh=>
(Fw f g).bind λk=>
(Sd h (Ac k)).bind λ(m,n)=>
some (m,n)
abbrev Fe:=Option (Int×Int×Int×LX×Int)
def NR(a:LB)(n b f g:Int)(v:LX):Fe:=
(Bp a n (Ac a)).bind λaf=>
(Tx af).bind λ(ao,ag)=>
if(Bc ag 0)then
some (0,0,0,([]:LX),38)
else
some (b,f,g,v,0)
def OQ:=NR
def NU(bk7:Int->Int->LX->Fe)(a:LB)(o b f g k:Int)(h p:LI)(u:LX)(n m:Int)(y:LX)(w:Int)(v:LX):Fe:=
if(Bc w 0)then
some (0,0,0,([]:LX),w)
else
(Ds v y).bind λah=>
(Ap h m).bind λ_=>
(Ap h m).bind λai=>
bk7 (Ad n ai) (Ad m 1) ah
def OR bk7:=NU bk7
def BC(j10:Int->Int->LX->Int->LX->Fe)(j12:LB->Int->Int->Int->Int->LX->Fe)(a:LB)(o b f g k:Int)(h p:LI)(u:LX)(n m:Int)(v:LX):Fe:=
if(Cj m (Ac h))then
(Ap h m).bind λ_=>
(Ap h m).bind λaj=>
if(Cj (Ao (Ac a) n) aj)then
some (0,0,0,([]:LX),24)
else
(Ap p m).bind λ_=>
(Ap h m).bind λ_=>
(Ap p m).bind λak=>
(Ap h m).bind λal=>
(Bp a n (Ad n al)).bind λam=>
(Fc b f u ak am).bind λ(y,w)=>
j10 n m y w v
else
j12 a n b f g v
def Nc(a:LB)(o b f g k:Int)(h p:LI)(u:LX):Nat->Int->Int->LX->Fe
|0,_,_,_=>none
|q+1,n,m,v=>BC (OR (Nc a o b f g k h p u q) a o b f g k h p u) OQ a o b f g k h p u n m v
def SU a o b f g k h p u:=Nc a o b f g k h p u Au
def SV(j7:LB->Int->Int->Int->Int->Int->LI->LI->LX->Int->Int->LX->Fe)(a aa:LB):Fe:=
if(Ef (Ac aa) 64)then
some (0,0,0,([]:LX),2)
else
(aL a).bind λ(an,o,b,f,g,k,ab)=>
if(Bc ab 0)then
some (0,0,0,([]:LX),ab)
else
(WV a (Ad an 22) o b f g k aa).bind λ(ac,ad)=>
if(Bc ad 0)then
some (0,0,0,([]:LX),ad)
else
(FV a ac o b f g k).bind λ(h,ae)=>
if(Bc ae 0)then
some (0,0,0,([]:LX),ae)
else
(Fw g k).bind λp=>
(Nl aa).bind λ(u,ap)=>
j7 a o b f g k h p u (Ad ac (Ad (Bf 4 (Ac h)) 4)) 0 ([]:LX)
def Kn:=SV SU
def Hi(a b f:Int)(g:LX):Option (Int×Int):=
some (a,b)
def Ck(b f:Int)(a:LX):Option Int:=
(Bn b f).bind λg=>
if(Bc g 0)then
some 2
else
(Ay f a).bind λh=>
if(Bc h 0)then
(Ay f a).bind λk=>
some k
else
if(Cj (Ac a) 1)then
some 2
else
(Je (Bc b 0)).bind λ_=>
if(Ef (Fo (Ac a) b) 0)then
some 2
else
some 0
abbrev Jk:=Option (LI×Int)
def Uh(a:LI):Jk:=
if(Ef (Ac a) 1000)then
some (([]:LI),4)
else
some (a,0)
def Tz:=Uh
def Ld(j6:LI->Jk)(Re:Int->LI->Jk)(b f:Int)(a:LI):Jk:=
if(Ef f 0)then
(Ds a ([(Fi f b)]:LI)).bind λh=>
Re (Ao f (Fi f b)) h
else
j6 a
def Fh(b:Int):Nat->Int->LI->Jk
|0,_,_=>none
|q+1,f,a=>Ld Tz (Fh b q) b f a
def DB b:=Fh b Au
def Ug(j4:Int->Int->LI->Jk)(k g:Int):Jk:=
(Gy k).bind λ(b,m)=>
if(((Bc m 0)||(Cj g 1))||(Ef g 4000))then
some (([]:LI),2)
else
j4 b g ([]:LI)
def CD:=Ug DB
def Jg(a b:Int):Option (Int×Int):=
(CD a b).bind λ(f,g)=>
some ((Ac f),g)
def NH(f g a:Int)(h:LX)(b:Int):Option Bool:=
(Hi f g a h).bind λ(k,m)=>
(Eu k m b).bind λn=>
if(Bc n 0)then
some false
else
(Jg a b).bind λ(p,o)=>
some (geq o 0)
def Dm(a f g:Int)(b:LX):Option Int:=
(Hi a f g b).bind λ(h,k)=>
(Ck h k b).bind λm=>
if(Bc m 0)then
some 8
else
(Je (Bc a 0)).bind λ_=>
(NH a f g b (Bt (Ac b) a)).bind λn=>
if(!n)then
some 8
else
some 0
end Go.Pl
