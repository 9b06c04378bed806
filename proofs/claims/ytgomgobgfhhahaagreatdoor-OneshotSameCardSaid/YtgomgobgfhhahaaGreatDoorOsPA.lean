/- A part of the proof of a statement of this seat (see the text that ends in Proof): OsPure. No conditions of its own. -/
import Derived.Test.YtgomgobgfhhahaaGreatDoorOsBA
set_option linter.unusedVariables false
namespace Go.Pl
open Go Go.Lv
abbrev LB:=List UInt8
abbrev LI:=List Int
abbrev LX:=List Int32
abbrev LU:=List UInt32
abbrev LQ:=List UInt64
def OR:Option (Int×Int×Int×LX):=
some (1,8,8000,([(0:Int32)]:LX))
def PT(a b f:Int)(g:LX):Option (Int×Int):=
some (a,b)
abbrev eJ:=Option (Int32×Int32×Int)
def pU(a:Int)(b:Bool):eJ:=
if b then
(Jg (Nf (Ao a 1) 0)).bind λ_=>
some ((yW (Dl (1:Int32) (GI.toZ (Ao a 1)).toNat)),(Ao (Dl (1:Int32) (GI.toZ (Ao a 1)).toNat) 1),0)
else
some (0,0,2)
def aO:=pU
def ZE(j2:Int->Bool->eJ)(a:Int):eJ:=
if(geq a 8)then
j2 a (geq a 8)
else
if(geq a 16)then
j2 a (geq a 16)
else
j2 a (geq a 24)
def Ro:=ZE aO
def Gf(a b:Int):Option Int:=
(Ro b).bind λ(g,h,f)=>
if(((Bc f 0)||(Cq a 1))||(Ed a 6))then
some 2
else
some 0
def Oy(a:Int):Option (Int×Int):=
if((Cq a 1)||(Ed a 1048576))then
some (0,2)
else
some ((tP 1 (Br (Bf 256 a) 245)),0)
def Jv(g b:Int):Option (Int×Int):=
(Oy g).bind λ(a,f)=>
if(Bc f 0)then
some (0,f)
else
if((Cq b 1)||(Ed b 4000))then
some (0,2)
else
(Jg (Bc a 0)).bind λ_=>
if(Ed (Br (Ao (Ad b a) 1) a) 1000)then
some (0,4)
else
some ((Br (Ao (Ad b a) 1) a),0)
def PC(a g f:Int)(h:LX)(b:Int):Option Int:=
(PT a g f h).bind λ(k,m)=>
(Gf k m).bind λn=>
if((Bc n 0)||(Cq b 1))then
some 8
else
(Jg (Bc a 0)).bind λ_=>
if(Ed b (Br 4000 a))then
some 8
else
(Jv f b).bind λ(p,o)=>
if(Bc o 0)then
some 8
else
some 0
def Ahp:Option Int:=
some 0
def pX:=Ahp
def IB(j6:Option Int)(Sf:Int->Option Int)(b f:Int32)(a:LX)(g:Int):Option Int:=
if(Cq g (Ac a))then
(Ap a g).bind λh=>
if((Cq h b)||(Ed h f))then
some 16
else
Sf (Ad g 1)
else
j6
def Ux(b f:Int32)(a:LX):Nat->Int->Option Int
|0,_=>none
|q+1,g=>IB pX (Ux b f a q) b f a g
def qU b f a:=Ux b f a Ax
def YM(j4:Int32->Int32->LX->Int->Option Int)(m:Int)(a:LX):Option Int:=
(Ro m).bind λ(b,f,k)=>
if(Bc k 0)then
some k
else
if(Ed (Ac a) 4000)then
some 4
else
j4 b f a 0
def Ry:=YM qU
def Eg(a f h:Int)(b:LX):Option Int:=
if(Cq a 1)then
some 8
else
(Jg (Bc a 0)).bind λ_=>
if(Bc (Gx (Ac b) a) 0)then
some 8
else
(Jg (Bc a 0)).bind λ_=>
(PC a f h b (Br (Ac b) a)).bind λg=>
if(Bc g 0)then
some g
else
(Ry f b).bind λk=>
if(Bc k 0)then
some 8
else
some 0
abbrev Ec:=Option (LB×Int)
def Ac1(g:LB):Ec:=
some (g,0)
def mB:=Ac1
def mQ(Ir:Int->LB->Ec)(b:Int)(a:LX)(f:Int)(h:LB):Ec:=
Ir (Ad f 1) h
def UP Ir:=mQ Ir
def EJ(j28:Int->LB->Ec)(At3:Int->LB->Ec)(b:Int)(a:LX)(k:Int32)(f m:Int)(h:LB):Ec:=
if(Cq m (Br b 8))then
(Jg (Nf (Bf 8 m) 0)).bind λ_=>
(Du h ([(Af (Ci k (GI.toZ (Bf 8 m)).toNat):UInt8)]:LB)).bind λp=>
At3 (Ad m 1) p
else
j28 f h
def Lc(Ir:Int->LB->Ec)(b:Int)(a:LX)(k:Int32)(f:Int):Nat->Int->LB->Ec
|0,_,_=>none
|q+1,m,h=>EJ (UP Ir b a) (Lc Ir b a k f q) b a k f m h
def UD Ir b a k f:=Lc Ir b a k f Ax
def UI(j26:Int32->Int->Int->LB->Ec)(b:Int)(a:LX)(f:Int)(g:LB)(k:Int32):Ec:=
j26 k f 0 g
def Nw Ir b a:=UI (UD Ir b a) b a
def EI(j25:Int->LB->Int32->Ec)(j30:LB->Ec)(b:Int)(a:LX)(f:Int)(g:LB):Ec:=
if(Cq f (Ac a))then
(Ap a f).bind λn=>
if(geq b 8)then
j25 f g (Ad n 128)
else
j25 f g n
else
j30 g
def Hn(b:Int)(a:LX):Nat->Int->LB->Ec
|0,_,_=>none
|q+1,f,g=>EI (Nw (Hn b a q) b a) mB b a f g
def mG b a:=Hn b a Ax
def bC(j16:Int->LX->Int->LB->Ec)(b:Int)(a:LX):Ec:=
(Ry b a).bind λo=>
if(Bc o 0)then
some (([]:LB),o)
else
j16 b a 0 ([]:LB)
def Le:=bC mG
def DJ(a b f:Int)(g:LB):Option (Int×Bool):=
(Oy f).bind λ(h,k)=>
(Gf a b).bind λm=>
some (h,(((geq m 0)&&(geq k 0))&&(gle (Ac g) 64)))
def cS(a b f:Int)(g:LB):Option (Int×Int×Int×LB×LB×LX×(List LB)×LB×Bool×Int×Int):=
(DJ a b f g).bind λ(k,h)=>
if(!h)then
some (0,0,0,([]:LB),([]:LB),([]:LX),([]:List LB),([]:LB),false,0,2)
else
some (a,b,f,g,([]:LB),([]:LX),([]:List LB),([]:LB),false,0,0)
def HP(a b:Int):Option Int:=
some (Br (Bf a b) 8)
def Xj(a h k:Int)(m n:LB)(b:LX)(f:List LB)(o:LB)(p:Bool)(u g:Int):Option Int:=
(Jg (Bc a 0)).bind λ_=>
some (Ad (Bf (Ac f) g) (Br (Ac b) a))
def Vw(a g h:Int)(k m:LB)(n:LX)(o:List LB)(p:LB)(u:Bool)(v b f:Int):Option Bool:=
some ((gle b 1000)&&(gle (Bf f a) 4000))
def tN(w:Bool):Option Bool:=
some (!w)
def VL:=tN
def VX(j24:Bool->Option Bool)(w:Bool):Option Bool:=
j24 w
def CB:=VX VL
def VJ(j23:Bool->Option Bool):Option Bool:=
j23 (Nf (-1:Int) (0:Int))
def VM:=VJ CB
def VQ(Ir:Int->Option Bool)(b:List LB)(f a g:Int):Option Bool:=
Ir (Ad g 1)
def CY Ir:=VQ Ir
def CT(j23:Bool->Option Bool)(j20:Int->Option Bool)(b:List LB)(f a g:Int)(y:LB):Option Bool:=
if((Cq (Ac y) 5)||(Ed (Ac y) (Ad (Br (Ad (Bf (Bf 81 f) a) 7) 8) 4)))then
j23 (Nf g 0)
else
j20 g
def CU Ir b f a:=CT CB (CY Ir b f a) b f a
def To(j19:Int->LB->Option Bool)(j22:Option Bool)(b:List LB)(f a g:Int):Option Bool:=
if(Cq g (Ac b))then
(Ap b g).bind λy=>
j19 g y
else
j22
def Ky(b:List LB)(f a:Int):Nat->Int->Option Bool
|0,_=>none
|q+1,g=>To (CU (Ky b f a q) b f a) VM b f a g
def Tn b f a:=Ky b f a Ax
def Tm(j16:(List LB)->Int->Int->Int->Option Bool)(f a k o:Int)(p m:LB)(h:LX)(b:List LB)(n:LB)(u:Bool)(v:Int):Option Bool:=
j16 b f a 0
def Ts:=Tm Tn
def Tk(j15:Int->Int->Int->Int->LB->LB->LX-> (List LB)->LB->Bool->Int->Option Bool)(f a k o:Int)(p m:LB)(h:LX)(b:List LB)(n:LB)(u:Bool)(v aa:Int):Option Bool:=
(Xj a k o p m h b n u v f).bind λab=>
(Vw a k o p m h b n u v aa ab).bind λac=>
if(!ac)then
some false
else
j15 f a k o p m h b n u v
def Tv:=Tk Ts
def CH(j14:Int->Int->Int->Int->LB->LB->LX-> (List LB)->LB->Bool->Int->Int->Option Bool)(f a k o:Int)(p m:LB)(h:LX)(b:List LB)(n:LB)(u:Bool)(v:Int):Option Bool:=
(Ry k h).bind λad=>
if(Bc ad 0)then
some false
else
if(Ed (Ac h) 0)then
j14 f a k o p m h b n u v (Ad (Ac b) 1)
else
j14 f a k o p m h b n u v (Ac b)
def CP:=CH Tv
def FK(j13:Int->Int->Int->Int->LB->LB->LX-> (List LB)->LB->Bool->Int->Option Bool)(a k o:Int)(p m:LB)(h:LX)(b:List LB)(n:LB)(u:Bool)(v f:Int):Option Bool:=
if(Ed (Ac n) 0)then
if true then
if true then
if(true||(Ed (Ac b) 1000))then
some false
else
j13 f a k o p m h b n u v
else
(Jg (Bc a 0)).bind λ_=>
if((Nf (Br (Ac h) a) f)||(Ed (Ac b) 1000))then
some false
else
j13 f a k o p m h b n u v
else
(Jg (Bc a 0)).bind λ_=>
if(Bc (Gx (Ac h) a) 0)then
if(true||(Ed (Ac b) 1000))then
some false
else
j13 f a k o p m h b n u v
else
(Jg (Bc a 0)).bind λ_=>
if((Nf (Br (Ac h) a) f)||(Ed (Ac b) 1000))then
some false
else
j13 f a k o p m h b n u v
else
(HP a k).bind λae=>
if(Nf (Ac m) ae)then
if true then
if(true||(Ed (Ac b) 1000))then
some false
else
j13 f a k o p m h b n u v
else
(Jg (Bc a 0)).bind λ_=>
if((Nf (Br (Ac h) a) f)||(Ed (Ac b) 1000))then
some false
else
j13 f a k o p m h b n u v
else
(Jg (Bc a 0)).bind λ_=>
if(Bc (Gx (Ac h) a) 0)then
if(true||(Ed (Ac b) 1000))then
some false
else
j13 f a k o p m h b n u v
else
(Jg (Bc a 0)).bind λ_=>
if((Nf (Br (Ac h) a) f)||(Ed (Ac b) 1000))then
some false
else
j13 f a k o p m h b n u v
def DX:=FK CP
def QW(m n o:Int)(p b:LB)(f:LX)(g:List LB)(h:LB)(k:Bool)(a:Int):Option Int:=
(DJ m n o p).bind λ(u,v)=>
if(!v)then
some 8
else
if(Bc a 0)then
if(!(((((geq a 18)||(geq a 24))&&(!k))&&(geq (Ad (Ad (Ac b) (Ac f)) (Ac g)) 0))&&(geq (Ac h) 0)))then
some 8
else
some 0
else
if k then
if(!((geq (Ad (Ad (Ac b) (Ac f)) (Ac g)) 0)&&(gle (Ac h) 100000)))then
some 8
else
some 0
else
(DX m n o p b f g h k a u).bind λw=>
if(!w)then
some 8
else
some 0
def By(a:LB):Option (LB):=
(
(Du ([]:LB) a).bind λb=>
some b)
def Dh(a:LX):Option (LX):=
(
(Du ([]:LX) a).bind λb=>
some b)
abbrev Kq:=Option (Int×Int×Int×LB×LB×LX×(List LB)×LB×Bool×Int)
def Ac2(b f g:Int)(h:LB)(a:List LB)(k:Bool)(m:Int)(u:List LB)(n:LB)(o:LX)(p:LB):Kq:=
some (b,f,g,h,n,o,u,p,k,m)
def mF:=Ac2
def EL(j8:Int->Int->Int->LB-> (List LB)->Bool->Int-> (List LB)->LB->LX->LB->Kq)(bk6:Int-> (List LB)->Kq)(w a:List LB)(b f g:Int)(h:LB)(k:Bool)(m:Int)(n:LB)(o:LX)(p:LB)(v:Int)(u:List LB):Kq:=
if(Cq v (Ac (VH w a)))then
(Ap u v).bind λ_=>
(Ap u v).bind λy=>
(By y).bind λaa=>
(Ap u v).bind λ_=>
(Ng u v aa).bind λab=>
bk6 (Ad v 1) ab
else
j8 b f g h a k m u n o p
def Rm(w a:List LB)(b f g:Int)(h:LB)(k:Bool)(m:Int)(n:LB)(o:LX)(p:LB):Nat->Int-> (List LB)->Kq
|0,_,_=>none
|q+1,v,u=>EL mF (Rm w a b f g h k m n o p q) w a b f g h k m n o p v u
def lX w a b f g h k m n o p:=Rm w a b f g h k m n o p Ax
def TV(j6:(List LB)-> (List LB)->Int->Int->Int->LB->Bool->Int->LB->LX->LB->Int-> (List LB)->Kq)(b f g:Int)(h:LB)(a:List LB)(k:Bool)(m:Int)(n:LB)(o:LX)(p:LB):Kq:=
(mkI (Ac a) ([]:LB)).bind λw=>
(Jg (geq (Ac a) (Ac a))).bind λ_=>
j6 w a b f g h k m n o p 0 (VH w a)
def UJ:=TV lX
def TS(j5:Int->Int->Int->LB-> (List LB)->Bool->Int->LB->LX->LB->Kq)(b f g:Int)(h ac:LB)(ad:LX)(a:List LB)(ae:LB)(k:Bool)(m:Int):Kq:=
(By ac).bind λn=>
(Dh ad).bind λo=>
(By ae).bind λp=>
j5 b f g h a k m n o p
def XD:=TS UJ
abbrev UN:=Option (Int×Int×Int×LB×LB×LX×(List LB)×LB×Bool×Int×Int×Int)
def gH(u g h b:Int)(k m:LB)(n:LX)(o:List LB)(p:LB)(f:Bool)(a v:Int):UN:=
(XD g h b k m n o p f a).bind λ(y,aa,ab,ac,ad,ae,af,ag,ah,ai)=>
some (y,aa,ab,ac,ad,ae,af,ag,ah,ai,u,v)
def PJ:=gH
def PK(j2:Int->Int->Int->Int->LB->LB->LX-> (List LB)->LB->Bool->Int->Int->UN)(g h b:Int)(k m:LB)(n:LX)(o:List LB)(p:LB)(f:Bool)(a:Int):UN:=
(QW g h b k m n o p f a).bind λw=>
if(Bc w 0)then
some (0,0,0,([]:LB),([]:LB),([]:LX),([]:List LB),([]:LB),false,0,0,w)
else
(Oy b).bind λ(u,aj)=>
if(Bc a 0)then
j2 u g h b k m n o p f a a
else
if f then
j2 u g h b k m n o p f a 36
else
j2 u g h b k m n o p f a aj
def DO:=PK PJ
abbrev Cy:=Option (LX×Int)
def yK(g:LX):Cy:=
some (g,0)
def dK:=yK
def Zb(Ir:Int->LX->Cy)(a:Int)(b:LB)(f:Int)(m:LX):Cy:=
Ir (Ad f (Br a 8)) m
def Kr Ir:=Zb Ir
def Yv(j28:Int->LX->Cy)(a:Int)(b:LB)(f:Int)(h:Int32)(g:LX):Cy:=
(Jg (Nf (Ao 32 a) 0)).bind λ_=>
(Jg (Nf (Ao 32 a) 0)).bind λ_=>
(Du g ([(Ci (Dl h (GI.toZ (Ao 32 a)).toNat) (GI.toZ (Ao 32 a)).toNat)]:LX)).bind λp=>
j28 f p
def Yk Ir a b:=Yv (Kr Ir a b) a b
def Gq(j27:Int->Int32->LX->Cy)(Bow:Int32->Int->Cy)(a:Int)(b:LB)(f:Int)(g:LX)(h:Int32)(k:Int):Cy:=
if(Cq k (Br a 8))then
(Ap b (Ad f k)).bind λn=>
(Jg (Nf (Bf 8 k) 0)).bind λ_=>
Bow (wM h (Dl (Af n:Int32) (GI.toZ (Bf 8 k)).toNat)) (Ad k 1)
else
j27 f h g
def Fk(Ir:Int->LX->Cy)(a:Int)(b:LB)(f:Int)(g:LX):Nat->Int32->Int->Cy
|0,_,_=>none
|q+1,h,k=>Gq (Yk Ir a b) (Fk Ir a b f g q) a b f g h k
def Nm Ir a b f g:=Fk Ir a b f g Ax
def Gp(j28:Int->LX->Cy)(j25:Int->LX->Int32->Int->Cy)(j30:LX->Cy)(a:Int)(b:LB)(f:Int)(g:LX):Cy:=
if(Cq f (Ac b))then
if(geq a 8)then
(Ap b f).bind λn=>
(Du g ([(Ao (Af n:Int32) 128)]:LX)).bind λu=>
j28 f u
else
j25 f g 0 0
else
j30 g
def Em(a:Int)(b:LB):Nat->Int->LX->Cy
|0,_,_=>none
|q+1,f,g=>Gp (Kr (Em a b q) a b) (Nm (Em a b q) a b) dK a b f g
def JW a b:=Em a b Ax
def ON(j16:Int->LB->Int->LX->Cy)(a:Int)(b:LB):Cy:=
(Ro a).bind λ(v,w,o)=>
if(Bc o 0)then
some (([]:LX),o)
else
(Jg (Bc (Br a 8) 0)).bind λ_=>
if(Bc (Gx (Ac b) (Br a 8)) 0)then
some (([]:LX),12)
else
(Jg (Bc (Br a 8) 0)).bind λ_=>
if(Ed (Br (Ac b) (Br a 8)) 4000)then
some (([]:LX),4)
else
j16 a b 0 ([]:LX)
def Xl:=ON JW
abbrev Cn:=Option (UInt64×Int)
def qL(h:UInt64):Cn:=
some (h,0)
def ZQ:=qL
def ZD(j30:UInt64->Cn)(h b:UInt64)(a:LB)(f:LQ):Cn:=
j30 h
def YG:=ZD ZQ
def KP(j29:UInt64->UInt64->LB->LQ->Cn)(lW:UInt64->Int->Cn)(a:LB)(b:UInt64)(f:LQ)(h:UInt64)(m:Int):Cn:=
if(Cq m (Ac a))then
(Ap a m).bind λp=>
Option.bind (Ap f (GI.toZ (Zy (Af (Ci h (GI.toZ (56:UInt64)).toNat):UInt8) p))) λ_=>
Option.bind (Ap f (GI.toZ (Zy (Af (Ci h (GI.toZ (56:UInt64)).toNat):UInt8) p))) λu=>
lW (Zy (Dl h (GI.toZ (8:UInt64)).toNat) u) (Ad m 1)
else
j29 h b a f
def Us(a:LB)(b:UInt64)(f:LQ):Nat->UInt64->Int->Cn
|0,_,_=>none
|q+1,h,m=>KP YG (Us a b f q) a b f h m
def ZU a b f:=Us a b f Ax
def bE(j27:LB->UInt64->LQ->UInt64->Int->Cn)(b:UInt64)(a:LB)(f:LQ):Cn:=
j27 a b f b 0
def JP:=bE ZU
def rK(Ir:Int->LQ->Cn)(b:UInt64)(a:LB)(g:Int)(o:LQ):Cn:=
Ir (Ad g 1) o
def aE Ir:=rK Ir
def aG(j24:Int->LQ->Cn)(b:UInt64)(a:LB)(g:Int)(k:UInt64)(f:LQ):Cn:=
(Ap f g).bind λ_=>
(Ng f g k).bind λo=>
j24 g o
def JS Ir b a:=aG (aE Ir b a) b a
def KM(j23:Int->UInt64->LQ->Cn)(At4:UInt64->Int->Cn)(b:UInt64)(a:LB)(g:Int)(f:LQ)(k:UInt64)(n:Int):Cn:=
if(Cq n 8)then
At4 (Zy (Dl k (GI.toZ (1:UInt64)).toNat) (Bf 4823603603198064275 (Ci k (GI.toZ (63:UInt64)).toNat))) (Ad n 1)
else
j23 g k f
def Un(Ir:Int->LQ->Cn)(b:UInt64)(a:LB)(g:Int)(f:LQ):Nat->UInt64->Int->Cn
|0,_,_=>none
|q+1,k,n=>KM (JS Ir b a) (Un Ir b a g f q) b a g f k n
def YZ Ir b a g f:=Un Ir b a g f Ax
def HZ(j21:Int->LQ->UInt64->Int->Cn)(j26:UInt64->LB->LQ->Cn)(b:UInt64)(a:LB)(g:Int)(f:LQ):Cn:=
if(Cq g 256)then
j21 g f (Dl (Af g:UInt64) (GI.toZ (56:UInt64)).toNat) 0
else
j26 b a f
def Qf(b:UInt64)(a:LB):Nat->Int->LQ->Cn
|0,_,_=>none
|q+1,g,f=>HZ (YZ (Qf b a q) b a) JP b a g f
def YQ b a:=Qf b a Ax
def dU(j16:UInt64->LB->Int->LQ->Cn)(b:UInt64)(a:LB):Cn:=
if(Ed (Ac a) 100000)then
some (0,4)
else
j16 b a 0 (List.replicate 256 (0:UInt64))
def kK:=dU YQ
def fV(a:LB):Option (UInt64×Int):=
(kK 0 a).bind λ(b,f)=>
some (b,f)
def As0(a:LX):Option (LX):=
some a
def Afd:=As0
def kD(j6:LX->Option (LX))(Sf:Int->LX->Option (LX))(f:UInt64)(b:Int)(a:LX):Option (LX):=
if(Cq b 8)then
(Jg (Nf (Bf 8 b) 0)).bind λ_=>
(Ap a b).bind λ_=>
(Ng a b (Af (Af (Ci f (GI.toZ (Bf 8 b)).toNat):Int8):Int32)).bind λg=>
Sf (Ad b 1) g
else
j6 a
def QG(f:UInt64):Nat->Int->LX->Option (LX)
|0,_,_=>none
|q+1,b,a=>kD Afd (QG f q) f b a
def Agz f:=QG f Ax
def Aii(j4:UInt64->Int->LX->Option (LX))(f:UInt64):Option (LX):=
j4 f 0 (List.replicate 16 (0:Int32))
def Alf:=Aii Agz
def Nh(a:LB):Option (LX×Int):=
if(Ed (Ac a) 64)then
some (([(0:Int32),(0:Int32),(0:Int32),(0:Int32),(0:Int32),(0:Int32),(0:Int32),(0:Int32),(0:Int32),(0:Int32),(0:Int32),(0:Int32),(0:Int32),(0:Int32),(0:Int32),(0:Int32)]:LX),2)
else
(fV a).bind λ(f,b)=>
if(Bc b 0)then
some (([(0:Int32),(0:Int32),(0:Int32),(0:Int32),(0:Int32),(0:Int32),(0:Int32),(0:Int32),(0:Int32),(0:Int32),(0:Int32),(0:Int32),(0:Int32),(0:Int32),(0:Int32),(0:Int32)]:LX),b)
else
(Alf f).bind λg=>
some (g,0)
def QR(a f:Int)(b:LX):Option Int:=
(Gf a f).bind λg=>
if(Bc g 0)then
some g
else
(Ry f b).bind λh=>
if(Bc h 0)then
some h
else
if(geq (Ac b) 0)then
some 2
else
(Jg (Bc a 0)).bind λ_=>
if(Bc (Gx (Ac b) a) 0)then
some 2
else
some 0
def gP(a:Int)(b:LX):Option Int:=
if((Cq a 1)||(Ed a 6))then
some 2
else
if(Ed (Ac b) 4000)then
some 4
else
(Jg (Bc a 0)).bind λ_=>
if(Bc (Gx (Ac b) a) 0)then
some 2
else
some 0
abbrev Kx:=Option (LX×Int)
def Aq3(f:LX):Kx:=
some (f,0)
def Aci:=Aq3
def rE(fK:Int->LX->Kx)(b a:Int)(k:LX):Kx:=
fK (Ad a b) k
def cN fK:=rE fK
def rM(j20:Int->LX->Kx)(b a:Int)(g:LX):Kx:=
if(Ed (Ao ((Ad a b)-a) 1) 0)then
(Jg (decide (0<= (Ao ((Ad a b)-a) 1)/\ (Ao ((Ad a b)-a) 1)<((Ad a b)-a)))).bind λ_=>
Option.bind (Jg (decide (0<= (Ao (Ao ((Ad a b)-a) 1) 1)/\ (Ao (Ao ((Ad a b)-a) 1) 1)<((Ad a b)-a)))) λ_=>
(Ap g (a+(Ao ((Ad a b)-a) 1))).bind λm=>
(Ap g (a+(Ao (Ao ((Ad a b)-a) 1) 1))).bind λn=>
(Jg (decide (0<= (Ao ((Ad a b)-a) 1)/\ (Ao ((Ad a b)-a) 1)<((Ad a b)-a)))).bind λ_=>
(Ng g (a+(Ao ((Ad a b)-a) 1)) (Ao m (Br n 2))).bind λo=>
j20 a o
else
j20 a g
def qA fK b:=rM (cN fK b) b
def cD(j19:Int->LX->Kx)(Bk9:Int->LX->Kx)(b a h:Int)(g:LX):Kx:=
if(Cq h (Ao ((Ad a b)-a) 1))then
(Jg (decide (0<= (Ad h 1)/\ (Ad h 1)<((Ad a b)-a)))).bind λ_=>
(Jg (decide (0<=h/\h<((Ad a b)-a)))).bind λ_=>
(Ap g (a+(Ad h 1))).bind λm=>
(Ap g (a+h)).bind λn=>
(Jg (decide (0<=h/\h<((Ad a b)-a)))).bind λ_=>
(Ng g (a+h) (Ao m n)).bind λo=>
Bk9 (Ad h 1) o
else
j19 a g
def FV(fK:Int->LX->Kx)(b a:Int):Nat->Int->LX->Kx
|0,_,_=>none
|q+1,h,g=>cD (qA fK b) (FV fK b a q) b a h g
def Abv fK b a:=FV fK b a Ax
def oR(j17:Int->Int->LX->Kx)(j22:LX->Kx)(b a:Int)(f:LX):Kx:=
if(Cq a (Ac f))then
(gS (Ac f) a (Ad a b)).bind λ_=>
j17 a 0 f
else
j22 f
def GK(b:Int):Nat->Int->LX->Kx
|0,_,_=>none
|q+1,a,f=>oR (Abv (GK b q) b) Aci b a f
def pW b:=GK b Ax
def uY(j12:Int->Int->LX->Kx)(b:Int)(p:LX):Kx:=
(gP b p).bind λu=>
if(Bc u 0)then
some (([]:LX),u)
else
(Dh p).bind λv=>
j12 b 0 v
def Adb:=uY pW
abbrev vU:=Option (Int×LX×LX×Int)
def Aom(a:Int)(b:LX)(f:Bool):vU:=
if f then
some (10,b,(List.replicate 16 (0:Int32)),0)
else
if(geq a 16)then
some (9,b,(List.replicate 16 (0:Int32)),0)
else
some (0,(List.replicate 16 (0:Int32)),(List.replicate 16 (0:Int32)),2)
def Acs:=Aom
def Ab5(j2:Int->LX->Bool->vU)(a:Int)(b:LX):vU:=
if(geq a 8)then
j2 a b (geq a 8)
else
j2 a b (geq a 24)
def xL:=Ab5 Acs
def Aaa(a:Int)(f:LX):Option (Int×Int32×Int×LX×LX×Int):=
(xL a f).bind λ(g,h,k,b)=>
if(Bc b 0)then
some (0,0,0,(List.replicate 16 (0:Int32)),(List.replicate 16 (0:Int32)),b)
else
some (a,0,g,h,k,0)
def AK(a:Int)(k:Int32)(b:Int)(f m:LX):Option Int:=
(xL a f).bind λ(g,n,o,h)=>
if((Bc h 0)||(Bc g b))then
some 8
else
some 0
def qR(a:Int):Option (Int×Int):=
if(geq a 8)then
some (4,0)
else
if(geq a 16)then
if(geq a 16)then
some (5,0)
else
some (0,2)
else
if(geq a 24)then
some (5,0)
else
some (0,2)
def dL(a:Int)(b:Int32):Option Int32:=
(Jg (Nf a 0)).bind λ_=>
(Jg (Nf a 0)).bind λ_=>
some (Af (Al0 (Ao (Dl (Af b:Int) (GI.toZ a).toNat) (Af b:Int)) (GI.toZ a).toNat):Int32)
def Zo(b:Int)(f:Int32):Option (Int32×Int):=
(qR b).bind λ(g,a)=>
if(Bc a 0)then
some (0,a)
else
(dL g f).bind λh=>
some (h,0)
def PG(a:Int)(b f:LX):Option Int:=
if((Bc a 9)&&(Bc a 10))then
some 8
else
some 0
abbrev Wi:=Option (Int32×Int)
def tU(g:Int32)(a:Int)(b f:LX):Wi:=
(Jg (Nf a 0)).bind λ_=>
some ((Ci g (GI.toZ a).toNat),0)
def fD:=tU
def QO(j6:Int32->Int->LX->LX->Wi)(Sf:Int32->Int->Wi)(b:LX)(a:Int)(f:LX)(g:Int32)(h:Int):Wi:=
if(Cq h 16)then
(Ap b h).bind λm=>
(Ap f h).bind λ_=>
(Ap f h).bind λn=>
Sf (Ad g (Bf m n)) (Ad h 1)
else
j6 g a b f
def Xh(b:LX)(a:Int)(f:LX):Nat->Int32->Int->Wi
|0,_,_=>none
|q+1,g,h=>QO fD (Xh b a f q) b a f g h
def eO b a f:=Xh b a f Ax
def eN(j4:LX->Int->LX->Int32->Int->Wi)(a:Int)(b f:LX):Wi:=
(PG a b f).bind λk=>
if(Bc k 0)then
some (0,k)
else
(Jg (Nf (Ao a 1) 0)).bind λ_=>
j4 b a f (Dl (1:Int32) (GI.toZ (Ao a 1)).toNat) 0
def bI:=eN eO
def gI(a:Int):Option Int32:=
if(geq a 0)then
some 4
else
if(Cq a 4)then
some 2
else
some 1
abbrev Wb:=Option (Int×LX×LX×Int)
def Ai0(g:Int)(b f:LX):Wb:=
some (g,b,f,0)
def uS:=Ai0
def QM(j6:Int->LX->LX->Wb)(Sf:Int->LX->Wb)(h:Int32)(f:LX)(g a:Int)(b:LX):Wb:=
if(Cq a 16)then
(Ap f a).bind λm=>
if(geq m 0)then
Sf (Ad a 1) b
else
if((Cq m 0)==(Cq h 0))then
(Ap b a).bind λ_=>
(Ap b a).bind λo=>
(gI a).bind λp=>
(Ap b a).bind λ_=>
(Ng b a (Ad o p)).bind λu=>
Sf (Ad a 1) u
else
(Ap b a).bind λ_=>
(Ap b a).bind λv=>
(gI a).bind λw=>
(Ap b a).bind λ_=>
(Ng b a (Ao v w)).bind λy=>
Sf (Ad a 1) y
else
j6 g b f
def Xk(h:Int32)(f:LX)(g:Int):Nat->Int->LX->Wb
|0,_,_=>none
|q+1,a,b=>QM uS (Xk h f g q) h f g a b
def uE h f g:=Xk h f g Ax
def fE(j4:Int32->LX->Int->Int->LX->Wb)(g:Int)(k f:LX)(h:Int32):Wb:=
(PG g k f).bind λn=>
if(Bc n 0)then
some (0,(List.replicate 16 (0:Int32)),(List.replicate 16 (0:Int32)),n)
else
if(geq h 0)then
some (g,k,f,0)
else
j4 h f g 0 k
def jP:=fE uE
abbrev qO:=Option (Int×LX×LX×Int)
def xG(g:Int32)(b:Int)(f a:LX):qO:=
(Ap (Xt a 1 ((16:Int)-(1:Int)) (YV a 0 ((16:Int)-(0:Int)))) 0).bind λ_=>
(Ng (Xt a 1 ((16:Int)-(1:Int)) (YV a 0 ((16:Int)-(0:Int)))) 0 g).bind λk=>
some (b,f,k,0)
def iV:=xG
def WT(j2:Int32->Int->LX->LX->qO)(b:Int)(f a:LX)(g:Int32):qO:=
(PG b f a).bind λh=>
if(Bc h 0)then
some (0,(List.replicate 16 (0:Int32)),(List.replicate 16 (0:Int32)),h)
else
(
(gS 16 1 16).bind λ_=>
(gS 16 0 16).bind λ_=>
j2 g b f a)
def sV:=WT iV
def aU(a:Int)(b f:LX)(g h:Int32):Option (Int×LX×LX):=
(jP a b f h).bind λ(k,m,n,v)=>
(sV k m n g).bind λ(o,p,u,w)=>
some (o,p,u)
def dB(b:Int)(f g:LX)(a:Int32):Option (Int32×Int×LX×LX×Int):=
(bI b f g).bind λ(h,k)=>
if(Bc k 0)then
some (0,0,(List.replicate 16 (0:Int32)),(List.replicate 16 (0:Int32)),k)
else
(aU b f g a (Ao a h)).bind λ(m,n,o)=>
some ((Ao a h),m,n,o,0)
def Xd(a:Int)(b:Int32)(f:Int)(g h:LX)(k:Int32):Option (Int32×Int×Int32×Int×LX×LX×Int):=
(AK a b f g h).bind λm=>
if(Bc m 0)then
some (0,0,0,0,(List.replicate 16 (0:Int32)),(List.replicate 16 (0:Int32)),m)
else
(Zo a b).bind λ(n,y)=>
(dB f g h (Ao k n)).bind λ(o,p,u,v,w)=>
(
some (o,a,k,p,u,v,w))
def sO(a:Int32):Option UInt32:=
some (Zy (Dl (Af a:UInt32) (GI.toZ (1:UInt64)).toNat) (Af (Ci a (GI.toZ (31:UInt64)).toNat):UInt32))
abbrev Dv:=Option (LU×Int)
def vZ(k:LU):Dv:=
some (k,0)
def bL:=vZ
def Vz(j12:LU->Dv)(At5:Int-> (List (Int×Int32×(Int×LX×LX×Unit)×Unit))->LU->Dv)(b:LX)(a f g:Int)(o:List (Int×Int32×(Int×LX×LX×Unit)×Unit))(k:LU):Dv:=
if(Cq g (Ac b))then
(Ap b g).bind λ_=>
(Ap b g).bind λac=>
(Jg (Bc a 0)).bind λ_=>
(Ap o (Gx g a)).bind λ_=>
(Ap o (Gx g a)).bind λp=>
(Xd p.1 p.2.1 p.2.2.1.1 p.2.2.1.2.1 p.2.2.1.2.2.1 ac).bind λ(u,ad,ae,v,af,ag,w)=>
if(Bc w 0)then
some (([]:LU),w)
else
(Ng o (Gx g a) (ad,ae,(v,af,ag,()),())).bind λah=>
(sO u).bind λai=>
(Du k ([ai]:LU)).bind λaj=>
At5 (Ad g 1) ah aj
else
j12 k
def Mk(b:LX)(a f:Int):Nat->Int-> (List (Int×Int32×(Int×LX×LX×Unit)×Unit))->LU->Dv
|0,_,_,_=>none
|q+1,g,o,k=>Vz bL (Mk b a f q) b a f g o k
def aD b a f:=Mk b a f Ax
def cJ(j10:LX->Int->Int->Int-> (List (Int×Int32×(Int×LX×LX×Unit)×Unit))->LU->Dv)(a f:Int)(b:LX)(h:List (Int×Int32×(Int×LX×LX×Unit)×Unit)):Dv:=
j10 b a f 0 h ([]:LU)
def IC:=cJ aD
def cH(j9:Int->Int->LX-> (List (Int×Int32×(Int×LX×LX×Unit)×Unit))->Dv)(bk7:Int-> (List (Int×Int32×(Int×LX×LX×Unit)×Unit))->Dv)(a f:Int)(m b:LX)(n:Int)(h:List (Int×Int32×(Int×LX×LX×Unit)×Unit)):Dv:=
if(Cq n 6)then
(Aaa f m).bind λ(ak,al,u,am,an,v)=>
(Ap h n).bind λ_=>
(Ng h n (ak,al,(u,am,an,()),())).bind λao=>
bk7 (Ad n 1) ao
else
j9 a f b h
def JF(a f:Int)(m b:LX):Nat->Int-> (List (Int×Int32×(Int×LX×LX×Unit)×Unit))->Dv
|0,_,_=>none
|q+1,n,h=>cH IC (JF a f m b q) a f m b n h
def Zf a f m b:=JF a f m b Ax
def IK(j7:Int->Int->LX->LX->Int-> (List (Int×Int32×(Int×LX×LX×Unit)×Unit))->Dv)(a f:Int)(m y:LX):Dv:=
(QR a f y).bind λaa=>
if(Bc aa 0)then
some (([]:LU),aa)
else
(Adb a y).bind λ(b,ab)=>
if(Bc ab 0)then
some (([]:LU),ab)
else
j7 a f m b 0 (List.replicate 6 ((0:Int),(0:Int32),((0:Int),(List.replicate 16 (0:Int32)),(List.replicate 16 (0:Int32)),()),()))
def KF:=IK Zf
def wD:Option (Int×Int×UInt64×UInt64):=
some (10,10,16384,16384)
abbrev Mj:=Option ((List (Int×Int×UInt64×UInt64×Unit)))
def yB(a:List (Int×Int×UInt64×UInt64×Unit)):Mj:=
some a
def dJ:=yB
def cF(j6:(List (Int×Int×UInt64×UInt64×Unit))->Mj)(Sf:Int-> (List (Int×Int×UInt64×UInt64×Unit))->Mj)(b:Int)(a:List (Int×Int×UInt64×UInt64×Unit)):Mj:=
if(Cq b 6)then
(wD).bind λ(f,g,h,k)=>
(Ap a b).bind λ_=>
(Ng a b (f,g,h,k,())).bind λm=>
Sf (Ad b 1) m
else
j6 a
def IW:Nat->Int-> (List (Int×Int×UInt64×UInt64×Unit))->Mj
|0,_,_=>none
|q+1,b,a=>cF dJ (IW q) b a
def LN:=IW Ax
def JI(j4:Int-> (List (Int×Int×UInt64×UInt64×Unit))->Mj):Mj:=
j4 0 (List.replicate 6 ((0:Int),(0:Int),(0:UInt64),(0:UInt64),()))
def LK:=JI LN
def Ki(b:LB)(a:Int):Option Int:=
if(((Cq a 0)||(Ed a 330000))||(Bc (Ac b) (Al0 (Ad a 7) (GI.toZ (3:UInt64)).toNat)))then
some 8
else
if(Ed (Fa a 7) 0)then
(Ap b (Ao (Ac b) 1)).bind λf=>
(Jg (Nf (Fa a 7) 0)).bind λ_=>
if(Bc (Ci f (GI.toZ (Fa a 7)).toNat) 0)then
some 8
else
some 0
else
some 0
def uG(a b:Int)(f g:UInt64):Option Int:=
if(!((geq (Fm (tP a 0) 24) a)&&((geq (Fm (tP b 0) 24) b)&&((geq (Fm f 68719476735) f)&&((geq (Fm g 68719476735) g)&&true)))))then
some 8
else
some 0
def eA:=uG
def QH(j4:Int->Int->UInt64->UInt64->Option Int)(a b:Int)(f g:UInt64):Option Int:=
(
(
j4 a b f g))
def eC:=QH eA
def QL(j3:Int->Int->UInt64->UInt64->Option Int)(a b:Int)(f g:UInt64):Option Int:=
(
(
j3 a b f g))
def aA:=QL eC
def QF(a f:Int)(g h:UInt64)(b:UInt32):Option (Int×UInt32):=
(Jg (Nf a 0)).bind λ_=>
if(geq (Ci b (GI.toZ a).toNat) 0)then
some (0,b)
else
(Jg (Nf a 0)).bind λ_=>
some (1,(Ao b (Dl (1:UInt32) (GI.toZ a).toNat)))
def iE(a:LB)(b:Int):Option (LB×Int):=
(By a).bind λf=>
some (f,b)
abbrev Eu:=Option (LB×Int×Int)
def yC(f:Int)(o:LB):Eu:=
some (o,f,0)
def kQ:=yC
def yZ(Beg:UInt64->Int->Int->LB->Eu)(b:UInt64)(a:Int)(m:UInt64)(h f:Int)(w:LB):Eu:=
(Jg (Nf (Fm h (Ao 8 (Fa f 7))) 0)).bind λ_=>
Beg (Ci m (GI.toZ (Fm h (Ao 8 (Fa f 7)))).toNat) (Ao h (Fm h (Ao 8 (Fa f 7)))) (Ad f (Fm h (Ao 8 (Fa f 7)))) w
def kP Beg:=yZ Beg
def iW(j19:UInt64->Int->Int->LB->Eu)(b:UInt64)(a:Int)(m:UInt64)(h f:Int)(u:LB):Eu:=
(Ap u (Ao (Ac u) 1)).bind λ_=>
(Jg (Nf (Fm h (Ao 8 (Fa f 7))) 0)).bind λ_=>
(Jg (Nf (Fa f 7) 0)).bind λ_=>
(Ap u (Ao (Ac u) 1)).bind λad=>
(Ap u (Ao (Ac u) 1)).bind λ_=>
Option.bind (Ng u (Ao (Ac u) 1) (wM ad (Dl (Af (Fa m (Ao (Dl (1:UInt64) (GI.toZ (Fm h (Ao 8 (Fa f 7)))).toNat) 1)):UInt8) (GI.toZ (Fa f 7)).toNat))) λw=>
j19 m h f w
def XH Beg b a:=iW (kP Beg b a) b a
def XK(j18:UInt64->Int->Int->LB->Eu)(j21:Int->LB->Eu)(b:UInt64)(a:Int)(m:UInt64)(h f:Int)(o:LB):Eu:=
if(Ed h 0)then
if(geq (Fa f 7) 0)then
(Du o ([(0:UInt8)]:LB)).bind λab=>
j18 m h f ab
else
j18 m h f o
else
j21 f o
def Sa(b:UInt64)(a:Int):Nat->UInt64->Int->Int->LB->Eu
|0,_,_,_,_=>none
|q+1,m,h,f,o=>XK (XH (Sa b a q) b a) kQ b a m h f o
def zL b a:=Sa b a Ax
def Alj(g:Int)(p:LB):Eu:=
some (p,g,0)
def wZ:=Alj
def Al2(Beh:UInt64->Int->Int->LB->Eu)(b:UInt64)(a:Int)(n:UInt64)(k g:Int)(y:LB):Eu:=
(Jg (Nf (Fm k (Ao 8 (Fa g 7))) 0)).bind λ_=>
Beh (Ci n (GI.toZ (Fm k (Ao 8 (Fa g 7)))).toNat) (Ao k (Fm k (Ao 8 (Fa g 7)))) (Ad g (Fm k (Ao 8 (Fa g 7)))) y
def xS Beh:=Al2 Beh
def xK(j26:UInt64->Int->Int->LB->Eu)(b:UInt64)(a:Int)(n:UInt64)(k g:Int)(v:LB):Eu:=
(Ap v (Ao (Ac v) 1)).bind λ_=>
(Jg (Nf (Fm k (Ao 8 (Fa g 7))) 0)).bind λ_=>
(Jg (Nf (Fa g 7) 0)).bind λ_=>
(Ap v (Ao (Ac v) 1)).bind λae=>
(Ap v (Ao (Ac v) 1)).bind λ_=>
Option.bind (Ng v (Ao (Ac v) 1) (wM ae (Dl (Af (Fa n (Ao (Dl (1:UInt64) (GI.toZ (Fm k (Ao 8 (Fa g 7)))).toNat) 1)):UInt8) (GI.toZ (Fa g 7)).toNat))) λy=>
j26 n k g y
def zP Beh b a:=xK (xS Beh b a) b a
def yU(j25:UInt64->Int->Int->LB->Eu)(j28:Int->LB->Eu)(b:UInt64)(a:Int)(n:UInt64)(k g:Int)(p:LB):Eu:=
if(Ed k 0)then
if(geq (Fa g 7) 0)then
(Du p ([(0:UInt8)]:LB)).bind λw=>
j25 n k g w
else
j25 n k g p
else
j28 g p
def jG(b:UInt64)(a:Int):Nat->UInt64->Int->Int->LB->Eu
|0,_,_,_,_=>none
|q+1,n,k,g,p=>yU (zP (jG b a q) b a) wZ b a n k g p
def xI b a:=jG b a Ax
def rC(j15:UInt64->Int->UInt64->Int->Int->LB->Eu)(j22:UInt64->Int->UInt64->Int->Int->LB->Eu)(ac:LB)(aa:Int)(b:UInt64)(a:Int):Eu:=
(Ki ac aa).bind λaf=>
if(Bc af 0)then
some (([]:LB),0,8)
else
if((Cq a 0)||(Ed a 64))then
some (([]:LB),0,2)
else
if(Cq a 64)then
(Jg (Nf a 0)).bind λ_=>
if(Bc (Ci b (GI.toZ a).toNat) 0)then
some (([]:LB),0,16)
else
if(Ed (Ad aa a) 330000)then
some (([]:LB),0,18)
else
(iE ac aa).bind λ(ag,ah)=>
j15 b a b a ah ag
else
if(Ed (Ad aa a) 330000)then
some (([]:LB),0,18)
else
(iE ac aa).bind λ(ab,ai)=>
j22 b a b a ai ab
def YB:=rC zL xI
def AW(b:UInt32)(a:Int):Option Bool:=
(Jg (Nf a 0)).bind λ_=>
some (Nf (Ci b (GI.toZ a).toNat) 48)
def lG(a:Int):Option (Int×Int):=
if((Cq a 0)||(Ed a 48))then
some (0,2)
else
some ((Fm (Ad a 1) 48),0)
def dA(b:LB)(f a:Int):Option (LB×Int×Int):=
(Ki b f).bind λg=>
if(Bc g 0)then
some (([]:LB),0,g)
else
(lG a).bind λ(k,h)=>
if(Bc h 0)then
some (([]:LB),0,h)
else
(Jg (Nf a 0)).bind λ_=>
(YB b f (Ao (Dl (1:UInt64) (GI.toZ a).toNat) 1) k).bind λ(m,n,o)=>
some (m,n,o)
abbrev jH:=Option (LB×Int×Int)
def eQ(b:LB)(f h:Int)(k:UInt32)(m:Int):jH:=
(dA b f h).bind λ(p,u,n)=>
if(Bc n 0)then
some (([]:LB),0,n)
else
(YB p u (Af k:UInt64) m).bind λ(v,w,y)=>
some (v,w,y)
def QP:=eQ
def fJ(j2:LB->Int->Int->UInt32->Int->jH)(b:LB)(f:Int)(g:UInt32)(a:Int):jH:=
(Ki b f).bind λo=>
if(Bc o 0)then
some (([]:LB),0,o)
else
if((Cq a 0)||(Ed a 24))then
some (([]:LB),0,2)
else
(Jg (Nf a 0)).bind λ_=>
(Jg (Nf a 0)).bind λ_=>
(AW g a).bind λaa=>
if aa then
j2 b f 48 g 32
else
j2 b f (Af (Ci g (GI.toZ a).toNat):Int) (Fa g (Ao (Dl (1:UInt32) (GI.toZ a).toNat) 1)) a
def lH:=fJ QP
abbrev Kb:=Option (LB×Int×Int×Int×UInt64×UInt64×Int)
def JX(k u n:Int)(a:UInt64)(b:UInt32)(o:UInt64)(m:LB):Kb:=
(
(
some (m,k,u,n,(Ad a (Ao (Af b:UInt64) (Ci a (GI.toZ (4:UInt64)).toNat))),o,0)))
def bM:=JX
def dN(j10:Int->Int->Int->UInt64->UInt32->UInt64->LB->Kb)(b:UInt32)(k n:Int)(a o:UInt64)(m:LB)(u:Int):Kb:=
j10 k u n a b o m
def eL:=dN bM
def eT(j9:UInt32->Int->Int->UInt64->UInt64->LB->Int->Kb)(b:UInt32)(f:Int)(a:UInt64)(k:Int)(m:LB)(n:Int)(o:UInt64):Kb:=
if(Ed f 0)then
(Jg (Nf f 0)).bind λ_=>
if(Cq (Ad a (Ao (Af b:UInt64) (Ci a (GI.toZ (4:UInt64)).toNat))) (Dl (16:UInt64) (GI.toZ f).toNat))then
j9 b k n a o m (Ao f 1)
else
if(Cq f 24)then
(Jg (Nf f 0)).bind λ_=>
if(Ed (Ad a (Ao (Af b:UInt64) (Ci a (GI.toZ (4:UInt64)).toNat))) (Dl (32:UInt64) (GI.toZ f).toNat))then
j9 b k n a o m (Ad f 1)
else
j9 b k n a o m f
else
j9 b k n a o m f
else
if(Cq f 24)then
(Jg (Nf f 0)).bind λ_=>
if(Ed (Ad a (Ao (Af b:UInt64) (Ci a (GI.toZ (4:UInt64)).toNat))) (Dl (32:UInt64) (GI.toZ f).toNat))then
j9 b k n a o m (Ad f 1)
else
j9 b k n a o m f
else
j9 b k n a o m f
def DU:=eT eL
def eU(j8:UInt32->Int->UInt64->Int->LB->Int->UInt64->Kb)(b:UInt32)(f h:Int)(a g:UInt64)(y k:Int)(m:LB):Kb:=
if(Bc y 0)then
some (([]:LB),0,0,0,0,0,y)
else
(QF f h a g b).bind λ(ag,p)=>
if(geq ag 1)then
if(Ed h 0)then
(Jg (Nf h 0)).bind λ_=>
if(Cq (Ad g (Ao (Af p:UInt64) (Ci g (GI.toZ (4:UInt64)).toNat))) (Dl (16:UInt64) (GI.toZ h).toNat))then
j8 b f a k m (Ao h 1) (Ad g (Ao (Af p:UInt64) (Ci g (GI.toZ (4:UInt64)).toNat)))
else
if(Cq h 24)then
(Jg (Nf h 0)).bind λ_=>
if(Ed (Ad g (Ao (Af p:UInt64) (Ci g (GI.toZ (4:UInt64)).toNat))) (Dl (32:UInt64) (GI.toZ h).toNat))then
j8 b f a k m (Ad h 1) (Ad g (Ao (Af p:UInt64) (Ci g (GI.toZ (4:UInt64)).toNat)))
else
j8 b f a k m h (Ad g (Ao (Af p:UInt64) (Ci g (GI.toZ (4:UInt64)).toNat)))
else
j8 b f a k m h (Ad g (Ao (Af p:UInt64) (Ci g (GI.toZ (4:UInt64)).toNat)))
else
if(Cq h 24)then
(Jg (Nf h 0)).bind λ_=>
if(Ed (Ad g (Ao (Af p:UInt64) (Ci g (GI.toZ (4:UInt64)).toNat))) (Dl (32:UInt64) (GI.toZ h).toNat))then
j8 b f a k m (Ad h 1) (Ad g (Ao (Af p:UInt64) (Ci g (GI.toZ (4:UInt64)).toNat)))
else
j8 b f a k m h (Ad g (Ao (Af p:UInt64) (Ci g (GI.toZ (4:UInt64)).toNat)))
else
j8 b f a k m h (Ad g (Ao (Af p:UInt64) (Ci g (GI.toZ (4:UInt64)).toNat)))
else
j8 b f a k m h g
def QI:=eU DU
def dS(j7:UInt32->Int->Int->UInt64->UInt64->Int->Int->LB->Kb)(b:UInt32)(v:LB)(w f h:Int)(a g:UInt64):Kb:=
(QF f h a g b).bind λ(ad,ae)=>
(YB v w (Af ad:UInt64) 1).bind λ(aa,ab,ac)=>
if((geq ac 0)&&(geq ad 0))then
(YB aa ab (Af ae:UInt64) f).bind λ(ah,ai,aj)=>
j7 b f h a g aj ai ah
else
if(geq ac 0)then
(lH aa ab ae h).bind λ(ak,al,am)=>
j7 b f h a g am al ak
else
j7 b f h a g ac ab aa
def eG:=dS QI
def dZ(j6:UInt32->LB->Int->Int->Int->UInt64->UInt64->Kb)(v:LB)(w f h:Int)(a g:UInt64)(b:UInt32):Kb:=
(Ki v w).bind λan=>
if(Bc an 0)then
some (([]:LB),0,0,0,0,0,8)
else
(aA f h a g).bind λao=>
if(Bc ao 0)then
some (([]:LB),0,0,0,0,0,8)
else
j6 b v w f h a g
def iY:=dZ eG
abbrev Cm:=Option (UInt32×Int)
def qX(h:UInt32):Cm:=
some (h,0)
def ZZ:=qX
def LO(j30:UInt32->Cm)(Box:UInt32->Int->Cm)(a:LB)(b:LU)(h:UInt32)(m:Int):Cm:=
if(Cq m (Ac a))then
(Ap a m).bind λp=>
(Ap b (GI.toZ (Zy (Af h:UInt8) p))).bind λ_=>
(Ap b (GI.toZ (Zy (Af h:UInt8) p))).bind λu=>
Box (Zy (Ci h (GI.toZ (8:UInt64)).toNat) u) (Ad m 1)
else
j30 h
def Ug(a:LB)(b:LU):Nat->UInt32->Int->Cm
|0,_,_=>none
|q+1,h,m=>LO ZZ (Ug a b q) a b h m
def aR a b:=Ug a b Ax
def ZK(j28:LB->LU->UInt32->Int->Cm)(f:UInt32)(a:LB)(b:LU):Cm:=
j28 a b f 0
def YX:=ZK aR
def ZF(j27:UInt32->LB->LU->Cm)(f:UInt32)(a:LB)(b:LU):Cm:=
j27 f a b
def HX:=ZF YX
def pQ(Ir:Int->LU->Cm)(f:UInt32)(a:LB)(g:Int)(o:LU):Cm:=
Ir (Ad g 1) o
def aY Ir:=pQ Ir
def ZA(j24:Int->LU->Cm)(f:UInt32)(a:LB)(g:Int)(k:UInt32)(b:LU):Cm:=
(Ap b g).bind λ_=>
(Ng b g k).bind λo=>
j24 g o
def IX Ir f a:=ZA (aY Ir f a) f a
def KA(j23:Int->UInt32->LU->Cm)(At4:UInt32->Int->Cm)(f:UInt32)(a:LB)(g:Int)(b:LU)(k:UInt32)(n:Int):Cm:=
if(Cq n 8)then
At4 (Zy (Ci k (GI.toZ (1:UInt64)).toNat) (Bf 3988292384 (Fa k 1))) (Ad n 1)
else
j23 g k b
def Uw(Ir:Int->LU->Cm)(f:UInt32)(a:LB)(g:Int)(b:LU):Nat->UInt32->Int->Cm
|0,_,_=>none
|q+1,k,n=>KA (IX Ir f a) (Uw Ir f a g b q) f a g b k n
def YO Ir f a g b:=Uw Ir f a g b Ax
def JV(j21:Int->LU->UInt32->Int->Cm)(j26:UInt32->LB->LU->Cm)(f:UInt32)(a:LB)(g:Int)(b:LU):Cm:=
if(Cq g 256)then
j21 g b (Af g:UInt32) 0
else
j26 f a b
def Qb(f:UInt32)(a:LB):Nat->Int->LU->Cm
|0,_,_=>none
|q+1,g,b=>JV (YO (Qb f a q) f a) HX f a g b
def ZV f a:=Qb f a Ax
def eZ(j16:UInt32->LB->Int->LU->Cm)(f:UInt32)(a:LB):Cm:=
if(Ed (Ac a) 100000)then
some (0,4)
else
j16 f a 0 (List.replicate 256 (0:UInt32))
def kM:=eZ ZV
def BQ(b:LB):Option (UInt32×Int):=
(kM 4294967295 b).bind λ(f,a)=>
if(Bc a 0)then
some (0,a)
else
some ((Agu f),0)
def Adn(b:UInt64)(a:Int):Option Bool:=
if(geq a 8)then
some true
else
(Jg (Nf (Bf 8 a) 0)).bind λ_=>
some (geq (Ci b (GI.toZ (Bf 8 a)).toNat) 0)
abbrev FM:=Option (LB×Int)
def Aca(a:LB):FM:=
some (a,0)
def pJ:=Aca
def cW(j6:LB->FM)(Sf:Int->LB->FM)(f:UInt64)(g:LB)(b:Int)(a:LB):FM:=
if(Cq b (Ac g))then
(Jg (Nf (Bf 8 b) 0)).bind λ_=>
(Ap a b).bind λ_=>
(Ng a b (Af (Ci f (GI.toZ (Bf 8 b)).toNat):UInt8)).bind λk=>
Sf (Ad b 1) k
else
j6 a
def GX(f:UInt64)(g:LB):Nat->Int->LB->FM
|0,_,_=>none
|q+1,b,a=>cW pJ (GX f g q) f g b a
def qN f g:=GX f g Ax
def rJ(j4:UInt64->LB->Int->LB->FM)(f:UInt64)(h:Int):FM:=
if((Cq h 1)||(Ed h 8))then
some (([]:LB),2)
else
(Adn f h).bind λm=>
if(!m)then
some (([]:LB),16)
else
(mkI h (0:UInt8)).bind λg=>
(Jg (geq h h)).bind λ_=>
j4 f g 0 g
def DM:=rJ qN
def WX(f:LB):Option (LB):=
some f
def Zd:=WX
def Dn(j16:LB->Option (LB))(rQ:Int->LB->Option (LB))(a:List LB)(g:Int)(f:LB):Option (LB):=
if(Cq g (Ac a))then
(Ap a g).bind λo=>
(Du f o).bind λp=>
rQ (Ad g 1) p
else
j16 f
def Cp(a:List LB):Nat->Int->LB->Option (LB)
|0,_,_=>none
|q+1,g,f=>Dn Zd (Cp a q) a g f
def Jq a:=Cp a Ax
def Jr(j14:(List LB)->Int->LB->Option (LB))(a:List LB)(k:LB):Option (LB):=
j14 a 0 k
def Ew:=Jr Jq
def Jo(j13:(List LB)->LB->Option (LB))(b:Int)(a:List LB):Option (LB):=
if(Ed (Ao b (Ao (0:Int) (0:Int))) 0)then
(gS 0 0 0).bind λ_=>
(mkI (Ao b (Ao (0:Int) (0:Int))) (0:UInt8)).bind λu=>
(Du ([]:LB) u).bind λm=>
(gS (Ac m) 0 0).bind λ_=>
j13 a (YV m 0 ((0:Int)-(0:Int)))
else
j13 a ([]:LB)
def Jt:=Jo Ew
def Jp(j12:Int-> (List LB)->Option (LB))(a:List LB)(b:Int):Option (LB):=
if(Cq b 0)then
none
else
j12 b a
def Ex:=Jp Jt
def Dx(j11:(List LB)->Int->Option (LB))(bk9:Int->Int->Option (LB))(a:List LB)(b h:Int):Option (LB):=
if(Cq h (Ac a))then
(Ap a h).bind λn=>
if(Cq (Ad b (Ac n)) 0)then
none
else
bk9 (Ad b (Ac n)) (Ad h 1)
else
j11 a b
def Cu(a:List LB):Nat->Int->Int->Option (LB)
|0,_,_=>none
|q+1,b,h=>Dx Ex (Cu a q) a b h
def Ql a:=Cu a Ax
def Qj(j9:(List LB)->Int->Int->Option (LB))(a:List LB):Option (LB):=
j9 a 0 0
def Fh:=Qj Ql
abbrev Bz:=Option (LB×Int)
def ZJ(u:Int)(p:LB):Bz:=
(BQ p).bind λ(af,ac)=>
if(Bc ac 0)then
some (([]:LB),ac)
else
(DM (Af af:UInt64) 4).bind λ(m,h)=>
if(Bc h 0)then
some (([]:LB),h)
else
(Fh ([p,m]:List LB)).bind λag=>
some (ag,0)
def FH:=ZJ
def bK(lW:Int-> (List (Int×Int×UInt64×UInt64×Unit))->Int->LB->Bz)(a:LU)(b f g:Int)(k:List (Int×Int×UInt64×UInt64×Unit))(n:Int)(v:LB):Bz:=
lW (Ad g 1) k n v
def FC lW:=bK lW
def YT(Aiq:Int->Int->LB->Bz)(h:Int)(a:LU)(g b f:Int)(k:List (Int×Int×UInt64×UInt64×Unit))(m:LB)(o n:Int)(aa:LB):Bz:=
Aiq (Ad o 1) (Ad n 1) aa
def FN Aiq:=YT Aiq
def FJ(j48:Int->Int->LB->Bz)(h:Int)(a:LU)(g b f:Int)(k:List (Int×Int×UInt64×UInt64×Unit))(m:LB)(o n:Int)(y:LB):Bz:=
(Ap m (Br o 8)).bind λ_=>
(Ap m (Br o 8)).bind λah=>
(Jg (Nf (Gx o 8) 0)).bind λ_=>
(Ap y (Br n 8)).bind λ_=>
(Jg (Nf (Gx n 8) 0)).bind λ_=>
(Ap y (Br n 8)).bind λai=>
(Ap y (Br n 8)).bind λ_=>
Option.bind (Ng y (Br n 8) (wM ai (Dl (Fa (Ci ah (GI.toZ (Gx o 8)).toNat) 1) (GI.toZ (Gx n 8)).toNat))) λaa=>
j48 o n aa
def Wn Aiq h a g b f k m:=FJ (FN Aiq h a g b f k m) h a g b f k m
def Wo(j47:Int->Int->LB->Bz)(j50:Int-> (List (Int×Int×UInt64×UInt64×Unit))->Int->LB->Bz)(a:LU)(b f h g:Int)(k:List (Int×Int×UInt64×UInt64×Unit))(m:LB)(o n:Int)(v:LB):Bz:=
if(Cq o h)then
if(geq (Gx n 8) 0)then
(Du v ([(0:UInt8)]:LB)).bind λaj=>
j47 o n aj
else
j47 o n v
else
j50 g k n v
def Gz(lW:Int-> (List (Int×Int×UInt64×UInt64×Unit))->Int->LB->Bz)(a:LU)(b f h g:Int)(k:List (Int×Int×UInt64×UInt64×Unit))(m:LB):Nat->Int->Int->LB->Bz
|0,_,_,_=>none
|q+1,o,n,v=>Wo (Wn (Gz lW a b f h g k m q) h a g b f k m) (FC lW a b f) a b f h g k m o n v
def YY lW a b f h g k m:=Gz lW a b f h g k m Ax
def We(j44:Int->Int-> (List (Int×Int×UInt64×UInt64×Unit))->LB->Int->Int->LB->Bz)(j52:Int->LB->Bz)(a:LU)(b f g:Int)(w:List (Int×Int×UInt64×UInt64×Unit))(u:Int)(p:LB):Bz:=
if(Cq g (Ac a))then
(Ap a g).bind λ_=>
(Ap a g).bind λak=>
(Jg (Bc b 0)).bind λ_=>
(Ap w (Gx g b)).bind λ_=>
(Ap w (Gx g b)).bind λab=>
(iY ([]:LB) 0 ab.1 ab.2.1 ab.2.2.1 ab.2.2.2.1 ak).bind λ(m,h,al,am,an,ao,ad)=>
if(Bc ad 0)then
some (([]:LB),ad)
else
(Jg (Bc b 0)).bind λ_=>
(Ap w (Gx g b)).bind λ_=>
(Ng w (Gx g b) (al,am,an,ao,())).bind λk=>
j44 h g k m 0 u p
else
j52 u p
def Iy(a:LU)(b f:Int):Nat->Int-> (List (Int×Int×UInt64×UInt64×Unit))->Int->LB->Bz
|0,_,_,_,_=>none
|q+1,g,w,u,p=>We (YY (Iy a b f q) a b f) FH a b f g w u p
def EP a b f:=Iy a b f Ax
def KX(j27:LU->Int->Int->Int-> (List (Int×Int×UInt64×UInt64×Unit))->Int->LB->Bz)(b f:Int)(ap aq:LX):Bz:=
(KF b f ap aq).bind λ(a,ae)=>
if(Bc ae 0)then
some (([]:LB),ae)
else
(LK).bind λar=>
j27 a b f 0 ar 0 ([]:LB)
def Mx:=KX EP
def Wf(b f g:Int)(h k:LB)(m:LX)(n:List LB)(o:LB)(p:Bool)(u a:Int):Option (Int×Int×Int×LB×LB×LX×(List LB)×LB×Bool×Int×Int):=
some (b,f,g,h,([]:LB),([]:LX),([]:List LB),([]:LB),false,a,a)
abbrev Cf:=Option (Int×Int×Int×LB×LB×LX×(List LB)×LB×Bool×Int×Int)
def gE(a b g:Int)(f:LB)(h:Bool)(k:Int)(y:LB)(w:LX)(v:List LB)(m:LB):Cf:=
some (a,b,g,f,y,w,v,m,h,k,0)
def PB:=gE
def BK(rQ:Int->LB->LX-> (List LB)->Cf)(p:Int)(n:LB)(a b g:Int)(f:LB)(h:Bool)(k o:Int)(m:LB)(u:Int)(ah:LB)(ai:LX)(aj:List LB):Cf:=
rQ (Ad u 1) ah ai aj
def Pg rQ:=BK rQ
def Ua(j24:Int->LB->LX-> (List LB)->Cf)(p:Int)(n:LB)(a b g:Int)(f:LB)(h:Bool)(k o:Int)(m:LB)(u ad:Int)(ae:LB)(af:LX)(ag:List LB):Cf:=
if(Bc ad 0)then
(Wf a b g f ae af ag m h k ad).bind λ(au,av,aw,ax,ay,az,ba,bb,bc,bd,be)=>
some (au,av,aw,ax,ay,az,ba,bb,bc,bd,be)
else
j24 u ae af ag
def Jc rQ p n a b g f h k o m:=Ua (Pg rQ p n a b g f h k o m) p n a b g f h k o m
def iI(j23:Int->Int->LB->LX-> (List LB)->Cf)(p:Int)(n:LB)(a b g:Int)(f:LB)(h:Bool)(k o:Int)(m:LB)(u:Int)(ab:LX)(v:List LB)(ak:Int):Cf:=
j23 u ak ([]:LB) ab v
def gG rQ p n a b g f h k o m:=iI (Jc rQ p n a b g f h k o m) p n a b g f h k o m
def PZ(j23:Int->Int->LB->LX-> (List LB)->Cf)(p:Int)(n:LB)(a b g:Int)(f:LB)(h:Bool)(k o:Int)(m:LB)(u:Int)(ac:List LB):Cf:=
j23 u 0 ([]:LB) ([]:LX) ac
def OT rQ p n a b g f h k o m:=PZ (Jc rQ p n a b g f h k o m) p n a b g f h k o m
def PD(j23:Int->Int->LB->LX-> (List LB)->Cf)(j21:Int->LX-> (List LB)->Int->Cf)(j22:Int-> (List LB)->Cf)(p:Int)(n:LB)(a b g:Int)(f:LB)(h:Bool)(k o:Int)(m:LB)(u:Int)(aa:LB)(w:LX)(v:List LB):Cf:=
(Xl b aa).bind λ(bf,al)=>
if(Bc al 0)then
j23 u al aa w v
else
(Du w bf).bind λab=>
if(Cq (Ac ab) (Bf o a))then
j23 u 0 ([]:LB) ab v
else
(Nh f).bind λ(bg,am)=>
if(Bc am 0)then
j21 u ab v am
else
(Mx a b bg ab).bind λ(bh,an)=>
if(Bc an 0)then
j21 u ab v an
else
(Du v ([bh]:List LB)).bind λac=>
j22 u ac
def PY rQ p n a b g f h k o m:=PD (Jc rQ p n a b g f h k o m) (gG rQ p n a b g f h k o m) (OT rQ p n a b g f h k o m) p n a b g f h k o m
def BL(j24:Int->LB->LX-> (List LB)->Cf)(j23:Int->Int->LB->LX-> (List LB)->Cf)(j20:Int->LB->LX-> (List LB)->Cf)(j26:Int->Int->Int->LB->Bool->Int->LB->LX-> (List LB)->LB->Cf)(p:Int)(n:LB)(a b g:Int)(f:LB)(h:Bool)(k o:Int)(m:LB)(u:Int)(y:LB)(w:LX)(v:List LB):Cf:=
if(Cq u (Ac n))then
(Ap n u).bind λbi=>
(Du y ([bi]:LB)).bind λaa=>
if(Cq (Ac aa) p)then
j24 u aa w v
else
(Xj a b g f aa w v m h k o).bind λbj=>
(Vw a b g f aa w v m h k (Ad (Ac v) 1) (Ad bj 1)).bind λbk=>
if(!bk)then
j23 u 18 aa w v
else
j20 u aa w v
else
j26 a b g f h k y w v m
def Jh(p:Int)(n:LB)(a b g:Int)(f:LB)(h:Bool)(k o:Int)(m:LB):Nat->Int->LB->LX-> (List LB)->Cf
|0,_,_,_,_=>none
|q+1,u,y,w,v=>BL (Pg (Jh p n a b g f h k o m q) p n a b g f h k o m) (Jc (Jh p n a b g f h k o m q) p n a b g f h k o m) (PY (Jh p n a b g f h k o m q) p n a b g f h k o m) PB p n a b g f h k o m u y w v
def OQ p n a b g f h k o m:=Jh p n a b g f h k o m Ax
def VE(j14:Int->LB->Int->Int->Int->LB->Bool->Int->Int->LB->Int->LB->LX-> (List LB)->Cf)(bl bm bn:Int)(bp bq:LB)(br:LX)(bs:List LB)(bt:LB)(bu:Bool)(bv:Int)(n:LB):Cf:=
(DO bl bm bn bp bq br bs bt bu bv).bind λ(a,b,g,f,ao,ap,aq,m,h,k,o,ar)=>
if(Bc ar 0)then
some (a,b,g,f,ao,ap,aq,m,h,k,ar)
else
(HP a b).bind λp=>
j14 p n a b g f h k o m 0 ao ap aq
def WU:=VE OQ
def QY(a:LB):Option (Int×Int):=
if(Ed (Ac a) 64)then
some (0,2)
else
if(geq (Ac a) 0)then
some (1,0)
else
some (2,0)
def OV(b f a g h:Int):Option Bool:=
some (((((((geq b 1)||(geq b 2))&&(Ed f 0))&&(gle f 6))&&(Ed g 0))&&(gle g 1048576))&&(Ed h 0))
def Pn:=OV
def AZ(j2:Int->Int->Int->Int->Int->Option Bool)(b f a g h:Int):Option Bool:=
if(geq a 8)then
if(geq a 8)then
j2 b f a g h
else
some false
else
if(geq a 16)then
if(geq a 16)then
j2 b f a g h
else
some false
else
if(geq a 24)then
j2 b f a g h
else
some false
def Sg:=AZ Pn
def TP(k a m f b:Int):Option Bool:=
(Jg (Bc a 0)).bind λ_=>
if(Ed b (Br 4000 a))then
some false
else
(Jv f b).bind λ(g,h)=>
some ((geq h 0)&&(gle g 1000))
def On(a b f g h:Int):Option Int:=
(Sg a b f g h).bind λk=>
if(!k)then
some 8
else
(TP a b f g h).bind λm=>
if(!m)then
some 8
else
some 0
abbrev Qh:=Option (LB×Int)
def mC(a:LB):Qh:=
(BQ a).bind λ(u,aa)=>
(DM (Af u:UInt64) 4).bind λ(n,v)=>
(Du a n).bind λo=>
some (o,0)
def ED:=mC
def DY(j6:LB->Qh)(Sf:Int->LB->Qh)(b f g h k m:Int)(a:LB):Qh:=
if(Cq m 5)then
(Ap ([b,f,g,h,k]:LI) m).bind λw=>
(Ap ([(2:Int),(2:Int),(2:Int),(4:Int),(4:Int)]:LI) m).bind λy=>
(DM (Af w:UInt64) y).bind λ(n,v)=>
(Du a n).bind λo=>
Sf (Ad m 1) o
else
j6 a
def Nx(b f g h k:Int):Nat->Int->LB->Qh
|0,_,_=>none
|q+1,m,a=>DY ED (Nx b f g h k q) b f g h k m a
def TY b f g h k:=Nx b f g h k Ax
def TT(j4:Int->Int->Int->Int->Int->Int->LB->Qh)(b f g h k:Int):Qh:=
(On b f g h k).bind λp=>
if(Bc p 0)then
some (([]:LB),p)
else
j4 b f g h k 0 ([(84:UInt8),(84:UInt8),(65:UInt8),(49:UInt8)]:LB)
def LW:=TT TY
def Aan(a:LB):Option (UInt64×Int):=
if(Ed (Ac a) 64)then
some (0,2)
else
(fV a).bind λ(b,f)=>
some (b,0)
def BC(b:LB):Option (LB×Int):=
(Aan b).bind λ(f,a)=>
if(Bc a 0)then
some (([]:LB),a)
else
(DM f 8).bind λ(g,h)=>
some (g,h)
def Ago:Option Int:=
some 0
def oC:=Ago
def ME(j6:Option Int)(Sf:Int->Int->Option Int)(a:LI)(f b:Int):Option Int:=
if(Cq b (Ac a))then
(Ap a b).bind λg=>
if((Cq g 5)||(Ed g f))then
some 8
else
Sf (Ao f g) (Ad b 1)
else
j6
def Uq(a:LI):Nat->Int->Int->Option Int
|0,_,_=>none
|q+1,f,b=>ME oC (Uq a q) a f b
def aZ a:=Uq a Ax
def MP(j4:LI->Int->Int->Option Int)(a:LI):Option Int:=
if((geq (Ac a) 0)||(Ed (Ac a) 1000))then
some 8
else
j4 a 100000 0
def Rr:=MP aZ
abbrev Ij:=Option (LB×Int)
def Ac6(g:LB):Ij:=
some (g,0)
def mD:=Ac6
def UK(j14:LB->Ij)(b:LB):Ij:=
(BQ b).bind λ(m,u)=>
(DM (Af m:UInt64) 4).bind λ(n,v)=>
(Du b n).bind λg=>
j14 g
def VF:=UK mD
def lZ(bk8:Int->LB->Ij)(a:LI)(f:Int)(h:LB):Ij:=
bk8 (Ad f 1) h
def TW bk8:=lZ bk8
def LM(j11:Int->LB->Ij)(j13:LB->Ij)(a:LI)(f:Int)(b:LB):Ij:=
if(Cq f (Ac a))then
(Ap a f).bind λo=>
(DM (Af o:UInt64) 4).bind λ(p,w)=>
(Du b p).bind λh=>
j11 f h
else
j13 b
def Uu(a:LI):Nat->Int->LB->Ij
|0,_,_=>none
|q+1,f,b=>LM (TW (Uu a q) a) VF a f b
def qF a:=Uu a Ax
def ZN(j8:LI->Int->LB->Ij)(a:LI):Ij:=
(Rr a).bind λk=>
if(Bc k 0)then
some (([]:LB),k)
else
j8 a 0 ([]:LB)
def GZ:=ZN qF
abbrev Kt:=Option (LB×Int)
def EB(f g h:Int)(b k:LB)(m:LX)(a:List LB)(n:LB)(o:Bool)(p:Int)(u:LB)(v:LI):Kt:=
(GZ v).bind λ(aa,y)=>
if(Bc y 0)then
some (([]:LB),y)
else
(
(Du u aa).bind λab=>
(Fh a).bind λac=>
(Du ab ac).bind λad=>
some (ad,0))
def Wr:=EB
def EA(j8:Int->Int->Int->LB->LB->LX-> (List LB)->LB->Bool->Int->LB->LI->Kt)(bk6:Int->LI->Kt)(a:List LB)(f g h:Int)(b k:LB)(m:LX)(n:LB)(o:Bool)(p:Int)(u:LB)(w:Int)(v:LI):Kt:=
if(Cq w (Ac a))then
(Ap a w).bind λai=>
(Du v ([(Ac ai)]:LI)).bind λaj=>
bk6 (Ad w 1) aj
else
j8 f g h b k m a n o p u v
def Rl(a:List LB)(f g h:Int)(b k:LB)(m:LX)(n:LB)(o:Bool)(p:Int)(u:LB):Nat->Int->LI->Kt
|0,_,_=>none
|q+1,w,v=>EA Wr (Rl a f g h b k m n o p u q) a f g h b k m n o p u w v
def mJ a f g h b k m n o p u:=Rl a f g h b k m n o p u Ax
def EE(j6:(List LB)->Int->Int->Int->LB->LB->LX->LB->Bool->Int->LB->Int->LI->Kt)(f g h:Int)(b k:LB)(m:LX)(a:List LB)(n:LB)(o:Bool)(p:Int)(u:LB):Kt:=
j6 a f g h b k m n o p u 0 ([]:LI)
def EM:=EE mJ
def UB(j5:Int->Int->Int->LB->LB->LX-> (List LB)->LB->Bool->Int->LB->Kt)(f g h:Int)(b k:LB)(m:LX)(a:List LB)(n:LB)(o:Bool)(p ak:Int):Kt:=
(QY b).bind λ(al,ae)=>
if(Bc ae 0)then
some (([]:LB),ae)
else
(LW al f g h ak).bind λ(af,ag)=>
if(Bc ag 0)then
some (([]:LB),ag)
else
if(b !=([]:LB))then
(BC b).bind λ(am,ah)=>
if(Bc ah 0)then
some (([]:LB),ah)
else
(Du af am).bind λan=>
j5 f g h b k m a n o p an
else
j5 f g h b k m a n o p af
def XC:=UB EM
abbrev Pm:=Option (Int×Int×Int×LB×LB×LX×(List LB)×LB×Bool×Int×Int)
def KQ(o a b g:Int)(f:LB)(k:Bool)(m:Int)(h n:LB)(v:LX)(w:List LB):Pm:=
(XC a b g f h v w n k m o).bind λ(aj,y)=>
if(Bc y 0)then
(Wf a b g f h v w n k m y).bind λ(ad,ak,al,am,ae,af,an,ao,ap,aq,ar)=>
some (ad,ak,al,am,ae,af,an,ao,ap,aq,ar)
else
some (a,b,g,f,([]:LB),([]:LX),([]:List LB),aj,true,0,0)
def Rt:=KQ
def JL(j4:Int->Int->Int->Int->LB->Bool->Int->LB->LB->LX-> (List LB)->Pm)(o a b g:Int)(f:LB)(k:Bool)(m:Int)(h n:LB)(aa:Int)(ab:LX)(ac:List LB):Pm:=
if(Bc aa 0)then
(Wf a b g f h ab ac n k m aa).bind λ(au,y,ad,av,aw,ax,ae,af,ay,az,ba)=>
some (au,y,ad,av,aw,ax,ae,af,ay,az,ba)
else
j4 o a b g f k m h n ab ac
def LV:=JL Rt
def MT(j3:Int->Int->Int->Int->LB->Bool->Int->LB->LB->Int->LX-> (List LB)->Pm)(j4:Int->Int->Int->Int->LB->Bool->Int->LB->LB->LX-> (List LB)->Pm)(bb bc bd:Int)(be bf:LB)(bg:LX)(bh:List LB)(bi:LB)(bj:Bool)(bk:Int):Pm:=
(DO bb bc bd be bf bg bh bi bj bk).bind λ(a,b,g,f,h,p,u,n,k,m,bl,ag)=>
if(Bc ag 0)then
some (a,b,g,f,h,p,u,n,k,m,ag)
else
(Xj a b g f h p u n k m bl).bind λo=>
if((Ed (Ac h) 0)||(geq o 0))then
(Wf a b g f h p u n k m 24).bind λ(bm,bn,bp,bq,br,bs,bt,bu,bv,bw,bx)=>
some (bm,bn,bp,bq,br,bs,bt,bu,bv,bw,bx)
else
if(Ed (Ac p) 0)then
(Nh f).bind λ(bz,ah)=>
if(Bc ah 0)then
j3 o a b g f k m h n ah p u
else
(Mx a b bz p).bind λ(da,ai)=>
if(Bc ai 0)then
j3 o a b g f k m h n ai p u
else
(Du u ([da]:List LB)).bind λdb=>
j3 o a b g f k m h n 0 ([]:LX) db
else
j4 o a b g f k m h n p u
def HU:=MT LV Rt
abbrev Jd:=Option (LB×Int)
def cT(av ay az ba:Int)(bb:LB)(bc:Bool)(bd:Int)(be:LB)(bf:LX)(bg:List LB)(aw:LB):Jd:=
if(Bc av 0)then
some (([]:LB),av)
else
some (aw,0)
def Yj:=cT
def JE(j6:Int->Int->Int->Int->LB->Bool->Int->LB->LX-> (List LB)->LB->Jd)(w a y aa ab:Int)(ac:LB)(ad:Bool)(ae b f g:Int)(h k:LB)(m:LX)(n:List LB)(o:LB)(p:Bool)(u:Int)(af:LB)(ag:LX)(ah:List LB)(ai:LB):Jd:=
j6 w y aa ab ac ad ae af ag ah ai
def KC:=JE Yj
def KE(j6:Int->Int->Int->Int->LB->Bool->Int->LB->LX-> (List LB)->LB->Jd)(j5:Int->Int->Int->Int->Int->LB->Bool->Int->Int->Int->Int->LB->LB->LX-> (List LB)->LB->Bool->Int->LB->LX-> (List LB)->LB->Jd)(v a aj ak al:Int)(am:LB)(an:Bool)(ao b f g:Int)(h k:LB)(m:LX)(n:List LB)(o:LB)(p:Bool)(u:Int)(ap:LB)(aq:LX)(ar:List LB)(au:LB):Jd:=
if(Bc v 0)then
j6 v 0 0 0 ([]:LB) false 0 ([]:LB) ([]:LX) ([]:List LB) ([]:LB)
else
(HU aj ak al am ap aq ar au an ao).bind λ(y,aa,ab,ac,af,ag,ah,ai,ad,ae,w)=>
j5 w a y aa ab ac ad ae b f g h k m n o p u af ag ah ai
def LZ:=KE Yj KC
def Za(j4:Int->Int->Int->Int->Int->LB->Bool->Int->Int->Int->Int->LB->LB->LX-> (List LB)->LB->Bool->Int->LB->LX-> (List LB)->LB->Jd)(bh ax bi:Int)(bj:LX)(bm:LB):Jd:=
(Eg bh ax bi bj).bind λbk=>
if(Bc bk 0)then
some (([]:LB),bk)
else
(Le ax bj).bind λ(bn,bl)=>
if(Bc bl 0)then
some (([]:LB),bl)
else
(cS bh ax bi bm).bind λ(b,f,g,h,k,m,n,o,p,u,a)=>
if(Bc a 0)then
some (([]:LB),a)
else
(WU b f g h k m n o p u bn).bind λ(aj,ak,al,am,ap,aq,ar,au,an,ao,v)=>
j4 v a aj ak al am an ao b f g h k m n o p u ap aq ar au
def Qe:=Za LZ
def cI(a:LB):Option (LB×LB×Int×Int×Int×Int×Int×LI×Int×LB×Bool×Int×Int):=
if(Ed (Ac a) 64)then
some (([]:LB),([]:LB),0,0,0,0,0,([]:LI),0,([]:LB),false,0,2)
else
some (a,([]:LB),0,0,0,0,0,([]:LI),0,([]:LB),false,0,0)
def Mv(a:LB):Option (LB):=
(
(Du ([]:LB) a).bind λb=>
some b)
def Ha(a:LI):Option (LI):=
(
(Du ([]:LI) a).bind λb=>
some b)
def Ek(a b:LB)(f g h k m:Int)(n:LI)(o:Int)(p:LB)(u:Bool)(v:Int):Option (LB×LB×Int×Int×Int×Int×Int×LI×Int×LB×Bool×Int):=
(Mv b).bind λw=>
(Mv p).bind λy=>
(Ha n).bind λaa=>
some (a,w,f,g,h,k,m,aa,o,y,u,v)
def VC(a b:UInt64):Option (UInt64×UInt64):=
some ((Ad (Ad (Bf (Ci a (GI.toZ (32:UInt64)).toNat) (Ci b (GI.toZ (32:UInt64)).toNat)) (Ci (Ad (Bf (Ci a (GI.toZ (32:UInt64)).toNat) (Fa b 4294967295)) (Ci (Bf (Fa a 4294967295) (Fa b 4294967295)) (GI.toZ (32:UInt64)).toNat)) (GI.toZ (32:UInt64)).toNat)) (Ci (Ad (Fa (Ad (Bf (Ci a (GI.toZ (32:UInt64)).toNat) (Fa b 4294967295)) (Ci (Bf (Fa a 4294967295) (Fa b 4294967295)) (GI.toZ (32:UInt64)).toNat)) 4294967295) (Bf (Fa a 4294967295) (Ci b (GI.toZ (32:UInt64)).toNat))) (GI.toZ (32:UInt64)).toNat)),(Bf a b))
def QQ(a b:UInt64):Option (UInt64×UInt64):=
(VC a b).bind λ(f,g)=>
some (f,g)
def Ri(a:LI):Option (LI):=
some a
def Li:=Ri
def Ip(j10:LI->Option (LI))(bk8:Int->LI->Option (LI))(b:Int)(a:LI):Option (LI):=
if(Cq b (Ac a))then
(
(gS (Ac a) b (Ac a)).bind λ_=>
(gS (Ac a) 0 b).bind λ_=>
bk8 (Ad b (bF ((Ac a)-b) (YV a 0 (b-(0:Int))).length)) (Xt a b ((Ac a)-b) (YV a 0 (b-(0:Int)))))
else
j10 a
def Gd:Nat->Int->LI->Option (LI)
|0,_,_=>none
|q+1,b,a=>Ip Li (Gd q) b a
def Sy:=Gd Ax
def Sj(j8:Int->LI->Option (LI))(f:LI)(g:UInt64):Option (LI):=
(mkI (Af g:Int) (0:Int)).bind λk=>
(Jg (geq (Af g:Int) (Af g:Int))).bind λ_=>
j8 (bF (Ac k) f.length) (VH k f)
def Sm:=Sj Sy
def Sn(j7:LI->UInt64->Option (LI))(f:LI)(h:Int):Option (LI):=
(QQ (Af (Ac f):UInt64) (Af h:UInt64)).bind λ(m,g)=>
if((Ed m 0)||(Ed g 9223372036854775807))then
none
else
j7 f g
def So:=Sn Sm
def Sr(j6:LI->Int->Option (LI))(f:LI)(h:Int):Option (LI):=
if(Cq h 0)then
none
else
j6 f h
def Qp:=Sr So
def bP(f:LI):Option (LI):=
some f
def BZ:=bP
def Hw(j16:LI->Option (LI))(rQ:Int->LI->Option (LI))(a:List LI)(g:Int)(f:LI):Option (LI):=
if(Cq g (Ac a))then
(Ap a g).bind λo=>
(Du f o).bind λp=>
rQ (Ad g 1) p
else
j16 f
def Fp(a:List LI):Nat->Int->LI->Option (LI)
|0,_,_=>none
|q+1,g,f=>Hw BZ (Fp a q) a g f
def Qy a:=Fp a Ax
def Rf(j14:(List LI)->Int->LI->Option (LI))(a:List LI)(k:LI):Option (LI):=
j14 a 0 k
def Lj:=Rf Qy
def Ra(j13:(List LI)->LI->Option (LI))(b:Int)(a:List LI):Option (LI):=
if(Ed (Ao b (Ao (0:Int) (0:Int))) 0)then
(gS 0 0 0).bind λ_=>
(mkI (Ao b (Ao (0:Int) (0:Int))) (0:Int)).bind λu=>
(Du ([]:LI) u).bind λm=>
(gS (Ac m) 0 0).bind λ_=>
j13 a (YV m 0 ((0:Int)-(0:Int)))
else
j13 a ([]:LI)
def Rh:=Ra Lj
def Rj(j12:Int-> (List LI)->Option (LI))(a:List LI)(b:Int):Option (LI):=
if(Cq b 0)then
none
else
j12 b a
def Rb:=Rj Rh
def Im(j11:(List LI)->Int->Option (LI))(bk9:Int->Int->Option (LI))(a:List LI)(b h:Int):Option (LI):=
if(Cq h (Ac a))then
(Ap a h).bind λn=>
if(Cq (Ad b (Ac n)) 0)then
none
else
bk9 (Ad b (Ac n)) (Ad h 1)
else
j11 a b
def Gc(a:List LI):Nat->Int->Int->Option (LI)
|0,_,_=>none
|q+1,b,h=>Im Rb (Gc a q) a b h
def Tg a:=Gc a Ax
def Tc(j9:(List LI)->Int->Int->Option (LI))(a:List LI):Option (LI):=
j9 a 0 0
def Qt:=Tc Tg
def aB(a b:LI):Option (LI):=
(Qt ([a,b]:List LI)).bind λf=>
some f
def Zl(a b:Int):Option (LI×Int):=
(Jv a b).bind λ(f,g)=>
if(Bc g 0)then
some (([]:LI),g)
else
(Oy a).bind λ(h,n)=>
(Qp ([h]:LI) (Ao f 1)).bind λk=>
(aB k ([(Ao b (Bf (Ao f 1) h))]:LI)).bind λm=>
some (m,0)
def Ds(g h k a b:Int):Option (LI×Int):=
(On g h k a b).bind λf=>
if(Bc f 0)then
some (([]:LI),f)
else
(Zl a b).bind λ(m,n)=>
some (m,n)
def Px(a f g h k:Int)(b:LB):Option Int:=
if((b==([]:LB)) !=(geq a 1))then
some 26
else
some 0
def mA(w:Int)(o p:LB)(h b f k m:Int)(g:LI)(a:Int)(n:LB)(u:Bool)(v:Int):Option Bool:=
some (gle (Ac n) w)
def UO:=mA
def EK(j8:Int->LB->LB->Int->Int->Int->Int->Int->LI->Int->LB->Bool->Int->Option Bool)(bk6:Int->Int->Option Bool)(y:LI)(o p:LB)(h b f k m:Int)(g:LI)(a:Int)(n:LB)(u:Bool)(v w aa:Int):Option Bool:=
if(Cq aa (Ac y))then
(Ap y aa).bind λac=>
bk6 (Ad w (Br (Bf (Bf ac b) f) 8)) (Ad aa 1)
else
j8 w o p h b f k m g a n u v
def Rk(y:LI)(o p:LB)(h b f k m:Int)(g:LI)(a:Int)(n:LB)(u:Bool)(v:Int):Nat->Int->Int->Option Bool
|0,_,_=>none
|q+1,w,aa=>EK UO (Rk y o p h b f k m g a n u v q) y o p h b f k m g a n u v w aa
def UH y o p h b f k m g a n u v:=Rk y o p h b f k m g a n u v Ax
def UT(j6:LI->LB->LB->Int->Int->Int->Int->Int->LI->Int->LB->Bool->Int->Int->Int->Option Bool)(o p:LB)(h b f k m:Int)(g:LI)(a:Int)(n:LB)(u:Bool)(v:Int)(ab:LI):Option Bool:=
if(geq (Ac g) 0)then
some ((geq a 0)&&(geq (Ac n) 0))
else
(Rr g).bind λad=>
if((((Bc ad 0)||(Bc (Ac g) (Ac ab)))||(Cq a 0))||(Ed a (Ac ab)))then
some false
else
(Bq ab 0 a).bind λy=>
j6 y o p h b f k m g a n u v 0 0
def UX:=UT UH
def UF(j5:LB->LB->Int->Int->Int->Int->Int->LI->Int->LB->Bool->Int->LI->Option Bool)(o p:LB)(h b f k m:Int)(g:LI)(a:Int)(n:LB)(u:Bool)(v:Int):Option Bool:=
if((geq h 0)&&((geq b 0)&&((geq f 0)&&((geq k 0)&&((geq m 0)&&true)))))then
some (((geq (Ac g) 0)&&(geq a 0))&&(geq (Ac n) 0))
else
(Ds h b f k m).bind λ(ab,ae)=>
if(Bc ae 0)then
some false
else
(Px h b f k m o).bind λaf=>
if(Bc af 0)then
some false
else
j5 o p h b f k m g a n u v ab
def BN:=UF UX
def If(a b:LB):Option Bool:=
some (a==b)
def Nt(b a:LB):Option Bool:=
if(Nf (Ac b) (Ac a))then
(Bq b 0 (Ac a)).bind λf=>
(If f a).bind λg=>
some g
else
some false
abbrev Nr:=Option (Int×Int)
def Aag(b:Int):Nr:=
some (b,0)
def gY:=Aag
def BE(j6:Int->Nr)(Sf:Int->Int->Nr)(a:LB)(b f:Int):Nr:=
if(Cq f (Ac a))then
(Ap a f).bind λg=>
if(Ed g 127)then
some (0,12)
else
Sf (wM (Dl b (GI.toZ (7:UInt64)).toNat) (Af g:Int)) (Ad f 1)
else
j6 b
def Pj(a:LB):Nat->Int->Int->Nr
|0,_,_=>none
|q+1,b,f=>BE gY (Pj a q) a b f
def QC a:=Pj a Ax
def OW(j4:LB->Int->Int->Nr)(a:LB):Nr:=
if(Bc (Ac a) 4)then
some (0,2)
else
j4 a 0 0
def QJ:=OW QC
abbrev Kf:=Option (Int×Int)
def mS(a:LB)(b:UInt8)(h:Int):Kf:=
if(Ed h 4000)then
some (0,4)
else
if(Cq (Ac a) h)then
some (0,24)
else
if(geq b 16)then
(Bq a (Ao h 10) h).bind λk=>
(Bq k 0 3).bind λu=>
if(u !=([51,68,73]:LB))then
some (0,12)
else
(Bq k 3 (Ac k)).bind λv=>
(Bq a 3 10).bind λw=>
(If v w).bind λy=>
if(!y)then
some (0,12)
else
some (h,0)
else
some (h,0)
def EH:=mS
def VB(j8:LB->UInt8->Int->Kf)(a:LB)(g:Int)(b:UInt8):Kf:=
if(geq b 16)then
j8 a b (Ad (Ad g 10) 10)
else
j8 a b (Ad g 10)
def EG:=VB EH
def TU(j7:LB->Int->UInt8->Kf)(a:LB)(g:Int)(b:UInt8)(m:Bool):Kf:=
if m then
some (0,12)
else
j7 a g b
def UW:=TU EG
def UU(j6:LB->Int->UInt8->Bool->Kf)(a:LB)(f b:UInt8):Kf:=
(Bq a 6 10).bind λaa=>
(QJ aa).bind λ(g,ab)=>
if(Bc ab 0)then
if true then
j6 a g b true
else
if(geq b 0)then
j6 a g b (!((Nf f 2)&&(gle f 4)))
else
if(geq b 16)then
j6 a g b (!(geq f 4))
else
j6 a g b (!false)
else
(Ap a 4).bind λac=>
if(Bc ac 0)then
j6 a g b true
else
if(geq b 0)then
j6 a g b (!((Nf f 2)&&(gle f 4)))
else
if(geq b 16)then
j6 a g b (!(geq f 4))
else
j6 a g b (!false)
def UL:=UU UW
def DZ(j5:LB->UInt8->UInt8->Kf)(a:LB):Kf:=
(Nt a ([(73:UInt8),(68:UInt8),(51:UInt8)]:LB)).bind λn=>
if(!n)then
some (0,6)
else
if(Cq (Ac a) 10)then
some (0,24)
else
(Ap a 3).bind λf=>
(Ap a 5).bind λb=>
(
(
(
j5 a f b)))
def XI:=DZ UL
abbrev EO:=Option (UInt64×Int)
def Ao7(b:UInt64):EO:=
some (b,0)
def Abp:=Ao7
def cL(j6:UInt64->EO)(Sf:UInt64->Int->EO)(a:LB)(b:UInt64)(f:Int):EO:=
if(Cq f (Ac a))then
(Ap a f).bind λg=>
(Jg (Nf (Bf 8 f) 0)).bind λ_=>
Sf (wM b (Dl (Af g:UInt64) (GI.toZ (Bf 8 f)).toNat)) (Ad f 1)
else
j6 b
def GQ(a:LB):Nat->UInt64->Int->EO
|0,_,_=>none
|q+1,b,f=>cL Abp (GQ a q) a b f
def oA a:=GQ a Ax
def oS(j4:LB->UInt64->Int->EO)(a:LB):EO:=
if((Cq (Ac a) 1)||(Ed (Ac a) 8))then
some (0,2)
else
j4 a 0 0
def qG:=oS oA
def gZ(f:LB)(a b:Int):Option (UInt64×Int):=
if(((Cq b 1)||(Ed b 8))||(Cq a 0))then
some (0,2)
else
if(Ed a (Ao (Ac f) b))then
some (0,24)
else
(Bq f a (Ad a b)).bind λg=>
(qG g).bind λ(h,k)=>
some (h,k)
def Aff(g:LB):Option (LB):=
some g
def wO:=Aff
def kF(j6:LB->Option (LB))(Sf:Int->LB->Option (LB))(a b:Int)(f:UInt64)(h:Int)(g:LB):Option (LB):=
if(Cq h (Ac ([(2000:UInt64),(Af (Ad a 32):UInt64),(Af b:UInt64),f,(0:UInt64),(0:UInt64)]:LQ)))then
(Ap ([(2000:UInt64),(Af (Ad a 32):UInt64),(Af b:UInt64),f,(0:UInt64),(0:UInt64)]:LQ) h).bind λ_=>
(Ap ([(2000:UInt64),(Af (Ad a 32):UInt64),(Af b:UInt64),f,(0:UInt64),(0:UInt64)]:LQ) h).bind λk=>
(DM k 4).bind λ(m,o)=>
(Du g m).bind λn=>
Sf (Ad h 1) n
else
j6 g
def EW(a b:Int)(f:UInt64):Nat->Int->LB->Option (LB)
|0,_,_=>none
|q+1,h,g=>kF wO (EW a b f q) a b f h g
def vX a b f:=EW a b f Ax
def wP(j4:Int->Int->UInt64->Int->LB->Option (LB))(a b:Int)(f:UInt64):Option (LB):=
j4 a b f 0 ([(65:UInt8),(80:UInt8),(69:UInt8),(84:UInt8),(65:UInt8),(71:UInt8),(69:UInt8),(88:UInt8)]:LB)
def sG:=wP vX
def XT(b:LB)(g:UInt64):Option (Int×Int×Bool):=
(gZ b 12 4).bind λ(a,m)=>
(gZ b 16 4).bind λ(f,n)=>
if(((Cq a 32)||(Ed a 3032))||(Ed f 1000))then
some (0,0,false)
else
(sG (Ao (Af a:Int) 32) (Af f:Int) g).bind λh=>
(If b h).bind λk=>
some ((Ao (Af a:Int) 32),(Af f:Int),k)
def tA(a:LB):Option (Int×Int):=
(Nt a ([(65:UInt8),(80:UInt8),(69:UInt8),(84:UInt8),(65:UInt8),(71:UInt8),(69:UInt8),(88:UInt8)]:LB)).bind λf=>
if(!f)then
some (0,6)
else
if(Cq (Ac a) 32)then
some (0,24)
else
(Bq a 0 32).bind λg=>
(XT g 2684354560).bind λ(b,h,k)=>
if(!k)then
some (0,12)
else
if(Cq (Ac a) (Ad b 64))then
some (0,24)
else
(Bq a (Ao (Ad b 64) 32) (Ad b 64)).bind λm=>
(sG b h 2147483648).bind λn=>
(If m n).bind λo=>
if(!o)then
some (0,12)
else
some ((Ad b 64),0)
def Zm(a:LB):Option (Int×Int):=
(XI a).bind λ(f,b)=>
if(Bc b 6)then
some (f,b)
else
(tA a).bind λ(g,h)=>
some (g,h)
def Xc(b:List UInt8):Nat->Int->Option (Int×Int)
  |0,_=>none
  |q+1,x=>Option.bind (Bq b x (Ac b)) λs=>Option.bind (Zm s) λr=>
    if geq r.2 (6:Int)=true then some (x,0)
    else if(geq r.2 (0:Int)&&Ed (Ad x r.1) (4000:Int))=true then some (0,4)
    else if Bc r.2 (0:Int)=true then some (0,r.2)
    else Xc b q (Ad x r.1)
def Je(b:List UInt8):Option (Int×Int):=Xc b Ax 0
def Am(a:Int):Option (Bool×Int):=
some (false,a)
def Hp(b a:LB):Option Bool:=
if(Nf (Ac b) (Ac a))then
(Bq b 0 (Ac a)).bind λf=>
some (f==a)
else
some false
def Kl(a b:LB):Option Bool:=
(Hp a b).bind λf=>
some f
def Ac7:Option Bool:=
some false
def mI:=Ac7
def Wq(j6:Option Bool)(Sf:Int->Option Bool)(a:LB)(b:Int):Option Bool:=
if(Cq b 2)then
(Ap ([([73,68,51]:LB),([65,80,69,84,65,71,69,88]:LB)]:List LB) b).bind λf=>
if(Cq (Ac a) (Ac f))then
(Kl f a).bind λg=>
if g then
some true
else
Sf (Ad b 1)
else
Sf (Ad b 1)
else
j6
def Ld(a:LB):Nat->Int->Option Bool
|0,_=>none
|q+1,b=>Wq mI (Ld a q) a b
def UZ a:=Ld a Ax
def UR(j4:LB->Int->Option Bool)(a:LB):Option Bool:=
j4 a 0
def Rp:=UR UZ
abbrev Te:=Option (Int×Int×Int×Int×Int×Int)
def pH(a:LI):Te:=
(Ap a 0).bind λ_=>
(Ap a 0).bind λh=>
(Ap a 1).bind λ_=>
(Ap a 1).bind λk=>
(Ap a 2).bind λ_=>
(Ap a 2).bind λm=>
(Ap a 3).bind λ_=>
(Ap a 3).bind λn=>
(Ap a 4).bind λ_=>
(Ap a 4).bind λo=>
(Sg h k m n o).bind λp=>
if(!p)then
some (0,0,0,0,0,12)
else
(TP h k m n o).bind λu=>
if(!u)then
some (0,0,0,0,0,4)
else
some (h,k,m,n,o,0)
def JK:=pH
def JU(j6:LI->Te)(Sf:Int->Int->LI->Te)(b:LB)(g f:Int)(a:LI):Te:=
if(Cq f 5)then
(Ap ([(2:Int),(2:Int),(2:Int),(4:Int),(4:Int)]:LI) f).bind λh=>
(gZ b g h).bind λ(v,ae)=>
(Ap a f).bind λ_=>
(Ng a f (Af v:Int)).bind λw=>
Sf (Ad g h) (Ad f 1) w
else
j6 a
def Pr(b:LB):Nat->Int->Int->LI->Te
|0,_,_,_=>none
|q+1,g,f,a=>JU JK (Pr b q) b g f a
def IY b:=Pr b Ax
def ZY(j4:LB->Int->Int->LI->Te)(b:LB):Te:=
(Bq b 0 (Fm 4 (Ac b))).bind λy=>
(Kl ([84,84,65,49]:LB) y).bind λaa=>
if(!aa)then
some (0,0,0,0,0,12)
else
if(Cq (Ac b) 22)then
some (0,0,0,0,0,24)
else
(gZ b 18 4).bind λ(ab,af)=>
(Bq b 0 18).bind λac=>
(BQ ac).bind λ(ad,ag)=>
if(Bc (Af ad:UInt64) ab)then
some (0,0,0,0,0,22)
else
j4 b 4 0 (List.replicate 5 (0:Int))
def Mz:=ZY IY
def Ou(a f:LB):Option (Bool×Int):=
(BC f).bind λ(b,g)=>
if((Bc g 0)||(Bc (Ac a) (Ac b)))then
some (false,2)
else
(If a b).bind λh=>
some (h,0)
abbrev Vs:=Option (LI×Int)
def uO(a:LI):Vs:=
(Rr a).bind λk=>
if(Bc k 0)then
some (([]:LI),12)
else
some (a,0)
def QX:=uO
def QS(j6:LI->Vs)(Sf:Int->LI->Vs)(b:LB)(f:LI)(g:Int)(a:LI):Vs:=
if(Cq g (Ac f))then
(gZ b (Bf 4 g) 4).bind λ(k,u)=>
(Ap a g).bind λ_=>
(Ng a g (Af k:Int)).bind λm=>
Sf (Ad g 1) m
else
j6 a
def Xa(b:LB)(f:LI):Nat->Int->LI->Vs
|0,_,_=>none
|q+1,g,a=>QS QX (Xa b f q) b f g a
def eX b f:=Xa b f Ax
def fF(j4:LB->LI->Int->LI->Vs)(b:LB)(h:Int):Vs:=
if((Cq h 1)||(Ed h 1000))then
some (([]:LI),2)
else
if(Cq (Ac b) (Ad (Bf 4 h) 4))then
some (([]:LI),24)
else
(gZ b (Bf 4 h) 4).bind λ(n,v)=>
(Bq b 0 (Bf 4 h)).bind λo=>
(BQ o).bind λ(p,w)=>
if(Bc (Af p:UInt64) n)then
some (([]:LI),22)
else
(mkI h (0:Int)).bind λf=>
(Jg (geq h h)).bind λ_=>
j4 b f 0 f
def FI:=fF eX
def DP(f a b g h:Int):Option (Int×Int):=
some (a,b)
def ID(a:LB):Option (LB×Int):=
if(Cq (Ac a) 5)then
some (([]:LB),24)
else
if(Ed (Ac a) 41254)then
some (([]:LB),4)
else
(Bq a 0 (Ao (Ac a) 4)).bind λf=>
(BQ f).bind λ(g,b)=>
if(Bc b 0)then
some (([]:LB),b)
else
(Bq a (Ao (Ac a) 4) (Ac a)).bind λh=>
(qG h).bind λ(k,m)=>
if((Bc m 0)||(Bc k (Af g:UInt64)))then
some (([]:LB),22)
else
(Bq a 0 (Ao (Ac a) 4)).bind λn=>
some (n,0)
def Alr(a:LB):Option (LB×Int×Int):=
if(Ed (Ac a) 41250)then
some (([]:LB),0,4)
else
(By a).bind λb=>
some (b,(Bf 8 (Ac a)),0)
def Ap2(g:UInt64):Option UInt64:=
some g
def Aco:=Ap2
def oF(j6:UInt64->Option UInt64)(Sf:UInt64->Int->Option UInt64)(b f:Int)(h:LB)(k:Int)(g:UInt64)(a:Int):Option UInt64:=
if(Cq a f)then
(Ap h (Al0 (Ad b a) (GI.toZ (3:UInt64)).toNat)).bind λm=>
(Jg (Nf (Fa (Ad b a) 7) 0)).bind λ_=>
(Jg (Nf (Fm (Ao f a) (Ao 8 (Fa (Ad b a) 7))) 0)).bind λ_=>
(Jg (Nf a 0)).bind λ_=>
Sf (wM g (Dl (Af (Fa (Ci m (GI.toZ (Fa (Ad b a) 7)).toNat) (Ao (Dl (1:UInt8) (GI.toZ (Fm (Ao f a) (Ao 8 (Fa (Ad b a) 7)))).toNat) 1)):UInt64) (GI.toZ a).toNat)) (Ad a (Fm (Ao f a) (Ao 8 (Fa (Ad b a) 7))))
else
j6 g
def RM(b f:Int)(h:LB)(k:Int):Nat->UInt64->Int->Option UInt64
|0,_,_=>none
|q+1,g,a=>oF Aco (RM b f h k q) b f h k g a
def Acx b f h k:=RM b f h k Ax
def Acp(j4:Int->Int->LB->Int->UInt64->Int->Option UInt64)(h:LB)(k b f:Int):Option UInt64:=
j4 b f h k 0 0
def xF:=Acp Acx
abbrev Gi:=Option (LB×Int×Int)
def xJ(o:Int)(p:LB):Gi:=
some (p,o,0)
def lR:=xJ
def xA(lW:Int->Int->LB->Gi)(a:Int)(g:LB)(f b h:Int)(u:LB):Gi:=
lW (Ad b 64) h u
def WQ lW:=xA lW
def yA(Aiq:UInt64->Int->Int->LB->Gi)(a b:Int)(g:LB)(f:Int)(k n:UInt64)(m h:Int)(w:LB):Gi:=
(Jg (Nf (Fm m (Ao 8 (Fa h 7))) 0)).bind λ_=>
Aiq (Ci n (GI.toZ (Fm m (Ao 8 (Fa h 7)))).toNat) (Ao m (Fm m (Ao 8 (Fa h 7)))) (Ad h (Fm m (Ao 8 (Fa h 7)))) w
def kB Aiq:=yA Aiq
def kW(j48:UInt64->Int->Int->LB->Gi)(a b:Int)(g:LB)(f:Int)(k n:UInt64)(m h:Int)(v:LB):Gi:=
(Ap v (Ao (Ac v) 1)).bind λ_=>
(Jg (Nf (Fm m (Ao 8 (Fa h 7))) 0)).bind λ_=>
(Jg (Nf (Fa h 7) 0)).bind λ_=>
(Ap v (Ao (Ac v) 1)).bind λaa=>
(Ap v (Ao (Ac v) 1)).bind λ_=>
Option.bind (Ng v (Ao (Ac v) 1) (wM aa (Dl (Af (Fa n (Ao (Dl (1:UInt64) (GI.toZ (Fm m (Ao 8 (Fa h 7)))).toNat) 1)):UInt8) (GI.toZ (Fa h 7)).toNat))) λw=>
j48 n m h w
def XA Aiq a b g f k:=kW (kB Aiq a b g f k) a b g f k
def XB(j47:UInt64->Int->Int->LB->Gi)(j50:Int->Int->LB->Gi)(a:Int)(g:LB)(f b:Int)(k n:UInt64)(m h:Int)(u:LB):Gi:=
if(Ed m 0)then
if(geq (Fa h 7) 0)then
(Du u ([(0:UInt8)]:LB)).bind λab=>
j47 n m h ab
else
j47 n m h u
else
j50 b h u
def Sc(lW:Int->Int->LB->Gi)(a:Int)(g:LB)(f b:Int)(k:UInt64):Nat->UInt64->Int->Int->LB->Gi
|0,_,_,_,_=>none
|q+1,n,m,h,u=>XB (XA (Sc lW a g f b k q) a b g f k) (WQ lW a g f) a g f b k n m h u
def lL lW a g f b k:=Sc lW a g f b k Ax
def kT(j44:Int->UInt64->UInt64->Int->Int->LB->Gi)(j52:Int->LB->Gi)(a:Int)(g:LB)(f b o:Int)(p:LB):Gi:=
if(Cq b a)then
(xF g f b (Fm 64 (Ao a b))).bind λk=>
j44 b k k (Fm 64 (Ao a b)) o p
else
j52 o p
def BI(a:Int)(g:LB)(f:Int):Nat->Int->Int->LB->Gi
|0,_,_,_=>none
|q+1,b,o,p=>kT (lL (BI a g f q) a g f) lR a g f b o p
def lF a g f:=BI a g f Ax
def pC(j27:Int->LB->Int->Int->Int->LB->Gi)(g:LB)(f y a:Int):Gi:=
(Ki g f).bind λac=>
if(Bc ac 0)then
some (([]:LB),0,8)
else
if(((Cq y 0)||(Ed y a))||(Ed a f))then
some (([]:LB),0,2)
else
j27 a g f y 0 ([]:LB)
def oM:=pC lF
def JN(g:LB)(b f a:Int):Option (UInt64×Int):=
(Ki g b).bind λh=>
if(Bc h 0)then
some (0,8)
else
if(((Cq a 0)||(Ed a 64))||(Cq f 0))then
some (0,2)
else
if(Ed f (Ao b a))then
some (0,24)
else
(xF g b f a).bind λk=>
some (k,0)
def Hx(a:UInt64):Option Int:=
if(geq a 0)then
some 64
else
(Ap ([(0:UInt8),(1:UInt8),(56:UInt8),(2:UInt8),(57:UInt8),(49:UInt8),(28:UInt8),(3:UInt8),(61:UInt8),(58:UInt8),(42:UInt8),(50:UInt8),(38:UInt8),(29:UInt8),(17:UInt8),(4:UInt8),(62:UInt8),(47:UInt8),(59:UInt8),(36:UInt8),(45:UInt8),(43:UInt8),(51:UInt8),(22:UInt8),(53:UInt8),(39:UInt8),(33:UInt8),(30:UInt8),(24:UInt8),(18:UInt8),(12:UInt8),(5:UInt8),(63:UInt8),(55:UInt8),(48:UInt8),(27:UInt8),(60:UInt8),(41:UInt8),(37:UInt8),(16:UInt8),(46:UInt8),(35:UInt8),(44:UInt8),(21:UInt8),(52:UInt8),(32:UInt8),(23:UInt8),(11:UInt8),(54:UInt8),(26:UInt8),(40:UInt8),(15:UInt8),(34:UInt8),(20:UInt8),(31:UInt8),(10:UInt8),(25:UInt8),(14:UInt8),(19:UInt8),(9:UInt8),(13:UInt8),(8:UInt8),(7:UInt8),(6:UInt8)]:LB) (GI.toZ (Ci (Bf (Fa a (yW a)) 285870213051353865) (GI.toZ (58:UInt64)).toNat))).bind λb=>
some (Af b:Int)
abbrev Kw:=Option (Int×Int×Int)
def Afm:Kw:=
some (0,0,24)
def pY:=Afm
def uH(j10:Kw):Kw:=
j10
def uN:=uH pY
def eK(j9:Kw)(f a:Int):Kw:=
if(geq f 48)then
some (f,(Ad 0 (Ad a f)),0)
else
j9
def dT:=eK uN
def fI(j8:Int->Int->Kw)(f b a:Int):Kw:=
if(Cq f (Fm 48 (Ao b a)))then
some (f,(Ad (Ad (0:Int) (1:Int)) (Ad a f)),0)
else
j8 f a
def eD:=fI dT
def dW(j7:Int->Int->Int->Kw)(h:Int)(k:UInt64)(a:Int)(g:LB)(b:Int):Kw:=
if(Bc h 0)then
some (0,0,h)
else
(Hx (Agu k)).bind λf=>
j7 f b a
def fG:=dW eD
def DH(j6:Int->UInt64->Int->LB->Int->Kw)(g:LB)(b a:Int):Kw:=
(Ki g b).bind λm=>
if(Bc m 0)then
some (0,0,m)
else
if(Cq a 0)then
some (0,0,2)
else
if(Nf a b)then
some (0,0,24)
else
(
(
(JN g b a (Fm 48 (Ao b a))).bind λ(k,h)=>
j6 h k a g b))
def PR:=DH fG
abbrev nX:=Option (UInt32×Int×Int)
def kR(a b f:Int)(g:LB)(h k:Int):nX:=
(JN g h b k).bind λ(m,n)=>
if(Bc n 0)then
some (0,0,n)
else
if(Cq f 48)then
(Jg (Nf a 0)).bind λ_=>
some ((wM (Dl (Af f:UInt32) (GI.toZ a).toNat) (Af m:UInt32)),(Ad b k),0)
else
(AW (Af m:UInt32) a).bind λu=>
if(!u)then
some (0,0,12)
else
some ((Af m:UInt32),(Ad b k),0)
def WV:=kR
def kN(j2:Int->Int->Int->LB->Int->Int->nX)(g:LB)(h v a:Int):nX:=
(Ki g h).bind λo=>
if(Bc o 0)then
some (0,0,o)
else
if((Cq a 0)||(Ed a 24))then
some (0,0,2)
else
(PR g h v).bind λ(f,b,p)=>
if(Bc p 0)then
some (0,0,p)
else
if(geq f 48)then
j2 a b f g h 32
else
j2 a b f g h a
def sD:=kN WV
abbrev Nb:=Option (UInt32×Int×Int×Int×UInt64×UInt64×Int)
def uK(f:UInt32)(k w m:Int)(a n:UInt64):Nb:=
some (f,k,w,m,(Ad a (Ao (Af f:UInt64) (Ci a (GI.toZ (4:UInt64)).toNat))),n,0)
def dP:=uK
def jA(j10:UInt32->Int->Int->Int->UInt64->UInt64->Nb)(f:UInt32)(k m:Int)(a n:UInt64)(w:Int):Nb:=
j10 f k w m a n
def jI:=jA dP
def kX(j9:UInt32->Int->Int->UInt64->UInt64->Int->Nb)(f:UInt32)(k b:Int)(a:UInt64)(m:Int)(n:UInt64):Nb:=
if(Ed b 0)then
(Jg (Nf b 0)).bind λ_=>
if(Cq (Ad a (Ao (Af f:UInt64) (Ci a (GI.toZ (4:UInt64)).toNat))) (Dl (16:UInt64) (GI.toZ b).toNat))then
j9 f k m a n (Ao b 1)
else
if(Cq b 24)then
(Jg (Nf b 0)).bind λ_=>
if(Ed (Ad a (Ao (Af f:UInt64) (Ci a (GI.toZ (4:UInt64)).toNat))) (Dl (32:UInt64) (GI.toZ b).toNat))then
j9 f k m a n (Ad b 1)
else
j9 f k m a n b
else
j9 f k m a n b
else
if(Cq b 24)then
(Jg (Nf b 0)).bind λ_=>
if(Ed (Ad a (Ao (Af f:UInt64) (Ci a (GI.toZ (4:UInt64)).toNat))) (Dl (32:UInt64) (GI.toZ b).toNat))then
j9 f k m a n (Ad b 1)
else
j9 f k m a n b
else
j9 f k m a n b
def MN:=kX jI
def kY(j8:UInt32->Int->Int->UInt64->Int->UInt64->Nb)(b h:Int)(a g:UInt64)(f:UInt32)(k:Int):Nb:=
(QF b h a g f).bind λ(ad,o)=>
if(geq ad 1)then
if(Ed h 0)then
(Jg (Nf h 0)).bind λ_=>
if(Cq (Ad g (Ao (Af o:UInt64) (Ci g (GI.toZ (4:UInt64)).toNat))) (Dl (16:UInt64) (GI.toZ h).toNat))then
j8 f k b a (Ao h 1) (Ad g (Ao (Af o:UInt64) (Ci g (GI.toZ (4:UInt64)).toNat)))
else
if(Cq h 24)then
(Jg (Nf h 0)).bind λ_=>
if(Ed (Ad g (Ao (Af o:UInt64) (Ci g (GI.toZ (4:UInt64)).toNat))) (Dl (32:UInt64) (GI.toZ h).toNat))then
j8 f k b a (Ad h 1) (Ad g (Ao (Af o:UInt64) (Ci g (GI.toZ (4:UInt64)).toNat)))
else
j8 f k b a h (Ad g (Ao (Af o:UInt64) (Ci g (GI.toZ (4:UInt64)).toNat)))
else
j8 f k b a h (Ad g (Ao (Af o:UInt64) (Ci g (GI.toZ (4:UInt64)).toNat)))
else
if(Cq h 24)then
(Jg (Nf h 0)).bind λ_=>
if(Ed (Ad g (Ao (Af o:UInt64) (Ci g (GI.toZ (4:UInt64)).toNat))) (Dl (32:UInt64) (GI.toZ h).toNat))then
j8 f k b a (Ad h 1) (Ad g (Ao (Af o:UInt64) (Ci g (GI.toZ (4:UInt64)).toNat)))
else
j8 f k b a h (Ad g (Ao (Af o:UInt64) (Ci g (GI.toZ (4:UInt64)).toNat)))
else
j8 f k b a h (Ad g (Ao (Af o:UInt64) (Ci g (GI.toZ (4:UInt64)).toNat)))
else
j8 f k b a h g
def WY:=kY MN
def kO(j7:Int->Int->UInt64->UInt64->UInt32->Int->Nb)(p:Int)(u:LB)(v b h:Int)(a g:UInt64):Nb:=
(JN u v p 1).bind λ(ae,aa)=>
if(Bc aa 0)then
some (0,0,0,0,0,0,aa)
else
if(geq ae 0)then
(JN u v (Ad p 1) b).bind λ(af,ab)=>
if(Bc ab 0)then
some (0,0,0,0,0,0,ab)
else
j7 b h a g (Af af:UInt32) (Ad (Ad p 1) b)
else
(sD u v (Ad p 1) h).bind λ(y,ag,ac)=>
if(Bc ac 0)then
some (0,0,0,0,0,0,ac)
else
(Jg (Nf b 0)).bind λ_=>
if(Cq (Ad y (Dl (1:UInt32) (GI.toZ b).toNat)) y)then
some (0,0,0,0,0,0,12)
else
j7 b h a g (Ad y (Dl (1:UInt32) (GI.toZ b).toNat)) ag
def kG:=kO WY
def jR(j6:Int->LB->Int->Int->Int->UInt64->UInt64->Nb)(u:LB)(v p b h:Int)(a g:UInt64):Nb:=
(Ki u v).bind λah=>
if(Bc ah 0)then
some (0,0,0,0,0,0,8)
else
(aA b h a g).bind λai=>
if(Bc ai 0)then
some (0,0,0,0,0,0,8)
else
j6 p u v b h a g
def OI:=jR kG
abbrev Cl:=Option (LU×Int×Int)
def wS(k:Int)(m:LU):Cl:=
some (m,k,0)
def aH:=wS
def ZI(Ir:Int->Int-> (List (Int×Int×UInt64×UInt64×Unit))->LU->Cl)(a f:Int)(g:LB)(b k v:Int)(w:UInt32)(h:Int)(ag:List (Int×Int×UInt64×UInt64×Unit))(m:LU):Cl:=
(Du m ([w]:LU)).bind λak=>
Ir (Ad k v) (Ad h 1) ag ak
def FP Ir:=ZI Ir
def Vq(j22:Int->Int->UInt32->Int-> (List (Int×Int×UInt64×UInt64×Unit))->LU->Cl)(a f:Int)(g:LB)(b k h y:Int)(w:UInt32)(v:Int)(n:List (Int×Int×UInt64×UInt64×Unit))(m:LU)(aa ab:Int)(ac ad:UInt64):Cl:=
if(Bc y 0)then
some (([]:LU),0,y)
else
(Jg (Bc a 0)).bind λ_=>
(Ap n (Gx h a)).bind λ_=>
(Ng n (Gx h a) (aa,ab,ac,ad,())).bind λag=>
j22 k v w h ag m
def Vu Ir a f g b:=Vq (FP Ir a f g b) a f g b
def Vp(j21:Int->Int->Int->UInt32->Int-> (List (Int×Int×UInt64×UInt64×Unit))->LU->Int->Int->UInt64->UInt64->Cl)(j24:Int->LU->Cl)(a f:Int)(g:LB)(b k h:Int)(n:List (Int×Int×UInt64×UInt64×Unit))(m:LU):Cl:=
if(Cq h (Bf f a))then
(oM g b k (Fm (Ad k 81) b)).bind λ(ah,ae,af)=>
if(Bc af 0)then
some (([]:LU),0,af)
else
(Jg (Bc a 0)).bind λ_=>
(Ap n (Gx h a)).bind λ_=>
(
(
(Ap n (Gx h a)).bind λp=>
(
(OI ah ae 0 p.1 p.2.1 p.2.2.1 p.2.2.2.1).bind λ(w,v,aa,ab,ac,ad,y)=>
j21 k h y w v n m aa ab ac ad)))
else
j24 k m
def Qi(a f:Int)(g:LB)(b:Int):Nat->Int->Int-> (List (Int×Int×UInt64×UInt64×Unit))->LU->Cl
|0,_,_,_,_=>none
|q+1,k,h,n,m=>Vp (Vu (Qi a f g b q) a f g b) aH a f g b k h n m
def aL a f g b:=Qi a f g b Ax
def YA(j16:Int->Int->LB->Int->Int->Int-> (List (Int×Int×UInt64×UInt64×Unit))->LU->Cl)(a f:Int)(g:LB)(b:Int)(o:List (Int×Int×UInt64×UInt64×Unit)):Cl:=
j16 a f g b 0 0 o ([]:LU)
def FU:=YA aL
def aJ(j15:Int->Int->LB->Int-> (List (Int×Int×UInt64×UInt64×Unit))->Cl)(Bei:Int-> (List (Int×Int×UInt64×UInt64×Unit))->Cl)(a f:Int)(g:LB)(b u:Int)(o:List (Int×Int×UInt64×UInt64×Unit)):Cl:=
if(Cq u 6)then
(wD).bind λ(al,ae,af,am)=>
(Ap o u).bind λ_=>
(Ng o u (al,ae,af,am,())).bind λan=>
Bei (Ad u 1) an
else
j15 a f g b o
def FF(a f:Int)(g:LB)(b:Int):Nat->Int-> (List (Int×Int×UInt64×UInt64×Unit))->Cl
|0,_,_=>none
|q+1,u,o=>aJ FU (FF a f g b q) a f g b u o
def Vn a f g b:=FF a f g b Ax
def MF(j13:Int->Int->LB->Int->Int-> (List (Int×Int×UInt64×UInt64×Unit))->Cl)(a f:Int)(g:LB)(b:Int):Cl:=
j13 a f g b 0 (List.replicate 6 ((0:Int),(0:Int),(0:UInt64),(0:UInt64),()))
def LC:=MF Vn
def BS(a:UInt32):Option Int32:=
some (Zy (Af (Ci a (GI.toZ (1:UInt64)).toNat):Int32) (yW (Af (Fa a 1):Int32)))
def oJ(b:Int)(f g:LX)(a:Int32):Option (Int32×Int×LX×LX×Int):=
(bI b f g).bind λ(h,k)=>
if(Bc k 0)then
some (0,0,(List.replicate 16 (0:Int32)),(List.replicate 16 (0:Int32)),k)
else
(aU b f g (Ad a h) a).bind λ(m,n,o)=>
some ((Ad a h),m,n,o,0)
def Ns(a:Int)(b:Int32)(f:Int)(g h:LX)(o:Int32):Option (Int32×Int×Int32×Int×LX×LX×Int):=
(AK a b f g h).bind λk=>
if(Bc k 0)then
some (0,0,0,0,(List.replicate 16 (0:Int32)),(List.replicate 16 (0:Int32)),k)
else
(Zo a b).bind λ(m,y)=>
(oJ f g h o).bind λ(n,p,u,v,w)=>
(
some ((Ad n m),a,(Ad n m),p,u,v,w))
abbrev Hz:=Option (LX×Int)
def Amk(f:LX):Hz:=
some (f,0)
def xE:=Amk
def zE(fK:Int->LX->Hz)(b a:Int)(h:LX):Hz:=
fK (Ad a b) h
def jK fK:=zE fK
def XJ(j20:Int->LX->Hz)(Ai2:Int->LX->Hz)(b a g:Int)(h:LX):Hz:=
if(Nf g 0)then
(Jg (decide (0<= (Ad g 1)/\ (Ad g 1)<((Ad a b)-a)))).bind λ_=>
(Jg (decide (0<=g/\g<((Ad a b)-a)))).bind λ_=>
(Ap h (a+(Ad g 1))).bind λo=>
(Ap h (a+g)).bind λp=>
(Jg (decide (0<=g/\g<((Ad a b)-a)))).bind λ_=>
(Ng h (a+g) (Ao o p)).bind λu=>
Ai2 (Ao g 1) u
else
j20 a h
def BA(fK:Int->LX->Hz)(b a:Int):Nat->Int->LX->Hz
|0,_,_=>none
|q+1,g,h=>XJ (jK fK b) (BA fK b a q) b a g h
def iX fK b a:=BA fK b a Ax
def lJ(j18:Int->Int->LX->Hz)(b a:Int)(k:LX):Hz:=
j18 a (Ao (Ao ((Ad a b)-a) 1) 1) k
def XM fK b:=lJ (iX fK b) b
def jD(j17:Int->LX->Hz)(j22:LX->Hz)(b a:Int)(f:LX):Hz:=
if(Cq a (Ac f))then
(gS (Ac f) a (Ad a b)).bind λ_=>
if(Ed (Ao ((Ad a b)-a) 1) 0)then
(Jg (decide (0<= (Ao ((Ad a b)-a) 1)/\ (Ao ((Ad a b)-a) 1)<((Ad a b)-a)))).bind λ_=>
Option.bind (Jg (decide (0<= (Ao (Ao ((Ad a b)-a) 1) 1)/\ (Ao (Ao ((Ad a b)-a) 1) 1)<((Ad a b)-a)))) λ_=>
(Ap f (a+(Ao ((Ad a b)-a) 1))).bind λv=>
(Ap f (a+(Ao (Ao ((Ad a b)-a) 1) 1))).bind λw=>
(Jg (decide (0<= (Ao ((Ad a b)-a) 1)/\ (Ao ((Ad a b)-a) 1)<((Ad a b)-a)))).bind λ_=>
(Ng f (a+(Ao ((Ad a b)-a) 1)) (Ad v (Br w 2))).bind λy=>
j17 a y
else
j17 a f
else
j22 f
def Vr(b:Int):Nat->Int->LX->Hz
|0,_,_=>none
|q+1,a,f=>jD (XM (Vr b q) b) xE b a f
def jL b:=Vr b Ax
def qJ(j12:Int->Int->LX->Hz)(b:Int)(m:LX):Hz:=
(gP b m).bind λn=>
if(Bc n 0)then
some (([]:LX),n)
else
(Dh m).bind λaa=>
j12 b 0 aa
def zK:=qJ jL
abbrev Ct:=Option (LX×Int)
def VT(a b:Int)(k:LX):Ct:=
(zK a k).bind λ(ah,af)=>
if(Bc af 0)then
some (([]:LX),af)
else
(Ry b ah).bind λae=>
if(Bc ae 0)then
some (([]:LX),ae)
else
some (ah,0)
def Om:=VT
def VR(Bei:Int-> (List (Int×Int32×(Int×LX×LX×Unit)×Unit))->LX->Ct)(a:Int)(f:LU)(b g:Int)(w:Int32)(u:Int)(h:List (Int×Int32×(Int×LX×LX×Unit)×Unit))(k:LX)(y:Int)(v:Int32)(aa:Int)(ab ac:LX):Ct:=
if(Bc u 0)then
some (([]:LX),u)
else
(Ng h (Gx g a) (y,v,(aa,ab,ac,()),())).bind λai=>
(Du k ([w]:LX)).bind λaj=>
Bei (Ad g 1) ai aj
def CR Bei:=VR Bei
def Oe(j16:Int->Int32->Int-> (List (Int×Int32×(Int×LX×LX×Unit)×Unit))->LX->Int->Int32->Int->LX->LX->Ct)(j18:Int->Int->LX->Ct)(f:LU)(a b g:Int)(h:List (Int×Int32×(Int×LX×LX×Unit)×Unit))(k:LX):Ct:=
if(Cq g (Ac f))then
(Ap f g).bind λag=>
(Jg (Bc a 0)).bind λ_=>
(Ap h (Gx g a)).bind λ_=>
(
(Ap h (Gx g a)).bind λm=>
(
(BS ag).bind λae=>
(
(Ns m.1 m.2.1 m.2.2.1.1 m.2.2.1.2.1 m.2.2.1.2.2.1 ae).bind λ(w,y,v,aa,ab,ac,u)=>
j16 g w u h k y v aa ab ac)))
else
j18 a b k
def Kz(f:LU)(a b:Int):Nat->Int-> (List (Int×Int32×(Int×LX×LX×Unit)×Unit))->LX->Ct
|0,_,_,_=>none
|q+1,g,h,k=>Oe (CR (Kz f a b q) a f b) Om f a b g h k
def VO f a b:=Kz f a b Ax
def VN(j13:LU->Int->Int->Int-> (List (Int×Int32×(Int×LX×LX×Unit)×Unit))->LX->Ct)(f:LU)(a b:Int)(n:List (Int×Int32×(Int×LX×LX×Unit)×Unit)):Ct:=
j13 f a b 0 n ([]:LX)
def DD:=VN VO
def WC(j12:LU->Int->Int-> (List (Int×Int32×(Int×LX×LX×Unit)×Unit))->Ct)(At5:Int-> (List (Int×Int32×(Int×LX×LX×Unit)×Unit))->Ct)(f:LU)(a b:Int)(o:LX)(p:Int)(n:List (Int×Int32×(Int×LX×LX×Unit)×Unit)):Ct:=
if(Cq p 6)then
(Aaa b o).bind λ(ak,af,ae,al,am,v)=>
(Ap n p).bind λ_=>
(Ng n p (ak,af,(ae,al,am,()),())).bind λan=>
At5 (Ad p 1) an
else
j12 f a b n
def CZ(f:LU)(a b:Int)(o:LX):Nat->Int-> (List (Int×Int32×(Int×LX×LX×Unit)×Unit))->Ct
|0,_,_=>none
|q+1,p,n=>WC DD (CZ f a b o q) f a b o p n
def Tp f a b o:=CZ f a b o Ax
def FT(j10:LU->Int->Int->LX->Int-> (List (Int×Int32×(Int×LX×LX×Unit)×Unit))->Ct)(a b:Int)(o:LX)(f:LU):Ct:=
j10 f a b o 0 (List.replicate 6 ((0:Int),(0:Int32),((0:Int),(List.replicate 16 (0:Int32)),(List.replicate 16 (0:Int32)),()),()))
def Wx:=FT Tp
def Qc(a h:Int)(u:LX)(f:Int)(v:LB):Option (LX×Int):=
(Gf a h).bind λk=>
if(Bc k 0)then
some (([]:LX),k)
else
if(Cq f 1)then
some (([]:LX),2)
else
(Jg (Bc a 0)).bind λ_=>
if(Ed f (Br 4000 a))then
some (([]:LX),2)
else
(ID v).bind λ(w,m)=>
if(Bc m 0)then
some (([]:LX),m)
else
(Alr w).bind λ(n,b,o)=>
if(Bc o 0)then
some (([]:LX),o)
else
(LC a f n b).bind λ(y,g,p)=>
if(Bc p 0)then
some (([]:LX),p)
else
if(Nf (Ao b g) 8)then
some (([]:LX),12)
else
(JN n b g (Ao b g)).bind λ(aa,ab)=>
if((Bc ab 0)||(Bc aa 0))then
some (([]:LX),12)
else
(Wx a h u y).bind λ(ac,ad)=>
some (ac,ad)
def DL:Option Int:=
some (-1:Int)
def Pe:=DL
def Fi(j6:Option Int)(Sf:Int->Option Int)(a:LI)(b f:Int):Option Int:=
if(Cq f (Ac a))then
(Ap a f).bind λg=>
if(geq b g)then
some f
else
Sf (Ad f 1)
else
j6
def Cc(a:LI)(b:Int):Nat->Int->Option Int
|0,_=>none
|q+1,f=>Fi Pe (Cc a b q) a b f
def Iq a b:=Cc a b Ax
def Il(j4:LI->Int->Int->Option Int)(a:LI)(b:Int):Option Int:=
j4 a b 0
def Kv:=Il Iq
def Ik(a:LI)(b:Int):Option Bool:=
(Kv a b).bind λf=>
some (Nf f 0)
def Tf(a:Int):Option Bool:=
(Ik ([(4:Int),(12:Int),(16:Int),(22:Int),(24:Int),(26:Int),(38:Int)]:LI) a).bind λb=>
some b
def cZ(bi:Bool):Option Int:=
if(!bi)then
some 8
else
some 0
def Bv:=cZ
def IH(j22:Bool->Option Int):Option Int:=
j22 ((true==true)&&((geq (0:Int) (0:Int))&&true))
def Yq:=IH Bv
def KB(j22:Bool->Option Int)(bj:Bool)(bk:Int):Option Int:=
j22 ((bj==true)&&((geq bk 0)&&true))
def Fj:=KB Bv
def ML(j13:Bool->Int->Option Int)(g ak:LB)(ae af aa ag ab b:Int)(m:Bool)(n:Int)(f:LI)(h:LB):Option Int:=
(Px ae af aa ag ab g).bind λdm=>
(Am dm).bind λ(dn,am)=>
j13 dn am
def Zc:=ML Fj
def KZ(j22:Bool->Option Int)(bl:Bool)(bm:Int):Option Int:=
j22 ((bl==true)&&((geq bm 0)&&true))
def Kc:=KZ Bv
def KJ(j25:Bool->Int->Option Int)(g a:LB)(k p o u v b:Int)(m:Bool)(n:Int)(f:LI)(h:LB)(bg:Int):Option Int:=
(Ds k p o u v).bind λ(dp,bh)=>
if(Bc bh 0)then
(Am bh).bind λ(an,bn)=>
j25 an bn
else
(Bq a bg (Ac a)).bind λdq=>
(FI dq (Ac dp)).bind λ(dr,aa)=>
if(geq aa 24)then
j25 true 0
else
if(Bc aa 0)then
(Am aa).bind λ(ds,ab)=>
j25 ds ab
else
(Bq a (Ad (Ad bg (Bf 4 (Ac dr))) 4) (Ac a)).bind λfc=>
j25 false 0
def Ke:=KJ Kc
def MK(j25:Bool->Int->Option Int)(j24:LB->LB->Int->Int->Int->Int->Int->Int->Bool->Int->LI->LB->Int->Option Int)(bd:Bool)(bc:Int)(g a:LB)(k p o u v b:Int)(m:Bool)(n:Int)(f:LI)(h:LB):Option Int:=
if(Bc bc 0)then
(Am bc).bind λ(dt,bh)=>
j25 dt bh
else
if(!bd)then
(Am 26).bind λ(an,bn)=>
j25 an bn
else
j24 g a k p o u v b m n f h 8
def KY:=MK Kc Ke
def MS(j15:Bool->Int->LB->LB->Int->Int->Int->Int->Int->Int->Bool->Int->LI->LB->Option Int)(g a:LB)(k p o u v b:Int)(m:Bool)(n:Int)(f:LI)(h:LB):Option Int:=
(Bq a 0 8).bind λdu=>
(Ou du g).bind λ(bd,bc)=>
j15 bd bc g a k p o u v b m n f h
def Yz:=MS KY
def IE(j22:Bool->Option Int)(bp:Bool)(bq:Int):Option Int:=
j22 ((bp==true)&&((geq bq 0)&&true))
def Ig:=IE Bv
def Yo(j28:Bool->Int->Option Int)(w ah:Int)(g a:LB)(k p o u v b:Int)(m:Bool)(n:Int)(ao:LX)(f:LI)(h:LB):Option Int:=
if(Bc ah 0)then
(Am ah).bind λ(br,bs)=>
j28 br bs
else
(Le o ao).bind λ(bt,be)=>
if(Bc be 0)then
(Am be).bind λ(bu,bv)=>
j28 bu bv
else
(Du h bt).bind λdv=>
(
(Bq a w (Ac a)).bind λdw=>
j28 false 0)
def MC:=Yo Ig
def MQ(j27:Int->Int->LB->LB->Int->Int->Int->Int->Int->Int->Bool->Int->LX->LI->LB->Option Int)(w:Int)(g a:LB)(k p o u v b:Int)(m:Bool)(n:Int)(ap:LX)(ad f:LI)(h:LB):Option Int:=
(Ap ad b).bind λ_=>
(Bq a 0 w).bind λdx=>
(Ap ad b).bind λdy=>
(DP k p o u v).bind λ(dz,bf)=>
(Qc dz bf ap dy dx).bind λ(ao,ah)=>
j27 w ah g a k p o u v b m n ao f h
def Yn:=MQ MC
def BD(j13:Bool->Int->Option Int)(j12:LB->LB->Int->Int->Int->Int->Int->Int->Bool->Int->LI->LB->Option Int)(j25:Bool->Int->Option Int)(j23:LB->LB->Int->Int->Int->Int->Int->Int->Bool->Int->LI->LB->Option Int)(j24:LB->LB->Int->Int->Int->Int->Int->Int->Bool->Int->LI->LB->Int->Option Int)(j28:Bool->Int->Option Int)(j26:Int->LB->LB->Int->Int->Int->Int->Int->Int->Bool->Int->LX->LI->LI->LB->Option Int)(j22:Bool->Option Int)(j21:Option Int)(aq ar:LB)(au av aw ax ay:Int)(az:LI)(ai:Int)(aj:LB)(ac:Bool)(y:Int):Option Int:=
if(Ed (Ac aq) 64)then
some 8
else
if((geq y 0)&&(!ac))then
(Ek aq ar au av aw ax ay az ai aj ac y).bind λ(g,a,k,p,o,u,v,f,b,h,m,n)=>
(BN aq ar au av aw ax ay az ai aj ac y).bind λbw=>
if bw then
if(geq k 0)then
(Je a).bind λ(al,ba)=>
if(geq ba 24)then
j13 true 0
else
if(Bc ba 0)then
(Am ba).bind λ(bx,bz)=>
j13 bx bz
else
(Bq a al (Ac a)).bind λda=>
(Rp da).bind λan=>
if an then
j13 true 0
else
(Bq a al (Ac a)).bind λdb=>
(Mz db).bind λ(ae,af,aa,ag,ab,bb)=>
if(geq bb 24)then
j13 true 0
else
if(Bc bb 0)then
(Am bb).bind λ(dc,dd)=>
j13 dc dd
else
(
(Bq a (Ad al 22) (Ac a)).bind λak=>
(
j12 g ak ae af aa ag ab b m n f h))
else
if(geq (Ac f) 0)then
if(geq k 2)then
if(Cq (Ac a) 8)then
j25 true 0
else
j23 g a k p o u v b m n f h
else
j24 g a k p o u v b m n f h 0
else
if(Cq b (Ac f))then
(Ap f b).bind λ_=>
(Ap f b).bind λw=>
if(Cq (Ac a) w)then
j28 true 0
else
(Nh g).bind λ(ap,am)=>
if(Bc am 0)then
(Am am).bind λ(de,df)=>
j28 de df
else
(Ds k p o u v).bind λ(ad,dg)=>
if((Bc dg 0)||(Nf b (Ac ad)))then
(Am 8).bind λ(dh,di)=>
j28 dh di
else
j26 w g a k p o u v b m n ap ad f h
else
if(Ed (Ac a) 4000)then
(Am 38).bind λ(dj,bf)=>
j22 ((dj==true)&&((geq bf 0)&&true))
else
j21
else
j22 false
else
if((geq (Ac ar) 0)&&(geq (Ac az) 0))then
if((((geq au 0)&&((geq av 0)&&((geq aw 0)&&((geq ax 0)&&((geq ay 0)&&true)))))&&(geq ai 0))&&(gle (Ac aj) 12000))then
if(geq y 0)then
j22 true
else
if(!ac)then
(Tf y).bind λdk=>
j22 dk
else
j22 false
else
j22 false
else
if((false&&(geq ai 0))&&(gle (Ac aj) 12000))then
if(geq y 0)then
j22 true
else
if(!ac)then
(Tf y).bind λdl=>
j22 dl
else
j22 false
else
j22 false
def Pd:=BD Fj Zc Kc Yz Ke Ig Yn Bv Yq
def Ta(f g:LB)(h k m n o:Int)(p:LI)(u:Int)(v:LB)(b:Bool)(a:Int):Option (LB×LB×Int×Int×Int×Int×Int×LI×Int×LB×Bool×Int×Int):=
(Pd f g h k m n o p u v b a).bind λw=>
if(Bc w 0)then
some (([]:LB),([]:LB),0,0,0,0,0,([]:LI),0,([]:LB),false,0,w)
else
if(Bc a 0)then
(
(
(Ek f g h k m n o p u v b a).bind λ(y,aa,ab,ac,ad,ae,af,ag,ah,ai,aj,ak)=>
(
some (y,aa,ab,ac,ad,ae,af,ag,ah,ai,aj,ak,a))))
else
if b then
(Ek f g h k m n o p u v b a).bind λ(al,am,an,ao,ap,aq,ar,au,av,aw,ax,ay)=>
some (al,am,an,ao,ap,aq,ar,au,av,aw,ax,ay,36)
else
(Ek f g h k m n o p u v b a).bind λ(az,ba,bb,bc,bd,be,bf,bg,bh,bi,bj,bk)=>
some (az,ba,bb,bc,bd,be,bf,bg,bh,bi,bj,bk,0)
def XL(b g:LB)(h k m n o:Int)(p:LI)(u:Int)(f:LB)(v:Bool)(w a:Int):Option (LB×LB×Int×Int×Int×Int×Int×LI×Int×LB×Bool×Int×Int):=
some (b,([]:LB),0,0,0,0,0,([]:LI),0,f,false,a,a)
abbrev Au:=Option (LB×LB×Int×Int×Int×Int×Int×LI×Int×LB×Bool×Int×Int)
def PW(XN:LB->Int->Int->Int->Int->Int->Int->LI->LB->Au)(a:LB)(b:Bool)(f:Int)(ar:LB)(au av aw ax ay az:Int)(bh:Bool)(be:Int)(ba:LI)(bb:LB):Au:=
if bh then
(Ek a ar au av aw ax ay ba az bb b f).bind λ(fh,fi,fj,bc,bi,ai,fk,fl,fm,fn,fo,aj)=>
some (fh,fi,fj,bc,bi,ai,fk,fl,fm,fn,fo,aj,0)
else
if(Bc be 0)then
(XL a ar au av aw ax ay ba az bb b f be).bind λ(fp,fq,fs,ft,fu,fv,fw,fx,fy,fz,ga,gb,gc)=>
some (fp,fq,fs,ft,fu,fv,fw,fx,fy,fz,ga,gb,gc)
else
XN ar au av aw ax ay az ba bb
def Ck XN:=PW XN
def gL(j71:LB->Int->Int->Int->Int->Int->Int->Bool->Int->LI->LB->Au)(a:LB)(b:Bool)(f:Int)(g:LB)(m p o u v h:Int)(k:LI)(n:LB):Au:=
j71 g m p o u v h true 0 k n
def AX XN a b f:=gL (Ck XN a b f) a b f
def iU(j71:LB->Int->Int->Int->Int->Int->Int->Bool->Int->LI->LB->Au)(a:LB)(b:Bool)(f h:Int)(k:LI)(n:LB)(bj:Bool)(bk:Int)(bl:LB)(bm bn bp bq br:Int):Au:=
j71 bl bm bn bp bq br h bj bk k n
def Ph XN a b f:=iU (Ck XN a b f) a b f
def OD(j62:Int->LI->LB->Bool->Int->LB->Int->Int->Int->Int->Int->Au)(a:LB)(b:Bool)(f:Int)(af:LB)(ab ac y ad aa h:Int)(k:LI)(n:LB):Au:=
(Px ab ac y ad aa a).bind λgd=>
(Am gd).bind λ(ge,ak)=>
j62 h k n ge ak af ab ac y ad aa
def Uh XN a b f:=OD (Ph XN a b f) a b f
def iH(j71:LB->Int->Int->Int->Int->Int->Int->Bool->Int->LI->LB->Au)(a:LB)(b:Bool)(f m p o u v h:Int)(n:LB)(bs:Bool)(bt:Int)(bu:LB)(bv:LI):Au:=
j71 bu m p o u v h bs bt bv n
def Mg XN a b f:=iH (Ck XN a b f) a b f
def PQ(j75:Int->Int->Int->Int->Int->Int->LB->Bool->Int->LB->LI->Au)(a:LB)(b:Bool)(f:Int)(g:LB)(m p o u v h:Int)(k:LI)(n:LB)(bf:Int):Au:=
(Ds m p o u v).bind λ(gf,bg)=>
if(Bc bg 0)then
(Am bg).bind λ(al,bw)=>
j75 m p o u v h n al bw g k
else
(Bq g bf (Ac g)).bind λgg=>
(FI gg (Ac gf)).bind λ(dw,y)=>
if(geq y 24)then
j75 m p o u v h n true 0 g k
else
if(Bc y 0)then
(Am y).bind λ(gh,aa)=>
j75 m p o u v h n gh aa g k
else
(Bq g (Ad (Ad bf (Bf 4 (Ac dw))) 4) (Ac g)).bind λgi=>
j75 m p o u v h n false 0 gi dw
def Mb XN a b f:=PQ (Mg XN a b f) a b f
def OJ(j75:Int->Int->Int->Int->Int->Int->LB->Bool->Int->LB->LI->Au)(j74:LB->Int->Int->Int->Int->Int->Int->LI->LB->Int->Au)(a:LB)(b:Bool)(f:Int)(bd:Bool)(aq:Int)(g:LB)(m p o u v h:Int)(k:LI)(n:LB):Au:=
if(Bc aq 0)then
(Am aq).bind λ(gj,bg)=>
j75 m p o u v h n gj bg g k
else
if(!bd)then
(Am 26).bind λ(al,bw)=>
j75 m p o u v h n al bw g k
else
j74 g m p o u v h k n 8
def QE XN a b f:=OJ (Mg XN a b f) (Mb XN a b f) a b f
def PL(j64:Bool->Int->LB->Int->Int->Int->Int->Int->Int->LI->LB->Au)(a:LB)(b:Bool)(f:Int)(g:LB)(m p o u v h:Int)(k:LI)(n:LB):Au:=
(Bq g 0 8).bind λgk=>
(Ou gk a).bind λ(bd,aq)=>
j64 bd aq g m p o u v h k n
def Vf XN a b f:=PL (QE XN a b f) a b f
def iG(j71:LB->Int->Int->Int->Int->Int->Int->Bool->Int->LI->LB->Au)(a:LB)(b:Bool)(f m p o u v:Int)(k:LI)(bx:Bool)(bz:Int)(da:LB)(db:Int)(dc:LB):Au:=
j71 da m p o u v db bx bz k dc
def Pf XN a b f:=iG (Ck XN a b f) a b f
def BJ(j78:Int->Int->Int->Int->Int->LI->Bool->Int->LB->Int->LB->Au)(a:LB)(b:Bool)(f w ag:Int)(g:LB)(m p o u v h:Int)(am:LX)(k:LI)(n:LB):Au:=
if(Bc ag 0)then
(Am ag).bind λ(dd,de)=>
j78 m p o u v k dd de g h n
else
(Le o am).bind λ(df,aj)=>
if(Bc aj 0)then
(Am aj).bind λ(dg,dh)=>
j78 m p o u v k dg dh g h n
else
(Du n df).bind λdi=>
(
(Bq g w (Ac g)).bind λdj=>
j78 m p o u v k false 0 dj (Ad h 1) di)
def OY XN a b f:=BJ (Pf XN a b f) a b f
def OL(j77:Int->Int->LB->Int->Int->Int->Int->Int->Int->LX->LI->LB->Au)(a:LB)(b:Bool)(f w:Int)(g:LB)(m p o u v h:Int)(an:LX)(ae k:LI)(n:LB):Au:=
(Ap ae h).bind λ_=>
(Bq g 0 w).bind λgl=>
(Ap ae h).bind λgm=>
(DP m p o u v).bind λ(bi,ai)=>
(Qc bi ai an gm gl).bind λ(am,ag)=>
j77 w ag g m p o u v h am k n
def Um XN a b f:=OL (OY XN a b f) a b f
def Jl(j62:Int->LI->LB->Bool->Int->LB->Int->Int->Int->Int->Int->Au)(j61:LB->Int->Int->Int->Int->Int->Int->LI->LB->Au)(j75:Int->Int->Int->Int->Int->Int->LB->Bool->Int->LB->LI->Au)(j73:LB->Int->Int->Int->Int->Int->Int->LI->LB->Au)(j74:LB->Int->Int->Int->Int->Int->Int->LI->LB->Int->Au)(j78:Int->Int->Int->Int->Int->LI->Bool->Int->LB->Int->LB->Au)(j76:Int->LB->Int->Int->Int->Int->Int->Int->LX->LI->LI->LB->Au)(j71:LB->Int->Int->Int->Int->Int->Int->Bool->Int->LI->LB->Au)(j70:LB->Int->Int->Int->Int->Int->Int->LI->LB->Au)(a:LB)(b:Bool)(f:Int)(g:LB)(m p o u v h:Int)(k:LI)(n:LB):Au:=
if(geq m 0)then
(Je g).bind λ(ah,ao)=>
if(geq ao 24)then
j62 h k n true 0 g m p o u v
else
if(Bc ao 0)then
(Am ao).bind λ(dk,dl)=>
j62 h k n dk dl g m p o u v
else
(Bq g ah (Ac g)).bind λdm=>
(Rp dm).bind λal=>
if al then
j62 h k n true 0 g m p o u v
else
(Bq g ah (Ac g)).bind λdn=>
(Mz dn).bind λ(ab,ac,y,ad,aa,ap)=>
if(geq ap 24)then
j62 h k n true 0 g m p o u v
else
if(Bc ap 0)then
(Am ap).bind λ(dp,dq)=>
j62 h k n dp dq g m p o u v
else
(
(Bq g (Ad ah 22) (Ac g)).bind λaf=>
(
j61 af ab ac y ad aa h k n))
else
if(geq (Ac k) 0)then
if(geq m 2)then
if(Cq (Ac g) 8)then
j75 m p o u v h n true 0 g k
else
j73 g m p o u v h k n
else
j74 g m p o u v h k n 0
else
if(Cq h (Ac k))then
(Ap k h).bind λ_=>
(Ap k h).bind λw=>
if(Cq (Ac g) w)then
j78 m p o u v k true 0 g h n
else
(Nh a).bind λ(an,ak)=>
if(Bc ak 0)then
(Am ak).bind λ(dr,ds)=>
j78 m p o u v k dr ds g h n
else
(Ds m p o u v).bind λ(ae,dt)=>
if((Bc dt 0)||(Nf h (Ac ae)))then
(Am 8).bind λ(du,bc)=>
j78 m p o u v k du bc g h n
else
j76 w g m p o u v h an ae k n
else
if(Ed (Ac g) 4000)then
(Am 38).bind λ(dv,ai)=>
j71 g m p o u v h dv ai k n
else
j70 g m p o u v h k n
def Bb(a:LB)(b:Bool)(f:Int):Nat->LB->Int->Int->Int->Int->Int->Int->LI->LB->Au
|0,_,_,_,_,_,_,_,_,_=>none
|q+1,g,m,p,o,u,v,h,k,n=>Jl (Ph (Bb a b f q) a b f) (Uh (Bb a b f q) a b f) (Mg (Bb a b f q) a b f) (Vf (Bb a b f q) a b f) (Mb (Bb a b f q) a b f) (Pf (Bb a b f q) a b f) (Um (Bb a b f q) a b f) (Ck (Bb a b f q) a b f) (AX (Bb a b f q) a b f) a b f g m p o u v h k n
def fQ a b f:=Bb a b f Ax
def Wu(j37:LB->Bool->Int->LB->Int->Int->Int->Int->Int->Int->LI->LB->Au)(gn go:LB)(gp gq gr gs gt:Int)(gu:LI)(gv:Int)(gw:LB)(gx:Bool)(gy:Int)(gz:LB):Au:=
(Ta gn go gp gq gr gs gt gu gv gw gx gy).bind λ(a,dx,dy,dz,fa,fb,fc,fd,fe,ff,b,f,fg)=>
if(Bc fg 0)then
some (a,dx,dy,dz,fa,fb,fc,fd,fe,ff,b,f,fg)
else
(Du dx gz).bind λha=>
j37 a b f ha dy dz fa fb fc fe fd ff
def Ko:=Wu fQ
abbrev wL:=Option (Int×Int)
def Abh(a:LB):wL:=
(Bq a (Ao (Ac a) 32) (Ac a)).bind λg=>
(XT g 0).bind λ(f,y,h)=>
if h then
if(Cq (Ao (Ac a) 32) f)then
some (0,24)
else
some ((Ad f 32),0)
else
(Bq a (Ao (Ac a) 32) (Ac a)).bind λk=>
(XT k 2147483648).bind λ(b,m,n)=>
if(!n)then
some (0,12)
else
if(Cq (Ac a) (Ad b 64))then
some (0,24)
else
(Bq a (Ao (Ac a) (Ad b 64)) (Ad (Ao (Ac a) (Ad b 64)) 32)).bind λo=>
(sG b m 2684354560).bind λp=>
(If o p).bind λu=>
if(!u)then
some (0,12)
else
some ((Ad b 64),0)
def oG:=Abh
def rF(j2:LB->wL)(a:LB):wL:=
if(Cq (Ao (Ac a) 32) 0)then
some (0,6)
else
(Bq a (Ao (Ac a) 32) (Ac a)).bind λv=>
(Nt v ([(65:UInt8),(80:UInt8),(69:UInt8),(84:UInt8),(65:UInt8),(71:UInt8),(69:UInt8),(88:UInt8)]:LB)).bind λw=>
if(!w)then
some (0,6)
else
j2 a
def xT:=rF oG
abbrev He:=Option (Int×Int)
def Aar(a:Int):He:=
some (a,0)
def gT:=Aar
def gM(bk8:Int->LB->He)(a:Int)(g:LB):He:=
bk8 (Ad a 1) g
def QD bk8:=gM bk8
def OH(j12:Int->LB->He)(a f:Int)(b:LB):He:=
if(geq f 0)then
some (0,38)
else
(Bq b 0 (Ao (Ac b) f)).bind λg=>
j12 a g
def PM bk8:=OH (QD bk8)
def UE(j11:Int->Int->LB->He)(j14:Int->He)(a:Int)(b:LB):He:=
if(Ed (Ac b) 0)then
(xT b).bind λ(f,k)=>
j11 a f b
else
j14 a
def Wv:Nat->Int->LB->He
|0,_,_=>none
|q+1,a,b=>UE (PM (Wv q)) gT a b
def mR:=Wv Ax
def TX(j8:Int->LB->He)(h:LB):He:=
if(Ed (Ac h) 4000)then
some (0,38)
else
j8 0 h
def IF:=TX mR
def IZ(p a:LB)(g u v w y:Int)(b:LI)(h:Int)(aa:LB)(ab:Bool)(ac:Int):Option Int:=
if(geq g 0)then
(Je a).bind λ(k,f)=>
if(Bc f 0)then
some f
else
(Bq a k (Ac a)).bind λm=>
(Mz m).bind λ(ad,ae,af,ag,ah,n)=>
some n
else
if((Cq h (Ac b))||(geq (Ac b) 0))then
some 24
else
(IF a).bind λ(ai,o)=>
some o
def Hg(aa ab:LB)(ac ad ae af ag:Int)(ah:LI)(ai:Int)(aj:LB)(ak:Bool)(al:Int):Option (LB×LB×Int×Int×Int×Int×Int×LI×Int×LB×Bool×Int×Int):=
(Ta aa ab ac ad ae af ag ah ai aj ak al).bind λ(a,f,g,h,k,m,n,o,p,b,u,v,w)=>
if(Bc w 0)then
some (a,f,g,h,k,m,n,o,p,b,u,v,w)
else
(IZ a f g h k m n o p b u v).bind λy=>
if(Bc y 0)then
(XL a f g h k m n o p b u v y).bind λ(am,an,ao,ap,aq,ar,au,av,aw,ax,ay,az,ba)=>
some (am,an,ao,ap,aq,ar,au,av,aw,ax,ay,az,ba)
else
some (a,([]:LB),0,0,0,0,0,([]:LI),0,b,true,0,0)
def Pq(p u:LB):Option (Int×Int×Int×LX×Int):=
(cI u).bind λ(v,w,y,aa,ab,ac,ad,ae,af,ag,ah,ai,g)=>
if(Bc g 0)then
some (0,0,0,([]:LX),g)
else
(Ko v w y aa ab ac ad ae af ag ah ai p).bind λ(aj,ak,h,b,a,f,k,al,am,an,ao,ap,m)=>
if(Bc m 0)then
some (0,0,0,([]:LX),m)
else
(Hg aj ak h b a f k al am an ao ap).bind λ(au,av,aw,ax,ay,az,ba,bb,bc,aq,bd,be,n)=>
if(Bc n 0)then
some (0,0,0,([]:LX),n)
else
if((geq h 0)&&((geq b 0)&&((geq a 0)&&((geq f 0)&&((geq k 0)&&true)))))then
some (0,0,0,([]:LX),24)
else
(Xl a aq).bind λ(ar,o)=>
if(Bc o 0)then
some (0,0,0,([]:LX),o)
else
some (b,a,f,ar,0)
def nZ:Option Bool:=
some true
def RA:=nZ
def Sd(j6:Option Bool)(Sf:Int->Option Bool)(a b:LX)(f:Int):Option Bool:=
if(Cq f (Ac a))then
(Ap a f).bind λg=>
(Ap b f).bind λh=>
if(Bc g h)then
some false
else
Sf (Ad f 1)
else
j6
def Jn(a b:LX):Nat->Int->Option Bool
|0,_=>none
|q+1,f=>Sd RA (Jn a b q) a b f
def TN a b:=Jn a b Ax
def AH(j4:LX->LX->Int->Option Bool)(a b:LX):Option Bool:=
if(Bc (Ac a) (Ac b))then
some false
else
j4 a b 0
def Yi:=AH TN
def Rz(a b f:Int)(g:LX)(h k m:Int)(n:LX):Option Bool:=
if(((geq a h)&&(geq b k))&&(geq f m))then
(Yi g n).bind λo=>
some o
else
some false
def Wg:Option Bool:=
(OR).bind λ(f,g,h,k)=>
(Qe f g h k ([]:LB)).bind λ(a,m)=>
(Pq a ([]:LB)).bind λ(n,o,p,u,v)=>
(Pq a ([120]:LB)).bind λ(ad,ae,af,ag,b)=>
if(((geq m 0)&&(geq (Ac a) 36))&&(geq v 0))then
(OR).bind λ(w,y,aa,ab)=>
(Rz n o p u w y aa ab).bind λac=>
some (ac&&(geq b 26))
else
some (false&&(geq b 26))
def MJ(a:LB):Option Bool:=
some (((Ed (Ac a) 5000)&&(Cq (Ac a) 12000))||(Ed (Ac a) 12100))
abbrev dX:=Option (Int×Int×Int×Int×Int×Int)
def qT(h:LB)(a b f:Int)(g:LX):dX:=
if(h !=([]:LB))then
some (2,a,b,f,(Br (Ac g) a),0)
else
some (1,a,b,f,(Br (Ac g) a),0)
def bJ:=qT
def Zu(j2:LB->Int->Int->Int->LX->dX)(a b f:Int)(g:LX)(h:LB):dX:=
(Eg a b f g).bind λk=>
if(Bc k 0)then
some (0,0,0,0,0,k)
else
if(Ed (Ac h) 64)then
some (0,0,0,0,0,2)
else
(Jg (Bc a 0)).bind λ_=>
(
j2 h a b f g)
def TR:=Zu bJ
def Th(a:Int)(b:LX):LI->Int->Option (List LX)
  |[],_=>some []
  |n::l,x=>Option.bind (Bq b x (Ad x (Bf n a))) λp=>Option.bind (Th a b l (Ad x (Bf n a))) λps=>some (p::ps)
def Sk(a f:Int)(t:LX):List LX->List LB->Option (List LB×Int)
  |[],o=>some (o,0)
  |x::xs,o=>Option.bind (Mx a f t x) λy=>
    if(Bc y.2 0)=true then some ([],y.2)
    else Option.bind (Du o [y.1]) λo'=>Sk a f t xs o'
def ZH(a h:Int)(b:LX):Option (List LX):=
  Option.bind (Jg (Bc a 0)) λ_=>Option.bind (Zl h (Br (Ac b) a)) λl=>Option.bind (Jg (decide (Ac l.1<=17179869184))) λ_=>Th a b l.1 0
def RN(a f h:Int)(b:LX)(p:LB):Option (List LB×Int):=
  Option.bind (Eg a f h b) λe=>
    if(Bc e 0)=true then some ([],e)
    else Option.bind (Nh p) λt=>
      if(Bc t.2 0)=true then some ([],t.2)
      else Option.bind (ZH a h b) λxs=>Sk a f t.1 xs []
def dR(a:LB):Option Int:=
some (Ac a)
def Ae7(a:LB):Option (LB):=
some a
def oK:=Ae7
def JT(j6:LB->Option (LB))(Sf:Int->LB->Option (LB))(b:List LB)(f:Int)(a:LB):Option (LB):=
if(Cq f (Ac b))then
(Ap b f).bind λg=>
(Du a g).bind λh=>
Sf (Ad f 1) h
else
j6 a
def Ut(b:List LB):Nat->Int->LB->Option (LB)
|0,_,_=>none
|q+1,f,a=>JT oK (Ut b q) b f a
def qS b:=Ut b Ax
def pZ(j4:(List LB)->Int->LB->Option (LB))(b:List LB):Option (LB):=
j4 b 0 ([]:LB)
def pL:=pZ qS
abbrev Gb:=Option (LB×Int)
def mM(k:Int)(a:List LB)(b f n:LB):Gb:=
if(Bc k 0)then
some (([]:LB),k)
else
(Du ([b,f,n]:List LB) a).bind λm=>
(pL m).bind λad=>
some (ad,0)
def VD:=mM
def UC(j14:Int-> (List LB)->LB->LB->LB->Gb)(h:LI)(a:List LB)(b f:LB):Gb:=
(GZ h).bind λ(n,k)=>
j14 k a b f n
def Wz:=UC VD
def mO(bk9:Int->LI->Gb)(a:List LB)(b f:LB)(g:Int)(m:LI):Gb:=
bk9 (Ad g 1) m
def UA bk9:=mO bk9
def LA(j11:Int->LI->Gb)(j13:LI-> (List LB)->LB->LB->Gb)(a:List LB)(b f:LB)(g:Int)(h:LI):Gb:=
if(Cq g (Ac a))then
(Ap a g).bind λ_=>
(Ap a g).bind λae=>
(dR ae).bind λk=>
(Ap h g).bind λ_=>
(Ng h g k).bind λm=>
j11 g m
else
j13 h a b f
def Uc(a:List LB)(b f:LB):Nat->Int->LI->Gb
|0,_,_=>none
|q+1,g,h=>LA (UA (Uc a b f q) a b f) Wz a b f g h
def oQ a b f:=Uc a b f Ax
def bN(j9:(List LB)->LB->LB->Int->LI->Gb)(a:List LB)(b f:LB):Gb:=
(mkI (Ac a) (0:Int)).bind λaf=>
(Jg (geq (Ac a) (Ac a))).bind λ_=>
j9 a b f 0 af
def MO:=bN oQ
def KI(j8:(List LB)->LB->LB->Gb)(p u v:Int)(w:LX)(o:LB):Gb:=
(TR p u v w o).bind λ(y,ag,ah,ai,aj,aa)=>
if(Bc aa 0)then
some (([]:LB),aa)
else
(RN p u v w o).bind λ(a,ab)=>
if(Bc ab 0)then
some (([]:LB),ab)
else
(LW y ag ah ai aj).bind λ(b,ac)=>
if(Bc ac 0)then
some (([]:LB),ac)
else
if(geq y 2)then
(BC o).bind λ(ak,al)=>
j8 a b ak
else
j8 a b ([]:LB)
def GP:=KI MO
def pP(f:LB):Option (Int×Int×Int×Int×Int×Int×Int×Int×Int×Int×LI×Int):=
if(Ed (Ac f) 100000)then
some (0,0,0,0,0,0,0,0,0,0,([]:LI),4)
else
(Je f).bind λ(a,n)=>
if(Bc n 0)then
some (0,0,0,0,0,0,0,0,0,0,([]:LI),n)
else
(Bq f a (Ac f)).bind λu=>
(Mz u).bind λ(b,g,h,k,m,o)=>
if(Bc o 0)then
some (b,g,h,k,m,0,0,0,0,0,([]:LI),o)
else
(Ds b g h k m).bind λ(p,v)=>
if(geq b 2)then
some (b,g,h,k,m,a,(Ad a 22),(Ad (Ad a 22) 8),0,0,p,0)
else
some (b,g,h,k,m,a,(Ad a 22),(Ad a 22),0,0,p,0)
abbrev Ch:=Option (Int×Int×Int×LX×Int)
def rN(a:LB)(aa b f h:Int)(ad:LX):Ch:=
(Bq a aa (Ac a)).bind λaq=>
(IF aq).bind λ(bb,ar)=>
if(Bc ar 0)then
some (0,0,0,([]:LX),38)
else
some (b,f,h,ad,0)
def ZT:=rN
def rH(At4:Int->Int->LX->Ch)(a:LB)(w:LI)(m b f h o p n g y ab:Int)(ac:LX)(k:LI)(aa aj ak ae:Int)(am ad:LX):Ch:=
if(Bc ak 0)then
some (0,0,0,([]:LX),ak)
else
(Du ad am).bind λau=>
At4 (Ad aa aj) (Ad ae 1) au
def ZM At4:=rH At4
def KN(j24:Int->Int->Int->Int->LX->LX->Ch)(j26:LB->Int->Int->Int->Int->LX->Ch)(a:LB)(w:LI)(m b f h o p n g y ab:Int)(ac:LX)(k:LI)(aa ae:Int)(ad:LX):Ch:=
if(Cq ae (Ac w))then
(Ap w ae).bind λ_=>
(Ap w ae).bind λaj=>
if(Cq (Ac a) (Ad aa aj))then
some (0,0,0,([]:LX),24)
else
(Ap k ae).bind λ_=>
(Bq a aa (Ad aa aj)).bind λav=>
(Ap k ae).bind λaw=>
(Qc b f ac aw av).bind λ(am,ak)=>
j24 aa aj ak ae am ad
else
j26 a aa b f h ad
def Uo(a:LB)(w:LI)(m b f h o p n g y ab:Int)(ac:LX)(k:LI):Nat->Int->Int->LX->Ch
|0,_,_,_=>none
|q+1,aa,ae,ad=>KN (ZM (Uo a w m b f h o p n g y ab ac k q) a w m b f h o p n g y ab ac k) ZT a w m b f h o p n g y ab ac k aa ae ad
def qB a w m b f h o p n g y ab ac k:=Uo a w m b f h o p n g y ab ac k Ax
def HQ(j21:LB->LI->Int->Int->Int->Int->Int->Int->Int->Int->Int->Int->LX->LI->Int->Int->LX->Ch)(a u:LB)(m b f h o p n g:Int)(k:LI)(an y ab:Int)(w:LI):Ch:=
if(Bc an 0)then
some (0,0,0,([]:LX),an)
else
(Nh u).bind λ(ac,bc)=>
j21 a w m b f h o p n g y ab ac k y 0 ([]:LX)
def Qk:=HQ qB
def YK(j20:LB->LB->Int->Int->Int->Int->Int->Int->Int->Int->LI->Int->Int->Int->LI->Ch)(a u:LB)(v:LI)(m b f h o p n g af:Int)(k:LI):Ch:=
j20 a u m b f h o p n g k 0 (Ad (Ad g (Bf 4 (Ac v))) 4) af v
def IG:=YK Qk
def LG(j19:LB->LB->LI->Int->Int->Int->Int->Int->Int->Int->Int->Int->LI->Ch)(Bk9:Int->Int->Ch)(v:LI)(a u:LB)(m b f h o p n g:Int)(k:LI)(ag af:Int):Ch:=
if(Cq ag (Ac v))then
(Ap v ag).bind λ_=>
(Ap v ag).bind λax=>
Bk9 (Ad ag 1) (Ad af ax)
else
j19 a u v m b f h o p n g af k
def Va(v:LI)(a u:LB)(m b f h o p n g:Int)(k:LI):Nat->Int->Int->Ch
|0,_,_=>none
|q+1,ag,af=>LG IG (Va v a u m b f h o p n g k q) v a u m b f h o p n g k ag af
def aM v a u m b f h o p n g k:=Va v a u m b f h o p n g k Ax
def KW(j20:LB->LB->Int->Int->Int->Int->Int->Int->Int->Int->LI->Int->Int->Int->LI->Ch)(j17:LI->LB->LB->Int->Int->Int->Int->Int->Int->Int->Int->LI->Int->Int->Ch)(al:Int)(a u:LB)(m b f h o p n g ah ai:Int)(v k:LI):Ch:=
if(Bc al 0)then
j20 a u m b f h o p n g k al ah ai ([]:LI)
else
j17 v a u m b f h o p n g k 0 (Ad (Ad g (Bf 4 (Ac v))) 4)
def KO:=KW Qk aM
def ZC(j20:LB->LB->Int->Int->Int->Int->Int->Int->Int->Int->LI->Int->Int->Int->LI->Ch)(j16:Int->LB->LB->Int->Int->Int->Int->Int->Int->Int->Int->Int->Int->LI->LI->Ch)(a u:LB)(m b f h o p n g ah ai:Int)(k:LI):Ch:=
if(Cq (Ac a) g)then
j20 a u m b f h o p n g k 24 ah ai ([]:LI)
else
(Bq a g (Ac a)).bind λay=>
(FI ay (Ac k)).bind λ(v,al)=>
j16 al a u m b f h o p n g ah ai v k
def AA:=ZC Qk KO
def JB(j15:LB->LB->Int->Int->Int->Int->Int->Int->Int->Int->Int->Int->LI->Ch)(a u:LB)(m b f h o p n g ah ai:Int)(k:LI)(ao:Int):Ch:=
if(Bc ao 0)then
some (0,0,0,([]:LX),ao)
else
j15 a u m b f h o p n g ah ai k
def Uz:=JB AA
def fA(j14:LB->LB->Int->Int->Int->Int->Int->Int->Int->Int->Int->Int->LI->Int->Ch)(a u:LB):Ch:=
if(Ed (Ac u) 64)then
some (0,0,0,([]:LX),2)
else
(pP a).bind λ(m,b,f,h,o,p,n,g,ah,ai,k,ap)=>
if(Bc ap 0)then
some (0,0,0,([]:LX),ap)
else
if((u==([]:LB)) !=(geq m 1))then
j14 a u m b f h o p n g ah ai k 26
else
if(geq m 1)then
j14 a u m b f h o p n g ah ai k 0
else
if(Cq (Ac a) g)then
j14 a u m b f h o p n g ah ai k 24
else
(Bq a n g).bind λaz=>
(Ou az u).bind λ(ba,bd)=>
if(!ba)then
j14 a u m b f h o p n g ah ai k 26
else
j14 a u m b f h o p n g ah ai k 0
def Nq:=fA Uz
def Yl(a f:LB)(b:Bool)(h k m:Int)(g:LX):Option Bool:=
(Qe h k m g a).bind λ(n,o)=>
(GP h k m g a).bind λ(p,u)=>
(Pq f a).bind λ(v,w,y,aa,ab)=>
(Nq f a).bind λ(ac,ad,ae,af,ag)=>
if(((b&&(geq o u))&&(n==p))&&(geq ab ag))then
(Rz v w y aa ac ad ae af).bind λah=>
some ah
else
some false
def Js:=Yl
def Oo(j2:LB->LB->Bool->Int->Int->Int->LX->Option Bool)(h k m:Int)(g:LX)(a f:LB):Option Bool:=
(Wg).bind λb=>
if((Ed (Ac g) 400)||(Ed (Ac a) 64))then
if(true||(!b))then
some b
else
j2 a f b h k m g
else
(MJ f).bind λai=>
if(ai||(!b))then
some b
else
j2 a f b h k m g
def Mq:=Oo Js
def La(f g b a h:Int):Option Bool:=
if((((geq f 1)||(geq f 2))&&(Nf g 1))&&(gle g 6))then
some ((((((geq b 8)||(geq b 16))||(geq b 24))&&(Nf a 1))&&(gle a 1048576))&&(Nf h 1))
else
some (((false&&(Nf a 1))&&(gle a 1048576))&&(Nf h 1))
def Ys(a:Int):Option Int:=
some (tP 1 (Br (Bf 256 a) 245))
def Qn(a:LI):Option (LI):=
some a
def Qv:=Qn
def Lu(j6:LI->Option (LI))(Sf:Int->LI->Option (LI))(b f:Int)(a:LI):Option (LI):=
if(Ed f 0)then
(Ys b).bind λg=>
(Du a ([(Fm f g)]:LI)).bind λh=>
(Ys b).bind λk=>
Sf (Ao f k) h
else
j6 a
def Gh(b:Int):Nat->Int->LI->Option (LI)
|0,_,_=>none
|q+1,f,a=>Lu Qv (Gh b q) b f a
def OA b:=Gh b Ax
def NT(j4:Int->Int->LI->Option (LI))(b m:Int):Option (LI):=
j4 b m ([]:LI)
def Fu:=NT OA
def Yp(h a k f b:Int):Option Bool:=
(
(Jg (Bc a 0)).bind λ_=>
(
if(Ed b (Br 4000 a))then
some true
else
(Fu f b).bind λg=>
some (Ed (Ac g) 1000)))
def Ly(a b f g h:Int):Option Int:=
(La a b f g h).bind λk=>
if(!k)then
some 8
else
(Yp a b f g h).bind λm=>
if m then
some 8
else
some 0
def Ev(a f g h k:Int)(b:LB):Option Int:=
if((b==([]:LB)) !=(geq a 1))then
some 26
else
some 0
def KU(b:Int):Option Int:=
if(Ed b 100000)then
some 8
else
some 0
def IQ:=KU
def NX(bk6:Int->Int->Option Int)(a:LI)(b f:Int):Option Int:=
(Ap a f).bind λg=>
bk6 (Ad b g) (Ad f 1)
def NS bk6:=NX bk6
def Xx(j8:Int->Int->Option Int)(j10:Int->Option Int)(a:LI)(b f:Int):Option Int:=
if(Cq f (Ac a))then
(Ap a f).bind λh=>
if(Cq h 5)then
some 8
else
(Ap a f).bind λk=>
if(Ed k 100000)then
some 8
else
j8 b f
else
j10 b
def Ls(a:LI):Nat->Int->Int->Option Int
|0,_,_=>none
|q+1,b,f=>Xx (NS (Ls a q) a) IQ a b f
def NF a:=Ls a Ax
def Yg(j6:LI->Int->Int->Option Int)(a:LI):Option Int:=
if((Cq (Ac a) 1)||(Ed (Ac a) 1000))then
some 8
else
j6 a 0 0
def Iz:=Yg NF
def Hf(g h k a b:Int):Option (LI):=
(Fu a b).bind λf=>
some f
def Fs(f a b g h:Int):Option (Int×Int):=
some (a,b)
def WJ(a b:Int):Option Int:=
some (Br (Bf a b) 8)
def TH(k a b f g h:Int):Option Int:=
(Fs a b f g h).bind λ(p,u)=>
(WJ p u).bind λv=>
some (Bf k v)
def RB:=TH
def Zk(j6:Int->Int->Int->Int->Int->Int->Option Int)(Sf:Int->Int->Option Int)(n a b f g h:Int)(m:LI)(k o:Int):Option Int:=
if(Cq o n)then
(Ap m o).bind λ_=>
(Ap m o).bind λw=>
Sf (Ad k w) (Ad o 1)
else
j6 k a b f g h
def Ms(n a b f g h:Int)(m:LI):Nat->Int->Int->Option Int
|0,_,_=>none
|q+1,k,o=>Zk RB (Ms n a b f g h m q) n a b f g h m k o
def pT n a b f g h m:=Ms n a b f g h m Ax
def RV(j4:Int->Int->Int->Int->Int->Int->LI->Int->Int->Option Int)(a b f g h n:Int):Option Int:=
(Hf a b f g h).bind λm=>
j4 n a b f g h m 0 0
def Yu:=RV pT
abbrev Hi:=Option (Int×Int)
def nF(a:Int):Hi:=
some (a,0)
def nQ:=nF
def Xn(j6:Int->Hi)(Sf:Int->Int->Hi)(b:LB)(a f:Int):Hi:=
if(Cq f 4)then
(Ap b f).bind λg=>
if(Nf g 128)then
some (0,12)
else
(Ap b f).bind λh=>
Sf (Ad (Bf 128 a) (Af h:Int)) (Ad f 1)
else
j6 a
def Lt(b:LB):Nat->Int->Int->Hi
|0,_,_=>none
|q+1,a,f=>Xn nQ (Lt b q) b a f
def NV b:=Lt b Ax
def NG(j4:LB->Int->Int->Hi)(b:LB):Hi:=
if(Bc (Ac b) 4)then
some (0,2)
else
j4 b 0 0
def EZ:=NG NV
abbrev Ic:=Option (Int×Int)
def TE(a:LB)(g:Int):Ic:=
if(Ed g 4000)then
some (0,4)
else
if(Cq (Ac a) g)then
some (0,24)
else
(Ap a 5).bind λh=>
if(geq h 16)then
(Bq a (Ao g 10) g).bind λk=>
(Bq a 3 10).bind λm=>
(Du ([51,68,73]:LB) m).bind λn=>
if(k !=n)then
some (0,12)
else
some (g,0)
else
some (g,0)
def Zr:=TE
def TL(j6:LB->Int->Ic)(a:LB)(b:Int):Ic:=
(Ap a 5).bind λo=>
if(geq o 16)then
j6 a (Ad (Ad 10 b) 10)
else
j6 a (Ad 10 b)
def Zw:=TL Zr
def RJ(j5:LB->Int->Ic)(a:LB):Ic:=
if(Cq (Ac a) 10)then
some (0,24)
else
(Bq a 6 10).bind λp=>
(EZ p).bind λ(b,f)=>
(Ap a 3).bind λu=>
if(Cq u 2)then
if true then
if true then
if(true||(Bc f 0))then
some (0,12)
else
j5 a b
else
(Ap a 5).bind λv=>
if(Bc v 0)then
(Ap a 5).bind λw=>
if(Bc w 16)then
if(true||(Bc f 0))then
some (0,12)
else
j5 a b
else
(Ap a 3).bind λy=>
if((Bc y 4)||(Bc f 0))then
some (0,12)
else
j5 a b
else
if(false||(Bc f 0))then
some (0,12)
else
j5 a b
else
(Ap a 4).bind λaa=>
if(Bc aa 0)then
if(true||(Bc f 0))then
some (0,12)
else
j5 a b
else
(Ap a 5).bind λab=>
if(Bc ab 0)then
(Ap a 5).bind λac=>
if(Bc ac 16)then
if(true||(Bc f 0))then
some (0,12)
else
j5 a b
else
(Ap a 3).bind λad=>
if((Bc ad 4)||(Bc f 0))then
some (0,12)
else
j5 a b
else
if(false||(Bc f 0))then
some (0,12)
else
j5 a b
else
(Ap a 3).bind λae=>
if(Ed ae 4)then
if true then
if(true||(Bc f 0))then
some (0,12)
else
j5 a b
else
(Ap a 5).bind λaf=>
if(Bc af 0)then
(Ap a 5).bind λag=>
if(Bc ag 16)then
if(true||(Bc f 0))then
some (0,12)
else
j5 a b
else
(Ap a 3).bind λah=>
if((Bc ah 4)||(Bc f 0))then
some (0,12)
else
j5 a b
else
if(false||(Bc f 0))then
some (0,12)
else
j5 a b
else
(Ap a 4).bind λai=>
if(Bc ai 0)then
if(true||(Bc f 0))then
some (0,12)
else
j5 a b
else
(Ap a 5).bind λaj=>
if(Bc aj 0)then
(Ap a 5).bind λak=>
if(Bc ak 16)then
if(true||(Bc f 0))then
some (0,12)
else
j5 a b
else
(Ap a 3).bind λal=>
if((Bc al 4)||(Bc f 0))then
some (0,12)
else
j5 a b
else
if(false||(Bc f 0))then
some (0,12)
else
j5 a b
def SU:=RJ Zw
def RP(j4:LB->Ic)(a:LB):Ic:=
if(Cq (Ac a) 3)then
some (0,6)
else
(Bq a 0 3).bind λam=>
if(am !=([73,68,51]:LB))then
some (0,6)
else
j4 a
def MH:=RP SU
def ZP(a:UInt64):Option UInt64:=
some a
def YE:=ZP
def FR(j6:UInt64->Option UInt64)(Sf:UInt64->Int->Option UInt64)(b:LB)(a:UInt64)(f:Int):Option UInt64:=
if(Nf f 0)then
(Ap b f).bind λg=>
Sf (Ad (Bf 256 a) (Af g:UInt64)) (Ao f 1)
else
j6 a
def Qd(b:LB):Nat->UInt64->Int->Option UInt64
|0,_,_=>none
|q+1,a,f=>FR YE (Qd b q) b a f
def YW b:=Qd b Ax
def aI(j4:LB->UInt64->Int->Option UInt64)(b:LB):Option UInt64:=
j4 b 0 (Ao (Ac b) 1)
def Ei:=aI YW
def Yx(b:LB):Option (Int×Int×Bool):=
(Bq b 12 16).bind λg=>
(Ei g).bind λa=>
(Bq b 16 20).bind λh=>
(Ei h).bind λf=>
if(((Cq a 32)||(Ed a 3032))||(Ed f 1000))then
some (0,0,false)
else
some ((Ao (Af a:Int) 32),(Af f:Int),true)
def FY(a:LB):Option (LB):=
some a
def GB:=FY
def Uf(j6:LB->Option (LB))(Sf:UInt64->Int->LB->Option (LB))(b:Int)(f:UInt64)(g:Int)(a:LB):Option (LB):=
if(Cq g b)then
(Du a ([(Af (HJ f 256):UInt8)]:LB)).bind λh=>
Sf (Br f 256) (Ad g 1) h
else
j6 a
def Jj(b:Int):Nat->UInt64->Int->LB->Option (LB)
|0,_,_,_=>none
|q+1,f,g,a=>Uf GB (Jj b q) b f g a
def GW b:=Jj b Ax
def HA(j4:Int->UInt64->Int->LB->Option (LB))(k:UInt64)(b:Int):Option (LB):=
j4 b k 0 ([]:LB)
def Fo:=HA GW
def Up(a b:Int)(f:UInt64):Option (LB):=
(Fo 2000 4).bind λg=>
(Du ([(65:UInt8),(80:UInt8),(69:UInt8),(84:UInt8),(65:UInt8),(71:UInt8),(69:UInt8),(88:UInt8)]:LB) g).bind λh=>
(Fo (Af (Ad a 32):UInt64) 4).bind λk=>
(Du h k).bind λm=>
(Fo (Af b:UInt64) 4).bind λn=>
(Du m n).bind λo=>
(Fo f 4).bind λp=>
(Du o p).bind λu=>
(mkI (8:Int) (0:UInt8)).bind λv=>
(Du u v).bind λw=>
some w
def Yt(a b:Int):Option (LB):=
(Up a b 2684354560).bind λf=>
some f
def Nn(a b:Int)(f:Bool):Option (LB):=
if f then
(Up a b 2147483648).bind λg=>
some g
else
(Up a b 0).bind λh=>
some h
abbrev Mw:=Option (Int×Int)
def NB(a:LB)(b f:Int):Mw:=
if(Cq (Ac a) (Ad 64 b))then
some (0,24)
else
(Bq a (Ao (Ad 64 b) 32) (Ad 64 b)).bind λg=>
(Nn b f true).bind λh=>
if(g !=h)then
some (0,12)
else
some ((Ad 64 b),0)
def MX:=NB
def NW(j4:LB->Int->Int->Mw)(a:LB):Mw:=
if(Cq (Ac a) 32)then
some (0,24)
else
(Bq a 0 32).bind λk=>
(Yx k).bind λ(b,f,m)=>
if(!m)then
some (0,12)
else
(Bq a 0 32).bind λn=>
(Yt b f).bind λo=>
if(n !=o)then
some (0,12)
else
j4 a b f
def NU:=NW MX
def NK(j3:LB->Mw)(a:LB):Mw:=
if(Cq (Ac a) 8)then
some (0,6)
else
(Bq a 0 8).bind λp=>
if(p !=([65,80,69,84,65,71,69,88]:LB))then
some (0,6)
else
j3 a
def EU:=NK NU
abbrev Hk:=Option (LI×Int)
def NC(bk6:Int->LI->Hk)(a:LB)(b:Int)(f:LI)(g h:Int):Hk:=
if(geq h 6)then
some (f,0)
else
if(Bc h 0)then
some (([]:LI),h)
else
if(Ed (Ad b g) 4000)then
some (([]:LI),4)
else
(Du f ([g]:LI)).bind λm=>
bk6 (Ad b g) m
def Qq bk6:=NC bk6
def Xq(j9:Int->LI->Int->Int->Hk)(a:LB)(b:Int)(f:LI):Hk:=
(Bq a b (Ac a)).bind λn=>
(MH n).bind λ(o,k)=>
if(geq k 6)then
(Bq a b (Ac a)).bind λp=>
(EU p).bind λ(u,v)=>
j9 b f u v
else
j9 b f o k
def Qw(a:LB):Nat->Int->LI->Hk
|0,_,_=>none
|q+1,b,f=>Xq (Qq (Qw a q) a) a b f
def nD a:=Qw a Ax
def mT(j6:LB->Int->LI->Hk)(a:LB):Hk:=
j6 a 0 ([]:LI)
def bO:=mT nD
abbrev Hh:=Option (Int×Int)
def OB(a b:Int):Hh:=
some (b,a)
def ND:=OB
def Xz(j6:Int->Int->Hh)(Sf:Int->Int->Hh)(a:Int)(f:LI)(b g:Int):Hh:=
if(Cq g (Ac f))then
(Ap f g).bind λ_=>
(Ap f g).bind λh=>
Sf (Ad b h) (Ad g 1)
else
j6 a b
def Lk(a:Int)(f:LI):Nat->Int->Int->Hh
|0,_,_=>none
|q+1,b,g=>Xz ND (Lk a f q) a f b g
def Yc a f:=Lk a f Ax
def MY(j4:Int->LI->Int->Int->Hh)(k:LB):Hh:=
(bO k).bind λ(f,a)=>
j4 a f 0 0
def Md:=MY Yc
def Tu(a b:LB):Option Bool:=
if(Cq (Ac a) (Ac b))then
(Bq b 0 (Ac a)).bind λf=>
some (a==f)
else
some false
def TG(a:UInt32)(b:Bool):Option UInt32:=
if b then
some (Zy (Br a 2) 3988292384)
else
some (Br a 2)
def QZ:=TG
def RD(j2:UInt32->Bool->Option UInt32)(a:UInt32)(f:Int):Option UInt32:=
if(geq f 1)then
j2 a (!(geq (HJ a 2) 1))
else
j2 a (geq (HJ a 2) 1)
def HV:=RD QZ
def SY(a:UInt32):Option UInt32:=
some a
def SQ:=SY
def AB(j6:UInt32->Option UInt32)(Sf:UInt32->UInt8->Int->Option UInt32)(a:UInt32)(b:UInt8)(f:Int):Option UInt32:=
if(Cq f 8)then
(HV a (Af (HJ b 2):Int)).bind λg=>
Sf g (Br b 2) (Ad f 1)
else
j6 a
def Mt:Nat->UInt32->UInt8->Int->Option UInt32
|0,_,_,_=>none
|q+1,a,b,f=>AB SQ (Mt q) a b f
def oU:=Mt Ax
def rO(j4:UInt32->UInt8->Int->Option UInt32)(h:UInt32)(k:UInt8):Option UInt32:=
j4 h k 0
def dM:=rO oU
def IP(a:UInt32):Option UInt32:=
some a
def JY:=IP
def Vl(j6:UInt32->Option UInt32)(Sf:UInt32->Int->Option UInt32)(b:LB)(a:UInt32)(f:Int):Option UInt32:=
if(Cq f (Ac b))then
(Ap b f).bind λg=>
(dM a g).bind λh=>
Sf h (Ad f 1)
else
j6 a
def Kn(b:LB):Nat->UInt32->Int->Option UInt32
|0,_,_=>none
|q+1,a,f=>Vl JY (Kn b q) b a f
def KR b:=Kn b Ax
def KL(j4:LB->UInt32->Int->Option UInt32)(k:UInt32)(b:LB):Option UInt32:=
j4 b k 0
def VZ:=KL KR
def Ww(a:LB):Option UInt32:=
(VZ 4294967295 a).bind λb=>
some (Ao 4294967295 b)
abbrev Hy:=Option (Int×Int×Int×Int×Int×Int)
def TA(k h g f b:UInt64):Hy:=
(La (Af k:Int) (Af h:Int) (Af g:Int) (Af f:Int) (Af b:Int)).bind λv=>
if(!v)then
some (0,0,0,0,0,12)
else
(Yp (Af k:Int) (Af h:Int) (Af g:Int) (Af f:Int) (Af b:Int)).bind λw=>
if w then
some (0,0,0,0,0,4)
else
some ((Af k:Int),(Af h:Int),(Af g:Int),(Af f:Int),(Af b:Int),0)
def SC:=TA
def SD(j6:UInt64->UInt64->UInt64->UInt64->UInt64->Hy)(a:LB):Hy:=
(Bq a 4 6).bind λu=>
(Bq a 6 8).bind λp=>
(Bq a 8 10).bind λo=>
(Bq a 10 14).bind λn=>
(Bq a 14 18).bind λm=>
(
(Ei u).bind λk=>
(
(Ei p).bind λh=>
(
(Ei o).bind λg=>
(
(Ei n).bind λf=>
(
(Ei m).bind λb=>
(
j6 k h g f b))))))
def TI:=SD SC
def SR(j5:LB->Hy)(a:LB):Hy:=
if(Cq (Ac a) 22)then
some (0,0,0,0,0,24)
else
(Bq a 18 22).bind λy=>
(Bq a 0 18).bind λaa=>
(Ei y).bind λab=>
(Ww aa).bind λac=>
if(Bc ab (Af ac:UInt64))then
some (0,0,0,0,0,22)
else
j5 a
def SG:=SR TI
def SW(j4:LB->Hy)(a:LB):Hy:=
(Bq a 0 (Fm 4 (Ac a))).bind λad=>
(Bq ([84,84,65,49]:LB) 0 (Fm 4 (Ac a))).bind λae=>
if(ad !=ae)then
some (0,0,0,0,0,12)
else
j4 a
def Nj:=SW SG
abbrev Vk:=Option (Int×Int×Int×Int×Int×Int×Int)
def GG(b:Int)(a:LB):Vk:=
(Nj a).bind λ(k,m,n,o,p,h)=>
if(geq h 24)then
some (0,0,0,0,0,0,(-1:Int))
else
some ((Ad b 22),k,m,n,o,p,h)
def GH:=GG
def HB(j2:Int->LB->Vk)(f:LB):Vk:=
(Md f).bind λ(b,g)=>
if(geq g 24)then
some (0,0,0,0,0,0,(-1:Int))
else
if(Bc g 0)then
some (0,0,0,0,0,0,g)
else
(Bq f b (Ac f)).bind λa=>
(Tu a ([73,68,51]:LB)).bind λu=>
if u then
some (0,0,0,0,0,0,(-1:Int))
else
(Tu a ([65,80,69,84,65,71,69,88]:LB)).bind λv=>
if v then
some (0,0,0,0,0,0,(-1:Int))
else
j2 b a
def Zq:=HB GH
def RC(a:UInt64)(b:Bool):Option UInt64:=
if b then
some (Zy (Bf a 2) 4823603603198064275)
else
some (Bf a 2)
def AD:=RC
def TO(j2:UInt64->Bool->Option UInt64)(a:UInt64)(f:Int):Option UInt64:=
if(geq f 1)then
j2 a (!(Nf a 9223372036854775808))
else
j2 a (Nf a 9223372036854775808)
def HS:=TO AD
def RH(a:UInt64):Option UInt64:=
some a
def TM:=RH
def AS(j6:UInt64->Option UInt64)(Sf:UInt64->Int->Option UInt64)(b:UInt8)(a:UInt64)(f:Int):Option UInt64:=
if(Ed f 0)then
(Jg (Bc f 0)).bind λ_=>
(HS a (Gx (Br (Af b:Int) f) 2)).bind λg=>
Sf g (Br f 2)
else
j6 a
def Mr(b:UInt8):Nat->UInt64->Int->Option UInt64
|0,_,_=>none
|q+1,a,f=>AS TM (Mr b q) b a f
def nY b:=Mr b Ax
def oO(j4:UInt8->UInt64->Int->Option UInt64)(h:UInt64)(b:UInt8):Option UInt64:=
j4 b h 128
def dI:=oO nY
def JH(a:UInt64):Option UInt64:=
some a
def MB:=JH
def Wl(j6:UInt64->Option UInt64)(Sf:UInt64->Int->Option UInt64)(b:LB)(a:UInt64)(f:Int):Option UInt64:=
if(Cq f (Ac b))then
(Ap b f).bind λg=>
(dI a g).bind λh=>
Sf h (Ad f 1)
else
j6 a
def Kh(b:LB):Nat->UInt64->Int->Option UInt64
|0,_,_=>none
|q+1,a,f=>Wl MB (Kh b q) b a f
def lQ b:=Kh b Ax
def kJ(j4:LB->UInt64->Int->Option UInt64)(k:UInt64)(b:LB):Option UInt64:=
j4 b k 0
def CQ:=kJ lQ
def cY(a:LB):Option UInt64:=
(CQ 0 a).bind λb=>
some b
def My(a:LB):Option (LB):=
(cY a).bind λb=>
(Fo b 8).bind λf=>
some f
abbrev Fb:=Option (LI×Int)
def SF(f:LI):Fb:=
(Iz f).bind λh=>
if(Bc h 0)then
some (([]:LI),12)
else
some (f,0)
def Zt:=SF
def AE(j8:LI->Fb)(bk6:Int->LI->Fb)(b:LB)(a g:Int)(f:LI):Fb:=
if(Cq g a)then
(Bq b (Bf 4 g) (Ad (Bf 4 g) 4)).bind λk=>
(Ei k).bind λm=>
(Du f ([(Af m:Int)]:LI)).bind λn=>
bk6 (Ad g 1) n
else
j8 f
def Nc(b:LB)(a:Int):Nat->Int->LI->Fb
|0,_,_=>none
|q+1,g,f=>AE Zt (Nc b a q) b a g f
def SZ b a:=Nc b a Ax
def RG(j6:LB->Int->Int->LI->Fb)(b:LB)(a:Int):Fb:=
j6 b a 0 ([]:LI)
def SX:=RG SZ
def SB(j5:LB->Int->Fb)(b:LB)(a:Int):Fb:=
if((Cq a 1)||(Ed a 1000))then
some (([]:LI),2)
else
if(Cq (Ac b) (Ad (Bf 4 a) 4))then
some (([]:LI),24)
else
(Bq b (Bf 4 a) (Ad (Bf 4 a) 4)).bind λo=>
(Bq b 0 (Bf 4 a)).bind λp=>
(Ei o).bind λu=>
(Ww p).bind λv=>
if(Bc u (Af v:UInt64))then
some (([]:LI),22)
else
j5 b a
def Ru:=SB SX
abbrev Lr:=Option (Int×LI×Int)
def MI(b g:Int)(h:LI):Lr:=
if(geq g 24)then
some (0,([]:LI),(-1:Int))
else
some ((Ad (Ad b (Bf 4 (Ac h))) 4),h,g)
def KK:=MI
def IM(j4:Int->Int->LI->Lr)(a:LB)(f k m n o b:Int):Lr:=
(Bq a b (Ac a)).bind λp=>
(Hf f k m n o).bind λu=>
(Ru p (Ac u)).bind λ(h,g)=>
j4 b g h
def Dq:=IM KK
def Ht(j3:LB->Int->Int->Int->Int->Int->Int->Lr)(a:LB)(f k m n o:Int)(v:LB):Lr:=
if(geq f 2)then
if(Cq (Ac a) 8)then
some (0,([]:LI),(-1:Int))
else
(Bq a 0 8).bind λw=>
(My v).bind λy=>
if(w !=y)then
some (0,([]:LI),26)
else
j3 a f k m n o 8
else
j3 a f k m n o 0
def Ff:=Ht Dq
def dD(b:UInt64)(a:LB):Option (UInt64×Int):=
if(Ed (Ac a) 100000)then
some (0,4)
else
(CQ b a).bind λf=>
some (f,0)
def fU(a:LB):Option (UInt64×Int):=
(dD 0 a).bind λ(b,f)=>
some (b,f)
def tJ(a:LX):Option (LX):=
some a
def tL:=tJ
def aT(bk6:UInt64->Int->LX->Option (LX))(b:UInt64)(f:Int)(a:LX)(g:Int32):Option (LX):=
(Ap a f).bind λ_=>
(Ng a f g).bind λh=>
bk6 (Br b 256) (Ad f 1) h
def EX bk6:=aT bk6
def FD(j8:UInt64->Int->LX->Int32->Option (LX))(j10:LX->Option (LX))(b:UInt64)(f:Int)(a:LX):Option (LX):=
if(Cq f 8)then
if(Ed (Af (HJ b 256):Int32) 127)then
j8 b f a (Ao (Af (HJ b 256):Int32) 256)
else
j8 b f a (Af (HJ b 256):Int32)
else
j10 a
def Mh:Nat->UInt64->Int->LX->Option (LX)
|0,_,_,_=>none
|q+1,b,f,a=>FD (EX (Mh q)) tL b f a
def vH:=Mh Ax
def uW(j6:UInt64->Int->LX->Option (LX))(k:UInt64):Option (LX):=
j6 k 0 (List.replicate 16 (0:Int32))
def mN:=uW vH
def Np(a:LB):Option (LX×Int):=
if(Ed (Ac a) 64)then
some (([(0:Int32),(0:Int32),(0:Int32),(0:Int32),(0:Int32),(0:Int32),(0:Int32),(0:Int32),(0:Int32),(0:Int32),(0:Int32),(0:Int32),(0:Int32),(0:Int32),(0:Int32),(0:Int32)]:LX),2)
else
(fU a).bind λ(b,g)=>
(mN b).bind λf=>
some (f,0)
def Nk(a:Int):Option Int:=
if(geq a 8)then
some 128
else
if(geq a 16)then
some 32768
else
if(geq a 24)then
some 8388608
else
some 0
def Et(a b:Int):Option Int:=
if((Cq a 1)||(Ed a 6))then
some 2
else
(Nk b).bind λf=>
if(geq f 0)then
some 2
else
some 0
def Hc(a f b:Int):Option Int:=
(Et a f).bind λg=>
if((Bc g 0)||(Cq b 1))then
some 2
else
(Jg (Bc a 0)).bind λ_=>
if(Ed b (Br 4000 a))then
some 2
else
some 0
def CF(b:LB):Option (LB):=
(Ww b).bind λa=>
(Du ([]:LB) b).bind λf=>
(Du f ([(Af a:UInt8),(Af (Ci a (GI.toZ (8:UInt64)).toNat):UInt8),(Af (Ci a (GI.toZ (16:UInt64)).toNat):UInt8),(Af (Ci a (GI.toZ (24:UInt64)).toNat):UInt8)]:LB)).bind λg=>
some g
def Tq(a:LB):Option Int:=
if(Cq (Ac a) 5)then
some 24
else
if(Ed (Ac a) 41254)then
some 4
else
(Bq a 0 (Ao (Ac a) 4)).bind λb=>
(CF b).bind λf=>
if(f !=a)then
some 22
else
some 0
def Po:Option (Int×Int×UInt64×UInt64):=
some (10,10,16384,16384)
def nH(a:UInt64):Option UInt64:=
some a
def mW:=nH
def Ya(j6:UInt64->Option UInt64)(Sf:UInt64->Int->Option UInt64)(b:Int)(a:UInt64)(f:Int):Option UInt64:=
if(Cq f b)then
Sf (Bf a 2) (Ad f 1)
else
j6 a
def Lm(b:Int):Nat->UInt64->Int->Option UInt64
|0,_,_=>none
|q+1,a,f=>Ya mW (Lm b q) b a f
def nC b:=Lm b Ax
def nJ(j4:Int->UInt64->Int->Option UInt64)(b:Int):Option UInt64:=
j4 b 1 0
def Hb:=nJ nC
def OM(a g:Int)(h k:UInt64)(b:UInt32):Option Bool:=
(Hb a).bind λf=>
some (Cq (Af b:UInt64) f)
def IJ(a g:Int)(h k:UInt64)(b:UInt32):Option UInt32:=
(Hb a).bind λf=>
some (Af (Ao (Af b:UInt64) f):UInt32)
abbrev CD:=Option (Int×UInt64)
def SL(b:Int)(a f:UInt64):CD:=
if(Cq b 24)then
(Hb (Ad b 5)).bind λg=>
if(Ed (Ao (Ad a f) (Br a 16)) g)then
some ((Ad b 1),(Ao (Ad a f) (Br a 16)))
else
some (b,(Ao (Ad a f) (Br a 16)))
else
some (b,(Ao (Ad a f) (Br a 16)))
def AO:=SL
def RO(j2:Int->UInt64->UInt64->CD)(b:Int)(a f:UInt64):CD:=
if(Ed b 0)then
(Hb (Ad b 4)).bind λh=>
if(Cq (Ao (Ad a f) (Br a 16)) h)then
some ((Ao b 1),(Ao (Ad a f) (Br a 16)))
else
j2 b a f
else
j2 b a f
def Yr:=RO AO
abbrev Yd:=Option (Int×Int×UInt64×UInt64)
def JO(h:UInt32)(f a:Int)(g b:UInt64)(o:Int)(p:UInt64):Yd:=
(Yr f g (Af h:UInt64)).bind λ(aa,ab)=>
some (aa,o,ab,p)
def Vo:=JO
def LY(j2:UInt32->Int->Int->UInt64->UInt64->Int->UInt64->Yd)(f a:Int)(g b:UInt64)(h:UInt32):Yd:=
(OM f a g b h).bind λu=>
if(!u)then
(
(
(IJ f a g b h).bind λk=>
(Yr a b (Af k:UInt64)).bind λ(m,n)=>
j2 h f a g b m n))
else
j2 h f a g b a b
def CE:=LY Vo
abbrev Gk:=Option (Int×Int×UInt64×UInt64)
def jV(a b:Int)(f g:UInt64):Gk:=
some (a,b,f,g)
def kV:=jV
def LJ(j6:Int->Int->UInt64->UInt64->Gk)(Sf:Int->Int->Int->UInt64->UInt64->Gk)(h:Int)(k:LU)(m a b:Int)(f g:UInt64):Gk:=
if(Cq m (Ac k))then
(Ap k m).bind λn=>
(CE a b f g n).bind λ(o,p,u,v)=>
Sf (Ad m h) o p u v
else
j6 a b f g
def Oq(h:Int)(k:LU):Nat->Int->Int->Int->UInt64->UInt64->Gk
|0,_,_,_,_,_=>none
|q+1,m,a,b,f,g=>LJ kV (Oq h k q) h k m a b f g
def jU h k:=Oq h k Ax
def JM(j4:Int->LU->Int->Int->Int->UInt64->UInt64->Gk)(h:Int)(k:LU):Gk:=
(Po).bind λ(w,y,aa,ab)=>
(Jg (Bc h 0)).bind λ_=>
j4 h k (Gx (Ac k) h) w y aa ab
def Tl:=JM jU
def bB(a:Int):Option Int:=
some (Gx a 2)
def aC:=bB
def FQ(j6:Int->Option Int)(Sf:Int->Int->Option Int)(b a f:Int):Option Int:=
if(Cq f (Gx b 8))then
Sf (Br a 2) (Ad f 1)
else
j6 a
def Qa(b:Int):Nat->Int->Int->Option Int
|0,_,_=>none
|q+1,a,f=>FQ aC (Qa b q) b a f
def ZB b:=Qa b Ax
def bD(j4:Int->Int->Int->Option Int)(g:LB)(k b:Int):Option Int:=
(Ap g (Br b 8)).bind λh=>
j4 b (Af h:Int) 0
def Nv:=bD ZB
abbrev Fw:=Option (LB×Int)
def WH(b g a:Int)(f:LB):Fw:=
(Ap f (Br a 8)).bind λ_=>
(Ap f (Br a 8)).bind λm=>
(Ap f (Br a 8)).bind λ_=>
(Ng f (Br a 8) (Ad m (Af (Bf b g):UInt8))).bind λn=>
some (n,(Ad a 1))
def CO:=WH
def CW(j8:Int->Int->Int->LB->Fw)(bk6:Int->Int->Fw)(b a:Int)(f:LB)(g h:Int):Fw:=
if(Cq h (Gx a 8))then
bk6 (Bf g 2) (Ad h 1)
else
j8 b g a f
def Og(b a:Int)(f:LB):Nat->Int->Int->Fw
|0,_,_=>none
|q+1,g,h=>CW CO (Og b a f q) b a f g h
def WO b a f:=Og b a f Ax
def WG(j6:Int->Int->LB->Int->Int->Fw)(b a:Int)(f:LB):Fw:=
j6 b a f 1 0
def CX:=WG WO
def WB(j5:Int->Int->LB->Fw)(k:LB)(a b:Int):Fw:=
if(geq (Gx a 8) 0)then
(Du k ([(0:UInt8)]:LB)).bind λo=>
j5 b a o
else
j5 b a k
def BP:=WB CX
abbrev Ft:=Option (LB×Int)
def gR(a:Int)(b:LB):Ft:=
some (b,a)
def gW:=gR
def Ub(j6:Int->LB->Ft)(Sf:Int->Int->LB->Ft)(f:Int)(g:LB)(h k a:Int)(b:LB):Ft:=
if(Cq k f)then
(Nv g h k).bind λm=>
(BP b a m).bind λ(n,o)=>
Sf (Ad k 1) o n
else
j6 a b
def Jm(f:Int)(g:LB)(h:Int):Nat->Int->Int->LB->Ft
|0,_,_,_=>none
|q+1,k,a,b=>Ub gW (Jm f g h q) f g h k a b
def fN f g h:=Jm f g h Ax
def iS(j4:Int->LB->Int->Int->Int->LB->Ft)(g:LB)(h p f:Int):Ft:=
j4 f g h p 0 ([]:LB)
def RL:=iS fN
def mZ(a:UInt64):Option UInt64:=
some a
def mX:=mZ
def Xv(j6:UInt64->Option UInt64)(Sf:UInt64->Int->Option UInt64)(b:Int)(f:LB)(g:Int)(a:UInt64)(h:Int):Option UInt64:=
if(Nf h 0)then
(Nv f g (Ad b h)).bind λk=>
Sf (Ad (Bf 2 a) (Af k:UInt64)) (Ao h 1)
else
j6 a
def Lq(b:Int)(f:LB)(g:Int):Nat->UInt64->Int->Option UInt64
|0,_,_=>none
|q+1,a,h=>Xv mX (Lq b f g q) b f g a h
def NR b f g:=Lq b f g Ax
def NH(j4:Int->LB->Int->UInt64->Int->Option UInt64)(f:LB)(g b m:Int):Option UInt64:=
j4 b f g 0 (Ao m 1)
def Vy:=NH NR
abbrev Jb:=Option (Int×Int)
def WE(b a:Int)(g:LB)(f:Int):Jb:=
if(geq a 48)then
some (a,(Ad b a))
else
if(Nf (Ad b a) f)then
some ((-1:Int),0)
else
some (a,(Ad (Ad b a) 1))
def CJ:=WE
def CN(j6:Int->Int->LB->Int->Jb)(Sf:Int->Jb)(b:Int)(g:LB)(f a:Int):Jb:=
if((Cq (Ad b a) f)&&(Cq a 48))then
(Nv g f (Ad b a)).bind λh=>
if(geq h 1)then
Sf (Ad a 1)
else
j6 b a g f
else
j6 b a g f
def Od(b:Int)(g:LB)(f:Int):Nat->Int->Jb
|0,_=>none
|q+1,a=>CN CJ (Od b g f q) b g f a
def tF b g f:=Od b g f Ax
def tI(j4:Int->LB->Int->Int->Jb)(g:LB)(f b:Int):Jb:=
j4 b g f 0
def fS:=tI tF
def JR(b:UInt32)(f:Int):Option Int:=
(Hb f).bind λa=>
(Jg (Bc a 0)).bind λ_=>
some (Af (Fm 48 (Br (Af b:UInt64) a)):Int)
abbrev EN:=Option (UInt32×Int×Int)
def DB(g a b:Int)(h:LB)(f k:Int):EN:=
if((Cq a 0)||(Cq (Ao f b) k))then
some (0,0,24)
else
(Vy h f b k).bind λm=>
if(Cq a 48)then
(Hb g).bind λo=>
some ((Af (Ad (Bf (Af a:UInt64) o) m):UInt32),(Ad b k),0)
else
(JR (Af m:UInt32) g).bind λp=>
if(Cq p a)then
some (0,0,12)
else
some ((Af m:UInt32),(Ad b k),0)
def CV:=DB
def WA(j2:Int->Int->Int->LB->Int->Int->EN)(h:LB)(f n g:Int):EN:=
if(Nf n f)then
some (0,0,24)
else
(fS h f n).bind λ(a,b)=>
if(geq a 48)then
j2 g a b h f 32
else
j2 g a b h f g
def OK:=WA CV
def PN(g:LB)(b a f n:Int)(v w:UInt64):Option (UInt32×Int×Int):=
if(Nf a b)then
some (0,0,24)
else
(Nv g b a).bind λo=>
if(geq o 0)then
if(Cq (Ao (Ao b a) 1) f)then
some (0,0,24)
else
(Vy g b (Ad a 1) f).bind λp=>
some ((Af p:UInt32),(Ad (Ad a 1) f),0)
else
(OK g b (Ad a 1) n).bind λ(h,u,k)=>
if(Bc k 0)then
some (0,0,k)
else
(Hb f).bind λm=>
if(Ed (Ad (Af h:UInt64) m) 4294967295)then
some (0,0,12)
else
some ((Af (Ad (Af h:UInt64) m):UInt32),u,0)
abbrev Ca:=Option (LU×Int)
def nK(b:LU):Ca:=
some (b,0)
def nM:=nK
def Ye(j18:LU->Ca)(Ir:Int->Ca)(a:LB)(b:LU)(m:Int):Ca:=
if(Cq m (Bf 8 (Ac a)))then
(Nv a (Bf 8 (Ac a)) m).bind λn=>
if(Bc n 0)then
some (b,12)
else
Ir (Ad m 1)
else
j18 b
def Ln(a:LB)(b:LU):Nat->Int->Ca
|0,_=>none
|q+1,m=>Ye nM (Ln a b q) a b m
def NI a b:=Ln a b Ax
def NA(j16:LB->LU->Int->Ca)(f:Int)(a:LB)(b:LU):Ca:=
if(Ed (Ao (Bf 8 (Ac a)) f) 7)then
some (b,12)
else
j16 a b f
def Xp:=NA NI
def NP(At5:Int->Int->LU->Ca)(g h:Int)(a:LB)(f k:Int)(b:LU)(o p:Int)(u v:UInt64):Ca:=
(RL a (Bf 8 (Ac a)) f (Fm (Ad f 81) (Bf 8 (Ac a)))).bind λ(y,aa)=>
(PN y aa 0 o p u v).bind λ(ab,ac,w)=>
if(Bc w 0)then
some (b,w)
else
(Du b ([ab]:LU)).bind λad=>
At5 (Ad f ac) (Ad k 1) ad
def Lw At5:=NP At5
def NQ(j13:Int->Int->LU->Int->Int->UInt64->UInt64->Ca)(j15:Int->LB->LU->Ca)(g h:Int)(a:LB)(f k:Int)(b:LU):Ca:=
if(Cq k (Bf h g))then
(Po).bind λ(n,ae,af,ag)=>
if(Nf k g)then
(Tl g b).bind λ(ah,ai,aj,ak)=>
j13 f k b ah ai aj ak
else
j13 f k b n ae af ag
else
j15 f a b
def Gl(g h:Int)(a:LB):Nat->Int->Int->LU->Ca
|0,_,_,_=>none
|q+1,f,k,b=>NQ (Lw (Gl g h a q) g h a) Xp g h a f k b
def nB g h a:=Gl g h a Ax
def TK(j10:Int->Int->LB->Int->Int->LU->Ca)(g h:Int)(a:LB):Ca:=
j10 g h a 0 0 ([]:LU)
def HR:=TK nB
def vW(a:Int):Option (Int×Int):=
if(geq a 8)then
some (4,0)
else
if((geq a 16)||(geq a 24))then
some (5,0)
else
some (0,2)
def Aae(a:Int)(b:LX):Option (Int×LX×LX×Int):=
(vW a).bind λ(g,f)=>
if(Bc f 0)then
some (0,(List.replicate 16 (0:Int32)),(List.replicate 16 (0:Int32)),2)
else
if(geq a 16)then
some (9,b,(List.replicate 16 (0:Int32)),0)
else
some (10,b,(List.replicate 16 (0:Int32)),0)
def fZ(a:Int)(b:LX):Option (Int×Int32×Int×LX×LX×Int):=
(Aae a b).bind λ(f,g,h,k)=>
if(Bc k 0)then
some (0,0,0,(List.replicate 16 (0:Int32)),(List.replicate 16 (0:Int32)),2)
else
some (a,0,f,g,h,0)
def KH(a:UInt32):Option Int32:=
if(geq (HJ a 2) 0)then
some (Af (Br a 2):Int32)
else
some (Af (Br (yW (Ad (Af a:Int) 1)) 2):Int32)
def Di(a:Int):Option Int32:=
some (Af (Af (Af a:UInt64):UInt32):Int32)
def WM(a:Int):Option Int32:=
some (Af a:Int32)
def VI:=WM
def DA(j6:Int->Option Int32)(Sf:Int->Int->Option Int32)(h:Int)(f g:LX)(a b:Int):Option Int32:=
if(Cq b 16)then
(Ap f b).bind λ_=>
(Ap g b).bind λ_=>
(Ap f b).bind λk=>
(Ap g b).bind λm=>
(Di (Bf (Af k:Int) (Af m:Int))).bind λn=>
(Di (Ad a (Af n:Int))).bind λo=>
Sf (Af o:Int) (Ad b 1)
else
j6 a
def Oi(h:Int)(f g:LX):Nat->Int->Int->Option Int32
|0,_,_=>none
|q+1,a,b=>DA VI (Oi h f g q) h f g a b
def tG h f g:=Oi h f g Ax
def tM(j4:Int->LX->LX->Int->Int->Option Int32)(h:Int)(f g:LX):Option Int32:=
j4 h f g 0 0
def gX:=tM tG
def SI(b:Int)(f g:LX)(a:Int):Option Int32:=
(gX b f g).bind λk=>
(Di (Ad (Af k:Int) (Br a 2))).bind λh=>
(Jg (Bc a 0)).bind λ_=>
(Jg (Bc a 0)).bind λ_=>
if(Cq (Gx (Af h:Int) a) 0)then
some (Af (Ao (Br (Af h:Int) a) 1):Int32)
else
some (Af (Br (Af h:Int) a):Int32)
def Zs:=SI
def RU(j2:Int->LX->LX->Int->Option Int32)(b:Int)(f g:LX):Option Int32:=
if(geq b 9)then
j2 b f g 512
else
j2 b f g 1024
def KT:=RU Zs
def JZ(a:Int):Option Int32:=
if(geq a 0)then
some 4
else
if(gle a 3)then
some 2
else
some 1
def Yy(a:Int32):Option Int32:=
if(Cq a 0)then
some (-1:Int32)
else
if(Ed a 0)then
some 1
else
some 0
abbrev Fq:=Option (Int×LX×LX)
def fT(g:Int)(b a:LX):Fq:=
some (g,b,a)
def gV:=fT
def Uy(j6:Int->LX->LX->Fq)(Sf:Int->LX->Fq)(h:Int32)(g:Int)(a:LX)(f:Int)(b:LX):Fq:=
if(Cq f 16)then
(Ap b f).bind λ_=>
(Ap a f).bind λ_=>
(Ap b f).bind λk=>
(Ap a f).bind λm=>
(JZ f).bind λn=>
(Yy m).bind λo=>
(Yy h).bind λp=>
(Ap b f).bind λ_=>
(Ng b f (Ad k (Bf (Bf n o) p))).bind λu=>
Sf (Ad f 1) u
else
j6 g b a
def Jf(h:Int32)(g:Int)(a:LX):Nat->Int->LX->Fq
|0,_,_=>none
|q+1,f,b=>Uy gV (Jf h g a q) h g a f b
def gQ h g a:=Jf h g a Ax
def iQ(j4:Int32->Int->LX->Int->LX->Fq)(g:Int)(v a:LX)(h:Int32):Fq:=
j4 h g a 0 v
def TJ:=iQ gQ
abbrev Gm:=Option (Int×LX×LX)
def KV(b:Int32)(f:Int)(g a:LX):Gm:=
(Ap a 0).bind λ_=>
(Ng a 0 b).bind λk=>
some (f,g,k)
def JC:=KV
def Vi(j6:Int32->Int->LX->LX->Gm)(Sf:Int->LX->Gm)(b:Int32)(f:Int)(g:LX)(h:Int)(a:LX):Gm:=
if(Ed h 0)then
(Ap a (Ao h 1)).bind λ_=>
(Ap a (Ao h 1)).bind λm=>
(Ap a h).bind λ_=>
(Ng a h m).bind λn=>
Sf (Ao h 1) n
else
j6 b f g a
def Jz(b:Int32)(f:Int)(g:LX):Nat->Int->LX->Gm
|0,_,_=>none
|q+1,h,a=>Vi JC (Jz b f g q) b f g h a
def jJ b f g:=Jz b f g Ax
def kH(j4:Int32->Int->LX->Int->LX->Gm)(f:Int)(g o:LX)(b:Int32):Gm:=
j4 b f g 15 o
def VY:=kH jJ
def AU(a:Int)(b f:LX)(g:Int32):Option (Int32×Int×LX×LX):=
(KT a b f).bind λk=>
(Di (Ad (Af g:Int) (Af k:Int))).bind λh=>
(TJ a b f g).bind λ(m,n,o)=>
(VY m n o h).bind λ(p,u,v)=>
some (h,p,u,v)
def JD(b:Int32)(a:Int):Option Int32:=
(Jg (Bc a 0)).bind λ_=>
(Jg (Bc a 0)).bind λ_=>
if(Cq (Gx (Bf (Ao a 1) (Af b:Int)) a) 0)then
some (Af (Ao (Br (Bf (Ao a 1) (Af b:Int)) a) 1):Int32)
else
some (Af (Br (Bf (Ao a 1) (Af b:Int)) a):Int32)
def Wc:=JD
def KD(j2:Int32->Int->Option Int32)(f:Int)(b:Int32):Option Int32:=
if(geq f 5)then
j2 b 32
else
j2 b 16
def Tt:=KD Wc
def DE(b:Int)(a:Int32)(h:Int)(k m:LX):Option Int:=
if(geq b 8)then
(Tt 4 a).bind λf=>
some (Af f:Int)
else
(Tt 5 a).bind λg=>
some (Af g:Int)
def AI(a:Int)(k:Int32)(b:Int)(f g:LX)(m:Int32):Option (Int32×Int×Int32×Int×LX×LX):=
(AU b f g m).bind λ(n,o,p,u)=>
(DE a k b f g).bind λv=>
(Di (Ad (Af n:Int) v)).bind λh=>
some (h,a,h,o,p,u)
def Vt(a:Int)(b:LX):Option Int:=
if((Cq a 1)||(Ed a 6))then
some 2
else
if(Ed (Ac b) 4000)then
some 4
else
(Jg (Bc a 0)).bind λ_=>
if(Ed (Gx (Ac b) a) 0)then
some 2
else
some 0
def iL(b:LX):Option (LX):=
some b
def gO:=iL
def Uj(j8:LX->Option (LX))(bk6:Int->LX->Option (LX))(a:LX)(f:Int)(b:LX):Option (LX):=
if(Nf f 0)then
(Ap b (Ad f 1)).bind λ_=>
(Ap a f).bind λm=>
(Ap b (Ad f 1)).bind λn=>
(Di (Ao (Af n:Int) (Af m:Int))).bind λo=>
(Ap b f).bind λ_=>
(Ng b f o).bind λp=>
bk6 (Ao f 1) p
else
j8 b
def Ji(a:LX):Nat->Int->LX->Option (LX)
|0,_,_=>none
|q+1,f,b=>Uj gO (Ji a q) a f b
def iA a:=Ji a Ax
def GV(j6:LX->Int->LX->Option (LX))(a g:LX):Option (LX):=
j6 a (Ao (Ac a) 2) g
def Uv:=GV iA
def GJ(j5:LX->LX->Option (LX))(a:LX):Option (LX):=
(mkI (Ac a) (0:Int32)).bind λk=>
(Jg (geq (Ac a) (Ac a))).bind λ_=>
(Ap a (Ao (Ac a) 1)).bind λu=>
(Ap k (Ao (Ac a) 1)).bind λ_=>
(Ng k (Ao (Ac a) 1) u).bind λh=>
if(Ed (Ac a) 1)then
(Ap a (Ao (Ac a) 1)).bind λv=>
(Ap a (Ao (Ac a) 2)).bind λw=>
(Di (Ad (Af v:Int) (Br (Af w:Int) 2))).bind λy=>
(Ap h (Ao (Ac a) 1)).bind λ_=>
(Ng h (Ao (Ac a) 1) y).bind λaa=>
j5 a aa
else
j5 a h
def Zz:=GJ Uv
abbrev Ie:=Option (LX×Int)
def rD(f:LX):Ie:=
some (f,0)
def pA:=rD
def SK(j6:LX->Ie)(Sf:Int->LX->Ie)(a:Int)(b:LX)(g:Int)(f:LX):Ie:=
if(Cq g (Ac b))then
(Bq b g (Ad g a)).bind λh=>
(Zz h).bind λk=>
(Du f k).bind λm=>
Sf (Ad g a) m
else
j6 f
def Rv(a:Int)(b:LX):Nat->Int->LX->Ie
|0,_,_=>none
|q+1,g,f=>SK pA (Rv a b q) a b g f
def qP a b:=Rv a b Ax
def TC(j4:Int->LX->Int->LX->Ie)(a:Int)(b:LX):Ie:=
(Vt a b).bind λn=>
if(Bc n 0)then
(Vt a b).bind λo=>
some (([]:LX),o)
else
j4 a b 0 ([]:LX)
def LR:=TC qP
def GU(a f:Int)(w:LX):Option (LX):=
(LR a w).bind λ(aj,ai)=>
some aj
def Ty:=GU
def HH(Ai2:Int->LX->Option (LX))(b:LU)(a f:Int)(g:LX)(h:Int)(m:LX):Option (LX):=
Ai2 (Ad h 1) m
def GL Ai2:=HH Ai2
def GN(At3:Int->LX->Int->Int32->Int->LX->LX->Option (LX))(b:LU)(h a f:Int)(g:LX)(k:Int)(af:LX)(y:Int)(aa:Int32)(ab:Int)(ac ad:LX):Option (LX):=
At3 (Ad k a) af y aa ab ac ad
def HF At3:=GN At3
def GD(j30:Int->LX->Int->Int32->Int->LX->LX->Option (LX))(b:LU)(h a f:Int)(g:LX)(k:Int)(ae:Int32)(m:LX)(n:Int)(o:Int32)(p:Int)(u v:LX)(y:Int)(aa:Int32)(ab:Int)(ac ad:LX):Option (LX):=
(Ap m k).bind λ_=>
(Ng m k ae).bind λaf=>
j30 k af y aa ab ac ad
def GM At3 b h a f g:=GD (HF At3 b h a f g) b h a f g
def FX(j29:Int->Int32->LX->Int->Int32->Int->LX->LX->Int->Int32->Int->LX->LX->Option (LX))(j32:Int->LX->Option (LX))(b:LU)(a f:Int)(g:LX)(h k:Int)(m:LX)(n:Int)(o:Int32)(p:Int)(u v:LX):Option (LX):=
if(Cq k (Ac b))then
(Ap b k).bind λah=>
(
(KH ah).bind λag=>
(
(AI n o p u v ag).bind λ(ae,y,aa,ab,ac,ad)=>
j29 k ae m n o p u v y aa ab ac ad))
else
j32 h m
def Nl(Ai2:Int->LX->Option (LX))(b:LU)(a f:Int)(g:LX)(h:Int):Nat->Int->LX->Int->Int32->Int->LX->LX->Option (LX)
|0,_,_,_,_,_,_,_=>none
|q+1,k,m,n,o,p,u,v=>FX (GM (Nl Ai2 b a f g h q) b h a f g) (GL Ai2 b a f g) b a f g h k m n o p u v
def GF Ai2 b a f g h:=Nl Ai2 b a f g h Ax
def Ur(j26:Int->Int->LX->Int->Int32->Int->LX->LX->Option (LX))(j34:Int->Int->LX->Option (LX))(b:LU)(a f:Int)(g:LX)(h:Int)(w:LX):Option (LX):=
if(Cq h a)then
(fZ f g).bind λ(ak,ai,al,am,an,aq)=>
j26 h h w ak ai al am an
else
j34 a f w
def Gv(b:LU)(a f:Int)(g:LX):Nat->Int->LX->Option (LX)
|0,_,_=>none
|q+1,h,w=>Ur (GF (Gv b a f g q) b a f g) Ty b a f g h w
def GO b a f g:=Gv b a f g Ax
def MA(j18:LU->Int->Int->LX->Int->LX->Option (LX))(a f:Int)(g:LX)(b:LU):Option (LX):=
(mkI (Ac b) (0:Int32)).bind λao=>
(Jg (geq (Ac b) (Ac b))).bind λ_=>
j18 b a f g 0 ao
def Tx:=MA GO
def nI:Option Int:=
some 0
def nO:=nI
def Dd(j6:Option Int)(Sf:Int->Option Int)(a:LX)(b f:Int):Option Int:=
if(Cq f (Ac a))then
(Ap a f).bind λg=>
if(Cq (Af g:Int) (yW b))then
some 16
else
(Ap a f).bind λh=>
if(Nf (Af h:Int) b)then
some 16
else
Sf (Ad f 1)
else
j6
def Ba(a:LX)(b:Int):Nat->Int->Option Int
|0,_=>none
|q+1,f=>Dd nO (Ba a b q) a b f
def nT a b:=Ba a b Ax
def Ea(j4:LX->Int->Int->Option Int)(k:Int)(a:LX):Option Int:=
(Nk k).bind λb=>
if(geq b 0)then
some 2
else
if(Ed (Ac a) 4000)then
some 4
else
j4 a b 0
def Ay:=Ea nT
def DC(g f:Int)(a:LX):Option (LX×Int):=
(Ay f a).bind λb=>
if(Bc b 0)then
some (([]:LX),b)
else
some (a,0)
abbrev Xw:=Option (LX×Int)
def Kg(f a b:Int)(g:LX)(h:LU):Xw:=
if(Bc f 0)then
some (([]:LX),f)
else
(
(
(Tx a b g h).bind λm=>
(DC a b m).bind λ(n,o)=>
some (n,o)))
def Ka:=Kg
def Wa(j2:Int->Int->Int->LX->LU->Xw)(a b:Int)(g:LX)(p:Int)(k:LB):Xw:=
(Hc a b p).bind λy=>
if(Bc y 0)then
some (([]:LX),2)
else
(Tq k).bind λaa=>
if(Bc aa 0)then
(Tq k).bind λab=>
some (([]:LX),ab)
else
(Bq k 0 (Ao (Ac k) 4)).bind λac=>
(HR a p ac).bind λ(h,f)=>
j2 f a b g h
def Fc:=Wa Ka
def CC(a b:Int):Option (LB):=
if(geq a 24)then
(Du ([(Af (Gx b 256):UInt8),(Af (Gx (Br b 256) 256):UInt8)]:LB) ([(Af (Br b 65536):UInt8)]:LB)).bind λg=>
some g
else
some ([(Af (Gx b 256):UInt8),(Af (Gx (Br b 256) 256):UInt8)]:LB)
def Oh:=CC
def VS(j2:Int->Int->Option (LB))(a:Int)(f:Int32):Option (LB):=
if(geq a 8)then
some ([(Af (Ad (Af f:Int) 128):UInt8)]:LB)
else
if(Cq (Af f:Int) 0)then
(Nk a).bind λh=>
j2 a (Ad (Af f:Int) (Bf 2 h))
else
j2 a (Af f:Int)
def PF:=VS Oh
abbrev Hj:=Option (LB×Int)
def mU(b:LB):Hj:=
some (b,0)
def nU:=mU
def Yb(j6:LB->Hj)(Sf:Int->LB->Hj)(f:Int)(a:LX)(g:Int)(b:LB):Hj:=
if(Cq g (Ac a))then
(Ap a g).bind λh=>
(PF f h).bind λk=>
(Du b k).bind λm=>
Sf (Ad g 1) m
else
j6 b
def Ll(f:Int)(a:LX):Nat->Int->LB->Hj
|0,_,_=>none
|q+1,g,b=>Yb nU (Ll f a q) f a g b
def nR f a:=Ll f a Ax
def MZ(j4:Int->LX->Int->LB->Hj)(f:Int)(a:LX):Hj:=
(Ay f a).bind λn=>
if(Bc n 0)then
(Ay f a).bind λo=>
some (([]:LB),o)
else
j4 f a 0 ([]:LB)
def Wh:=MZ nR
abbrev Yf:=Option (LB×Int)
def En(o:LX)(f:Int)(p g:LB)(h k a m n:Int)(u:LI)(b:Int)(v:LB)(w:Bool)(y:Int):Yf:=
if(Bc f 0)then
some (([]:LB),f)
else
(Wh a o).bind λ(ac,ai)=>
some (ac,0)
def El:=En
def Ep(j2:LX->Int->LB->LB->Int->Int->Int->Int->Int->LI->Int->LB->Bool->Int->Yf)(p g:LB)(h k a m n:Int)(u:LI)(b:Int)(v:LB)(w:Bool)(y:Int):Yf:=
(Ap u b).bind λaa=>
if(Cq (Ac g) aa)then
some (([]:LB),(-1:Int))
else
(Np p).bind λ(ad,aj)=>
(Bq g 0 aa).bind λae=>
(Fs h k a m n).bind λ(af,ag)=>
(Hf h k a m n).bind λab=>
(Ap ab b).bind λ_=>
(Ap ab b).bind λah=>
(Fc af ag ad ah ae).bind λ(o,f)=>
j2 o f p g h k a m n u b v w y
def Df:=Ep El
abbrev Ok:=Option (LB×LB×Int×Int×Int×Int×Int×LI×Int×LB×Bool×Int×Int)
def Bu(g a:LB)(m o p u v:Int)(b:LI)(f:Int)(n:LB)(h:Bool)(k:Int):Ok:=
if(geq (Ac b) 0)then
(Ff a m o p u v g).bind λ(ag,ak,w)=>
if(Bc w 0)then
some (g,a,m,o,p,u,v,b,f,n,h,k,w)
else
(Bq a ag (Ac a)).bind λal=>
some (g,al,m,o,p,u,v,ak,f,n,h,k,0)
else
if(geq f (Ac b))then
if(Ed (Ac a) 4000)then
some (g,a,m,o,p,u,v,b,f,n,h,k,38)
else
some (g,a,m,o,p,u,v,b,f,n,h,k,(-1:Int))
else
(Df g a m o p u v b f n h k).bind λ(am,y)=>
if(Bc y 0)then
some (g,a,m,o,p,u,v,b,f,n,h,k,y)
else
(Du ([]:LB) n).bind λan=>
(Du an am).bind λah=>
(
(
(
(Ap b f).bind λad=>
(
(Bq a ad (Ac a)).bind λae=>
some (g,ae,m,o,p,u,v,b,(Ad f 1),ah,h,k,0)))))
def Bt:=Bu
def Hm(g af:LB)(aa w ab ac y:Int)(b:LI)(f:Int)(n:LB)(h:Bool)(k:Int):Ok:=
(Ev aa w ab ac y g).bind λaw=>
some (g,af,aa,w,ab,ac,y,b,f,n,h,k,aw)
def Hl:=Hm
def Bo(j3:LB->LB->Int->Int->Int->Int->Int->LI->Int->LB->Bool->Int->Ok)(j4:LB->LB->Int->Int->Int->Int->Int->LI->Int->LB->Bool->Int->Ok)(g a:LB)(m o p u v:Int)(b:LI)(f:Int)(n:LB)(h:Bool)(k:Int):Ok:=
if(geq m 0)then
(Zq a).bind λ(ag,aa,w,ab,ac,y,ai)=>
if(Bc ai 0)then
some (g,a,m,o,p,u,v,b,f,n,h,k,ai)
else
(
(Bq a ag (Ac a)).bind λaf=>
(
j3 g af aa w ab ac y b f n h k))
else
j4 g a m o p u v b f n h k
def Ag:=Bo Hl Bt
def Xy(o p:LB)(b f g h k:Int)(m:LI)(a:Int)(n:LB)(u:Bool)(v:Int):Option Bool:=
(Ag o p b f g h k m a n u v).bind λ(af,ag,ah,ai,aj,ak,al,am,an,ao,ap,aq,w)=>
some (geq w (-1:Int))
def Cs:=Xy
def Qo(j4:LB->LB->Int->Int->Int->Int->Int->LI->Int->LB->Bool->Int->Option Bool)(o p:LB)(b f g h k:Int)(m:LI)(a:Int)(n:LB)(u:Bool)(v:Int):Option Bool:=
if(geq (Ac m) 0)then
if((Bc a 0)||(Ed (Ac n) 0))then
some false
else
j4 o p b f g h k m a n u v
else
(Iz m).bind λy=>
if(Bc y 0)then
if((true||(Cq a 0))||(Ed a (Ac m)))then
some false
else
(Yu b f g h k a).bind λaa=>
if(Ed (Ac n) aa)then
some false
else
j4 o p b f g h k m a n u v
else
(Hf b f g h k).bind λab=>
if(((Bc (Ac m) (Ac ab))||(Cq a 0))||(Ed a (Ac m)))then
some false
else
(Yu b f g h k a).bind λac=>
if(Ed (Ac n) ac)then
some false
else
j4 o p b f g h k m a n u v
def Qu:=Qo Cs
def Xr(j4:LB->LB->Int->Int->Int->Int->Int->LI->Int->LB->Bool->Int->Option Bool)(j3:LB->LB->Int->Int->Int->Int->Int->LI->Int->LB->Bool->Int->Option Bool)(o p:LB)(b f g h k:Int)(m:LI)(a:Int)(n:LB)(u:Bool)(v:Int):Option Bool:=
if((geq b 0)&&((geq f 0)&&((geq g 0)&&((geq h 0)&&((geq k 0)&&true)))))then
if(((Ed (Ac m) 0)||(Bc a 0))||(Ed (Ac n) 0))then
some false
else
j4 o p b f g h k m a n u v
else
(Ly b f g h k).bind λad=>
if(Bc ad 0)then
some false
else
(Ev b f g h k o).bind λae=>
if(Bc ae 0)then
some false
else
j3 o p b f g h k m a n u v
def Mn:=Xr Cs Qu
def Zn(a:Int):Option Bool:=
some (((((((geq a 4)||(geq a 12))||(geq a 16))||(geq a 22))||(geq a 24))||(geq a 26))||(geq a 38))
def Dz(h k:LB)(m n o p u:Int)(v:LI)(f:Int)(g:LB)(b:Bool)(a:Int):Option Int:=
if(Ed (Ac h) 64)then
some 8
else
if((geq a 0)&&(!b))then
(Mn h k m n o p u v f g b a).bind λw=>
if(!w)then
some 8
else
some 0
else
if((geq (Ac k) 0)&&(geq (Ac v) 0))then
if((!(((geq m 0)&&((geq n 0)&&((geq o 0)&&((geq p 0)&&((geq u 0)&&true)))))&&(geq f 0)))||(Ed (Ac g) 12000))then
some 8
else
if(Bc a 0)then
if b then
some 8
else
(Zn a).bind λy=>
if(!y)then
some 8
else
some 0
else
some 0
else
if((!(false&&(geq f 0)))||(Ed (Ac g) 12000))then
some 8
else
if(Bc a 0)then
if b then
some 8
else
(Zn a).bind λaa=>
if(!aa)then
some 8
else
some 0
else
some 0
abbrev CI:=Option (LB×LB×Int×Int×Int×Int×Int×LI×Int×LB×Bool×Int)
def RQ(f:LB)(g h k m n:Int)(o:LI)(p:Int)(u:Bool)(v:Int)(a b:LB):CI:=
(Du ([]:LI) o).bind λaf=>
some (f,a,g,h,k,m,n,af,p,b,u,v)
def RI:=RQ
def TF(j2:LB->Int->Int->Int->Int->Int->LI->Int->Bool->Int->LB->LB->CI)(f w:LB)(g h k m n:Int)(o:LI)(p:Int)(y:LB)(u:Bool)(v:Int):CI:=
(
(
(
(Du ([]:LB) w).bind λa=>
(
(Du ([]:LB) y).bind λb=>
j2 f g h k m n o p u v a b))))
def Ze:=TF RI
def Rs(f g:LB)(h k m n o:Int)(p:LI)(u:Int)(v:LB)(b:Bool)(a:Int):Option Int:=
if(Bc a 0)then
some a
else
if b then
some 36
else
some 0
def cE(a m:LB)(n o p u v:Int)(w:LI)(y:Int)(b:LB)(aa:Bool)(ab:Int):Option (LB×LB×Int×Int×Int×Int×Int×LI×Int×LB×Bool×Int):=
(
(
(Du ([]:LB) b).bind λf=>
some (a,([]:LB),0,0,0,0,0,([]:LI),0,f,false,0)))
def CK(b f:LB)(g h k m n:Int)(o:LI)(p:Int)(u:LB)(v:Bool)(w a:Int):Option (LB×LB×Int×Int×Int×Int×Int×LI×Int×LB×Bool×Int×Int):=
(cE b f g h k m n o p u v w).bind λ(y,aa,ab,ac,ad,ae,af,ag,ah,ai,aj,ak)=>
some (y,aa,ab,ac,ad,ae,af,ag,ah,ai,aj,a,a)
abbrev Oa:=Option (LB×LB×Int×Int×Int×Int×Int×LI×Int×LB×Bool×Int×Int)
def Cj(bk3:LB->LB->Int->Int->Int->Int->Int->LI->Int->LB->Bool->Int->Oa)(a b:LB)(f g h k m:Int)(n:LI)(o:Int)(p:LB)(u:Bool)(v:Int):Oa:=
(Ag a b f g h k m n o p u v).bind λ(bb,bc,bd,be,bf,bg,bh,bi,bj,bk,bl,bm,w)=>
if(geq w (-1:Int))then
(Ze a b f g h k m n o p u v).bind λ(bn,bp,bq,br,bs,bt,bu,bv,bw,bx,bz,da)=>
some (bn,bp,bq,br,bs,bt,bu,bv,bw,bx,bz,da,0)
else
if(Bc w 0)then
(CK a b f g h k m n o p u v w).bind λ(db,dc,dd,de,df,dg,dh,di,dj,dk,dl,dm,dn)=>
some (db,dc,dd,de,df,dg,dh,di,dj,dk,dl,dm,dn)
else
bk3 bb bc bd be bf bg bh bi bj bk bl bm
def Bj:Nat->LB->LB->Int->Int->Int->Int->Int->LI->Int->LB->Bool->Int->Oa
|0,_,_,_,_,_,_,_,_,_,_,_,_=>none
|q+1,a,b,f,g,h,k,m,n,o,p,u,v=>Cj (Bj q) a b f g h k m n o p u v
def oT:=Bj Ax
def Rq(j3:LB->LB->Int->Int->Int->Int->Int->LI->Int->LB->Bool->Int->Oa)(al am:LB)(an ao ap aq ar:Int)(au:LI)(av:Int)(aw:LB)(ax:Bool)(ay:Int)(dp:LB):Oa:=
(Dz al am an ao ap aq ar au av aw ax ay).bind λaz=>
if(Bc az 0)then
some (([]:LB),([]:LB),0,0,0,0,0,([]:LI),0,([]:LB),false,0,az)
else
(Ze al am an ao ap aq ar au av aw ax ay).bind λ(y,aa,ab,ac,ad,ae,af,ag,ah,ai,aj,ak)=>
(Rs y aa ab ac ad ae af ag ah ai aj ak).bind λba=>
if(Bc ba 0)then
some (y,aa,ab,ac,ad,ae,af,ag,ah,ai,aj,ak,ba)
else
(Du aa dp).bind λdq=>
j3 y dq ab ac ad ae af ag ah ai aj ak
def Kk:=Rq oT
abbrev Ib:=Option (Int×Int)
def AL(a:LB)(f g:Int)(b h:LB)(k:Int):Ib:=
if(Cq (Ac a) k)then
some (0,24)
else
if(b==h)then
(Bq a (Ao (Ac a) k) (Ad (Ao (Ac a) k) 32)).bind λo=>
(Yt f g).bind λp=>
if(o !=p)then
some (0,12)
else
some (k,0)
else
some (k,0)
def Zp:=AL
def Zx(j6:LB->Int->Int->LB->LB->Int->Ib)(a:LB)(f g:Int)(b h:LB):Ib:=
if(b==h)then
j6 a f g b h (Ad (Ad 32 f) 32)
else
j6 a f g b h (Ad 32 f)
def AJ:=Zx Zp
def RK(j5:LB->Int->Int->LB->LB->Ib)(a:LB):Ib:=
(Bq a (Ao (Ac a) 32) (Ac a)).bind λb=>
(Yx b).bind λ(f,g,n)=>
if(!n)then
some (0,12)
else
(Nn f g true).bind λh=>
(
if(!(b==h))then
(Nn f g false).bind λm=>
if(b !=m)then
some (0,12)
else
j5 a f g b h
else
j5 a f g b h)
def TD:=RK AJ
def TQ(j4:LB->Ib)(a:LB):Ib:=
if(Cq (Ac a) 32)then
some (0,6)
else
(Bq a (Ao (Ac a) 32) (Ad (Ao (Ac a) 32) 8)).bind λu=>
if(u !=([65,80,69,84,65,71,69,88]:LB))then
some (0,6)
else
j4 a
def MM:=TQ TD
abbrev Gj:=Option (Int×Int)
def jY(a:Int):Gj:=
some (a,0)
def jC:=jY
def LH(j6:Int->Gj)(Sf:LB->Int->Gj)(b:LB)(a:Int):Gj:=
if(Ed (Ac b) 0)then
(MM b).bind λ(g,h)=>
if(Bc h 0)then
some (0,38)
else
(Bq b 0 (Ao (Ac b) g)).bind λk=>
Sf k (Ad a 1)
else
j6 a
def Pb:Nat->LB->Int->Gj
|0,_,_=>none
|q+1,b,a=>LH jC (Pb q) b a
def jM:=Pb Ax
def JQ(j4:LB->Int->Gj)(f:LB):Gj:=
if(Ed (Ac f) 4000)then
some (0,38)
else
j4 f 0
def Tw:=JQ jM
def Cv(p a:LB)(g u v w y:Int)(b:LI)(h:Int)(aa:LB)(ab:Bool)(ac:Int):Option Int:=
if(geq g 0)then
(Md a).bind λ(k,f)=>
if(Bc f 0)then
some f
else
(Bq a k (Ac a)).bind λm=>
(Nj m).bind λ(ad,ae,af,ag,ah,n)=>
some n
else
if((geq (Ac b) 0)||(Cq h (Ac b)))then
some 24
else
(Tw a).bind λ(ai,o)=>
if(Bc o 0)then
some 38
else
some 0
def Ym(a:Int):Option (Int×Int):=
if((Cq a 1)||(Ed a 1048576))then
some (0,2)
else
if(geq (Br (Bf a 256) 245) 0)then
some (1,0)
else
some ((Br (Bf a 256) 245),0)
abbrev dV:=Option (Int×Int×Int×Int×Int×Int×LI×Int)
def qY(a:LB)(b f g h k n:Int):dV:=
(Ds b f g h k).bind λ(ab,p)=>
if(Bc p 0)then
some (0,0,0,0,0,0,([]:LI),p)
else
(Bq a n (Ac a)).bind λac=>
(FI ac (Ac ab)).bind λ(u,v)=>
if(Bc v 0)then
some (0,0,0,0,0,0,([]:LI),v)
else
some (b,f,g,h,k,(Ad (Ad n (Bf 4 (Ac u))) 4),u,0)
def Ud:=qY
def AP(j2:LB->Int->Int->Int->Int->Int->Int->dV)(a o:LB):dV:=
if(Ed (Ac o) 64)then
some (0,0,0,0,0,0,([]:LI),2)
else
if(Ed (Ac a) 100000)then
some (0,0,0,0,0,0,([]:LI),4)
else
(Je a).bind λ(m,w)=>
if(Bc w 0)then
some (0,0,0,0,0,0,([]:LI),w)
else
(Bq a m (Ac a)).bind λad=>
(Mz ad).bind λ(b,f,g,h,k,y)=>
if(Bc y 0)then
some (0,0,0,0,0,0,([]:LI),y)
else
if((o==([]:LB)) !=(geq b 1))then
some (0,0,0,0,0,0,([]:LI),26)
else
if(o !=([]:LB))then
if(Cq (Ac a) (Ad (Ad m 22) 8))then
some (0,0,0,0,0,0,([]:LI),24)
else
(Bq a (Ad m 22) (Ad (Ad m 22) 8)).bind λae=>
(Ou ae o).bind λ(af,aa)=>
if(Bc aa 0)then
some (0,0,0,0,0,0,([]:LI),aa)
else
if(!af)then
some (0,0,0,0,0,0,([]:LI),26)
else
j2 a b f g h k (Ad (Ad m 22) 8)
else
j2 a b f g h k (Ad m 22)
def Eb:=AP Ud
abbrev Lp:=Option (Int×Int×Int×Int×Int×Int×LI×Int)
def IA(m n b h k f g:Int)(o:LI):Lp:=
if(Bc n 0)then
some (0,0,0,0,0,0,([]:LI),n)
else
some (b,h,k,f,g,(Ad (Ad m (Bf 4 (Ac o))) 4),o,0)
def KG:=IA
def HO(j4:Int->Int->Int->Int->Int->Int->Int->LI->Lp)(a:LB)(b h k f g m:Int):Lp:=
(Bq a m (Ac a)).bind λy=>
(Fu f g).bind λaa=>
(Ru y (Ac aa)).bind λ(o,n)=>
j4 m n b h k f g o
def Pc:=HO KG
def Vv(j3:LB->Int->Int->Int->Int->Int->Int->Lp)(a u:LB):Lp:=
if(Ed (Ac a) 100000)then
some (0,0,0,0,0,0,([]:LI),4)
else
(Md a).bind λ(p,v)=>
if(Bc v 0)then
some (0,0,0,0,0,0,([]:LI),v)
else
(Bq a p (Ac a)).bind λab=>
(Nj ab).bind λ(b,h,k,f,g,w)=>
if(Bc w 0)then
some (0,0,0,0,0,0,([]:LI),w)
else
if((u==([]:LB)) !=(geq b 1))then
some (0,0,0,0,0,0,([]:LI),26)
else
if(geq b 2)then
if(Cq (Ao (Ac a) (Ad p 22)) 8)then
some (0,0,0,0,0,0,([]:LI),24)
else
(Bq a (Ad p 22) (Ad (Ad p 22) 8)).bind λac=>
(My u).bind λad=>
if(ac !=ad)then
some (0,0,0,0,0,0,([]:LI),26)
else
j3 a b h k f g (Ad (Ad p 22) 8)
else
j3 a b h k f g (Ad p 22)
def Fg:=Vv Pc
def nS(a:Int):Option Int:=
some a
def nP:=nS
def Xo(j6:Int->Option Int)(Sf:Int->Int->Option Int)(b h k m n o f:Int)(g:LI)(a p:Int):Option Int:=
if(Cq p b)then
(Ap g p).bind λu=>
Sf (Ad a u) (Ad p 1)
else
j6 a
def Lo(b h k m n o f:Int)(g:LI):Nat->Int->Int->Option Int
|0,_,_=>none
|q+1,a,p=>Xo nP (Lo b h k m n o f g q) b h k m n o f g a p
def nA b h k m n o f g:=Lo b h k m n o f g Ax
def nL(j4:Int->Int->Int->Int->Int->Int->Int->LI->Int->Int->Option Int)(h k m n o f:Int)(g:LI)(b:Int):Option Int:=
j4 b h k m n o f g f 0
def ZR:=nL nA
abbrev FL:=Option (LB×Int)
def VK(p:LX)(m n g b h k o:Int)(a:LI):FL:=
if(Bc m 0)then
some (([]:LB),m)
else
(Wh b p).bind λ(af,ai)=>
some (af,0)
def VW:=VK
def VG(j2:LX->Int->Int->Int->Int->Int->Int->Int->LI->FL)(v y:LB)(n g b h k o:Int)(a:LI)(f:Int):FL:=
(ZR n g b h k o a f).bind λu=>
(Ap a f).bind λaa=>
if(Cq (Ao (Ac v) u) aa)then
some (([]:LB),24)
else
(Np y).bind λ(ab,ag)=>
(Ap a f).bind λac=>
(Bq v u (Ad u ac)).bind λad=>
(
(Fu h k).bind λw=>
(Ap w f).bind λ_=>
(Ap w f).bind λae=>
(Fc g b ab ae ad).bind λ(p,m)=>
j2 p m n g b h k o a)
def Ue:=VG VW
def bG(a:LB):Option (Int×Int×Int×Int×Int×Int×Int):=
if(Ed (Ac a) 100000)then
some (0,0,0,0,0,0,4)
else
(Md a).bind λ(b,f)=>
if(Bc f 0)then
some (0,0,0,0,0,0,f)
else
(Bq a b (Ac a)).bind λg=>
(Nj g).bind λ(h,k,m,n,o,p)=>
some (b,h,k,m,n,o,p)
def VP(f:LB)(a g m n o p:Int)(b:LB):Option (Int×Int):=
if((b==([]:LB)) !=(geq g 1))then
some (0,26)
else
if(b==([]:LB))then
some (a,0)
else
if(Cq (Ac f) (Ad a 8))then
some (0,24)
else
(Bq f a (Ad a 8)).bind λh=>
(My b).bind λk=>
if(h !=k)then
some (0,26)
else
some ((Ad a 8),0)
def ER(a:LB)(b o p u f g:Int):Option (LI×Int):=
(Bq a b (Ac a)).bind λh=>
(Fu f g).bind λk=>
(Ru h (Ac k)).bind λ(m,n)=>
some (m,n)
abbrev Fe:=Option (Int×Int×Int×LX×Int)
def NY(a:LB)(n b f g:Int)(v:LX):Fe:=
(Bq a n (Ac a)).bind λaf=>
(Tw af).bind λ(ao,ag)=>
if(Bc ag 0)then
some (0,0,0,([]:LX),38)
else
some (b,f,g,v,0)
def NZ:=NY
def NJ(bk7:Int->Int->LX->Fe)(a:LB)(o b f g k:Int)(h p:LI)(u:LX)(n m:Int)(y:LX)(w:Int)(v:LX):Fe:=
if(Bc w 0)then
some (0,0,0,([]:LX),w)
else
(Du v y).bind λah=>
(Ap h m).bind λ_=>
(Ap h m).bind λai=>
bk7 (Ad n ai) (Ad m 1) ah
def NM bk7:=NJ bk7
def AN(j10:Int->Int->LX->Int->LX->Fe)(j12:LB->Int->Int->Int->Int->LX->Fe)(a:LB)(o b f g k:Int)(h p:LI)(u:LX)(n m:Int)(v:LX):Fe:=
if(Cq m (Ac h))then
(Ap h m).bind λ_=>
(Ap h m).bind λaj=>
if(Cq (Ao (Ac a) n) aj)then
some (0,0,0,([]:LX),24)
else
(Ap p m).bind λ_=>
(Ap h m).bind λ_=>
(Ap p m).bind λak=>
(Ap h m).bind λal=>
(Bq a n (Ad n al)).bind λam=>
(Fc b f u ak am).bind λ(y,w)=>
j10 n m y w v
else
j12 a n b f g v
def Mu(a:LB)(o b f g k:Int)(h p:LI)(u:LX):Nat->Int->Int->LX->Fe
|0,_,_,_=>none
|q+1,n,m,v=>AN (NM (Mu a o b f g k h p u q) a o b f g k h p u) NZ a o b f g k h p u n m v
def RX a o b f g k h p u:=Mu a o b f g k h p u Ax
def SN(j7:LB->Int->Int->Int->Int->Int->LI->LI->LX->Int->Int->LX->Fe)(a aa:LB):Fe:=
if(Ed (Ac aa) 64)then
some (0,0,0,([]:LX),2)
else
(bG a).bind λ(an,o,b,f,g,k,ab)=>
if(Bc ab 0)then
some (0,0,0,([]:LX),ab)
else
(VP a (Ad an 22) o b f g k aa).bind λ(ac,ad)=>
if(Bc ad 0)then
some (0,0,0,([]:LX),ad)
else
(ER a ac o b f g k).bind λ(h,ae)=>
if(Bc ae 0)then
some (0,0,0,([]:LX),ae)
else
(Fu g k).bind λp=>
(Np aa).bind λ(u,ap)=>
j7 a o b f g k h p u (Ad ac (Ad (Bf 4 (Ac h)) 4)) 0 ([]:LX)
def Km:=SN RX
def Ml(a b f:Int)(g:LX):Option (Int×Int):=
some (a,b)
def De(b f:Int)(a:LX):Option Int:=
(Et b f).bind λg=>
if(Bc g 0)then
some 2
else
(Ay f a).bind λh=>
if(Bc h 0)then
(Ay f a).bind λk=>
some k
else
if(Cq (Ac a) 1)then
some 2
else
(Jg (Bc b 0)).bind λ_=>
if(Ed (Gx (Ac a) b) 0)then
some 2
else
some 0
abbrev Iw:=Option (LI×Int)
def WN(a:LI):Iw:=
if(Ed (Ac a) 1000)then
some (([]:LI),4)
else
some (a,0)
def WI:=WN
def DF(j6:LI->Iw)(Sf:Int->LI->Iw)(b f:Int)(a:LI):Iw:=
if(Ed f 0)then
(Du a ([(Fm f b)]:LI)).bind λh=>
Sf (Ao f (Fm f b)) h
else
j6 a
def Oc(b:Int):Nat->Int->LI->Iw
|0,_,_=>none
|q+1,f,a=>DF WI (Oc b q) b f a
def VU b:=Oc b Ax
def CG(j4:Int->Int->LI->Iw)(k g:Int):Iw:=
(Ym k).bind λ(b,m)=>
if(((Bc m 0)||(Cq g 1))||(Ed g 4000))then
some (([]:LI),2)
else
j4 b g ([]:LI)
def OU:=CG VU
def Pp(a b:Int):Option (Int×Int):=
(OU a b).bind λ(f,g)=>
some ((Ac f),g)
def bX(f g a:Int)(h:LX)(b:Int):Option Bool:=
(Ml f g a h).bind λ(k,m)=>
(Hc k m b).bind λn=>
if(Bc n 0)then
some false
else
(Pp a b).bind λ(p,o)=>
some (geq o 0)
def Es(a f g:Int)(b:LX):Option Int:=
(Ml a f g b).bind λ(h,k)=>
(De h k b).bind λm=>
if(Bc m 0)then
some 8
else
(Jg (Bc a 0)).bind λ_=>
(bX a f g b (Br (Ac b) a)).bind λn=>
if(!n)then
some 8
else
some 0
end Go.Pl
