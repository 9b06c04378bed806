/- A part of the proof of a statement of this seat (see the text that ends in Proof): ObPure. No conditions of its own. -/
import Derived.Test.YtgomgobgfhhahaaGreatDoorObBA
set_option linter.unusedVariables false
namespace Go.Pl
open Go Go.Lv
abbrev LB:=List UInt8
abbrev LI:=List Int
abbrev LX:=List Int32
abbrev LU:=List UInt32
abbrev LQ:=List UInt64
def NX:Option (Int×Int×Int×LX):=
some (1,8,8000,([(0:Int32)]:LX))
def YX(a b f:Int)(g:LX):Option (Int×Int):=
some (a,b)
abbrev cV:=Option (Int32×Int32×Int)
def oA(a:Int)(b:Bool):cV:=
if b then
(Kx (Nk (Ao a 1) 0)).bind λ_=>
some ((wC (Dt (1:Int32) (GI.toZ (Ao a 1)).toNat)),(Ao (Dt (1:Int32) (GI.toZ (Ao a 1)).toNat) 1),0)
else
some (0,0,2)
def aA:=oA
def ZD(j2:Int->Bool->cV)(a:Int):cV:=
if(geq a 8)then
j2 a (geq a 8)
else
if(geq a 16)then
j2 a (geq a 16)
else
j2 a (geq a 24)
def Sc:=ZD aA
def Gc(a b:Int):Option Int:=
(Sc b).bind λ(g,h,f)=>
if(((Bc f 0)||(Cv a 1))||(Eh a 6))then
some 2
else
some 0
def Ot(a:Int):Option (Int×Int):=
if((Cv a 1)||(Eh a 1048576))then
some (0,2)
else
some ((rO 1 (Bw (Bj 256 a) 245)),0)
def Jw(g b:Int):Option (Int×Int):=
(Ot g).bind λ(a,f)=>
if(Bc f 0)then
some (0,f)
else
if((Cv b 1)||(Eh b 4000))then
some (0,2)
else
(Kx (Bc a 0)).bind λ_=>
if(Eh (Bw (Ao (Ad b a) 1) a) 1000)then
some (0,4)
else
some ((Bw (Ao (Ad b a) 1) a),0)
def PC(a g f:Int)(h:LX)(b:Int):Option Int:=
(YX a g f h).bind λ(k,m)=>
(Gc k m).bind λn=>
if((Bc n 0)||(Cv b 1))then
some 8
else
(Kx (Bc a 0)).bind λ_=>
if(Eh b (Bw 4000 a))then
some 8
else
(Jw f b).bind λ(p,o)=>
if(Bc o 0)then
some 8
else
some 0
def Af6:Option Int:=
some 0
def oT:=Af6
def II(j6:Option Int)(Tn:Int->Option Int)(b f:Int32)(a:LX)(g:Int):Option Int:=
if(Cv g (Ac a))then
(Ap a g).bind λh=>
if((Cv h b)||(Eh h f))then
some 16
else
Tn (Ad g 1)
else
j6
def Uh(b f:Int32)(a:LX):Nat->Int->Option Int
|0,_=>none
|q+1,g=>II oT (Uh b f a q) b f a g
def pS b f a:=Uh b f a Ax
def YO(j4:Int32->Int32->LX->Int->Option Int)(m:Int)(a:LX):Option Int:=
(Sc m).bind λ(b,f,k)=>
if(Bc k 0)then
some k
else
if(Eh (Ac a) 4000)then
some 4
else
j4 b f a 0
def Sm:=YO pS
def Kl(a f h:Int)(b:LX):Option Int:=
if(Cv a 1)then
some 8
else
(Kx (Bc a 0)).bind λ_=>
if(Bc (Gw (Ac b) a) 0)then
some 8
else
(Kx (Bc a 0)).bind λ_=>
(PC a f h b (Bw (Ac b) a)).bind λg=>
if(Bc g 0)then
some g
else
(Sm f b).bind λk=>
if(Bc k 0)then
some 8
else
some 0
abbrev Ef:=Option (LB×Int)
def Abr(g:LB):Ef:=
some (g,0)
def kM:=Abr
def kZ(Is:Int->LB->Ef)(b:Int)(a:LX)(f:Int)(h:LB):Ef:=
Is (Ad f 1) h
def TJ Is:=kZ Is
def ED(j28:Int->LB->Ef)(Arm:Int->LB->Ef)(b:Int)(a:LX)(k:Int32)(f m:Int)(h:LB):Ef:=
if(Cv m (Bw b 8))then
(Kx (Nk (Bj 8 m) 0)).bind λ_=>
(Ee h ([(Af (Ck k (GI.toZ (Bj 8 m)).toNat):UInt8)]:LB)).bind λp=>
Arm (Ad m 1) p
else
j28 f h
def Ld(Is:Int->LB->Ef)(b:Int)(a:LX)(k:Int32)(f:Int):Nat->Int->LB->Ef
|0,_,_=>none
|q+1,m,h=>ED (TJ Is b a) (Ld Is b a k f q) b a k f m h
def TV Is b a k f:=Ld Is b a k f Ax
def TP(j26:Int32->Int->Int->LB->Ef)(b:Int)(a:LX)(f:Int)(g:LB)(k:Int32):Ef:=
j26 k f 0 g
def Nz Is b a:=TP (TV Is b a) b a
def DQ(j25:Int->LB->Int32->Ef)(j30:LB->Ef)(b:Int)(a:LX)(f:Int)(g:LB):Ef:=
if(Cv f (Ac a))then
(Ap a f).bind λn=>
if(geq b 8)then
j25 f g (Ad n 128)
else
j25 f g n
else
j30 g
def Hn(b:Int)(a:LX):Nat->Int->LB->Ef
|0,_,_=>none
|q+1,f,g=>DQ (Nz (Hn b a q) b a) kM b a f g
def kT b a:=Hn b a Ax
def YG(j16:Int->LX->Int->LB->Ef)(b:Int)(a:LX):Ef:=
(Sm b a).bind λo=>
if(Bc o 0)then
some (([]:LB),o)
else
j16 b a 0 ([]:LB)
def Le:=YG kT
def DB(a b f:Int)(g:LB):Option (Int×Bool):=
(Ot f).bind λ(h,k)=>
(Gc a b).bind λm=>
some (h,(((geq m 0)&&(geq k 0))&&(gle (Ac g) 64)))
def bD(a b f:Int)(g:LB):Option (Int×Int×Int×LB×LB×LX×(List LB)×LB×Bool×Int×Int):=
(DB a b f g).bind λ(k,h)=>
if(!h)then
some (0,0,0,([]:LB),([]:LB),([]:LX),([]:List LB),([]:LB),false,0,2)
else
some (a,b,f,g,([]:LB),([]:LX),([]:List LB),([]:LB),false,0,0)
def JM(a b:Int):Option Int:=
some (Bw (Bj a b) 8)
def Xk(a h k:Int)(m n:LB)(b:LX)(f:List LB)(o:LB)(p:Bool)(u g:Int):Option Int:=
(Kx (Bc a 0)).bind λ_=>
some (Ad (Bj (Ac f) g) (Bw (Ac b) a))
def Wd(a g h:Int)(k m:LB)(n:LX)(o:List LB)(p:LB)(u:Bool)(v b f:Int):Option Bool:=
some ((gle b 1000)&&(gle (Bj f a) 4000))
def rN(w:Bool):Option Bool:=
some (!w)
def VK:=rN
def VH(j24:Bool->Option Bool)(w:Bool):Option Bool:=
j24 w
def CB:=VH VK
def UY(j23:Bool->Option Bool):Option Bool:=
j23 (Nk (-1:Int) (0:Int))
def UN:=UY CB
def VO(Is:Int->Option Bool)(b:List LB)(f a g:Int):Option Bool:=
Is (Ad g 1)
def BT Is:=VO Is
def CF(j23:Bool->Option Bool)(j20:Int->Option Bool)(b:List LB)(f a g:Int)(y:LB):Option Bool:=
if((Cv (Ac y) 5)||(Eh (Ac y) (Ad (Bw (Ad (Bj (Bj 81 f) a) 7) 8) 4)))then
j23 (Nk g 0)
else
j20 g
def CN Is b f a:=CF CB (BT Is b f a) b f a
def Tz(j19:Int->LB->Option Bool)(j22:Option Bool)(b:List LB)(f a g:Int):Option Bool:=
if(Cv g (Ac b))then
(Ap b g).bind λy=>
j19 g y
else
j22
def La(b:List LB)(f a:Int):Nat->Int->Option Bool
|0,_=>none
|q+1,g=>Tz (CN (La b f a q) b f a) UN b f a g
def Ty b f a:=La b f a Ax
def Ud(j16:(List LB)->Int->Int->Int->Option Bool)(f a k o:Int)(p m:LB)(h:LX)(b:List LB)(n:LB)(u:Bool)(v:Int):Option Bool:=
j16 b f a 0
def Tq:=Ud Ty
def Tp(j15:Int->Int->Int->Int->LB->LB->LX-> (List LB)->LB->Bool->Int->Option Bool)(f a k o:Int)(p m:LB)(h:LX)(b:List LB)(n:LB)(u:Bool)(v aa:Int):Option Bool:=
(Xk a k o p m h b n u v f).bind λab=>
(Wd a k o p m h b n u v aa ab).bind λac=>
if(!ac)then
some false
else
j15 f a k o p m h b n u v
def Tt:=Tp Tq
def CU(j14:Int->Int->Int->Int->LB->LB->LX-> (List LB)->LB->Bool->Int->Int->Option Bool)(f a k o:Int)(p m:LB)(h:LX)(b:List LB)(n:LB)(u:Bool)(v:Int):Option Bool:=
(Sm k h).bind λad=>
if(Bc ad 0)then
some false
else
if(Eh (Ac h) 0)then
j14 f a k o p m h b n u v (Ad (Ac b) 1)
else
j14 f a k o p m h b n u v (Ac b)
def BS:=CU Tt
def FJ(j13:Int->Int->Int->Int->LB->LB->LX-> (List LB)->LB->Bool->Int->Option Bool)(a k o:Int)(p m:LB)(h:LX)(b:List LB)(n:LB)(u:Bool)(v f:Int):Option Bool:=
if(Eh (Ac n) 0)then
if true then
if true then
if(true||(Eh (Ac b) 1000))then
some false
else
j13 f a k o p m h b n u v
else
(Kx (Bc a 0)).bind λ_=>
if((Nk (Bw (Ac h) a) f)||(Eh (Ac b) 1000))then
some false
else
j13 f a k o p m h b n u v
else
(Kx (Bc a 0)).bind λ_=>
if(Bc (Gw (Ac h) a) 0)then
if(true||(Eh (Ac b) 1000))then
some false
else
j13 f a k o p m h b n u v
else
(Kx (Bc a 0)).bind λ_=>
if((Nk (Bw (Ac h) a) f)||(Eh (Ac b) 1000))then
some false
else
j13 f a k o p m h b n u v
else
(JM a k).bind λae=>
if(Nk (Ac m) ae)then
if true then
if(true||(Eh (Ac b) 1000))then
some false
else
j13 f a k o p m h b n u v
else
(Kx (Bc a 0)).bind λ_=>
if((Nk (Bw (Ac h) a) f)||(Eh (Ac b) 1000))then
some false
else
j13 f a k o p m h b n u v
else
(Kx (Bc a 0)).bind λ_=>
if(Bc (Gw (Ac h) a) 0)then
if(true||(Eh (Ac b) 1000))then
some false
else
j13 f a k o p m h b n u v
else
(Kx (Bc a 0)).bind λ_=>
if((Nk (Bw (Ac h) a) f)||(Eh (Ac b) 1000))then
some false
else
j13 f a k o p m h b n u v
def DV:=FJ BS
def PU(m n o:Int)(p b:LB)(f:LX)(g:List LB)(h:LB)(k:Bool)(a:Int):Option Int:=
(DB m n o p).bind λ(u,v)=>
if(!v)then
some 8
else
if(Bc a 0)then
if(!(((((geq a 18)||(geq a 24))&&(!k))&&(geq (Ad (Ad (Ac b) (Ac f)) (Ac g)) 0))&&(geq (Ac h) 0)))then
some 8
else
some 0
else
if k then
if(!((geq (Ad (Ad (Ac b) (Ac f)) (Ac g)) 0)&&(gle (Ac h) 100000)))then
some 8
else
some 0
else
(DV m n o p b f g h k a u).bind λw=>
if(!w)then
some 8
else
some 0
def Ca(a:LB):Option (LB):=
(
(Ee ([]:LB) a).bind λb=>
some b)
def Di(a:LX):Option (LX):=
(
(Ee ([]:LX) a).bind λb=>
some b)
abbrev Kj:=Option (Int×Int×Int×LB×LB×LX×(List LB)×LB×Bool×Int)
def Abm(b f g:Int)(h:LB)(a:List LB)(k:Bool)(m:Int)(u:List LB)(n:LB)(o:LX)(p:LB):Kj:=
some (b,f,g,h,n,o,u,p,k,m)
def lD:=Abm
def DU(j8:Int->Int->Int->LB-> (List LB)->Bool->Int-> (List LB)->LB->LX->LB->Kj)(bk6:Int-> (List LB)->Kj)(w a:List LB)(b f g:Int)(h:LB)(k:Bool)(m:Int)(n:LB)(o:LX)(p:LB)(v:Int)(u:List LB):Kj:=
if(Cv v (Ac (UQ w a)))then
(Ap u v).bind λ_=>
(Ap u v).bind λy=>
(Ca y).bind λaa=>
(Ap u v).bind λ_=>
(Oe u v aa).bind λab=>
bk6 (Ad v 1) ab
else
j8 b f g h a k m u n o p
def Rp(w a:List LB)(b f g:Int)(h:LB)(k:Bool)(m:Int)(n:LB)(o:LX)(p:LB):Nat->Int-> (List LB)->Kj
|0,_,_=>none
|q+1,v,u=>DU lD (Rp w a b f g h k m n o p q) w a b f g h k m n o p v u
def kR w a b f g h k m n o p:=Rp w a b f g h k m n o p Ax
def TH(j6:(List LB)-> (List LB)->Int->Int->Int->LB->Bool->Int->LB->LX->LB->Int-> (List LB)->Kj)(b f g:Int)(h:LB)(a:List LB)(k:Bool)(m:Int)(n:LB)(o:LX)(p:LB):Kj:=
(mkI (Ac a) ([]:LB)).bind λw=>
(Kx (geq (Ac a) (Ac a))).bind λ_=>
j6 w a b f g h k m n o p 0 (UQ w a)
def TQ:=TH kR
def TL(j5:Int->Int->Int->LB-> (List LB)->Bool->Int->LB->LX->LB->Kj)(b f g:Int)(h ac:LB)(ad:LX)(a:List LB)(ae:LB)(k:Bool)(m:Int):Kj:=
(Ca ac).bind λn=>
(Di ad).bind λo=>
(Ca ae).bind λp=>
j5 b f g h a k m n o p
def VQ:=TL TQ
abbrev TR:=Option (Int×Int×Int×LB×LB×LX×(List LB)×LB×Bool×Int×Int×Int)
def eO(u g h b:Int)(k m:LB)(n:LX)(o:List LB)(p:LB)(f:Bool)(a v:Int):TR:=
(VQ g h b k m n o p f a).bind λ(y,aa,ab,ac,ad,ae,af,ag,ah,ai)=>
some (y,aa,ab,ac,ad,ae,af,ag,ah,ai,u,v)
def NU:=eO
def NQ(j2:Int->Int->Int->Int->LB->LB->LX-> (List LB)->LB->Bool->Int->Int->TR)(g h b:Int)(k m:LB)(n:LX)(o:List LB)(p:LB)(f:Bool)(a:Int):TR:=
(PU g h b k m n o p f a).bind λw=>
if(Bc w 0)then
some (0,0,0,([]:LB),([]:LB),([]:LX),([]:List LB),([]:LB),false,0,0,w)
else
(Ot b).bind λ(u,aj)=>
if(Bc a 0)then
j2 u g h b k m n o p f a a
else
if f then
j2 u g h b k m n o p f a 36
else
j2 u g h b k m n o p f a aj
def DD:=NQ NU
abbrev Dd:=Option (LX×Int)
def wH(g:LX):Dd:=
some (g,0)
def bO:=wH
def Yx(Is:Int->LX->Dd)(a:Int)(b:LB)(f:Int)(m:LX):Dd:=
Is (Ad f (Bw a 8)) m
def Kk Is:=Yx Is
def Yp(j28:Int->LX->Dd)(a:Int)(b:LB)(f:Int)(h:Int32)(g:LX):Dd:=
(Kx (Nk (Ao 32 a) 0)).bind λ_=>
(Kx (Nk (Ao 32 a) 0)).bind λ_=>
(Ee g ([(Ck (Dt h (GI.toZ (Ao 32 a)).toNat) (GI.toZ (Ao 32 a)).toNat)]:LX)).bind λp=>
j28 f p
def Zd Is a b:=Yp (Kk Is a b) a b
def Gn(j27:Int->Int32->LX->Dd)(Bkw:Int32->Int->Dd)(a:Int)(b:LB)(f:Int)(g:LX)(h:Int32)(k:Int):Dd:=
if(Cv k (Bw a 8))then
(Ap b (Ad f k)).bind λn=>
(Kx (Nk (Bj 8 k) 0)).bind λ_=>
Bkw (uJ h (Dt (Af n:Int32) (GI.toZ (Bj 8 k)).toNat)) (Ad k 1)
else
j27 f h g
def Fm(Is:Int->LX->Dd)(a:Int)(b:LB)(f:Int)(g:LX):Nat->Int32->Int->Dd
|0,_,_=>none
|q+1,h,k=>Gn (Zd Is a b) (Fm Is a b f g q) a b f g h k
def Ns Is a b f g:=Fm Is a b f g Ax
def Gp(j28:Int->LX->Dd)(j25:Int->LX->Int32->Int->Dd)(j30:LX->Dd)(a:Int)(b:LB)(f:Int)(g:LX):Dd:=
if(Cv f (Ac b))then
if(geq a 8)then
(Ap b f).bind λn=>
(Ee g ([(Ao (Af n:Int32) 128)]:LX)).bind λu=>
j28 f u
else
j25 f g 0 0
else
j30 g
def Er(a:Int)(b:LB):Nat->Int->LX->Dd
|0,_,_=>none
|q+1,f,g=>Gp (Kk (Er a b q) a b) (Ns (Er a b q) a b) bO a b f g
def JY a b:=Er a b Ax
def NM(j16:Int->LB->Int->LX->Dd)(a:Int)(b:LB):Dd:=
(Sc a).bind λ(v,w,o)=>
if(Bc o 0)then
some (([]:LX),o)
else
(Kx (Bc (Bw a 8) 0)).bind λ_=>
if(Bc (Gw (Ac b) (Bw a 8)) 0)then
some (([]:LX),12)
else
(Kx (Bc (Bw a 8) 0)).bind λ_=>
if(Eh (Bw (Ac b) (Bw a 8)) 4000)then
some (([]:LX),4)
else
j16 a b 0 ([]:LX)
def Xj:=NM JY
abbrev Cr:=Option (UInt64×Int)
def pP(h:UInt64):Cr:=
some (h,0)
def ZJ:=pP
def XD(j30:UInt64->Cr)(h b:UInt64)(a:LB)(f:LQ):Cr:=
j30 h
def XR:=XD ZJ
def IM(j29:UInt64->UInt64->LB->LQ->Cr)(kJ:UInt64->Int->Cr)(a:LB)(b:UInt64)(f:LQ)(h:UInt64)(m:Int):Cr:=
if(Cv m (Ac a))then
(Ap a m).bind λp=>
Option.bind (Ap f (GI.toZ (AH (Af (Ck h (GI.toZ (56:UInt64)).toNat):UInt8) p))) λ_=>
Option.bind (Ap f (GI.toZ (AH (Af (Ck h (GI.toZ (56:UInt64)).toNat):UInt8) p))) λu=>
kJ (AH (Dt h (GI.toZ (8:UInt64)).toNat) u) (Ad m 1)
else
j29 h b a f
def Um(a:LB)(b:UInt64)(f:LQ):Nat->UInt64->Int->Cr
|0,_,_=>none
|q+1,h,m=>IM XR (Um a b f q) a b f h m
def YI a b f:=Um a b f Ax
def WY(j27:LB->UInt64->LQ->UInt64->Int->Cr)(b:UInt64)(a:LB)(f:LQ):Cr:=
j27 a b f b 0
def LD:=WY YI
def pN(Is:Int->LQ->Cr)(b:UInt64)(a:LB)(g:Int)(o:LQ):Cr:=
Is (Ad g 1) o
def YV Is:=pN Is
def XW(j24:Int->LQ->Cr)(b:UInt64)(a:LB)(g:Int)(k:UInt64)(f:LQ):Cr:=
(Ap f g).bind λ_=>
(Oe f g k).bind λo=>
j24 g o
def KK Is b a:=XW (YV Is b a) b a
def LY(j23:Int->UInt64->LQ->Cr)(Arn:UInt64->Int->Cr)(b:UInt64)(a:LB)(g:Int)(f:LQ)(k:UInt64)(n:Int):Cr:=
if(Cv n 8)then
Arn (AH (Dt k (GI.toZ (1:UInt64)).toNat) (Bj 4823603603198064275 (Ck k (GI.toZ (63:UInt64)).toNat))) (Ad n 1)
else
j23 g k f
def Uv(Is:Int->LQ->Cr)(b:UInt64)(a:LB)(g:Int)(f:LQ):Nat->UInt64->Int->Cr
|0,_,_=>none
|q+1,k,n=>LY (KK Is b a) (Uv Is b a g f q) b a g f k n
def XK Is b a g f:=Uv Is b a g f Ax
def HH(j21:Int->LQ->UInt64->Int->Cr)(j26:UInt64->LB->LQ->Cr)(b:UInt64)(a:LB)(g:Int)(f:LQ):Cr:=
if(Cv g 256)then
j21 g f (Dt (Af g:UInt64) (GI.toZ (56:UInt64)).toNat) 0
else
j26 b a f
def Px(b:UInt64)(a:LB):Nat->Int->LQ->Cr
|0,_,_=>none
|q+1,g,f=>HH (XK (Px b a q) b a) LD b a g f
def aJ b a:=Px b a Ax
def dI(j16:UInt64->LB->Int->LQ->Cr)(b:UInt64)(a:LB):Cr:=
if(Eh (Ac a) 100000)then
some (0,4)
else
j16 b a 0 (List.replicate 256 (0:UInt64))
def gT:=dI aJ
def eZ(a:LB):Option (UInt64×Int):=
(gT 0 a).bind λ(b,f)=>
some (b,f)
def Aq5(a:LX):Option (LX):=
some a
def Adz:=Aq5
def jG(j6:LX->Option (LX))(Tn:Int->LX->Option (LX))(f:UInt64)(b:Int)(a:LX):Option (LX):=
if(Cv b 8)then
(Kx (Nk (Bj 8 b) 0)).bind λ_=>
(Ap a b).bind λ_=>
(Oe a b (Af (Af (Ck f (GI.toZ (Bj 8 b)).toNat):Int8):Int32)).bind λg=>
Tn (Ad b 1) g
else
j6 a
def OV(f:UInt64):Nat->Int->LX->Option (LX)
|0,_,_=>none
|q+1,b,a=>jG Adz (OV f q) f b a
def Afs f:=OV f Ax
def Ae8(j4:UInt64->Int->LX->Option (LX))(f:UInt64):Option (LX):=
j4 f 0 (List.replicate 16 (0:Int32))
def Ajl:=Ae8 Afs
def Uf(a:LB):Option (LX×Int):=
if(Eh (Ac a) 64)then
some (([(0:Int32),(0:Int32),(0:Int32),(0:Int32),(0:Int32),(0:Int32),(0:Int32),(0:Int32),(0:Int32),(0:Int32),(0:Int32),(0:Int32),(0:Int32),(0:Int32),(0:Int32),(0:Int32)]:LX),2)
else
(eZ a).bind λ(f,b)=>
if(Bc b 0)then
some (([(0:Int32),(0:Int32),(0:Int32),(0:Int32),(0:Int32),(0:Int32),(0:Int32),(0:Int32),(0:Int32),(0:Int32),(0:Int32),(0:Int32),(0:Int32),(0:Int32),(0:Int32),(0:Int32)]:LX),b)
else
(Ajl f).bind λg=>
some (g,0)
def PT(a f:Int)(b:LX):Option Int:=
(Gc a f).bind λg=>
if(Bc g 0)then
some g
else
(Sm f b).bind λh=>
if(Bc h 0)then
some h
else
if(geq (Ac b) 0)then
some 2
else
(Kx (Bc a 0)).bind λ_=>
if(Bc (Gw (Ac b) a) 0)then
some 2
else
some 0
def fD(a:Int)(b:LX):Option Int:=
if((Cv a 1)||(Eh a 6))then
some 2
else
if(Eh (Ac b) 4000)then
some 4
else
(Kx (Bc a 0)).bind λ_=>
if(Bc (Gw (Ac b) a) 0)then
some 2
else
some 0
abbrev Kz:=Option (LX×Int)
def Alq(f:LX):Kz:=
some (f,0)
def Abe:=Alq
def mY(dU:Int->LX->Kz)(b a:Int)(k:LX):Kz:=
dU (Ad a b) k
def bJ dU:=mY dU
def pX(j20:Int->LX->Kz)(b a:Int)(g:LX):Kz:=
if(Eh (Ao ((Ad a b)-a) 1) 0)then
(Kx (decide (0<= (Ao ((Ad a b)-a) 1)/\ (Ao ((Ad a b)-a) 1)<((Ad a b)-a)))).bind λ_=>
Option.bind (Kx (decide (0<= (Ao (Ao ((Ad a b)-a) 1) 1)/\ (Ao (Ao ((Ad a b)-a) 1) 1)<((Ad a b)-a)))) λ_=>
(Ap g (a+(Ao ((Ad a b)-a) 1))).bind λm=>
(Ap g (a+(Ao (Ao ((Ad a b)-a) 1) 1))).bind λn=>
(Kx (decide (0<= (Ao ((Ad a b)-a) 1)/\ (Ao ((Ad a b)-a) 1)<((Ad a b)-a)))).bind λ_=>
(Oe g (a+(Ao ((Ad a b)-a) 1)) (Ao m (Bw n 2))).bind λo=>
j20 a o
else
j20 a g
def oD dU b:=pX (bJ dU b) b
def cA(j19:Int->LX->Kz)(Bhc:Int->LX->Kz)(b a h:Int)(g:LX):Kz:=
if(Cv h (Ao ((Ad a b)-a) 1))then
(Kx (decide (0<= (Ad h 1)/\ (Ad h 1)<((Ad a b)-a)))).bind λ_=>
(Kx (decide (0<=h/\h<((Ad a b)-a)))).bind λ_=>
(Ap g (a+(Ad h 1))).bind λm=>
(Ap g (a+h)).bind λn=>
(Kx (decide (0<=h/\h<((Ad a b)-a)))).bind λ_=>
(Oe g (a+h) (Ao m n)).bind λo=>
Bhc (Ad h 1) o
else
j19 a g
def GB(dU:Int->LX->Kz)(b a:Int):Nat->Int->LX->Kz
|0,_,_=>none
|q+1,h,g=>cA (oD dU b) (GB dU b a q) b a h g
def Aae dU b a:=GB dU b a Ax
def oU(j17:Int->Int->LX->Kz)(j22:LX->Kz)(b a:Int)(f:LX):Kz:=
if(Cv a (Ac f))then
(fN (Ac f) a (Ad a b)).bind λ_=>
j17 a 0 f
else
j22 f
def GV(b:Int):Nat->Int->LX->Kz
|0,_,_=>none
|q+1,a,f=>oU (Aae (GV b q) b) Abe b a f
def oP b:=GV b Ax
def tF(j12:Int->Int->LX->Kz)(b:Int)(p:LX):Kz:=
(fD b p).bind λu=>
if(Bc u 0)then
some (([]:LX),u)
else
(Di p).bind λv=>
j12 b 0 v
def Abv:=tF oP
abbrev uH:=Option (Int×LX×LX×Int)
def Amn(a:Int)(b:LX)(f:Bool):uH:=
if f then
some (10,b,(List.replicate 16 (0:Int32)),0)
else
if(geq a 16)then
some (9,b,(List.replicate 16 (0:Int32)),0)
else
some (0,(List.replicate 16 (0:Int32)),(List.replicate 16 (0:Int32)),2)
def Aab:=Amn
def Abc(j2:Int->LX->Bool->uH)(a:Int)(b:LX):uH:=
if(geq a 8)then
j2 a b (geq a 8)
else
j2 a b (geq a 24)
def vS:=Abc Aab
def zJ(a:Int)(f:LX):Option (Int×Int32×Int×LX×LX×Int):=
(vS a f).bind λ(g,h,k,b)=>
if(Bc b 0)then
some (0,0,0,(List.replicate 16 (0:Int32)),(List.replicate 16 (0:Int32)),b)
else
some (a,0,g,h,k,0)
def Zl(a:Int)(k:Int32)(b:Int)(f m:LX):Option Int:=
(vS a f).bind λ(g,n,o,h)=>
if((Bc h 0)||(Bc g b))then
some 8
else
some 0
def pI(a:Int):Option (Int×Int):=
if(geq a 8)then
some (4,0)
else
if(geq a 16)then
if(geq a 16)then
some (5,0)
else
some (0,2)
else
if(geq a 24)then
some (5,0)
else
some (0,2)
def cD(a:Int)(b:Int32):Option Int32:=
(Kx (Nk a 0)).bind λ_=>
(Kx (Nk a 0)).bind λ_=>
some (Af (Ajw (Ao (Dt (Af b:Int) (GI.toZ a).toNat) (Af b:Int)) (GI.toZ a).toNat):Int32)
def AI(b:Int)(f:Int32):Option (Int32×Int):=
(pI b).bind λ(g,a)=>
if(Bc a 0)then
some (0,a)
else
(cD g f).bind λh=>
some (h,0)
def OL(a:Int)(b f:LX):Option Int:=
if((Bc a 9)&&(Bc a 10))then
some 8
else
some 0
abbrev Vy:=Option (Int32×Int)
def sU(g:Int32)(a:Int)(b f:LX):Vy:=
(Kx (Nk a 0)).bind λ_=>
some ((Ck g (GI.toZ a).toNat),0)
def cS:=sU
def QC(j6:Int32->Int->LX->LX->Vy)(Tn:Int32->Int->Vy)(b:LX)(a:Int)(f:LX)(g:Int32)(h:Int):Vy:=
if(Cv h 16)then
(Ap b h).bind λm=>
(Ap f h).bind λ_=>
(Ap f h).bind λn=>
Tn (Ad g (Bj m n)) (Ad h 1)
else
j6 g a b f
def Xl(b:LX)(a:Int)(f:LX):Nat->Int32->Int->Vy
|0,_,_=>none
|q+1,g,h=>QC cS (Xl b a f q) b a f g h
def dQ b a f:=Xl b a f Ax
def cL(j4:LX->Int->LX->Int32->Int->Vy)(a:Int)(b f:LX):Vy:=
(OL a b f).bind λk=>
if(Bc k 0)then
some (0,k)
else
(Kx (Nk (Ao a 1) 0)).bind λ_=>
j4 b a f (Dt (1:Int32) (GI.toZ (Ao a 1)).toNat) 0
def XF:=cL dQ
def fX(a:Int):Option Int32:=
if(geq a 0)then
some 4
else
if(Cv a 4)then
some 2
else
some 1
abbrev Wb:=Option (Int×LX×LX×Int)
def Agt(g:Int)(b f:LX):Wb:=
some (g,b,f,0)
def sA:=Agt
def PO(j6:Int->LX->LX->Wb)(Tn:Int->LX->Wb)(h:Int32)(f:LX)(g a:Int)(b:LX):Wb:=
if(Cv a 16)then
(Ap f a).bind λm=>
if(geq m 0)then
Tn (Ad a 1) b
else
if((Cv m 0)==(Cv h 0))then
(Ap b a).bind λ_=>
(Ap b a).bind λo=>
(fX a).bind λp=>
(Ap b a).bind λ_=>
(Oe b a (Ad o p)).bind λu=>
Tn (Ad a 1) u
else
(Ap b a).bind λ_=>
(Ap b a).bind λv=>
(fX a).bind λw=>
(Ap b a).bind λ_=>
(Oe b a (Ao v w)).bind λy=>
Tn (Ad a 1) y
else
j6 g b f
def Xi(h:Int32)(f:LX)(g:Int):Nat->Int->LX->Wb
|0,_,_=>none
|q+1,a,b=>PO sA (Xi h f g q) h f g a b
def sK h f g:=Xi h f g Ax
def cW(j4:Int32->LX->Int->Int->LX->Wb)(g:Int)(k f:LX)(h:Int32):Wb:=
(OL g k f).bind λn=>
if(Bc n 0)then
some (0,(List.replicate 16 (0:Int32)),(List.replicate 16 (0:Int32)),n)
else
if(geq h 0)then
some (g,k,f,0)
else
j4 h f g 0 k
def jJ:=cW sK
abbrev oO:=Option (Int×LX×LX×Int)
def wO(g:Int32)(b:Int)(f a:LX):oO:=
(Ap (Xy a 1 ((16:Int)-(1:Int)) (XT a 0 ((16:Int)-(0:Int)))) 0).bind λ_=>
(Oe (Xy a 1 ((16:Int)-(1:Int)) (XT a 0 ((16:Int)-(0:Int)))) 0 g).bind λk=>
some (b,f,k,0)
def hH:=wO
def VS(j2:Int32->Int->LX->LX->oO)(b:Int)(f a:LX)(g:Int32):oO:=
(OL b f a).bind λh=>
if(Bc h 0)then
some (0,(List.replicate 16 (0:Int32)),(List.replicate 16 (0:Int32)),h)
else
(
(fN 16 1 16).bind λ_=>
(fN 16 0 16).bind λ_=>
j2 g b f a)
def qC:=VS hH
def ZH(a:Int)(b f:LX)(g h:Int32):Option (Int×LX×LX):=
(jJ a b f h).bind λ(k,m,n,v)=>
(qC k m n g).bind λ(o,p,u,w)=>
some (o,p,u)
def bK(b:Int)(f g:LX)(a:Int32):Option (Int32×Int×LX×LX×Int):=
(XF b f g).bind λ(h,k)=>
if(Bc k 0)then
some (0,0,(List.replicate 16 (0:Int32)),(List.replicate 16 (0:Int32)),k)
else
(ZH b f g a (Ao a h)).bind λ(m,n,o)=>
some ((Ao a h),m,n,o,0)
def Xf(a:Int)(b:Int32)(f:Int)(g h:LX)(k:Int32):Option (Int32×Int×Int32×Int×LX×LX×Int):=
(Zl a b f g h).bind λm=>
if(Bc m 0)then
some (0,0,0,0,(List.replicate 16 (0:Int32)),(List.replicate 16 (0:Int32)),m)
else
(AI a b).bind λ(n,y)=>
(bK f g h (Ao k n)).bind λ(o,p,u,v,w)=>
(
some (o,a,k,p,u,v,w))
def qY(a:Int32):Option UInt32:=
some (AH (Dt (Af a:UInt32) (GI.toZ (1:UInt64)).toNat) (Af (Ck a (GI.toZ (31:UInt64)).toNat):UInt32))
abbrev Dy:=Option (LU×Int)
def tA(k:LU):Dy:=
some (k,0)
def ZY:=tA
def Vz(j12:LU->Dy)(Aro:Int-> (List (Int×Int32×(Int×LX×LX×Unit)×Unit))->LU->Dy)(b:LX)(a f g:Int)(o:List (Int×Int32×(Int×LX×LX×Unit)×Unit))(k:LU):Dy:=
if(Cv g (Ac b))then
(Ap b g).bind λ_=>
(Ap b g).bind λac=>
(Kx (Bc a 0)).bind λ_=>
(Ap o (Gw g a)).bind λ_=>
(Ap o (Gw g a)).bind λp=>
(Xf p.1 p.2.1 p.2.2.1.1 p.2.2.1.2.1 p.2.2.1.2.2.1 ac).bind λ(u,ad,ae,v,af,ag,w)=>
if(Bc w 0)then
some (([]:LU),w)
else
(Oe o (Gw g a) (ad,ae,(v,af,ag,()),())).bind λah=>
(qY u).bind λai=>
(Ee k ([ai]:LU)).bind λaj=>
Aro (Ad g 1) ah aj
else
j12 k
def Mn(b:LX)(a f:Int):Nat->Int-> (List (Int×Int32×(Int×LX×LX×Unit)×Unit))->LU->Dy
|0,_,_,_=>none
|q+1,g,o,k=>Vz ZY (Mn b a f q) b a f g o k
def YZ b a f:=Mn b a f Ax
def bQ(j10:LX->Int->Int->Int-> (List (Int×Int32×(Int×LX×LX×Unit)×Unit))->LU->Dy)(a f:Int)(b:LX)(h:List (Int×Int32×(Int×LX×LX×Unit)×Unit)):Dy:=
j10 b a f 0 h ([]:LU)
def JV:=bQ YZ
def bT(j9:Int->Int->LX-> (List (Int×Int32×(Int×LX×LX×Unit)×Unit))->Dy)(bk7:Int-> (List (Int×Int32×(Int×LX×LX×Unit)×Unit))->Dy)(a f:Int)(m b:LX)(n:Int)(h:List (Int×Int32×(Int×LX×LX×Unit)×Unit)):Dy:=
if(Cv n 6)then
(zJ f m).bind λ(ak,al,u,am,an,v)=>
(Ap h n).bind λ_=>
(Oe h n (ak,al,(u,am,an,()),())).bind λao=>
bk7 (Ad n 1) ao
else
j9 a f b h
def IV(a f:Int)(m b:LX):Nat->Int-> (List (Int×Int32×(Int×LX×LX×Unit)×Unit))->Dy
|0,_,_=>none
|q+1,n,h=>bT JV (IV a f m b q) a f m b n h
def Yv a f m b:=IV a f m b Ax
def HL(j7:Int->Int->LX->LX->Int-> (List (Int×Int32×(Int×LX×LX×Unit)×Unit))->Dy)(a f:Int)(m y:LX):Dy:=
(PT a f y).bind λaa=>
if(Bc aa 0)then
some (([]:LU),aa)
else
(Abv a y).bind λ(b,ab)=>
if(Bc ab 0)then
some (([]:LU),ab)
else
j7 a f m b 0 (List.replicate 6 ((0:Int),(0:Int32),((0:Int),(List.replicate 16 (0:Int32)),(List.replicate 16 (0:Int32)),()),()))
def HY:=HL Yv
def tQ:Option (Int×Int×UInt64×UInt64):=
some (10,10,16384,16384)
abbrev Mo:=Option ((List (Int×Int×UInt64×UInt64×Unit)))
def vJ(a:List (Int×Int×UInt64×UInt64×Unit)):Mo:=
some a
def bX:=vJ
def bB(j6:(List (Int×Int×UInt64×UInt64×Unit))->Mo)(Tn:Int-> (List (Int×Int×UInt64×UInt64×Unit))->Mo)(b:Int)(a:List (Int×Int×UInt64×UInt64×Unit)):Mo:=
if(Cv b 6)then
(tQ).bind λ(f,g,h,k)=>
(Ap a b).bind λ_=>
(Oe a b (f,g,h,k,())).bind λm=>
Tn (Ad b 1) m
else
j6 a
def IH:Nat->Int-> (List (Int×Int×UInt64×UInt64×Unit))->Mo
|0,_,_=>none
|q+1,b,a=>bB bX (IH q) b a
def JQ:=IH Ax
def JE(j4:Int-> (List (Int×Int×UInt64×UInt64×Unit))->Mo):Mo:=
j4 0 (List.replicate 6 ((0:Int),(0:Int),(0:UInt64),(0:UInt64),()))
def HS:=JE JQ
def Ki(b:LB)(a:Int):Option Int:=
if(((Cv a 0)||(Eh a 330000))||(Bc (Ac b) (Ajw (Ad a 7) (GI.toZ (3:UInt64)).toNat)))then
some 8
else
if(Eh (Fe a 7) 0)then
(Ap b (Ao (Ac b) 1)).bind λf=>
(Kx (Nk (Fe a 7) 0)).bind λ_=>
if(Bc (Ck f (GI.toZ (Fe a 7)).toNat) 0)then
some 8
else
some 0
else
some 0
def sG(a b:Int)(f g:UInt64):Option Int:=
if(!((geq (Fo (rO a 0) 24) a)&&((geq (Fo (rO b 0) 24) b)&&((geq (Fo f 68719476735) f)&&((geq (Fo g 68719476735) g)&&true)))))then
some 8
else
some 0
def dT:=sG
def QA(j4:Int->Int->UInt64->UInt64->Option Int)(a b:Int)(f g:UInt64):Option Int:=
(
(
j4 a b f g))
def dG:=QA dT
def PX(j3:Int->Int->UInt64->UInt64->Option Int)(a b:Int)(f g:UInt64):Option Int:=
(
(
j3 a b f g))
def YF:=PX dG
def OH(a f:Int)(g h:UInt64)(b:UInt32):Option (Int×UInt32):=
(Kx (Nk a 0)).bind λ_=>
if(geq (Ck b (GI.toZ a).toNat) 0)then
some (0,b)
else
(Kx (Nk a 0)).bind λ_=>
some (1,(Ao b (Dt (1:UInt32) (GI.toZ a).toNat)))
def eP(a:LB)(b:Int):Option (LB×Int):=
(Ca a).bind λf=>
some (f,b)
abbrev Ev:=Option (LB×Int×Int)
def xN(f:Int)(o:LB):Ev:=
some (o,f,0)
def iJ:=xN
def wT(Ba2:UInt64->Int->Int->LB->Ev)(b:UInt64)(a:Int)(m:UInt64)(h f:Int)(w:LB):Ev:=
(Kx (Nk (Fo h (Ao 8 (Fe f 7))) 0)).bind λ_=>
Ba2 (Ck m (GI.toZ (Fo h (Ao 8 (Fe f 7)))).toNat) (Ao h (Fo h (Ao 8 (Fe f 7)))) (Ad f (Fo h (Ao 8 (Fe f 7)))) w
def iG Ba2:=wT Ba2
def iB(j19:UInt64->Int->Int->LB->Ev)(b:UInt64)(a:Int)(m:UInt64)(h f:Int)(u:LB):Ev:=
(Ap u (Ao (Ac u) 1)).bind λ_=>
(Kx (Nk (Fo h (Ao 8 (Fe f 7))) 0)).bind λ_=>
(Kx (Nk (Fe f 7) 0)).bind λ_=>
(Ap u (Ao (Ac u) 1)).bind λad=>
(Ap u (Ao (Ac u) 1)).bind λ_=>
Option.bind (Oe u (Ao (Ac u) 1) (uJ ad (Dt (Af (Fe m (Ao (Dt (1:UInt64) (GI.toZ (Fo h (Ao 8 (Fe f 7)))).toNat) 1)):UInt8) (GI.toZ (Fe f 7)).toNat))) λw=>
j19 m h f w
def VU Ba2 b a:=iB (iG Ba2 b a) b a
def WE(j18:UInt64->Int->Int->LB->Ev)(j21:Int->LB->Ev)(b:UInt64)(a:Int)(m:UInt64)(h f:Int)(o:LB):Ev:=
if(Eh h 0)then
if(geq (Fe f 7) 0)then
(Ee o ([(0:UInt8)]:LB)).bind λab=>
j18 m h f ab
else
j18 m h f o
else
j21 f o
def Rw(b:UInt64)(a:Int):Nat->UInt64->Int->Int->LB->Ev
|0,_,_,_,_=>none
|q+1,m,h,f,o=>WE (VU (Rw b a q) b a) iJ b a m h f o
def vI b a:=Rw b a Ax
def Akd(g:Int)(p:LB):Ev:=
some (p,g,0)
def wD:=Akd
def Aji(Ba3:UInt64->Int->Int->LB->Ev)(b:UInt64)(a:Int)(n:UInt64)(k g:Int)(y:LB):Ev:=
(Kx (Nk (Fo k (Ao 8 (Fe g 7))) 0)).bind λ_=>
Ba3 (Ck n (GI.toZ (Fo k (Ao 8 (Fe g 7)))).toNat) (Ao k (Fo k (Ao 8 (Fe g 7)))) (Ad g (Fo k (Ao 8 (Fe g 7)))) y
def vX Ba3:=Aji Ba3
def xA(j26:UInt64->Int->Int->LB->Ev)(b:UInt64)(a:Int)(n:UInt64)(k g:Int)(v:LB):Ev:=
(Ap v (Ao (Ac v) 1)).bind λ_=>
(Kx (Nk (Fo k (Ao 8 (Fe g 7))) 0)).bind λ_=>
(Kx (Nk (Fe g 7) 0)).bind λ_=>
(Ap v (Ao (Ac v) 1)).bind λae=>
(Ap v (Ao (Ac v) 1)).bind λ_=>
Option.bind (Oe v (Ao (Ac v) 1) (uJ ae (Dt (Af (Fe n (Ao (Dt (1:UInt64) (GI.toZ (Fo k (Ao 8 (Fe g 7)))).toNat) 1)):UInt8) (GI.toZ (Fe g 7)).toNat))) λy=>
j26 n k g y
def uY Ba3 b a:=xA (vX Ba3 b a) b a
def wF(j25:UInt64->Int->Int->LB->Ev)(j28:Int->LB->Ev)(b:UInt64)(a:Int)(n:UInt64)(k g:Int)(p:LB):Ev:=
if(Eh k 0)then
if(geq (Fe g 7) 0)then
(Ee p ([(0:UInt8)]:LB)).bind λw=>
j25 n k g w
else
j25 n k g p
else
j28 g p
def jD(b:UInt64)(a:Int):Nat->UInt64->Int->Int->LB->Ev
|0,_,_,_,_=>none
|q+1,n,k,g,p=>wF (uY (jD b a q) b a) wD b a n k g p
def vR b a:=jD b a Ax
def nO(j15:UInt64->Int->UInt64->Int->Int->LB->Ev)(j22:UInt64->Int->UInt64->Int->Int->LB->Ev)(ac:LB)(aa:Int)(b:UInt64)(a:Int):Ev:=
(Ki ac aa).bind λaf=>
if(Bc af 0)then
some (([]:LB),0,8)
else
if((Cv a 0)||(Eh a 64))then
some (([]:LB),0,2)
else
if(Cv a 64)then
(Kx (Nk a 0)).bind λ_=>
if(Bc (Ck b (GI.toZ a).toNat) 0)then
some (([]:LB),0,16)
else
if(Eh (Ad aa a) 330000)then
some (([]:LB),0,18)
else
(eP ac aa).bind λ(ag,ah)=>
j15 b a b a ah ag
else
if(Eh (Ad aa a) 330000)then
some (([]:LB),0,18)
else
(eP ac aa).bind λ(ab,ai)=>
j22 b a b a ai ab
def YC:=nO vI vR
def AY(b:UInt32)(a:Int):Option Bool:=
(Kx (Nk a 0)).bind λ_=>
some (Nk (Ck b (GI.toZ a).toNat) 48)
def kB(a:Int):Option (Int×Int):=
if((Cv a 0)||(Eh a 48))then
some (0,2)
else
some ((Fo (Ad a 1) 48),0)
def bH(b:LB)(f a:Int):Option (LB×Int×Int):=
(Ki b f).bind λg=>
if(Bc g 0)then
some (([]:LB),0,g)
else
(kB a).bind λ(k,h)=>
if(Bc h 0)then
some (([]:LB),0,h)
else
(Kx (Nk a 0)).bind λ_=>
(YC b f (Ao (Dt (1:UInt64) (GI.toZ a).toNat) 1) k).bind λ(m,n,o)=>
some (m,n,o)
abbrev jL:=Option (LB×Int×Int)
def dS(b:LB)(f h:Int)(k:UInt32)(m:Int):jL:=
(bH b f h).bind λ(p,u,n)=>
if(Bc n 0)then
some (([]:LB),0,n)
else
(YC p u (Af k:UInt64) m).bind λ(v,w,y)=>
some (v,w,y)
def PW:=dS
def dN(j2:LB->Int->Int->UInt32->Int->jL)(b:LB)(f:Int)(g:UInt32)(a:Int):jL:=
(Ki b f).bind λo=>
if(Bc o 0)then
some (([]:LB),0,o)
else
if((Cv a 0)||(Eh a 24))then
some (([]:LB),0,2)
else
(Kx (Nk a 0)).bind λ_=>
(Kx (Nk a 0)).bind λ_=>
(AY g a).bind λaa=>
if aa then
j2 b f 48 g 32
else
j2 b f (Af (Ck g (GI.toZ a).toNat):Int) (Fe g (Ao (Dt (1:UInt32) (GI.toZ a).toNat) 1)) a
def jM:=dN PW
abbrev Ko:=Option (LB×Int×Int×Int×UInt64×UInt64×Int)
def HX(k u n:Int)(a:UInt64)(b:UInt32)(o:UInt64)(m:LB):Ko:=
(
(
some (m,k,u,n,(Ad a (Ao (Af b:UInt64) (Ck a (GI.toZ (4:UInt64)).toNat))),o,0)))
def XV:=HX
def dE(j10:Int->Int->Int->UInt64->UInt32->UInt64->LB->Ko)(b:UInt32)(k n:Int)(a o:UInt64)(m:LB)(u:Int):Ko:=
j10 k u n a b o m
def dL:=dE XV
def dH(j9:UInt32->Int->Int->UInt64->UInt64->LB->Int->Ko)(b:UInt32)(f:Int)(a:UInt64)(k:Int)(m:LB)(n:Int)(o:UInt64):Ko:=
if(Eh f 0)then
(Kx (Nk f 0)).bind λ_=>
if(Cv (Ad a (Ao (Af b:UInt64) (Ck a (GI.toZ (4:UInt64)).toNat))) (Dt (16:UInt64) (GI.toZ f).toNat))then
j9 b k n a o m (Ao f 1)
else
if(Cv f 24)then
(Kx (Nk f 0)).bind λ_=>
if(Eh (Ad a (Ao (Af b:UInt64) (Ck a (GI.toZ (4:UInt64)).toNat))) (Dt (32:UInt64) (GI.toZ f).toNat))then
j9 b k n a o m (Ad f 1)
else
j9 b k n a o m f
else
j9 b k n a o m f
else
if(Cv f 24)then
(Kx (Nk f 0)).bind λ_=>
if(Eh (Ad a (Ao (Af b:UInt64) (Ck a (GI.toZ (4:UInt64)).toNat))) (Dt (32:UInt64) (GI.toZ f).toNat))then
j9 b k n a o m (Ad f 1)
else
j9 b k n a o m f
else
j9 b k n a o m f
def DF:=dH dL
def cP(j8:UInt32->Int->UInt64->Int->LB->Int->UInt64->Ko)(b:UInt32)(f h:Int)(a g:UInt64)(y k:Int)(m:LB):Ko:=
if(Bc y 0)then
some (([]:LB),0,0,0,0,0,y)
else
(OH f h a g b).bind λ(ag,p)=>
if(geq ag 1)then
if(Eh h 0)then
(Kx (Nk h 0)).bind λ_=>
if(Cv (Ad g (Ao (Af p:UInt64) (Ck g (GI.toZ (4:UInt64)).toNat))) (Dt (16:UInt64) (GI.toZ h).toNat))then
j8 b f a k m (Ao h 1) (Ad g (Ao (Af p:UInt64) (Ck g (GI.toZ (4:UInt64)).toNat)))
else
if(Cv h 24)then
(Kx (Nk h 0)).bind λ_=>
if(Eh (Ad g (Ao (Af p:UInt64) (Ck g (GI.toZ (4:UInt64)).toNat))) (Dt (32:UInt64) (GI.toZ h).toNat))then
j8 b f a k m (Ad h 1) (Ad g (Ao (Af p:UInt64) (Ck g (GI.toZ (4:UInt64)).toNat)))
else
j8 b f a k m h (Ad g (Ao (Af p:UInt64) (Ck g (GI.toZ (4:UInt64)).toNat)))
else
j8 b f a k m h (Ad g (Ao (Af p:UInt64) (Ck g (GI.toZ (4:UInt64)).toNat)))
else
if(Cv h 24)then
(Kx (Nk h 0)).bind λ_=>
if(Eh (Ad g (Ao (Af p:UInt64) (Ck g (GI.toZ (4:UInt64)).toNat))) (Dt (32:UInt64) (GI.toZ h).toNat))then
j8 b f a k m (Ad h 1) (Ad g (Ao (Af p:UInt64) (Ck g (GI.toZ (4:UInt64)).toNat)))
else
j8 b f a k m h (Ad g (Ao (Af p:UInt64) (Ck g (GI.toZ (4:UInt64)).toNat)))
else
j8 b f a k m h (Ad g (Ao (Af p:UInt64) (Ck g (GI.toZ (4:UInt64)).toNat)))
else
j8 b f a k m h g
def PZ:=cP DF
def dB(j7:UInt32->Int->Int->UInt64->UInt64->Int->Int->LB->Ko)(b:UInt32)(v:LB)(w f h:Int)(a g:UInt64):Ko:=
(OH f h a g b).bind λ(ad,ae)=>
(YC v w (Af ad:UInt64) 1).bind λ(aa,ab,ac)=>
if((geq ac 0)&&(geq ad 0))then
(YC aa ab (Af ae:UInt64) f).bind λ(ah,ai,aj)=>
j7 b f h a g aj ai ah
else
if(geq ac 0)then
(jM aa ab ae h).bind λ(ak,al,am)=>
j7 b f h a g am al ak
else
j7 b f h a g ac ab aa
def dK:=dB PZ
def cN(j6:UInt32->LB->Int->Int->Int->UInt64->UInt64->Ko)(v:LB)(w f h:Int)(a g:UInt64)(b:UInt32):Ko:=
(Ki v w).bind λan=>
if(Bc an 0)then
some (([]:LB),0,0,0,0,0,8)
else
(YF f h a g).bind λao=>
if(Bc ao 0)then
some (([]:LB),0,0,0,0,0,8)
else
j6 b v w f h a g
def kA:=cN dK
abbrev Cq:=Option (UInt32×Int)
def mU(h:UInt32):Cq:=
some (h,0)
def WZ:=mU
def KE(j30:UInt32->Cq)(Bkx:UInt32->Int->Cq)(a:LB)(b:LU)(h:UInt32)(m:Int):Cq:=
if(Cv m (Ac a))then
(Ap a m).bind λp=>
(Ap b (GI.toZ (AH (Af h:UInt8) p))).bind λ_=>
(Ap b (GI.toZ (AH (Af h:UInt8) p))).bind λu=>
Bkx (AH (Ck h (GI.toZ (8:UInt64)).toNat) u) (Ad m 1)
else
j30 h
def Uu(a:LB)(b:LU):Nat->UInt32->Int->Cq
|0,_,_=>none
|q+1,h,m=>KE WZ (Uu a b q) a b h m
def YW a b:=Uu a b Ax
def YQ(j28:LB->LU->UInt32->Int->Cq)(f:UInt32)(a:LB)(b:LU):Cq:=
j28 a b f 0
def YU:=YQ YW
def WX(j27:UInt32->LB->LU->Cq)(f:UInt32)(a:LB)(b:LU):Cq:=
j27 f a b
def HU:=WX YU
def mP(Is:Int->LU->Cq)(f:UInt32)(a:LB)(g:Int)(o:LU):Cq:=
Is (Ad g 1) o
def ZX Is:=mP Is
def aB(j24:Int->LU->Cq)(f:UInt32)(a:LB)(g:Int)(k:UInt32)(b:LU):Cq:=
(Ap b g).bind λ_=>
(Oe b g k).bind λo=>
j24 g o
def IK Is f a:=aB (ZX Is f a) f a
def KJ(j23:Int->UInt32->LU->Cq)(Arn:UInt32->Int->Cq)(f:UInt32)(a:LB)(g:Int)(b:LU)(k:UInt32)(n:Int):Cq:=
if(Cv n 8)then
Arn (AH (Ck k (GI.toZ (1:UInt64)).toNat) (Bj 3988292384 (Fe k 1))) (Ad n 1)
else
j23 g k b
def Ut(Is:Int->LU->Cq)(f:UInt32)(a:LB)(g:Int)(b:LU):Nat->UInt32->Int->Cq
|0,_,_=>none
|q+1,k,n=>KJ (IK Is f a) (Ut Is f a g b q) f a g b k n
def XS Is f a g b:=Ut Is f a g b Ax
def HF(j21:Int->LU->UInt32->Int->Cq)(j26:UInt32->LB->LU->Cq)(f:UInt32)(a:LB)(g:Int)(b:LU):Cq:=
if(Cv g 256)then
j21 g b (Af g:UInt32) 0
else
j26 f a b
def Qc(f:UInt32)(a:LB):Nat->Int->LU->Cq
|0,_,_=>none
|q+1,g,b=>HF (XS (Qc f a q) f a) HU f a g b
def XA f a:=Qc f a Ax
def dJ(j16:UInt32->LB->Int->LU->Cq)(f:UInt32)(a:LB):Cq:=
if(Eh (Ac a) 100000)then
some (0,4)
else
j16 f a 0 (List.replicate 256 (0:UInt32))
def kF:=dJ XA
def AW(b:LB):Option (UInt32×Int):=
(kF 4294967295 b).bind λ(f,a)=>
if(Bc a 0)then
some (0,a)
else
some ((Agh f),0)
def Abx(b:UInt64)(a:Int):Option Bool:=
if(geq a 8)then
some true
else
(Kx (Nk (Bj 8 a) 0)).bind λ_=>
some (geq (Ck b (GI.toZ (Bj 8 a)).toNat) 0)
abbrev EJ:=Option (LB×Int)
def Aad(a:LB):EJ:=
some (a,0)
def pB:=Aad
def bU(j6:LB->EJ)(Tn:Int->LB->EJ)(f:UInt64)(g:LB)(b:Int)(a:LB):EJ:=
if(Cv b (Ac g))then
(Kx (Nk (Bj 8 b) 0)).bind λ_=>
(Ap a b).bind λ_=>
(Oe a b (Af (Ck f (GI.toZ (Bj 8 b)).toNat):UInt8)).bind λk=>
Tn (Ad b 1) k
else
j6 a
def FR(f:UInt64)(g:LB):Nat->Int->LB->EJ
|0,_,_=>none
|q+1,b,a=>bU pB (FR f g q) f g b a
def oN f g:=FR f g Ax
def mK(j4:UInt64->LB->Int->LB->EJ)(f:UInt64)(h:Int):EJ:=
if((Cv h 1)||(Eh h 8))then
some (([]:LB),2)
else
(Abx f h).bind λm=>
if(!m)then
some (([]:LB),16)
else
(mkI h (0:UInt8)).bind λg=>
(Kx (geq h h)).bind λ_=>
j4 f g 0 g
def DK:=mK oN
def VP(f:LB):Option (LB):=
some f
def Yj:=VP
def Dv(j16:LB->Option (LB))(qA:Int->LB->Option (LB))(a:List LB)(g:Int)(f:LB):Option (LB):=
if(Cv g (Ac a))then
(Ap a g).bind λo=>
(Ee f o).bind λp=>
qA (Ad g 1) p
else
j16 f
def Cs(a:List LB):Nat->Int->LB->Option (LB)
|0,_,_=>none
|q+1,g,f=>Dv Yj (Cs a q) a g f
def Jn a:=Cs a Ax
def Jo(j14:(List LB)->Int->LB->Option (LB))(a:List LB)(k:LB):Option (LB):=
j14 a 0 k
def Ew:=Jo Jn
def Jr(j13:(List LB)->LB->Option (LB))(b:Int)(a:List LB):Option (LB):=
if(Eh (Ao b (Ao (0:Int) (0:Int))) 0)then
(fN 0 0 0).bind λ_=>
(mkI (Ao b (Ao (0:Int) (0:Int))) (0:UInt8)).bind λu=>
(Ee ([]:LB) u).bind λm=>
(fN (Ac m) 0 0).bind λ_=>
j13 a (XT m 0 ((0:Int)-(0:Int)))
else
j13 a ([]:LB)
def Jp:=Jr Ew
def Jq(j12:Int-> (List LB)->Option (LB))(a:List LB)(b:Int):Option (LB):=
if(Cv b 0)then
none
else
j12 b a
def Ey:=Jq Jp
def Eb(j11:(List LB)->Int->Option (LB))(bk9:Int->Int->Option (LB))(a:List LB)(b h:Int):Option (LB):=
if(Cv h (Ac a))then
(Ap a h).bind λn=>
if(Cv (Ad b (Ac n)) 0)then
none
else
bk9 (Ad b (Ac n)) (Ad h 1)
else
j11 a b
def Cw(a:List LB):Nat->Int->Int->Option (LB)
|0,_,_=>none
|q+1,b,h=>Eb Ey (Cw a q) a b h
def Qd a:=Cw a Ax
def Qm(j9:(List LB)->Int->Int->Option (LB))(a:List LB):Option (LB):=
j9 a 0 0
def Fj:=Qm Qd
abbrev Bz:=Option (LB×Int)
def ZK(u:Int)(p:LB):Bz:=
(AW p).bind λ(af,ac)=>
if(Bc ac 0)then
some (([]:LB),ac)
else
(DK (Af af:UInt64) 4).bind λ(m,h)=>
if(Bc h 0)then
some (([]:LB),h)
else
(Fj ([p,m]:List LB)).bind λag=>
some (ag,0)
def EI:=ZK
def aL(kJ:Int-> (List (Int×Int×UInt64×UInt64×Unit))->Int->LB->Bz)(a:LU)(b f g:Int)(k:List (Int×Int×UInt64×UInt64×Unit))(n:Int)(v:LB):Bz:=
kJ (Ad g 1) k n v
def EO kJ:=aL kJ
def XQ(Agn:Int->Int->LB->Bz)(h:Int)(a:LU)(g b f:Int)(k:List (Int×Int×UInt64×UInt64×Unit))(m:LB)(o n:Int)(aa:LB):Bz:=
Agn (Ad o 1) (Ad n 1) aa
def EH Agn:=XQ Agn
def ES(j48:Int->Int->LB->Bz)(h:Int)(a:LU)(g b f:Int)(k:List (Int×Int×UInt64×UInt64×Unit))(m:LB)(o n:Int)(y:LB):Bz:=
(Ap m (Bw o 8)).bind λ_=>
(Ap m (Bw o 8)).bind λah=>
(Kx (Nk (Gw o 8) 0)).bind λ_=>
(Ap y (Bw n 8)).bind λ_=>
(Kx (Nk (Gw n 8) 0)).bind λ_=>
(Ap y (Bw n 8)).bind λai=>
(Ap y (Bw n 8)).bind λ_=>
Option.bind (Oe y (Bw n 8) (uJ ai (Dt (Fe (Ck ah (GI.toZ (Gw o 8)).toNat) 1) (GI.toZ (Gw n 8)).toNat))) λaa=>
j48 o n aa
def Wa Agn h a g b f k m:=ES (EH Agn h a g b f k m) h a g b f k m
def Wn(j47:Int->Int->LB->Bz)(j50:Int-> (List (Int×Int×UInt64×UInt64×Unit))->Int->LB->Bz)(a:LU)(b f h g:Int)(k:List (Int×Int×UInt64×UInt64×Unit))(m:LB)(o n:Int)(v:LB):Bz:=
if(Cv o h)then
if(geq (Gw n 8) 0)then
(Ee v ([(0:UInt8)]:LB)).bind λaj=>
j47 o n aj
else
j47 o n v
else
j50 g k n v
def Hb(kJ:Int-> (List (Int×Int×UInt64×UInt64×Unit))->Int->LB->Bz)(a:LU)(b f h g:Int)(k:List (Int×Int×UInt64×UInt64×Unit))(m:LB):Nat->Int->Int->LB->Bz
|0,_,_,_=>none
|q+1,o,n,v=>Wn (Wa (Hb kJ a b f h g k m q) h a g b f k m) (EO kJ a b f) a b f h g k m o n v
def YK kJ a b f h g k m:=Hb kJ a b f h g k m Ax
def Vu(j44:Int->Int-> (List (Int×Int×UInt64×UInt64×Unit))->LB->Int->Int->LB->Bz)(j52:Int->LB->Bz)(a:LU)(b f g:Int)(w:List (Int×Int×UInt64×UInt64×Unit))(u:Int)(p:LB):Bz:=
if(Cv g (Ac a))then
(Ap a g).bind λ_=>
(Ap a g).bind λak=>
(Kx (Bc b 0)).bind λ_=>
(Ap w (Gw g b)).bind λ_=>
(Ap w (Gw g b)).bind λab=>
(kA ([]:LB) 0 ab.1 ab.2.1 ab.2.2.1 ab.2.2.2.1 ak).bind λ(m,h,al,am,an,ao,ad)=>
if(Bc ad 0)then
some (([]:LB),ad)
else
(Kx (Bc b 0)).bind λ_=>
(Ap w (Gw g b)).bind λ_=>
(Oe w (Gw g b) (al,am,an,ao,())).bind λk=>
j44 h g k m 0 u p
else
j52 u p
def Jc(a:LU)(b f:Int):Nat->Int-> (List (Int×Int×UInt64×UInt64×Unit))->Int->LB->Bz
|0,_,_,_,_=>none
|q+1,g,w,u,p=>Vu (YK (Jc a b f q) a b f) EI a b f g w u p
def FA a b f:=Jc a b f Ax
def IU(j27:LU->Int->Int->Int-> (List (Int×Int×UInt64×UInt64×Unit))->Int->LB->Bz)(b f:Int)(ap aq:LX):Bz:=
(HY b f ap aq).bind λ(a,ae)=>
if(Bc ae 0)then
some (([]:LB),ae)
else
(HS).bind λar=>
j27 a b f 0 ar 0 ([]:LB)
def AK:=IU FA
def Wm(b f g:Int)(h k:LB)(m:LX)(n:List LB)(o:LB)(p:Bool)(u a:Int):Option (Int×Int×Int×LB×LB×LX×(List LB)×LB×Bool×Int×Int):=
some (b,f,g,h,([]:LB),([]:LX),([]:List LB),([]:LB),false,a,a)
abbrev Cg:=Option (Int×Int×Int×LB×LB×LX×(List LB)×LB×Bool×Int×Int)
def fQ(a b g:Int)(f:LB)(h:Bool)(k:Int)(y:LB)(w:LX)(v:List LB)(m:LB):Cg:=
some (a,b,g,f,y,w,v,m,h,k,0)
def OB:=fQ
def BH(qA:Int->LB->LX-> (List LB)->Cg)(p:Int)(n:LB)(a b g:Int)(f:LB)(h:Bool)(k o:Int)(m:LB)(u:Int)(ah:LB)(ai:LX)(aj:List LB):Cg:=
qA (Ad u 1) ah ai aj
def Pp qA:=BH qA
def Uq(j24:Int->LB->LX-> (List LB)->Cg)(p:Int)(n:LB)(a b g:Int)(f:LB)(h:Bool)(k o:Int)(m:LB)(u ad:Int)(ae:LB)(af:LX)(ag:List LB):Cg:=
if(Bc ad 0)then
(Wm a b g f ae af ag m h k ad).bind λ(au,av,aw,ax,ay,az,ba,bb,bc,bd,be)=>
some (au,av,aw,ax,ay,az,ba,bb,bc,bd,be)
else
j24 u ae af ag
def Jj qA p n a b g f h k o m:=Uq (Pp qA p n a b g f h k o m) p n a b g f h k o m
def fS(j23:Int->Int->LB->LX-> (List LB)->Cg)(p:Int)(n:LB)(a b g:Int)(f:LB)(h:Bool)(k o:Int)(m:LB)(u:Int)(ab:LX)(v:List LB)(ak:Int):Cg:=
j23 u ak ([]:LB) ab v
def dY qA p n a b g f h k o m:=fS (Jj qA p n a b g f h k o m) p n a b g f h k o m
def NZ(j23:Int->Int->LB->LX-> (List LB)->Cg)(p:Int)(n:LB)(a b g:Int)(f:LB)(h:Bool)(k o:Int)(m:LB)(u:Int)(ac:List LB):Cg:=
j23 u 0 ([]:LB) ([]:LX) ac
def OA qA p n a b g f h k o m:=NZ (Jj qA p n a b g f h k o m) p n a b g f h k o m
def OP(j23:Int->Int->LB->LX-> (List LB)->Cg)(j21:Int->LX-> (List LB)->Int->Cg)(j22:Int-> (List LB)->Cg)(p:Int)(n:LB)(a b g:Int)(f:LB)(h:Bool)(k o:Int)(m:LB)(u:Int)(aa:LB)(w:LX)(v:List LB):Cg:=
(Xj b aa).bind λ(bf,al)=>
if(Bc al 0)then
j23 u al aa w v
else
(Ee w bf).bind λab=>
if(Cv (Ac ab) (Bj o a))then
j23 u 0 ([]:LB) ab v
else
(Uf f).bind λ(bg,am)=>
if(Bc am 0)then
j21 u ab v am
else
(AK a b bg ab).bind λ(bh,an)=>
if(Bc an 0)then
j21 u ab v an
else
(Ee v ([bh]:List LB)).bind λac=>
j22 u ac
def PG qA p n a b g f h k o m:=OP (Jj qA p n a b g f h k o m) (dY qA p n a b g f h k o m) (OA qA p n a b g f h k o m) p n a b g f h k o m
def BK(j24:Int->LB->LX-> (List LB)->Cg)(j23:Int->Int->LB->LX-> (List LB)->Cg)(j20:Int->LB->LX-> (List LB)->Cg)(j26:Int->Int->Int->LB->Bool->Int->LB->LX-> (List LB)->LB->Cg)(p:Int)(n:LB)(a b g:Int)(f:LB)(h:Bool)(k o:Int)(m:LB)(u:Int)(y:LB)(w:LX)(v:List LB):Cg:=
if(Cv u (Ac n))then
(Ap n u).bind λbi=>
(Ee y ([bi]:LB)).bind λaa=>
if(Cv (Ac aa) p)then
j24 u aa w v
else
(Xk a b g f aa w v m h k o).bind λbj=>
(Wd a b g f aa w v m h k (Ad (Ac v) 1) (Ad bj 1)).bind λbk=>
if(!bk)then
j23 u 18 aa w v
else
j20 u aa w v
else
j26 a b g f h k y w v m
def Je(p:Int)(n:LB)(a b g:Int)(f:LB)(h:Bool)(k o:Int)(m:LB):Nat->Int->LB->LX-> (List LB)->Cg
|0,_,_,_,_=>none
|q+1,u,y,w,v=>BK (Pp (Je p n a b g f h k o m q) p n a b g f h k o m) (Jj (Je p n a b g f h k o m q) p n a b g f h k o m) (PG (Je p n a b g f h k o m q) p n a b g f h k o m) OB p n a b g f h k o m u y w v
def NT p n a b g f h k o m:=Je p n a b g f h k o m Ax
def TZ(j14:Int->LB->Int->Int->Int->LB->Bool->Int->Int->LB->Int->LB->LX-> (List LB)->Cg)(bl bm bn:Int)(bp bq:LB)(br:LX)(bs:List LB)(bt:LB)(bu:Bool)(bv:Int)(n:LB):Cg:=
(DD bl bm bn bp bq br bs bt bu bv).bind λ(a,b,g,f,ao,ap,aq,m,h,k,o,ar)=>
if(Bc ar 0)then
some (a,b,g,f,ao,ap,aq,m,h,k,ar)
else
(JM a b).bind λp=>
j14 p n a b g f h k o m 0 ao ap aq
def VY:=TZ NT
def PQ(a:LB):Option (Int×Int):=
if(Eh (Ac a) 64)then
some (0,2)
else
if(geq (Ac a) 0)then
some (1,0)
else
some (2,0)
def PH(b f a g h:Int):Option Bool:=
some (((((((geq b 1)||(geq b 2))&&(Eh f 0))&&(gle f 6))&&(Eh g 0))&&(gle g 1048576))&&(Eh h 0))
def Po:=PH
def BF(j2:Int->Int->Int->Int->Int->Option Bool)(b f a g h:Int):Option Bool:=
if(geq a 8)then
if(geq a 8)then
j2 b f a g h
else
some false
else
if(geq a 16)then
if(geq a 16)then
j2 b f a g h
else
some false
else
if(geq a 24)then
j2 b f a g h
else
some false
def So:=BF Po
def RC(k a m f b:Int):Option Bool:=
(Kx (Bc a 0)).bind λ_=>
if(Eh b (Bw 4000 a))then
some false
else
(Jw f b).bind λ(g,h)=>
some ((geq h 0)&&(gle g 1000))
def Pd(a b f g h:Int):Option Int:=
(So a b f g h).bind λk=>
if(!k)then
some 8
else
(RC a b f g h).bind λm=>
if(!m)then
some 8
else
some 0
abbrev Qg:=Option (LB×Int)
def kW(a:LB):Qg:=
(AW a).bind λ(u,aa)=>
(DK (Af u:UInt64) 4).bind λ(n,v)=>
(Ee a n).bind λo=>
some (o,0)
def EE:=kW
def DR(j6:LB->Qg)(Tn:Int->LB->Qg)(b f g h k m:Int)(a:LB):Qg:=
if(Cv m 5)then
(Ap ([b,f,g,h,k]:LI) m).bind λw=>
(Ap ([(2:Int),(2:Int),(2:Int),(4:Int),(4:Int)]:LI) m).bind λy=>
(DK (Af w:UInt64) y).bind λ(n,v)=>
(Ee a n).bind λo=>
Tn (Ad m 1) o
else
j6 a
def Nv(b f g h k:Int):Nat->Int->LB->Qg
|0,_,_=>none
|q+1,m,a=>DR EE (Nv b f g h k q) b f g h k m a
def UA b f g h k:=Nv b f g h k Ax
def TX(j4:Int->Int->Int->Int->Int->Int->LB->Qg)(b f g h k:Int):Qg:=
(Pd b f g h k).bind λp=>
if(Bc p 0)then
some (([]:LB),p)
else
j4 b f g h k 0 ([(84:UInt8),(84:UInt8),(65:UInt8),(49:UInt8)]:LB)
def WI:=TX UA
def NY(a:LB):Option (UInt64×Int):=
if(Eh (Ac a) 64)then
some (0,2)
else
(eZ a).bind λ(b,f)=>
some (b,0)
def JP(b:LB):Option (LB×Int):=
(NY b).bind λ(f,a)=>
if(Bc a 0)then
some (([]:LB),a)
else
(DK f 8).bind λ(g,h)=>
some (g,h)
def Ad7:Option Int:=
some 0
def nQ:=Ad7
def LW(j6:Option Int)(Tn:Int->Int->Option Int)(a:LI)(f b:Int):Option Int:=
if(Cv b (Ac a))then
(Ap a b).bind λg=>
if((Cv g 5)||(Eh g f))then
some 8
else
Tn (Ao f g) (Ad b 1)
else
j6
def Uj(a:LI):Nat->Int->Int->Option Int
|0,_,_=>none
|q+1,f,b=>LW nQ (Uj a q) a f b
def ZS a:=Uj a Ax
def LG(j4:LI->Int->Int->Option Int)(a:LI):Option Int:=
if((geq (Ac a) 0)||(Eh (Ac a) 1000))then
some 8
else
j4 a 100000 0
def Sk:=LG ZS
abbrev Ij:=Option (LB×Int)
def Abq(g:LB):Ij:=
some (g,0)
def kO:=Abq
def TS(j14:LB->Ij)(b:LB):Ij:=
(AW b).bind λ(m,u)=>
(DK (Af m:UInt64) 4).bind λ(n,v)=>
(Ee b n).bind λg=>
j14 g
def TK:=TS kO
def lE(bk8:Int->LB->Ij)(a:LI)(f:Int)(h:LB):Ij:=
bk8 (Ad f 1) h
def TD bk8:=lE bk8
def IC(j11:Int->LB->Ij)(j13:LB->Ij)(a:LI)(f:Int)(b:LB):Ij:=
if(Cv f (Ac a))then
(Ap a f).bind λo=>
(DK (Af o:UInt64) 4).bind λ(p,w)=>
(Ee b p).bind λh=>
j11 f h
else
j13 b
def Uo(a:LI):Nat->Int->LB->Ij
|0,_,_=>none
|q+1,f,b=>IC (TD (Uo a q) a) TK a f b
def mM a:=Uo a Ax
def ZM(j8:LI->Int->LB->Ij)(a:LI):Ij:=
(Sk a).bind λk=>
if(Bc k 0)then
some (([]:LB),k)
else
j8 a 0 ([]:LB)
def RD:=ZM mM
abbrev Kw:=Option (LB×Int)
def EF(f g h:Int)(b k:LB)(m:LX)(a:List LB)(n:LB)(o:Bool)(p:Int)(u:LB)(v:LI):Kw:=
(RD v).bind λ(aa,y)=>
if(Bc y 0)then
some (([]:LB),y)
else
(
(Ee u aa).bind λab=>
(Fj a).bind λac=>
(Ee ab ac).bind λad=>
some (ad,0))
def Wu:=EF
def DT(j8:Int->Int->Int->LB->LB->LX-> (List LB)->LB->Bool->Int->LB->LI->Kw)(bk6:Int->LI->Kw)(a:List LB)(f g h:Int)(b k:LB)(m:LX)(n:LB)(o:Bool)(p:Int)(u:LB)(w:Int)(v:LI):Kw:=
if(Cv w (Ac a))then
(Ap a w).bind λai=>
(Ee v ([(Ac ai)]:LI)).bind λaj=>
bk6 (Ad w 1) aj
else
j8 f g h b k m a n o p u v
def Rn(a:List LB)(f g h:Int)(b k:LB)(m:LX)(n:LB)(o:Bool)(p:Int)(u:LB):Nat->Int->LI->Kw
|0,_,_=>none
|q+1,w,v=>DT Wu (Rn a f g h b k m n o p u q) a f g h b k m n o p u w v
def kK a f g h b k m n o p u:=Rn a f g h b k m n o p u Ax
def DW(j6:(List LB)->Int->Int->Int->LB->LB->LX->LB->Bool->Int->LB->Int->LI->Kw)(f g h:Int)(b k:LB)(m:LX)(a:List LB)(n:LB)(o:Bool)(p:Int)(u:LB):Kw:=
j6 a f g h b k m n o p u 0 ([]:LI)
def DP:=DW kK
def TN(j5:Int->Int->Int->LB->LB->LX-> (List LB)->LB->Bool->Int->LB->Kw)(f g h:Int)(b k:LB)(m:LX)(a:List LB)(n:LB)(o:Bool)(p ak:Int):Kw:=
(PQ b).bind λ(al,ae)=>
if(Bc ae 0)then
some (([]:LB),ae)
else
(WI al f g h ak).bind λ(af,ag)=>
if(Bc ag 0)then
some (([]:LB),ag)
else
if(b !=([]:LB))then
(JP b).bind λ(am,ah)=>
if(Bc ah 0)then
some (([]:LB),ah)
else
(Ee af am).bind λan=>
j5 f g h b k m a n o p an
else
j5 f g h b k m a n o p af
def VT:=TN DP
abbrev Pk:=Option (Int×Int×Int×LB×LB×LX×(List LB)×LB×Bool×Int×Int)
def LN(o a b g:Int)(f:LB)(k:Bool)(m:Int)(h n:LB)(v:LX)(w:List LB):Pk:=
(VT a b g f h v w n k m o).bind λ(aj,y)=>
if(Bc y 0)then
(Wm a b g f h v w n k m y).bind λ(ad,ak,al,am,ae,af,an,ao,ap,aq,ar)=>
some (ad,ak,al,am,ae,af,an,ao,ap,aq,ar)
else
some (a,b,g,f,([]:LB),([]:LX),([]:List LB),aj,true,0,0)
def Rv:=LN
def JT(j4:Int->Int->Int->Int->LB->Bool->Int->LB->LB->LX-> (List LB)->Pk)(o a b g:Int)(f:LB)(k:Bool)(m:Int)(h n:LB)(aa:Int)(ab:LX)(ac:List LB):Pk:=
if(Bc aa 0)then
(Wm a b g f h ab ac n k m aa).bind λ(au,y,ad,av,aw,ax,ae,af,ay,az,ba)=>
some (au,y,ad,av,aw,ax,ae,af,ay,az,ba)
else
j4 o a b g f k m h n ab ac
def HW:=JT Rv
def JZ(j3:Int->Int->Int->Int->LB->Bool->Int->LB->LB->Int->LX-> (List LB)->Pk)(j4:Int->Int->Int->Int->LB->Bool->Int->LB->LB->LX-> (List LB)->Pk)(bb bc bd:Int)(be bf:LB)(bg:LX)(bh:List LB)(bi:LB)(bj:Bool)(bk:Int):Pk:=
(DD bb bc bd be bf bg bh bi bj bk).bind λ(a,b,g,f,h,p,u,n,k,m,bl,ag)=>
if(Bc ag 0)then
some (a,b,g,f,h,p,u,n,k,m,ag)
else
(Xk a b g f h p u n k m bl).bind λo=>
if((Eh (Ac h) 0)||(geq o 0))then
(Wm a b g f h p u n k m 24).bind λ(bm,bn,bp,bq,br,bs,bt,bu,bv,bw,bx)=>
some (bm,bn,bp,bq,br,bs,bt,bu,bv,bw,bx)
else
if(Eh (Ac p) 0)then
(Uf f).bind λ(bz,ah)=>
if(Bc ah 0)then
j3 o a b g f k m h n ah p u
else
(AK a b bz p).bind λ(da,ai)=>
if(Bc ai 0)then
j3 o a b g f k m h n ai p u
else
(Ee u ([da]:List LB)).bind λdb=>
j3 o a b g f k m h n 0 ([]:LX) db
else
j4 o a b g f k m h n p u
def IY:=JZ HW Rv
abbrev Jd:=Option (LB×Int)
def aZ(av ay az ba:Int)(bb:LB)(bc:Bool)(bd:Int)(be:LB)(bf:LX)(bg:List LB)(aw:LB):Jd:=
if(Bc av 0)then
some (([]:LB),av)
else
some (aw,0)
def Yg:=aZ
def HP(j6:Int->Int->Int->Int->LB->Bool->Int->LB->LX-> (List LB)->LB->Jd)(w a y aa ab:Int)(ac:LB)(ad:Bool)(ae b f g:Int)(h k:LB)(m:LX)(n:List LB)(o:LB)(p:Bool)(u:Int)(af:LB)(ag:LX)(ah:List LB)(ai:LB):Jd:=
j6 w y aa ab ac ad ae af ag ah ai
def JH:=HP Yg
def IL(j6:Int->Int->Int->Int->LB->Bool->Int->LB->LX-> (List LB)->LB->Jd)(j5:Int->Int->Int->Int->Int->LB->Bool->Int->Int->Int->Int->LB->LB->LX-> (List LB)->LB->Bool->Int->LB->LX-> (List LB)->LB->Jd)(v a aj ak al:Int)(am:LB)(an:Bool)(ao b f g:Int)(h k:LB)(m:LX)(n:List LB)(o:LB)(p:Bool)(u:Int)(ap:LB)(aq:LX)(ar:List LB)(au:LB):Jd:=
if(Bc v 0)then
j6 v 0 0 0 ([]:LB) false 0 ([]:LB) ([]:LX) ([]:List LB) ([]:LB)
else
(IY aj ak al am ap aq ar au an ao).bind λ(y,aa,ab,ac,af,ag,ah,ai,ad,ae,w)=>
j5 w a y aa ab ac ad ae b f g h k m n o p u af ag ah ai
def HM:=IL Yg JH
def JC(j4:Int->Int->Int->Int->Int->LB->Bool->Int->Int->Int->Int->LB->LB->LX-> (List LB)->LB->Bool->Int->LB->LX-> (List LB)->LB->Jd)(bh ax bi:Int)(bj:LX)(bm:LB):Jd:=
(Kl bh ax bi bj).bind λbk=>
if(Bc bk 0)then
some (([]:LB),bk)
else
(Le ax bj).bind λ(bn,bl)=>
if(Bc bl 0)then
some (([]:LB),bl)
else
(bD bh ax bi bm).bind λ(b,f,g,h,k,m,n,o,p,u,a)=>
if(Bc a 0)then
some (([]:LB),a)
else
(VY b f g h k m n o p u bn).bind λ(aj,ak,al,am,ap,aq,ar,au,an,ao,v)=>
j4 v a aj ak al am an ao b f g h k m n o p u ap aq ar au
def Zz:=JC HM
def bM(a:LB):Option (LB×LB×Int×Int×Int×Int×Int×LI×Int×LB×Bool×Int×Int):=
if(Eh (Ac a) 64)then
some (([]:LB),([]:LB),0,0,0,0,0,([]:LI),0,([]:LB),false,0,2)
else
some (a,([]:LB),0,0,0,0,0,([]:LI),0,([]:LB),false,0,0)
def Mz(a:LB):Option (LB):=
(
(Ee ([]:LB) a).bind λb=>
some b)
def Ha(a:LI):Option (LI):=
(
(Ee ([]:LI) a).bind λb=>
some b)
def Ep(a b:LB)(f g h k m:Int)(n:LI)(o:Int)(p:LB)(u:Bool)(v:Int):Option (LB×LB×Int×Int×Int×Int×Int×LI×Int×LB×Bool×Int):=
(Mz b).bind λw=>
(Mz p).bind λy=>
(Ha n).bind λaa=>
some (a,w,f,g,h,k,m,aa,o,y,u,v)
def UC(a b:UInt64):Option (UInt64×UInt64):=
some ((Ad (Ad (Bj (Ck a (GI.toZ (32:UInt64)).toNat) (Ck b (GI.toZ (32:UInt64)).toNat)) (Ck (Ad (Bj (Ck a (GI.toZ (32:UInt64)).toNat) (Fe b 4294967295)) (Ck (Bj (Fe a 4294967295) (Fe b 4294967295)) (GI.toZ (32:UInt64)).toNat)) (GI.toZ (32:UInt64)).toNat)) (Ck (Ad (Fe (Ad (Bj (Ck a (GI.toZ (32:UInt64)).toNat) (Fe b 4294967295)) (Ck (Bj (Fe a 4294967295) (Fe b 4294967295)) (GI.toZ (32:UInt64)).toNat)) 4294967295) (Bj (Fe a 4294967295) (Ck b (GI.toZ (32:UInt64)).toNat))) (GI.toZ (32:UInt64)).toNat)),(Bj a b))
def PN(a b:UInt64):Option (UInt64×UInt64):=
(UC a b).bind λ(f,g)=>
some (f,g)
def Rl(a:LI):Option (LI):=
some a
def Lk:=Rl
def Ik(j10:LI->Option (LI))(bk8:Int->LI->Option (LI))(b:Int)(a:LI):Option (LI):=
if(Cv b (Ac a))then
(
(fN (Ac a) b (Ac a)).bind λ_=>
(fN (Ac a) 0 b).bind λ_=>
bk8 (Ad b (ZB ((Ac a)-b) (XT a 0 (b-(0:Int))).length)) (Xy a b ((Ac a)-b) (XT a 0 (b-(0:Int)))))
else
j10 a
def Gb:Nat->Int->LI->Option (LI)
|0,_,_=>none
|q+1,b,a=>Ik Lk (Gb q) b a
def Th:=Gb Ax
def Sy(j8:Int->LI->Option (LI))(f:LI)(g:UInt64):Option (LI):=
(mkI (Af g:Int) (0:Int)).bind λk=>
(Kx (geq (Af g:Int) (Af g:Int))).bind λ_=>
j8 (ZB (Ac k) f.length) (UQ k f)
def Te:=Sy Th
def Sr(j7:LI->UInt64->Option (LI))(f:LI)(h:Int):Option (LI):=
(PN (Af (Ac f):UInt64) (Af h:UInt64)).bind λ(m,g)=>
if((Eh m 0)||(Eh g 9223372036854775807))then
none
else
j7 f g
def Tc:=Sr Te
def Tk(j6:LI->Int->Option (LI))(f:LI)(h:Int):Option (LI):=
if(Cv h 0)then
none
else
j6 f h
def Qx:=Tk Tc
def aR(f:LI):Option (LI):=
some f
def BQ:=aR
def Hu(j16:LI->Option (LI))(qA:Int->LI->Option (LI))(a:List LI)(g:Int)(f:LI):Option (LI):=
if(Cv g (Ac a))then
(Ap a g).bind λo=>
(Ee f o).bind λp=>
qA (Ad g 1) p
else
j16 f
def Fs(a:List LI):Nat->Int->LI->Option (LI)
|0,_,_=>none
|q+1,g,f=>Hu BQ (Fs a q) a g f
def Rf a:=Fs a Ax
def Ra(j14:(List LI)->Int->LI->Option (LI))(a:List LI)(k:LI):Option (LI):=
j14 a 0 k
def Ll:=Ra Rf
def Rg(j13:(List LI)->LI->Option (LI))(b:Int)(a:List LI):Option (LI):=
if(Eh (Ao b (Ao (0:Int) (0:Int))) 0)then
(fN 0 0 0).bind λ_=>
(mkI (Ao b (Ao (0:Int) (0:Int))) (0:Int)).bind λu=>
(Ee ([]:LI) u).bind λm=>
(fN (Ac m) 0 0).bind λ_=>
j13 a (XT m 0 ((0:Int)-(0:Int)))
else
j13 a ([]:LI)
def Ri:=Rg Ll
def Re(j12:Int-> (List LI)->Option (LI))(a:List LI)(b:Int):Option (LI):=
if(Cv b 0)then
none
else
j12 b a
def Rc:=Re Ri
def Ir(j11:(List LI)->Int->Option (LI))(bk9:Int->Int->Option (LI))(a:List LI)(b h:Int):Option (LI):=
if(Cv h (Ac a))then
(Ap a h).bind λn=>
if(Cv (Ad b (Ac n)) 0)then
none
else
bk9 (Ad b (Ac n)) (Ad h 1)
else
j11 a b
def Gd(a:List LI):Nat->Int->Int->Option (LI)
|0,_,_=>none
|q+1,b,h=>Ir Rc (Gd a q) a b h
def Tg a:=Gd a Ax
def Sp(j9:(List LI)->Int->Int->Option (LI))(a:List LI):Option (LI):=
j9 a 0 0
def Qw:=Sp Tg
def YH(a b:LI):Option (LI):=
(Qw ([a,b]:List LI)).bind λf=>
some f
def bL(a b:Int):Option (LI×Int):=
(Jw a b).bind λ(f,g)=>
if(Bc g 0)then
some (([]:LI),g)
else
(Ot a).bind λ(h,n)=>
(Qx ([h]:LI) (Ao f 1)).bind λk=>
(YH k ([(Ao b (Bj (Ao f 1) h))]:LI)).bind λm=>
some (m,0)
def Dw(g h k a b:Int):Option (LI×Int):=
(Pd g h k a b).bind λf=>
if(Bc f 0)then
some (([]:LI),f)
else
(bL a b).bind λ(m,n)=>
some (m,n)
def Qj(a f g h k:Int)(b:LB):Option Int:=
if((b==([]:LB)) !=(geq a 1))then
some 26
else
some 0
def kP(w:Int)(o p:LB)(h b f k m:Int)(g:LI)(a:Int)(n:LB)(u:Bool)(v:Int):Option Bool:=
some (gle (Ac n) w)
def UD:=kP
def EC(j8:Int->LB->LB->Int->Int->Int->Int->Int->LI->Int->LB->Bool->Int->Option Bool)(bk6:Int->Int->Option Bool)(y:LI)(o p:LB)(h b f k m:Int)(g:LI)(a:Int)(n:LB)(u:Bool)(v w aa:Int):Option Bool:=
if(Cv aa (Ac y))then
(Ap y aa).bind λac=>
bk6 (Ad w (Bw (Bj (Bj ac b) f) 8)) (Ad aa 1)
else
j8 w o p h b f k m g a n u v
def Ro(y:LI)(o p:LB)(h b f k m:Int)(g:LI)(a:Int)(n:LB)(u:Bool)(v:Int):Nat->Int->Int->Option Bool
|0,_,_=>none
|q+1,w,aa=>EC UD (Ro y o p h b f k m g a n u v q) y o p h b f k m g a n u v w aa
def TE y o p h b f k m g a n u v:=Ro y o p h b f k m g a n u v Ax
def TA(j6:LI->LB->LB->Int->Int->Int->Int->Int->LI->Int->LB->Bool->Int->Int->Int->Option Bool)(o p:LB)(h b f k m:Int)(g:LI)(a:Int)(n:LB)(u:Bool)(v:Int)(ab:LI):Option Bool:=
if(geq (Ac g) 0)then
some ((geq a 0)&&(geq (Ac n) 0))
else
(Sk g).bind λad=>
if((((Bc ad 0)||(Bc (Ac g) (Ac ab)))||(Cv a 0))||(Eh a (Ac ab)))then
some false
else
(Br ab 0 a).bind λy=>
j6 y o p h b f k m g a n u v 0 0
def UE:=TA TE
def UI(j5:LB->LB->Int->Int->Int->Int->Int->LI->Int->LB->Bool->Int->LI->Option Bool)(o p:LB)(h b f k m:Int)(g:LI)(a:Int)(n:LB)(u:Bool)(v:Int):Option Bool:=
if((geq h 0)&&((geq b 0)&&((geq f 0)&&((geq k 0)&&((geq m 0)&&true)))))then
some (((geq (Ac g) 0)&&(geq a 0))&&(geq (Ac n) 0))
else
(Dw h b f k m).bind λ(ab,ae)=>
if(Bc ae 0)then
some false
else
(Qj h b f k m o).bind λaf=>
if(Bc af 0)then
some false
else
j5 o p h b f k m g a n u v ab
def AS:=UI UE
def Ig(a b:LB):Option Bool:=
some (a==b)
def Oa(b a:LB):Option Bool:=
if(Nk (Ac b) (Ac a))then
(Br b 0 (Ac a)).bind λf=>
(Ig f a).bind λg=>
some g
else
some false
abbrev Nx:=Option (Int×Int)
def yC(b:Int):Nx:=
some (b,0)
def gR:=yC
def BE(j6:Int->Nx)(Tn:Int->Int->Nx)(a:LB)(b f:Int):Nx:=
if(Cv f (Ac a))then
(Ap a f).bind λg=>
if(Eh g 127)then
some (0,12)
else
Tn (uJ (Dt b (GI.toZ (7:UInt64)).toNat) (Af g:Int)) (Ad f 1)
else
j6 b
def Pq(a:LB):Nat->Int->Int->Nx
|0,_,_=>none
|q+1,b,f=>BE gR (Pq a q) a b f
def NS a:=Pq a Ax
def OO(j4:LB->Int->Int->Nx)(a:LB):Nx:=
if(Bc (Ac a) 4)then
some (0,2)
else
j4 a 0 0
def QB:=OO NS
abbrev Ke:=Option (Int×Int)
def lB(a:LB)(b:UInt8)(h:Int):Ke:=
if(Eh h 4000)then
some (0,4)
else
if(Cv (Ac a) h)then
some (0,24)
else
if(geq b 16)then
(Br a (Ao h 10) h).bind λk=>
(Br k 0 3).bind λu=>
if(u !=([51,68,73]:LB))then
some (0,12)
else
(Br k 3 (Ac k)).bind λv=>
(Br a 3 10).bind λw=>
(Ig v w).bind λy=>
if(!y)then
some (0,12)
else
some (h,0)
else
some (h,0)
def EB:=lB
def TG(j8:LB->UInt8->Int->Ke)(a:LB)(g:Int)(b:UInt8):Ke:=
if(geq b 16)then
j8 a b (Ad (Ad g 10) 10)
else
j8 a b (Ad g 10)
def DX:=TG EB
def TB(j7:LB->Int->UInt8->Ke)(a:LB)(g:Int)(b:UInt8)(m:Bool):Ke:=
if m then
some (0,12)
else
j7 a g b
def UH:=TB DX
def UJ(j6:LB->Int->UInt8->Bool->Ke)(a:LB)(f b:UInt8):Ke:=
(Br a 6 10).bind λaa=>
(QB aa).bind λ(g,ab)=>
if(Bc ab 0)then
if true then
j6 a g b true
else
if(geq b 0)then
j6 a g b (!((Nk f 2)&&(gle f 4)))
else
if(geq b 16)then
j6 a g b (!(geq f 4))
else
j6 a g b (!false)
else
(Ap a 4).bind λac=>
if(Bc ac 0)then
j6 a g b true
else
if(geq b 0)then
j6 a g b (!((Nk f 2)&&(gle f 4)))
else
if(geq b 16)then
j6 a g b (!(geq f 4))
else
j6 a g b (!false)
def TU:=UJ UH
def DS(j5:LB->UInt8->UInt8->Ke)(a:LB):Ke:=
(Oa a ([(73:UInt8),(68:UInt8),(51:UInt8)]:LB)).bind λn=>
if(!n)then
some (0,6)
else
if(Cv (Ac a) 10)then
some (0,24)
else
(Ap a 3).bind λf=>
(Ap a 5).bind λb=>
(
(
(
j5 a f b)))
def VV:=DS TU
abbrev EU:=Option (UInt64×Int)
def Anj(b:UInt64):EU:=
some (b,0)
def Aa7:=Anj
def bC(j6:UInt64->EU)(Tn:UInt64->Int->EU)(a:LB)(b:UInt64)(f:Int):EU:=
if(Cv f (Ac a))then
(Ap a f).bind λg=>
(Kx (Nk (Bj 8 f) 0)).bind λ_=>
Tn (uJ b (Dt (Af g:UInt64) (GI.toZ (Bj 8 f)).toNat)) (Ad f 1)
else
j6 b
def GM(a:LB):Nat->UInt64->Int->EU
|0,_,_=>none
|q+1,b,f=>bC Aa7 (GM a q) a b f
def pH a:=GM a Ax
def mW(j4:LB->UInt64->Int->EU)(a:LB):EU:=
if((Cv (Ac a) 1)||(Eh (Ac a) 8))then
some (0,2)
else
j4 a 0 0
def nV:=mW pH
def dX(f:LB)(a b:Int):Option (UInt64×Int):=
if(((Cv b 1)||(Eh b 8))||(Cv a 0))then
some (0,2)
else
if(Eh a (Ao (Ac f) b))then
some (0,24)
else
(Br f a (Ad a b)).bind λg=>
(nV g).bind λ(h,k)=>
some (h,k)
def Ac4(g:LB):Option (LB):=
some g
def tM:=Ac4
def iQ(j6:LB->Option (LB))(Tn:Int->LB->Option (LB))(a b:Int)(f:UInt64)(h:Int)(g:LB):Option (LB):=
if(Cv h (Ac ([(2000:UInt64),(Af (Ad a 32):UInt64),(Af b:UInt64),f,(0:UInt64),(0:UInt64)]:LQ)))then
(Ap ([(2000:UInt64),(Af (Ad a 32):UInt64),(Af b:UInt64),f,(0:UInt64),(0:UInt64)]:LQ) h).bind λ_=>
(Ap ([(2000:UInt64),(Af (Ad a 32):UInt64),(Af b:UInt64),f,(0:UInt64),(0:UInt64)]:LQ) h).bind λk=>
(DK k 4).bind λ(m,o)=>
(Ee g m).bind λn=>
Tn (Ad h 1) n
else
j6 g
def FB(a b:Int)(f:UInt64):Nat->Int->LB->Option (LB)
|0,_,_=>none
|q+1,h,g=>iQ tM (FB a b f q) a b f h g
def uE a b f:=FB a b f Ax
def uM(j4:Int->Int->UInt64->Int->LB->Option (LB))(a b:Int)(f:UInt64):Option (LB):=
j4 a b f 0 ([(65:UInt8),(80:UInt8),(69:UInt8),(84:UInt8),(65:UInt8),(71:UInt8),(69:UInt8),(88:UInt8)]:LB)
def qI:=uM uE
def WO(b:LB)(g:UInt64):Option (Int×Int×Bool):=
(dX b 12 4).bind λ(a,m)=>
(dX b 16 4).bind λ(f,n)=>
if(((Cv a 32)||(Eh a 3032))||(Eh f 1000))then
some (0,0,false)
else
(qI (Ao (Af a:Int) 32) (Af f:Int) g).bind λh=>
(Ig b h).bind λk=>
some ((Ao (Af a:Int) 32),(Af f:Int),k)
def qF(a:LB):Option (Int×Int):=
(Oa a ([(65:UInt8),(80:UInt8),(69:UInt8),(84:UInt8),(65:UInt8),(71:UInt8),(69:UInt8),(88:UInt8)]:LB)).bind λf=>
if(!f)then
some (0,6)
else
if(Cv (Ac a) 32)then
some (0,24)
else
(Br a 0 32).bind λg=>
(WO g 2684354560).bind λ(b,h,k)=>
if(!k)then
some (0,12)
else
if(Cv (Ac a) (Ad b 64))then
some (0,24)
else
(Br a (Ao (Ad b 64) 32) (Ad b 64)).bind λm=>
(qI b h 2147483648).bind λn=>
(Ig m n).bind λo=>
if(!o)then
some (0,12)
else
some ((Ad b 64),0)
def AM(a:LB):Option (Int×Int):=
(VV a).bind λ(f,b)=>
if(Bc b 6)then
some (f,b)
else
(qF a).bind λ(g,h)=>
some (g,h)
def Xh(b:List UInt8):Nat->Int->Option (Int×Int)
  |0,_=>none
  |q+1,x=>Option.bind (Br b x (Ac b)) λs=>Option.bind (AM s) λr=>
    if geq r.2 (6:Int)=true then some (x,0)
    else if(geq r.2 (0:Int)&&Eh (Ad x r.1) (4000:Int))=true then some (0,4)
    else if Bc r.2 (0:Int)=true then some (0,r.2)
    else Xh b q (Ad x r.1)
def If(b:List UInt8):Option (Int×Int):=Xh b Ax 0
def Am(a:Int):Option (Bool×Int):=
some (false,a)
def Hp(b a:LB):Option Bool:=
if(Nk (Ac b) (Ac a))then
(Br b 0 (Ac a)).bind λf=>
some (f==a)
else
some false
def Kg(a b:LB):Option Bool:=
(Hp a b).bind λf=>
some f
def Abn:Option Bool:=
some false
def lA:=Abn
def Wv(j6:Option Bool)(Tn:Int->Option Bool)(a:LB)(b:Int):Option Bool:=
if(Cv b 2)then
(Ap ([([73,68,51]:LB),([65,80,69,84,65,71,69,88]:LB)]:List LB) b).bind λf=>
if(Cv (Ac a) (Ac f))then
(Kg f a).bind λg=>
if g then
some true
else
Tn (Ad b 1)
else
Tn (Ad b 1)
else
j6
def Lf(a:LB):Nat->Int->Option Bool
|0,_=>none
|q+1,b=>Wv lA (Lf a q) a b
def TI a:=Lf a Ax
def UB(j4:LB->Int->Option Bool)(a:LB):Option Bool:=
j4 a 0
def Rr:=UB TI
abbrev Tj:=Option (Int×Int×Int×Int×Int×Int)
def mS(a:LI):Tj:=
(Ap a 0).bind λ_=>
(Ap a 0).bind λh=>
(Ap a 1).bind λ_=>
(Ap a 1).bind λk=>
(Ap a 2).bind λ_=>
(Ap a 2).bind λm=>
(Ap a 3).bind λ_=>
(Ap a 3).bind λn=>
(Ap a 4).bind λ_=>
(Ap a 4).bind λo=>
(So h k m n o).bind λp=>
if(!p)then
some (0,0,0,0,0,12)
else
(RC h k m n o).bind λu=>
if(!u)then
some (0,0,0,0,0,4)
else
some (h,k,m,n,o,0)
def JA:=mS
def HK(j6:LI->Tj)(Tn:Int->Int->LI->Tj)(b:LB)(g f:Int)(a:LI):Tj:=
if(Cv f 5)then
(Ap ([(2:Int),(2:Int),(2:Int),(4:Int),(4:Int)]:LI) f).bind λh=>
(dX b g h).bind λ(v,ae)=>
(Ap a f).bind λ_=>
(Oe a f (Af v:Int)).bind λw=>
Tn (Ad g h) (Ad f 1) w
else
j6 a
def Qk(b:LB):Nat->Int->Int->LI->Tj
|0,_,_,_=>none
|q+1,g,f,a=>HK JA (Qk b q) b g f a
def JK b:=Qk b Ax
def ZN(j4:LB->Int->Int->LI->Tj)(b:LB):Tj:=
(Br b 0 (Fo 4 (Ac b))).bind λy=>
(Kg ([84,84,65,49]:LB) y).bind λaa=>
if(!aa)then
some (0,0,0,0,0,12)
else
if(Cv (Ac b) 22)then
some (0,0,0,0,0,24)
else
(dX b 18 4).bind λ(ab,af)=>
(Br b 0 18).bind λac=>
(AW ac).bind λ(ad,ag)=>
if(Bc (Af ad:UInt64) ab)then
some (0,0,0,0,0,22)
else
j4 b 4 0 (List.replicate 5 (0:Int))
def Lh:=ZN JK
def Pc(a f:LB):Option (Bool×Int):=
(JP f).bind λ(b,g)=>
if((Bc g 0)||(Bc (Ac a) (Ac b)))then
some (false,2)
else
(Ig a b).bind λh=>
some (h,0)
abbrev We:=Option (LI×Int)
def sI(a:LI):We:=
(Sk a).bind λk=>
if(Bc k 0)then
some (([]:LI),12)
else
some (a,0)
def PK:=sI
def QD(j6:LI->We)(Tn:Int->LI->We)(b:LB)(f:LI)(g:Int)(a:LI):We:=
if(Cv g (Ac f))then
(dX b (Bj 4 g) 4).bind λ(k,u)=>
(Ap a g).bind λ_=>
(Oe a g (Af k:Int)).bind λm=>
Tn (Ad g 1) m
else
j6 a
def Xe(b:LB)(f:LI):Nat->Int->LI->We
|0,_,_=>none
|q+1,g,a=>QD PK (Xe b f q) b f g a
def cO b f:=Xe b f Ax
def cM(j4:LB->LI->Int->LI->We)(b:LB)(h:Int):We:=
if((Cv h 1)||(Eh h 1000))then
some (([]:LI),2)
else
if(Cv (Ac b) (Ad (Bj 4 h) 4))then
some (([]:LI),24)
else
(dX b (Bj 4 h) 4).bind λ(n,v)=>
(Br b 0 (Bj 4 h)).bind λo=>
(AW o).bind λ(p,w)=>
if(Bc (Af p:UInt64) n)then
some (([]:LI),22)
else
(mkI h (0:Int)).bind λf=>
(Kx (geq h h)).bind λ_=>
j4 b f 0 f
def FG:=cM cO
def CY(f a b g h:Int):Option (Int×Int):=
some (a,b)
def KA(a:LB):Option (LB×Int):=
if(Cv (Ac a) 5)then
some (([]:LB),24)
else
if(Eh (Ac a) 41254)then
some (([]:LB),4)
else
(Br a 0 (Ao (Ac a) 4)).bind λf=>
(AW f).bind λ(g,b)=>
if(Bc b 0)then
some (([]:LB),b)
else
(Br a (Ao (Ac a) 4) (Ac a)).bind λh=>
(nV h).bind λ(k,m)=>
if((Bc m 0)||(Bc k (Af g:UInt64)))then
some (([]:LB),22)
else
(Br a 0 (Ao (Ac a) 4)).bind λn=>
some (n,0)
def Ajq(a:LB):Option (LB×Int×Int):=
if(Eh (Ac a) 41250)then
some (([]:LB),0,4)
else
(Ca a).bind λb=>
some (b,(Bj 8 (Ac a)),0)
def Alx(g:UInt64):Option UInt64:=
some g
def Abb:=Alx
def nD(j6:UInt64->Option UInt64)(Tn:UInt64->Int->Option UInt64)(b f:Int)(h:LB)(k:Int)(g:UInt64)(a:Int):Option UInt64:=
if(Cv a f)then
(Ap h (Ajw (Ad b a) (GI.toZ (3:UInt64)).toNat)).bind λm=>
(Kx (Nk (Fe (Ad b a) 7) 0)).bind λ_=>
(Kx (Nk (Fo (Ao f a) (Ao 8 (Fe (Ad b a) 7))) 0)).bind λ_=>
(Kx (Nk a 0)).bind λ_=>
Tn (uJ g (Dt (Af (Fe (Ck m (GI.toZ (Fe (Ad b a) 7)).toNat) (Ao (Dt (1:UInt8) (GI.toZ (Fo (Ao f a) (Ao 8 (Fe (Ad b a) 7)))).toNat) 1)):UInt64) (GI.toZ a).toNat)) (Ad a (Fo (Ao f a) (Ao 8 (Fe (Ad b a) 7))))
else
j6 g
def RI(b f:Int)(h:LB)(k:Int):Nat->UInt64->Int->Option UInt64
|0,_,_=>none
|q+1,g,a=>nD Abb (RI b f h k q) b f h k g a
def Aaf b f h k:=RI b f h k Ax
def Aa4(j4:Int->Int->LB->Int->UInt64->Int->Option UInt64)(h:LB)(k b f:Int):Option UInt64:=
j4 b f h k 0 0
def vB:=Aa4 Aaf
abbrev Gg:=Option (LB×Int×Int)
def vF(o:Int)(p:LB):Gg:=
some (p,o,0)
def iZ:=vF
def uX(kJ:Int->Int->LB->Gg)(a:Int)(g:LB)(f b h:Int)(u:LB):Gg:=
kJ (Ad b 64) h u
def WB kJ:=uX kJ
def wW(Agn:UInt64->Int->Int->LB->Gg)(a b:Int)(g:LB)(f:Int)(k n:UInt64)(m h:Int)(w:LB):Gg:=
(Kx (Nk (Fo m (Ao 8 (Fe h 7))) 0)).bind λ_=>
Agn (Ck n (GI.toZ (Fo m (Ao 8 (Fe h 7)))).toNat) (Ao m (Fo m (Ao 8 (Fe h 7)))) (Ad h (Fo m (Ao 8 (Fe h 7)))) w
def iY Agn:=wW Agn
def jH(j48:UInt64->Int->Int->LB->Gg)(a b:Int)(g:LB)(f:Int)(k n:UInt64)(m h:Int)(v:LB):Gg:=
(Ap v (Ao (Ac v) 1)).bind λ_=>
(Kx (Nk (Fo m (Ao 8 (Fe h 7))) 0)).bind λ_=>
(Kx (Nk (Fe h 7) 0)).bind λ_=>
(Ap v (Ao (Ac v) 1)).bind λaa=>
(Ap v (Ao (Ac v) 1)).bind λ_=>
Option.bind (Oe v (Ao (Ac v) 1) (uJ aa (Dt (Af (Fe n (Ao (Dt (1:UInt64) (GI.toZ (Fo m (Ao 8 (Fe h 7)))).toNat) 1)):UInt8) (GI.toZ (Fe h 7)).toNat))) λw=>
j48 n m h w
def WC Agn a b g f k:=jH (iY Agn a b g f k) a b g f k
def VX(j47:UInt64->Int->Int->LB->Gg)(j50:Int->Int->LB->Gg)(a:Int)(g:LB)(f b:Int)(k n:UInt64)(m h:Int)(u:LB):Gg:=
if(Eh m 0)then
if(geq (Fe h 7) 0)then
(Ee u ([(0:UInt8)]:LB)).bind λab=>
j47 n m h ab
else
j47 n m h u
else
j50 b h u
def Rq(kJ:Int->Int->LB->Gg)(a:Int)(g:LB)(f b:Int)(k:UInt64):Nat->UInt64->Int->Int->LB->Gg
|0,_,_,_,_=>none
|q+1,n,m,h,u=>VX (WC (Rq kJ a g f b k q) a b g f k) (WB kJ a g f) a g f b k n m h u
def iT kJ a g f b k:=Rq kJ a g f b k Ax
def kI(j44:Int->UInt64->UInt64->Int->Int->LB->Gg)(j52:Int->LB->Gg)(a:Int)(g:LB)(f b o:Int)(p:LB):Gg:=
if(Cv b a)then
(vB g f b (Fo 64 (Ao a b))).bind λk=>
j44 b k k (Fo 64 (Ao a b)) o p
else
j52 o p
def BD(a:Int)(g:LB)(f:Int):Nat->Int->Int->LB->Gg
|0,_,_,_=>none
|q+1,b,o,p=>kI (iT (BD a g f q) a g f) iZ a g f b o p
def jS a g f:=BD a g f Ax
def oI(j27:Int->LB->Int->Int->Int->LB->Gg)(g:LB)(f y a:Int):Gg:=
(Ki g f).bind λac=>
if(Bc ac 0)then
some (([]:LB),0,8)
else
if(((Cv y 0)||(Eh y a))||(Eh a f))then
some (([]:LB),0,2)
else
j27 a g f y 0 ([]:LB)
def nX:=oI jS
def HG(g:LB)(b f a:Int):Option (UInt64×Int):=
(Ki g b).bind λh=>
if(Bc h 0)then
some (0,8)
else
if(((Cv a 0)||(Eh a 64))||(Cv f 0))then
some (0,2)
else
if(Eh f (Ao b a))then
some (0,24)
else
(vB g b f a).bind λk=>
some (k,0)
def Hv(a:UInt64):Option Int:=
if(geq a 0)then
some 64
else
(Ap ([(0:UInt8),(1:UInt8),(56:UInt8),(2:UInt8),(57:UInt8),(49:UInt8),(28:UInt8),(3:UInt8),(61:UInt8),(58:UInt8),(42:UInt8),(50:UInt8),(38:UInt8),(29:UInt8),(17:UInt8),(4:UInt8),(62:UInt8),(47:UInt8),(59:UInt8),(36:UInt8),(45:UInt8),(43:UInt8),(51:UInt8),(22:UInt8),(53:UInt8),(39:UInt8),(33:UInt8),(30:UInt8),(24:UInt8),(18:UInt8),(12:UInt8),(5:UInt8),(63:UInt8),(55:UInt8),(48:UInt8),(27:UInt8),(60:UInt8),(41:UInt8),(37:UInt8),(16:UInt8),(46:UInt8),(35:UInt8),(44:UInt8),(21:UInt8),(52:UInt8),(32:UInt8),(23:UInt8),(11:UInt8),(54:UInt8),(26:UInt8),(40:UInt8),(15:UInt8),(34:UInt8),(20:UInt8),(31:UInt8),(10:UInt8),(25:UInt8),(14:UInt8),(19:UInt8),(9:UInt8),(13:UInt8),(8:UInt8),(7:UInt8),(6:UInt8)]:LB) (GI.toZ (Ck (Bj (Fe a (wC a)) 285870213051353865) (GI.toZ (58:UInt64)).toNat))).bind λb=>
some (Af b:Int)
abbrev Kh:=Option (Int×Int×Int)
def Af2:Kh:=
some (0,0,24)
def nI:=Af2
def sL(j10:Kh):Kh:=
j10
def sH:=sL nI
def cK(j9:Kh)(f a:Int):Kh:=
if(geq f 48)then
some (f,(Ad 0 (Ad a f)),0)
else
j9
def cJ:=cK sH
def dO(j8:Int->Int->Kh)(f b a:Int):Kh:=
if(Cv f (Fo 48 (Ao b a)))then
some (f,(Ad (Ad (0:Int) (1:Int)) (Ad a f)),0)
else
j8 f a
def cZ:=dO cJ
def dR(j7:Int->Int->Int->Kh)(h:Int)(k:UInt64)(a:Int)(g:LB)(b:Int):Kh:=
if(Bc h 0)then
some (0,0,h)
else
(Hv (Agh k)).bind λf=>
j7 f b a
def cI:=dR cZ
def DG(j6:Int->UInt64->Int->LB->Int->Kh)(g:LB)(b a:Int):Kh:=
(Ki g b).bind λm=>
if(Bc m 0)then
some (0,0,m)
else
if(Cv a 0)then
some (0,0,2)
else
if(Nk a b)then
some (0,0,24)
else
(
(
(HG g b a (Fo 48 (Ao b a))).bind λ(k,h)=>
j6 h k a g b))
def OW:=DG cI
abbrev mV:=Option (UInt32×Int×Int)
def gW(a b f:Int)(g:LB)(h k:Int):mV:=
(HG g h b k).bind λ(m,n)=>
if(Bc n 0)then
some (0,0,n)
else
if(Cv f 48)then
(Kx (Nk a 0)).bind λ_=>
some ((uJ (Dt (Af f:UInt32) (GI.toZ a).toNat) (Af m:UInt32)),(Ad b k),0)
else
(AY (Af m:UInt32) a).bind λu=>
if(!u)then
some (0,0,12)
else
some ((Af m:UInt32),(Ad b k),0)
def VR:=gW
def jT(j2:Int->Int->Int->LB->Int->Int->mV)(g:LB)(h v a:Int):mV:=
(Ki g h).bind λo=>
if(Bc o 0)then
some (0,0,o)
else
if((Cv a 0)||(Eh a 24))then
some (0,0,2)
else
(OW g h v).bind λ(f,b,p)=>
if(Bc p 0)then
some (0,0,p)
else
if(geq f 48)then
j2 a b f g h 32
else
j2 a b f g h a
def qH:=jT VR
abbrev Mw:=Option (UInt32×Int×Int×Int×UInt64×UInt64×Int)
def sN(f:UInt32)(k w m:Int)(a n:UInt64):Mw:=
some (f,k,w,m,(Ad a (Ao (Af f:UInt64) (Ck a (GI.toZ (4:UInt64)).toNat))),n,0)
def cR:=sN
def iE(j10:UInt32->Int->Int->Int->UInt64->UInt64->Mw)(f:UInt32)(k m:Int)(a n:UInt64)(w:Int):Mw:=
j10 f k w m a n
def jZ:=iE cR
def jC(j9:UInt32->Int->Int->UInt64->UInt64->Int->Mw)(f:UInt32)(k b:Int)(a:UInt64)(m:Int)(n:UInt64):Mw:=
if(Eh b 0)then
(Kx (Nk b 0)).bind λ_=>
if(Cv (Ad a (Ao (Af f:UInt64) (Ck a (GI.toZ (4:UInt64)).toNat))) (Dt (16:UInt64) (GI.toZ b).toNat))then
j9 f k m a n (Ao b 1)
else
if(Cv b 24)then
(Kx (Nk b 0)).bind λ_=>
if(Eh (Ad a (Ao (Af f:UInt64) (Ck a (GI.toZ (4:UInt64)).toNat))) (Dt (32:UInt64) (GI.toZ b).toNat))then
j9 f k m a n (Ad b 1)
else
j9 f k m a n b
else
j9 f k m a n b
else
if(Cv b 24)then
(Kx (Nk b 0)).bind λ_=>
if(Eh (Ad a (Ao (Af f:UInt64) (Ck a (GI.toZ (4:UInt64)).toNat))) (Dt (32:UInt64) (GI.toZ b).toNat))then
j9 f k m a n (Ad b 1)
else
j9 f k m a n b
else
j9 f k m a n b
def JU:=jC jZ
def jE(j8:UInt32->Int->Int->UInt64->Int->UInt64->Mw)(b h:Int)(a g:UInt64)(f:UInt32)(k:Int):Mw:=
(OH b h a g f).bind λ(ad,o)=>
if(geq ad 1)then
if(Eh h 0)then
(Kx (Nk h 0)).bind λ_=>
if(Cv (Ad g (Ao (Af o:UInt64) (Ck g (GI.toZ (4:UInt64)).toNat))) (Dt (16:UInt64) (GI.toZ h).toNat))then
j8 f k b a (Ao h 1) (Ad g (Ao (Af o:UInt64) (Ck g (GI.toZ (4:UInt64)).toNat)))
else
if(Cv h 24)then
(Kx (Nk h 0)).bind λ_=>
if(Eh (Ad g (Ao (Af o:UInt64) (Ck g (GI.toZ (4:UInt64)).toNat))) (Dt (32:UInt64) (GI.toZ h).toNat))then
j8 f k b a (Ad h 1) (Ad g (Ao (Af o:UInt64) (Ck g (GI.toZ (4:UInt64)).toNat)))
else
j8 f k b a h (Ad g (Ao (Af o:UInt64) (Ck g (GI.toZ (4:UInt64)).toNat)))
else
j8 f k b a h (Ad g (Ao (Af o:UInt64) (Ck g (GI.toZ (4:UInt64)).toNat)))
else
if(Cv h 24)then
(Kx (Nk h 0)).bind λ_=>
if(Eh (Ad g (Ao (Af o:UInt64) (Ck g (GI.toZ (4:UInt64)).toNat))) (Dt (32:UInt64) (GI.toZ h).toNat))then
j8 f k b a (Ad h 1) (Ad g (Ao (Af o:UInt64) (Ck g (GI.toZ (4:UInt64)).toNat)))
else
j8 f k b a h (Ad g (Ao (Af o:UInt64) (Ck g (GI.toZ (4:UInt64)).toNat)))
else
j8 f k b a h (Ad g (Ao (Af o:UInt64) (Ck g (GI.toZ (4:UInt64)).toNat)))
else
j8 f k b a h g
def VZ:=jE JU
def iM(j7:Int->Int->UInt64->UInt64->UInt32->Int->Mw)(p:Int)(u:LB)(v b h:Int)(a g:UInt64):Mw:=
(HG u v p 1).bind λ(ae,aa)=>
if(Bc aa 0)then
some (0,0,0,0,0,0,aa)
else
if(geq ae 0)then
(HG u v (Ad p 1) b).bind λ(af,ab)=>
if(Bc ab 0)then
some (0,0,0,0,0,0,ab)
else
j7 b h a g (Af af:UInt32) (Ad (Ad p 1) b)
else
(qH u v (Ad p 1) h).bind λ(y,ag,ac)=>
if(Bc ac 0)then
some (0,0,0,0,0,0,ac)
else
(Kx (Nk b 0)).bind λ_=>
if(Cv (Ad y (Dt (1:UInt32) (GI.toZ b).toNat)) y)then
some (0,0,0,0,0,0,12)
else
j7 b h a g (Ad y (Dt (1:UInt32) (GI.toZ b).toNat)) ag
def jU:=iM VZ
def jX(j6:Int->LB->Int->Int->Int->UInt64->UInt64->Mw)(u:LB)(v p b h:Int)(a g:UInt64):Mw:=
(Ki u v).bind λah=>
if(Bc ah 0)then
some (0,0,0,0,0,0,8)
else
(YF b h a g).bind λai=>
if(Bc ai 0)then
some (0,0,0,0,0,0,8)
else
j6 p u v b h a g
def NK:=jX jU
abbrev Cn:=Option (LU×Int×Int)
def uO(k:Int)(m:LU):Cn:=
some (m,k,0)
def ZT:=uO
def aO(Is:Int->Int-> (List (Int×Int×UInt64×UInt64×Unit))->LU->Cn)(a f:Int)(g:LB)(b k v:Int)(w:UInt32)(h:Int)(ag:List (Int×Int×UInt64×UInt64×Unit))(m:LU):Cn:=
(Ee m ([w]:LU)).bind λak=>
Is (Ad k v) (Ad h 1) ag ak
def FK Is:=aO Is
def Vo(j22:Int->Int->UInt32->Int-> (List (Int×Int×UInt64×UInt64×Unit))->LU->Cn)(a f:Int)(g:LB)(b k h y:Int)(w:UInt32)(v:Int)(n:List (Int×Int×UInt64×UInt64×Unit))(m:LU)(aa ab:Int)(ac ad:UInt64):Cn:=
if(Bc y 0)then
some (([]:LU),0,y)
else
(Kx (Bc a 0)).bind λ_=>
(Ap n (Gw h a)).bind λ_=>
(Oe n (Gw h a) (aa,ab,ac,ad,())).bind λag=>
j22 k v w h ag m
def Vw Is a f g b:=Vo (FK Is a f g b) a f g b
def Vm(j21:Int->Int->Int->UInt32->Int-> (List (Int×Int×UInt64×UInt64×Unit))->LU->Int->Int->UInt64->UInt64->Cn)(j24:Int->LU->Cn)(a f:Int)(g:LB)(b k h:Int)(n:List (Int×Int×UInt64×UInt64×Unit))(m:LU):Cn:=
if(Cv h (Bj f a))then
(nX g b k (Fo (Ad k 81) b)).bind λ(ah,ae,af)=>
if(Bc af 0)then
some (([]:LU),0,af)
else
(Kx (Bc a 0)).bind λ_=>
(Ap n (Gw h a)).bind λ_=>
(
(
(Ap n (Gw h a)).bind λp=>
(
(NK ah ae 0 p.1 p.2.1 p.2.2.1 p.2.2.2.1).bind λ(w,v,aa,ab,ac,ad,y)=>
j21 k h y w v n m aa ab ac ad)))
else
j24 k m
def Py(a f:Int)(g:LB)(b:Int):Nat->Int->Int-> (List (Int×Int×UInt64×UInt64×Unit))->LU->Cn
|0,_,_,_,_=>none
|q+1,k,h,n,m=>Vm (Vw (Py a f g b q) a f g b) ZT a f g b k h n m
def XN a f g b:=Py a f g b Ax
def ZE(j16:Int->Int->LB->Int->Int->Int-> (List (Int×Int×UInt64×UInt64×Unit))->LU->Cn)(a f:Int)(g:LB)(b:Int)(o:List (Int×Int×UInt64×UInt64×Unit)):Cn:=
j16 a f g b 0 0 o ([]:LU)
def EM:=ZE XN
def YE(j15:Int->Int->LB->Int-> (List (Int×Int×UInt64×UInt64×Unit))->Cn)(Ba4:Int-> (List (Int×Int×UInt64×UInt64×Unit))->Cn)(a f:Int)(g:LB)(b u:Int)(o:List (Int×Int×UInt64×UInt64×Unit)):Cn:=
if(Cv u 6)then
(tQ).bind λ(al,ae,af,am)=>
(Ap o u).bind λ_=>
(Oe o u (al,ae,af,am,())).bind λan=>
Ba4 (Ad u 1) an
else
j15 a f g b o
def EL(a f:Int)(g:LB)(b:Int):Nat->Int-> (List (Int×Int×UInt64×UInt64×Unit))->Cn
|0,_,_=>none
|q+1,u,o=>YE EM (EL a f g b q) a f g b u o
def Wg a f g b:=EL a f g b Ax
def KX(j13:Int->Int->LB->Int->Int-> (List (Int×Int×UInt64×UInt64×Unit))->Cn)(a f:Int)(g:LB)(b:Int):Cn:=
j13 a f g b 0 (List.replicate 6 ((0:Int),(0:Int),(0:UInt64),(0:UInt64),()))
def IW:=KX Wg
def AU(a:UInt32):Option Int32:=
some (AH (Af (Ck a (GI.toZ (1:UInt64)).toNat):Int32) (wC (Af (Fe a 1):Int32)))
def oY(b:Int)(f g:LX)(a:Int32):Option (Int32×Int×LX×LX×Int):=
(XF b f g).bind λ(h,k)=>
if(Bc k 0)then
some (0,0,(List.replicate 16 (0:Int32)),(List.replicate 16 (0:Int32)),k)
else
(ZH b f g (Ad a h) a).bind λ(m,n,o)=>
some ((Ad a h),m,n,o,0)
def Nw(a:Int)(b:Int32)(f:Int)(g h:LX)(o:Int32):Option (Int32×Int×Int32×Int×LX×LX×Int):=
(Zl a b f g h).bind λk=>
if(Bc k 0)then
some (0,0,0,0,(List.replicate 16 (0:Int32)),(List.replicate 16 (0:Int32)),k)
else
(AI a b).bind λ(m,y)=>
(oY f g h o).bind λ(n,p,u,v,w)=>
(
some ((Ad n m),a,(Ad n m),p,u,v,w))
abbrev Ib:=Option (LX×Int)
def Ajn(f:LX):Ib:=
some (f,0)
def wR:=Ajn
def vM(dU:Int->LX->Ib)(b a:Int)(h:LX):Ib:=
dU (Ad a b) h
def gY dU:=vM dU
def WH(j20:Int->LX->Ib)(Agy:Int->LX->Ib)(b a g:Int)(h:LX):Ib:=
if(Nk g 0)then
(Kx (decide (0<= (Ad g 1)/\ (Ad g 1)<((Ad a b)-a)))).bind λ_=>
(Kx (decide (0<=g/\g<((Ad a b)-a)))).bind λ_=>
(Ap h (a+(Ad g 1))).bind λo=>
(Ap h (a+g)).bind λp=>
(Kx (decide (0<=g/\g<((Ad a b)-a)))).bind λ_=>
(Oe h (a+g) (Ao o p)).bind λu=>
Agy (Ao g 1) u
else
j20 a h
def BB(dU:Int->LX->Ib)(b a:Int):Nat->Int->LX->Ib
|0,_,_=>none
|q+1,g,h=>WH (gY dU b) (BB dU b a q) b a g h
def gX dU b a:=BB dU b a Ax
def iN(j18:Int->Int->LX->Ib)(b a:Int)(k:LX):Ib:=
j18 a (Ao (Ao ((Ad a b)-a) 1) 1) k
def WK dU b:=iN (gX dU b) b
def kD(j17:Int->LX->Ib)(j22:LX->Ib)(b a:Int)(f:LX):Ib:=
if(Cv a (Ac f))then
(fN (Ac f) a (Ad a b)).bind λ_=>
if(Eh (Ao ((Ad a b)-a) 1) 0)then
(Kx (decide (0<= (Ao ((Ad a b)-a) 1)/\ (Ao ((Ad a b)-a) 1)<((Ad a b)-a)))).bind λ_=>
Option.bind (Kx (decide (0<= (Ao (Ao ((Ad a b)-a) 1) 1)/\ (Ao (Ao ((Ad a b)-a) 1) 1)<((Ad a b)-a)))) λ_=>
(Ap f (a+(Ao ((Ad a b)-a) 1))).bind λv=>
(Ap f (a+(Ao (Ao ((Ad a b)-a) 1) 1))).bind λw=>
(Kx (decide (0<= (Ao ((Ad a b)-a) 1)/\ (Ao ((Ad a b)-a) 1)<((Ad a b)-a)))).bind λ_=>
(Oe f (a+(Ao ((Ad a b)-a) 1)) (Ad v (Bw w 2))).bind λy=>
j17 a y
else
j17 a f
else
j22 f
def Vk(b:Int):Nat->Int->LX->Ib
|0,_,_=>none
|q+1,a,f=>kD (WK (Vk b q) b) wR b a f
def iA b:=Vk b Ax
def nT(j12:Int->Int->LX->Ib)(b:Int)(m:LX):Ib:=
(fD b m).bind λn=>
if(Bc n 0)then
some (([]:LX),n)
else
(Di m).bind λaa=>
j12 b 0 aa
def wP:=nT iA
abbrev Cy:=Option (LX×Int)
def VD(a b:Int)(k:LX):Cy:=
(wP a k).bind λ(ah,af)=>
if(Bc af 0)then
some (([]:LX),af)
else
(Sm b ah).bind λae=>
if(Bc ae 0)then
some (([]:LX),ae)
else
some (ah,0)
def Oi:=VD
def VL(Ba4:Int-> (List (Int×Int32×(Int×LX×LX×Unit)×Unit))->LX->Cy)(a:Int)(f:LU)(b g:Int)(w:Int32)(u:Int)(h:List (Int×Int32×(Int×LX×LX×Unit)×Unit))(k:LX)(y:Int)(v:Int32)(aa:Int)(ab ac:LX):Cy:=
if(Bc u 0)then
some (([]:LX),u)
else
(Oe h (Gw g a) (y,v,(aa,ab,ac,()),())).bind λai=>
(Ee k ([w]:LX)).bind λaj=>
Ba4 (Ad g 1) ai aj
def CW Ba4:=VL Ba4
def Oq(j16:Int->Int32->Int-> (List (Int×Int32×(Int×LX×LX×Unit)×Unit))->LX->Int->Int32->Int->LX->LX->Cy)(j18:Int->Int->LX->Cy)(f:LU)(a b g:Int)(h:List (Int×Int32×(Int×LX×LX×Unit)×Unit))(k:LX):Cy:=
if(Cv g (Ac f))then
(Ap f g).bind λag=>
(Kx (Bc a 0)).bind λ_=>
(Ap h (Gw g a)).bind λ_=>
(
(Ap h (Gw g a)).bind λm=>
(
(AU ag).bind λae=>
(
(Nw m.1 m.2.1 m.2.2.1.1 m.2.2.1.2.1 m.2.2.1.2.2.1 ae).bind λ(w,y,v,aa,ab,ac,u)=>
j16 g w u h k y v aa ab ac)))
else
j18 a b k
def Lb(f:LU)(a b:Int):Nat->Int-> (List (Int×Int32×(Int×LX×LX×Unit)×Unit))->LX->Cy
|0,_,_,_=>none
|q+1,g,h,k=>Oq (CW (Lb f a b q) a f b) Oi f a b g h k
def VA f a b:=Lb f a b Ax
def UZ(j13:LU->Int->Int->Int-> (List (Int×Int32×(Int×LX×LX×Unit)×Unit))->LX->Cy)(f:LU)(a b:Int)(n:List (Int×Int32×(Int×LX×LX×Unit)×Unit)):Cy:=
j13 f a b 0 n ([]:LX)
def CE:=UZ VA
def VC(j12:LU->Int->Int-> (List (Int×Int32×(Int×LX×LX×Unit)×Unit))->Cy)(Aro:Int-> (List (Int×Int32×(Int×LX×LX×Unit)×Unit))->Cy)(f:LU)(a b:Int)(o:LX)(p:Int)(n:List (Int×Int32×(Int×LX×LX×Unit)×Unit)):Cy:=
if(Cv p 6)then
(zJ b o).bind λ(ak,af,ae,al,am,v)=>
(Ap n p).bind λ_=>
(Oe n p (ak,af,(ae,al,am,()),())).bind λan=>
Aro (Ad p 1) an
else
j12 f a b n
def CD(f:LU)(a b:Int)(o:LX):Nat->Int-> (List (Int×Int32×(Int×LX×LX×Unit)×Unit))->Cy
|0,_,_=>none
|q+1,p,n=>VC CE (CD f a b o q) f a b o p n
def Ts f a b o:=CD f a b o Ax
def FF(j10:LU->Int->Int->LX->Int-> (List (Int×Int32×(Int×LX×LX×Unit)×Unit))->Cy)(a b:Int)(o:LX)(f:LU):Cy:=
j10 f a b o 0 (List.replicate 6 ((0:Int),(0:Int32),((0:Int),(List.replicate 16 (0:Int32)),(List.replicate 16 (0:Int32)),()),()))
def Wx:=FF Ts
def Jy(a h:Int)(u:LX)(f:Int)(v:LB):Option (LX×Int):=
(Gc a h).bind λk=>
if(Bc k 0)then
some (([]:LX),k)
else
if(Cv f 1)then
some (([]:LX),2)
else
(Kx (Bc a 0)).bind λ_=>
if(Eh f (Bw 4000 a))then
some (([]:LX),2)
else
(KA v).bind λ(w,m)=>
if(Bc m 0)then
some (([]:LX),m)
else
(Ajq w).bind λ(n,b,o)=>
if(Bc o 0)then
some (([]:LX),o)
else
(IW a f n b).bind λ(y,g,p)=>
if(Bc p 0)then
some (([]:LX),p)
else
if(Nk (Ao b g) 8)then
some (([]:LX),12)
else
(HG n b g (Ao b g)).bind λ(aa,ab)=>
if((Bc ab 0)||(Bc aa 0))then
some (([]:LX),12)
else
(Wx a h u y).bind λ(ac,ad)=>
some (ac,ad)
def DC:Option Int:=
some (-1:Int)
def Pj:=DC
def Fl(j6:Option Int)(Tn:Int->Option Int)(a:LI)(b f:Int):Option Int:=
if(Cv f (Ac a))then
(Ap a f).bind λg=>
if(geq b g)then
some f
else
Tn (Ad f 1)
else
j6
def Ci(a:LI)(b:Int):Nat->Int->Option Int
|0,_=>none
|q+1,f=>Fl Pj (Ci a b q) a b f
def Ii a b:=Ci a b Ax
def Iq(j4:LI->Int->Int->Option Int)(a:LI)(b:Int):Option Int:=
j4 a b 0
def Kv:=Iq Ii
def Im(a:LI)(b:Int):Option Bool:=
(Kv a b).bind λf=>
some (Nk f 0)
def Ti(a:Int):Option Bool:=
(Im ([(4:Int),(12:Int),(16:Int),(22:Int),(24:Int),(26:Int),(38:Int)]:LI) a).bind λb=>
some b
def bV(bi:Bool):Option Int:=
if(!bi)then
some 8
else
some 0
def By:=bV
def LV(j22:Bool->Option Int):Option Int:=
j22 ((true==true)&&((geq (0:Int) (0:Int))&&true))
def Ys:=LV By
def KH(j22:Bool->Option Int)(bj:Bool)(bk:Int):Option Int:=
j22 ((bj==true)&&((geq bk 0)&&true))
def Fk:=KH By
def HO(j13:Bool->Int->Option Int)(g ak:LB)(ae af aa ag ab b:Int)(m:Bool)(n:Int)(f:LI)(h:LB):Option Int:=
(Qj ae af aa ag ab g).bind λdm=>
(Am dm).bind λ(dn,am)=>
j13 dn am
def Yi:=HO Fk
def KW(j22:Bool->Option Int)(bl:Bool)(bm:Int):Option Int:=
j22 ((bl==true)&&((geq bm 0)&&true))
def Ks:=KW By
def IB(j25:Bool->Int->Option Int)(g a:LB)(k p o u v b:Int)(m:Bool)(n:Int)(f:LI)(h:LB)(bg:Int):Option Int:=
(Dw k p o u v).bind λ(dp,bh)=>
if(Bc bh 0)then
(Am bh).bind λ(an,bn)=>
j25 an bn
else
(Br a bg (Ac a)).bind λdq=>
(FG dq (Ac dp)).bind λ(dr,aa)=>
if(geq aa 24)then
j25 true 0
else
if(Bc aa 0)then
(Am aa).bind λ(ds,ab)=>
j25 ds ab
else
(Br a (Ad (Ad bg (Bj 4 (Ac dr))) 4) (Ac a)).bind λfc=>
j25 false 0
def Kb:=IB Ks
def IE(j25:Bool->Int->Option Int)(j24:LB->LB->Int->Int->Int->Int->Int->Int->Bool->Int->LI->LB->Int->Option Int)(bd:Bool)(bc:Int)(g a:LB)(k p o u v b:Int)(m:Bool)(n:Int)(f:LI)(h:LB):Option Int:=
if(Bc bc 0)then
(Am bc).bind λ(dt,bh)=>
j25 dt bh
else
if(!bd)then
(Am 26).bind λ(an,bn)=>
j25 an bn
else
j24 g a k p o u v b m n f h 8
def IF:=IE Ks Kb
def HN(j15:Bool->Int->LB->LB->Int->Int->Int->Int->Int->Int->Bool->Int->LI->LB->Option Int)(g a:LB)(k p o u v b:Int)(m:Bool)(n:Int)(f:LI)(h:LB):Option Int:=
(Br a 0 8).bind λdu=>
(Pc du g).bind λ(bd,bc)=>
j15 bd bc g a k p o u v b m n f h
def Yl:=HN IF
def LH(j22:Bool->Option Int)(bp:Bool)(bq:Int):Option Int:=
j22 ((bp==true)&&((geq bq 0)&&true))
def Ie:=LH By
def Zc(j28:Bool->Int->Option Int)(w ah:Int)(g a:LB)(k p o u v b:Int)(m:Bool)(n:Int)(ao:LX)(f:LI)(h:LB):Option Int:=
if(Bc ah 0)then
(Am ah).bind λ(br,bs)=>
j28 br bs
else
(Le o ao).bind λ(bt,be)=>
if(Bc be 0)then
(Am be).bind λ(bu,bv)=>
j28 bu bv
else
(Ee h bt).bind λdv=>
(
(Br a w (Ac a)).bind λdw=>
j28 false 0)
def JI:=Zc Ie
def KP(j27:Int->Int->LB->LB->Int->Int->Int->Int->Int->Int->Bool->Int->LX->LI->LB->Option Int)(w:Int)(g a:LB)(k p o u v b:Int)(m:Bool)(n:Int)(ap:LX)(ad f:LI)(h:LB):Option Int:=
(Ap ad b).bind λ_=>
(Br a 0 w).bind λdx=>
(Ap ad b).bind λdy=>
(CY k p o u v).bind λ(dz,bf)=>
(Jy dz bf ap dy dx).bind λ(ao,ah)=>
j27 w ah g a k p o u v b m n ao f h
def Yn:=KP JI
def BM(j13:Bool->Int->Option Int)(j12:LB->LB->Int->Int->Int->Int->Int->Int->Bool->Int->LI->LB->Option Int)(j25:Bool->Int->Option Int)(j23:LB->LB->Int->Int->Int->Int->Int->Int->Bool->Int->LI->LB->Option Int)(j24:LB->LB->Int->Int->Int->Int->Int->Int->Bool->Int->LI->LB->Int->Option Int)(j28:Bool->Int->Option Int)(j26:Int->LB->LB->Int->Int->Int->Int->Int->Int->Bool->Int->LX->LI->LI->LB->Option Int)(j22:Bool->Option Int)(j21:Option Int)(aq ar:LB)(au av aw ax ay:Int)(az:LI)(ai:Int)(aj:LB)(ac:Bool)(y:Int):Option Int:=
if(Eh (Ac aq) 64)then
some 8
else
if((geq y 0)&&(!ac))then
(Ep aq ar au av aw ax ay az ai aj ac y).bind λ(g,a,k,p,o,u,v,f,b,h,m,n)=>
(AS aq ar au av aw ax ay az ai aj ac y).bind λbw=>
if bw then
if(geq k 0)then
(If a).bind λ(al,ba)=>
if(geq ba 24)then
j13 true 0
else
if(Bc ba 0)then
(Am ba).bind λ(bx,bz)=>
j13 bx bz
else
(Br a al (Ac a)).bind λda=>
(Rr da).bind λan=>
if an then
j13 true 0
else
(Br a al (Ac a)).bind λdb=>
(Lh db).bind λ(ae,af,aa,ag,ab,bb)=>
if(geq bb 24)then
j13 true 0
else
if(Bc bb 0)then
(Am bb).bind λ(dc,dd)=>
j13 dc dd
else
(
(Br a (Ad al 22) (Ac a)).bind λak=>
(
j12 g ak ae af aa ag ab b m n f h))
else
if(geq (Ac f) 0)then
if(geq k 2)then
if(Cv (Ac a) 8)then
j25 true 0
else
j23 g a k p o u v b m n f h
else
j24 g a k p o u v b m n f h 0
else
if(Cv b (Ac f))then
(Ap f b).bind λ_=>
(Ap f b).bind λw=>
if(Cv (Ac a) w)then
j28 true 0
else
(Uf g).bind λ(ap,am)=>
if(Bc am 0)then
(Am am).bind λ(de,df)=>
j28 de df
else
(Dw k p o u v).bind λ(ad,dg)=>
if((Bc dg 0)||(Nk b (Ac ad)))then
(Am 8).bind λ(dh,di)=>
j28 dh di
else
j26 w g a k p o u v b m n ap ad f h
else
if(Eh (Ac a) 4000)then
(Am 38).bind λ(dj,bf)=>
j22 ((dj==true)&&((geq bf 0)&&true))
else
j21
else
j22 false
else
if((geq (Ac ar) 0)&&(geq (Ac az) 0))then
if((((geq au 0)&&((geq av 0)&&((geq aw 0)&&((geq ax 0)&&((geq ay 0)&&true)))))&&(geq ai 0))&&(gle (Ac aj) 12000))then
if(geq y 0)then
j22 true
else
if(!ac)then
(Ti y).bind λdk=>
j22 dk
else
j22 false
else
j22 false
else
if((false&&(geq ai 0))&&(gle (Ac aj) 12000))then
if(geq y 0)then
j22 true
else
if(!ac)then
(Ti y).bind λdl=>
j22 dl
else
j22 false
else
j22 false
def Pg:=BM Fk Yi Ks Yl Kb Ie Yn By Ys
def Tf(f g:LB)(h k m n o:Int)(p:LI)(u:Int)(v:LB)(b:Bool)(a:Int):Option (LB×LB×Int×Int×Int×Int×Int×LI×Int×LB×Bool×Int×Int):=
(Pg f g h k m n o p u v b a).bind λw=>
if(Bc w 0)then
some (([]:LB),([]:LB),0,0,0,0,0,([]:LI),0,([]:LB),false,0,w)
else
if(Bc a 0)then
(
(
(Ep f g h k m n o p u v b a).bind λ(y,aa,ab,ac,ad,ae,af,ag,ah,ai,aj,ak)=>
(
some (y,aa,ab,ac,ad,ae,af,ag,ah,ai,aj,ak,a))))
else
if b then
(Ep f g h k m n o p u v b a).bind λ(al,am,an,ao,ap,aq,ar,au,av,aw,ax,ay)=>
some (al,am,an,ao,ap,aq,ar,au,av,aw,ax,ay,36)
else
(Ep f g h k m n o p u v b a).bind λ(az,ba,bb,bc,bd,be,bf,bg,bh,bi,bj,bk)=>
some (az,ba,bb,bc,bd,be,bf,bg,bh,bi,bj,bk,0)
def VW(b g:LB)(h k m n o:Int)(p:LI)(u:Int)(f:LB)(v:Bool)(w a:Int):Option (LB×LB×Int×Int×Int×Int×Int×LI×Int×LB×Bool×Int×Int):=
some (b,([]:LB),0,0,0,0,0,([]:LI),0,f,false,a,a)
abbrev Au:=Option (LB×LB×Int×Int×Int×Int×Int×LI×Int×LB×Bool×Int×Int)
def OM(WM:LB->Int->Int->Int->Int->Int->Int->LI->LB->Au)(a:LB)(b:Bool)(f:Int)(ar:LB)(au av aw ax ay az:Int)(bh:Bool)(be:Int)(ba:LI)(bb:LB):Au:=
if bh then
(Ep a ar au av aw ax ay ba az bb b f).bind λ(fh,fi,fj,bc,bi,ai,fk,fl,fm,fn,fo,aj)=>
some (fh,fi,fj,bc,bi,ai,fk,fl,fm,fn,fo,aj,0)
else
if(Bc be 0)then
(VW a ar au av aw ax ay ba az bb b f be).bind λ(fp,fq,fs,ft,fu,fv,fw,fx,fy,fz,ga,gb,gc)=>
some (fp,fq,fs,ft,fu,fv,fw,fx,fy,fz,ga,gb,gc)
else
WM ar au av aw ax ay az ba bb
def Cl WM:=OM WM
def fI(j71:LB->Int->Int->Int->Int->Int->Int->Bool->Int->LI->LB->Au)(a:LB)(b:Bool)(f:Int)(g:LB)(m p o u v h:Int)(k:LI)(n:LB):Au:=
j71 g m p o u v h true 0 k n
def AZ WM a b f:=fI (Cl WM a b f) a b f
def gG(j71:LB->Int->Int->Int->Int->Int->Int->Bool->Int->LI->LB->Au)(a:LB)(b:Bool)(f h:Int)(k:LI)(n:LB)(bj:Bool)(bk:Int)(bl:LB)(bm bn bp bq br:Int):Au:=
j71 bl bm bn bp bq br h bj bk k n
def Pn WM a b f:=gG (Cl WM a b f) a b f
def OT(j62:Int->LI->LB->Bool->Int->LB->Int->Int->Int->Int->Int->Au)(a:LB)(b:Bool)(f:Int)(af:LB)(ab ac y ad aa h:Int)(k:LI)(n:LB):Au:=
(Qj ab ac y ad aa a).bind λgd=>
(Am gd).bind λ(ge,ak)=>
j62 h k n ge ak af ab ac y ad aa
def Ux WM a b f:=OT (Pn WM a b f) a b f
def fO(j71:LB->Int->Int->Int->Int->Int->Int->Bool->Int->LI->LB->Au)(a:LB)(b:Bool)(f m p o u v h:Int)(n:LB)(bs:Bool)(bt:Int)(bu:LB)(bv:LI):Au:=
j71 bu m p o u v h bs bt bv n
def Ml WM a b f:=fO (Cl WM a b f) a b f
def PB(j75:Int->Int->Int->Int->Int->Int->LB->Bool->Int->LB->LI->Au)(a:LB)(b:Bool)(f:Int)(g:LB)(m p o u v h:Int)(k:LI)(n:LB)(bf:Int):Au:=
(Dw m p o u v).bind λ(gf,bg)=>
if(Bc bg 0)then
(Am bg).bind λ(al,bw)=>
j75 m p o u v h n al bw g k
else
(Br g bf (Ac g)).bind λgg=>
(FG gg (Ac gf)).bind λ(dw,y)=>
if(geq y 24)then
j75 m p o u v h n true 0 g k
else
if(Bc y 0)then
(Am y).bind λ(gh,aa)=>
j75 m p o u v h n gh aa g k
else
(Br g (Ad (Ad bf (Bj 4 (Ac dw))) 4) (Ac g)).bind λgi=>
j75 m p o u v h n false 0 gi dw
def Mm WM a b f:=PB (Ml WM a b f) a b f
def NJ(j75:Int->Int->Int->Int->Int->Int->LB->Bool->Int->LB->LI->Au)(j74:LB->Int->Int->Int->Int->Int->Int->LI->LB->Int->Au)(a:LB)(b:Bool)(f:Int)(bd:Bool)(aq:Int)(g:LB)(m p o u v h:Int)(k:LI)(n:LB):Au:=
if(Bc aq 0)then
(Am aq).bind λ(gj,bg)=>
j75 m p o u v h n gj bg g k
else
if(!bd)then
(Am 26).bind λ(al,bw)=>
j75 m p o u v h n al bw g k
else
j74 g m p o u v h k n 8
def NW WM a b f:=NJ (Ml WM a b f) (Mm WM a b f) a b f
def NV(j64:Bool->Int->LB->Int->Int->Int->Int->Int->Int->LI->LB->Au)(a:LB)(b:Bool)(f:Int)(g:LB)(m p o u v h:Int)(k:LI)(n:LB):Au:=
(Br g 0 8).bind λgk=>
(Pc gk a).bind λ(bd,aq)=>
j64 bd aq g m p o u v h k n
def Ur WM a b f:=NV (NW WM a b f) a b f
def fT(j71:LB->Int->Int->Int->Int->Int->Int->Bool->Int->LI->LB->Au)(a:LB)(b:Bool)(f m p o u v:Int)(k:LI)(bx:Bool)(bz:Int)(da:LB)(db:Int)(dc:LB):Au:=
j71 da m p o u v db bx bz k dc
def Pm WM a b f:=fT (Cl WM a b f) a b f
def BO(j78:Int->Int->Int->Int->Int->LI->Bool->Int->LB->Int->LB->Au)(a:LB)(b:Bool)(f w ag:Int)(g:LB)(m p o u v h:Int)(am:LX)(k:LI)(n:LB):Au:=
if(Bc ag 0)then
(Am ag).bind λ(dd,de)=>
j78 m p o u v k dd de g h n
else
(Le o am).bind λ(df,aj)=>
if(Bc aj 0)then
(Am aj).bind λ(dg,dh)=>
j78 m p o u v k dg dh g h n
else
(Ee n df).bind λdi=>
(
(Br g w (Ac g)).bind λdj=>
j78 m p o u v k false 0 dj (Ad h 1) di)
def PD WM a b f:=BO (Pm WM a b f) a b f
def OZ(j77:Int->Int->LB->Int->Int->Int->Int->Int->Int->LX->LI->LB->Au)(a:LB)(b:Bool)(f w:Int)(g:LB)(m p o u v h:Int)(an:LX)(ae k:LI)(n:LB):Au:=
(Ap ae h).bind λ_=>
(Br g 0 w).bind λgl=>
(Ap ae h).bind λgm=>
(CY m p o u v).bind λ(bi,ai)=>
(Jy bi ai an gm gl).bind λ(am,ag)=>
j77 w ag g m p o u v h am k n
def Up WM a b f:=OZ (PD WM a b f) a b f
def Jm(j62:Int->LI->LB->Bool->Int->LB->Int->Int->Int->Int->Int->Au)(j61:LB->Int->Int->Int->Int->Int->Int->LI->LB->Au)(j75:Int->Int->Int->Int->Int->Int->LB->Bool->Int->LB->LI->Au)(j73:LB->Int->Int->Int->Int->Int->Int->LI->LB->Au)(j74:LB->Int->Int->Int->Int->Int->Int->LI->LB->Int->Au)(j78:Int->Int->Int->Int->Int->LI->Bool->Int->LB->Int->LB->Au)(j76:Int->LB->Int->Int->Int->Int->Int->Int->LX->LI->LI->LB->Au)(j71:LB->Int->Int->Int->Int->Int->Int->Bool->Int->LI->LB->Au)(j70:LB->Int->Int->Int->Int->Int->Int->LI->LB->Au)(a:LB)(b:Bool)(f:Int)(g:LB)(m p o u v h:Int)(k:LI)(n:LB):Au:=
if(geq m 0)then
(If g).bind λ(ah,ao)=>
if(geq ao 24)then
j62 h k n true 0 g m p o u v
else
if(Bc ao 0)then
(Am ao).bind λ(dk,dl)=>
j62 h k n dk dl g m p o u v
else
(Br g ah (Ac g)).bind λdm=>
(Rr dm).bind λal=>
if al then
j62 h k n true 0 g m p o u v
else
(Br g ah (Ac g)).bind λdn=>
(Lh dn).bind λ(ab,ac,y,ad,aa,ap)=>
if(geq ap 24)then
j62 h k n true 0 g m p o u v
else
if(Bc ap 0)then
(Am ap).bind λ(dp,dq)=>
j62 h k n dp dq g m p o u v
else
(
(Br g (Ad ah 22) (Ac g)).bind λaf=>
(
j61 af ab ac y ad aa h k n))
else
if(geq (Ac k) 0)then
if(geq m 2)then
if(Cv (Ac g) 8)then
j75 m p o u v h n true 0 g k
else
j73 g m p o u v h k n
else
j74 g m p o u v h k n 0
else
if(Cv h (Ac k))then
(Ap k h).bind λ_=>
(Ap k h).bind λw=>
if(Cv (Ac g) w)then
j78 m p o u v k true 0 g h n
else
(Uf a).bind λ(an,ak)=>
if(Bc ak 0)then
(Am ak).bind λ(dr,ds)=>
j78 m p o u v k dr ds g h n
else
(Dw m p o u v).bind λ(ae,dt)=>
if((Bc dt 0)||(Nk h (Ac ae)))then
(Am 8).bind λ(du,bc)=>
j78 m p o u v k du bc g h n
else
j76 w g m p o u v h an ae k n
else
if(Eh (Ac g) 4000)then
(Am 38).bind λ(dv,ai)=>
j71 g m p o u v h dv ai k n
else
j70 g m p o u v h k n
def Bb(a:LB)(b:Bool)(f:Int):Nat->LB->Int->Int->Int->Int->Int->Int->LI->LB->Au
|0,_,_,_,_,_,_,_,_,_=>none
|q+1,g,m,p,o,u,v,h,k,n=>Jm (Pn (Bb a b f q) a b f) (Ux (Bb a b f q) a b f) (Ml (Bb a b f q) a b f) (Ur (Bb a b f q) a b f) (Mm (Bb a b f q) a b f) (Pm (Bb a b f q) a b f) (Up (Bb a b f q) a b f) (Cl (Bb a b f q) a b f) (AZ (Bb a b f q) a b f) a b f g m p o u v h k n
def eS a b f:=Bb a b f Ax
def Ww(j37:LB->Bool->Int->LB->Int->Int->Int->Int->Int->Int->LI->LB->Au)(gn go:LB)(gp gq gr gs gt:Int)(gu:LI)(gv:Int)(gw:LB)(gx:Bool)(gy:Int)(gz:LB):Au:=
(Tf gn go gp gq gr gs gt gu gv gw gx gy).bind λ(a,dx,dy,dz,fa,fb,fc,fd,fe,ff,b,f,fg)=>
if(Bc fg 0)then
some (a,dx,dy,dz,fa,fb,fc,fd,fe,ff,b,f,fg)
else
(Ee dx gz).bind λha=>
j37 a b f ha dy dz fa fb fc fe fd ff
def Jz:=Ww eS
abbrev uR:=Option (Int×Int)
def Abg(a:LB):uR:=
(Br a (Ao (Ac a) 32) (Ac a)).bind λg=>
(WO g 0).bind λ(f,y,h)=>
if h then
if(Cv (Ao (Ac a) 32) f)then
some (0,24)
else
some ((Ad f 32),0)
else
(Br a (Ao (Ac a) 32) (Ac a)).bind λk=>
(WO k 2147483648).bind λ(b,m,n)=>
if(!n)then
some (0,12)
else
if(Cv (Ac a) (Ad b 64))then
some (0,24)
else
(Br a (Ao (Ac a) (Ad b 64)) (Ad (Ao (Ac a) (Ad b 64)) 32)).bind λo=>
(qI b m 2684354560).bind λp=>
(Ig o p).bind λu=>
if(!u)then
some (0,12)
else
some ((Ad b 64),0)
def oR:=Abg
def pA(j2:LB->uR)(a:LB):uR:=
if(Cv (Ao (Ac a) 32) 0)then
some (0,6)
else
(Br a (Ao (Ac a) 32) (Ac a)).bind λv=>
(Oa v ([(65:UInt8),(80:UInt8),(69:UInt8),(84:UInt8),(65:UInt8),(71:UInt8),(69:UInt8),(88:UInt8)]:LB)).bind λw=>
if(!w)then
some (0,6)
else
j2 a
def xI:=pA oR
abbrev Hc:=Option (Int×Int)
def yG(a:Int):Hc:=
some (a,0)
def eA:=yG
def gC(bk8:Int->LB->Hc)(a:Int)(g:LB):Hc:=
bk8 (Ad a 1) g
def OR bk8:=gC bk8
def OG(j12:Int->LB->Hc)(a f:Int)(b:LB):Hc:=
if(geq f 0)then
some (0,38)
else
(Br b 0 (Ao (Ac b) f)).bind λg=>
j12 a g
def NR bk8:=OG (OR bk8)
def UG(j11:Int->Int->LB->Hc)(j14:Int->Hc)(a:Int)(b:LB):Hc:=
if(Eh (Ac b) 0)then
(xI b).bind λ(f,k)=>
j11 a f b
else
j14 a
def Wy:Nat->Int->LB->Hc
|0,_,_=>none
|q+1,a,b=>UG (NR (Wy q)) eA a b
def kN:=Wy Ax
def TO(j8:Int->LB->Hc)(h:LB):Hc:=
if(Eh (Ac h) 4000)then
some (0,38)
else
j8 0 h
def LR:=TO kN
def KU(p a:LB)(g u v w y:Int)(b:LI)(h:Int)(aa:LB)(ab:Bool)(ac:Int):Option Int:=
if(geq g 0)then
(If a).bind λ(k,f)=>
if(Bc f 0)then
some f
else
(Br a k (Ac a)).bind λm=>
(Lh m).bind λ(ad,ae,af,ag,ah,n)=>
some n
else
if((Cv h (Ac b))||(geq (Ac b) 0))then
some 24
else
(LR a).bind λ(ai,o)=>
some o
def Hk(aa ab:LB)(ac ad ae af ag:Int)(ah:LI)(ai:Int)(aj:LB)(ak:Bool)(al:Int):Option (LB×LB×Int×Int×Int×Int×Int×LI×Int×LB×Bool×Int×Int):=
(Tf aa ab ac ad ae af ag ah ai aj ak al).bind λ(a,f,g,h,k,m,n,o,p,b,u,v,w)=>
if(Bc w 0)then
some (a,f,g,h,k,m,n,o,p,b,u,v,w)
else
(KU a f g h k m n o p b u v).bind λy=>
if(Bc y 0)then
(VW a f g h k m n o p b u v y).bind λ(am,an,ao,ap,aq,ar,au,av,aw,ax,ay,az,ba)=>
some (am,an,ao,ap,aq,ar,au,av,aw,ax,ay,az,ba)
else
some (a,([]:LB),0,0,0,0,0,([]:LI),0,b,true,0,0)
def Mv(p u:LB):Option (Int×Int×Int×LX×Int):=
(bM u).bind λ(v,w,y,aa,ab,ac,ad,ae,af,ag,ah,ai,g)=>
if(Bc g 0)then
some (0,0,0,([]:LX),g)
else
(Jz v w y aa ab ac ad ae af ag ah ai p).bind λ(aj,ak,h,b,a,f,k,al,am,an,ao,ap,m)=>
if(Bc m 0)then
some (0,0,0,([]:LX),m)
else
(Hk aj ak h b a f k al am an ao ap).bind λ(au,av,aw,ax,ay,az,ba,bb,bc,aq,bd,be,n)=>
if(Bc n 0)then
some (0,0,0,([]:LX),n)
else
if((geq h 0)&&((geq b 0)&&((geq a 0)&&((geq f 0)&&((geq k 0)&&true)))))then
some (0,0,0,([]:LX),24)
else
(Xj a aq).bind λ(ar,o)=>
if(Bc o 0)then
some (0,0,0,([]:LX),o)
else
some (b,a,f,ar,0)
def nU:Option Bool:=
some true
def RM:=nU
def Rs(j6:Option Bool)(Tn:Int->Option Bool)(a b:LX)(f:Int):Option Bool:=
if(Cv f (Ac a))then
(Ap a f).bind λg=>
(Ap b f).bind λh=>
if(Bc g h)then
some false
else
Tn (Ad f 1)
else
j6
def Jh(a b:LX):Nat->Int->Option Bool
|0,_=>none
|q+1,f=>Rs RM (Jh a b q) a b f
def RP a b:=Jh a b Ax
def Zy(j4:LX->LX->Int->Option Bool)(a b:LX):Option Bool:=
if(Bc (Ac a) (Ac b))then
some false
else
j4 a b 0
def Zb:=Zy RP
def Sj(a b f:Int)(g:LX)(h k m:Int)(n:LX):Option Bool:=
if(((geq a h)&&(geq b k))&&(geq f m))then
(Zb g n).bind λo=>
some o
else
some false
def Wi:Option Bool:=
(NX).bind λ(f,g,h,k)=>
(Zz f g h k ([]:LB)).bind λ(a,m)=>
(Mv a ([]:LB)).bind λ(n,o,p,u,v)=>
(Mv a ([120]:LB)).bind λ(ad,ae,af,ag,b)=>
if(((geq m 0)&&(geq (Ac a) 36))&&(geq v 0))then
(NX).bind λ(w,y,aa,ab)=>
(Sj n o p u w y aa ab).bind λac=>
some (ac&&(geq b 26))
else
some (false&&(geq b 26))
def Iv(a b f:Int)(g:LX):Option (Int×Int):=
some (a,b)
def Kr(a:Int):Option Int:=
if(geq a 8)then
some 128
else
if(geq a 16)then
some 32768
else
if(geq a 24)then
some 8388608
else
some 0
def Dr(a b:Int):Option Int:=
if((Cv a 1)||(Eh a 6))then
some 2
else
(Kr b).bind λf=>
if(geq f 0)then
some 2
else
some 0
def lY:Option Int:=
some 0
def MM:=lY
def Cu(j6:Option Int)(Tn:Int->Option Int)(a:LX)(b f:Int):Option Int:=
if(Cv f (Ac a))then
(Ap a f).bind λg=>
if(Cv (Af g:Int) (wC b))then
some 16
else
(Ap a f).bind λh=>
if(Nk (Af h:Int) b)then
some 16
else
Tn (Ad f 1)
else
j6
def Az(a:LX)(b:Int):Nat->Int->Option Int
|0,_=>none
|q+1,f=>Cu MM (Az a b q) a b f
def MV a b:=Az a b Ax
def Dn(j4:LX->Int->Int->Option Int)(k:Int)(a:LX):Option Int:=
(Kr k).bind λb=>
if(geq b 0)then
some 2
else
if(Eh (Ac a) 4000)then
some 4
else
j4 a b 0
def Ay:=Dn MV
def Cx(b f:Int)(a:LX):Option Int:=
(Dr b f).bind λg=>
if(Bc g 0)then
some 2
else
(Ay f a).bind λh=>
if(Bc h 0)then
(Ay f a).bind λk=>
some k
else
if(Cv (Ac a) 1)then
some 2
else
(Kx (Bc b 0)).bind λ_=>
if(Eh (Gw (Ac a) b) 0)then
some 2
else
some 0
def Ec(a f b:Int):Option Int:=
(Dr a f).bind λg=>
if((Bc g 0)||(Cv b 1))then
some 2
else
(Kx (Bc a 0)).bind λ_=>
if(Eh b (Bw 4000 a))then
some 2
else
some 0
def Rz(a:Int):Option (Int×Int):=
if((Cv a 1)||(Eh a 1048576))then
some (0,2)
else
if(geq (Bw (Bj a 256) 245) 0)then
some (1,0)
else
some ((Bw (Bj a 256) 245),0)
abbrev Ja:=Option (LI×Int)
def UP(a:LI):Ja:=
if(Eh (Ac a) 1000)then
some (([]:LI),4)
else
some (a,0)
def BW:=UP
def To(j6:LI->Ja)(Tn:Int->LI->Ja)(b f:Int)(a:LI):Ja:=
if(Eh f 0)then
(Ee a ([(Fo f b)]:LI)).bind λh=>
Tn (Ao f (Fo f b)) h
else
j6 a
def Lc(b:Int):Nat->Int->LI->Ja
|0,_,_=>none
|q+1,f,a=>To BW (Lc b q) b f a
def CJ b:=Lc b Ax
def Ua(j4:Int->Int->LI->Ja)(k g:Int):Ja:=
(Rz k).bind λ(b,m)=>
if(((Bc m 0)||(Cv g 1))||(Eh g 4000))then
some (([]:LI),2)
else
j4 b g ([]:LI)
def AV:=Ua CJ
def Mj(a b:Int):Option (Int×Int):=
(AV a b).bind λ(f,g)=>
some ((Ac f),g)
def IJ(f g a:Int)(h:LX)(b:Int):Option Bool:=
(Iv f g a h).bind λ(k,m)=>
(Ec k m b).bind λn=>
if(Bc n 0)then
some false
else
(Mj a b).bind λ(p,o)=>
some (geq o 0)
def Dq(a f g:Int)(b:LX):Option Int:=
(Iv a f g b).bind λ(h,k)=>
(Cx h k b).bind λm=>
if(Bc m 0)then
some 8
else
(Kx (Bc a 0)).bind λ_=>
(IJ a f g b (Bw (Ac b) a)).bind λn=>
if(!n)then
some 8
else
some 0
def Yy(a b:LB)(f:Bool)(h k:UInt64)(g:LB):Option Bool:=
(Mv g b).bind λ(ah,ai,aj,ak,u)=>
if((Bc h k)||((a==([]:LB)) !=(b==([]:LB))))then
some (f&&(geq u 26))
else
some (f&&(geq u 0))
def Ou:=Yy
def Oz(j2:LB->LB->Bool->UInt64->UInt64->LB->Option Bool)(n o p:Int)(m:LX)(a b:LB):Option Bool:=
(Wi).bind λf=>
(Dq n o p m).bind λv=>
if(((((Bc v 0)||(Eh (Ac m) 400))||(Eh (Ac a) 64))||(Eh (Ac b) 64))||(!f))then
some f
else
(Zz n o p m a).bind λ(g,w)=>
(Mv g a).bind λ(y,aa,ab,ac,ad)=>
(NY a).bind λ(h,ae)=>
(NY b).bind λ(k,af)=>
if((((Bc w 0)||(Bc ad 0))||(Bc ae 0))||(Bc af 0))then
some false
else
(Sj n o p m y aa ab ac).bind λag=>
if(!ag)then
some false
else
j2 a b f h k g
def Ms:=Oz Ou
def Ky(f g b a h:Int):Option Bool:=
if((((geq f 1)||(geq f 2))&&(Nk g 1))&&(gle g 6))then
some ((((((geq b 8)||(geq b 16))||(geq b 24))&&(Nk a 1))&&(gle a 1048576))&&(Nk h 1))
else
some (((false&&(Nk a 1))&&(gle a 1048576))&&(Nk h 1))
def Yt(a:Int):Option Int:=
some (rO 1 (Bw (Bj 256 a) 245))
def Qs(a:LI):Option (LI):=
some a
def Qr:=Qs
def Lw(j6:LI->Option (LI))(Tn:Int->LI->Option (LI))(b f:Int)(a:LI):Option (LI):=
if(Eh f 0)then
(Yt b).bind λg=>
(Ee a ([(Fo f g)]:LI)).bind λh=>
(Yt b).bind λk=>
Tn (Ao f k) h
else
j6 a
def Gh(b:Int):Nat->Int->LI->Option (LI)
|0,_,_=>none
|q+1,f,a=>Lw Qr (Gh b q) b f a
def NC b:=Gh b Ax
def ND(j4:Int->Int->LI->Option (LI))(b m:Int):Option (LI):=
j4 b m ([]:LI)
def Fw:=ND NC
def Yz(h a k f b:Int):Option Bool:=
(
(Kx (Bc a 0)).bind λ_=>
(
if(Eh b (Bw 4000 a))then
some true
else
(Fw f b).bind λg=>
some (Eh (Ac g) 1000)))
def Mh(a b f g h:Int):Option Int:=
(Ky a b f g h).bind λk=>
if(!k)then
some 8
else
(Yz a b f g h).bind λm=>
if m then
some 8
else
some 0
def Eu(a f g h k:Int)(b:LB):Option Int:=
if((b==([]:LB)) !=(geq a 1))then
some 26
else
some 0
def HV(b:Int):Option Int:=
if(Eh b 100000)then
some 8
else
some 0
def KL:=HV
def NF(bk6:Int->Int->Option Int)(a:LI)(b f:Int):Option Int:=
(Ap a f).bind λg=>
bk6 (Ad b g) (Ad f 1)
def MN bk6:=NF bk6
def Xz(j8:Int->Int->Option Int)(j10:Int->Option Int)(a:LI)(b f:Int):Option Int:=
if(Cv f (Ac a))then
(Ap a f).bind λh=>
if(Cv h 5)then
some 8
else
(Ap a f).bind λk=>
if(Eh k 100000)then
some 8
else
j8 b f
else
j10 b
def Mb(a:LI):Nat->Int->Int->Option Int
|0,_,_=>none
|q+1,b,f=>Xz (MN (Mb a q) a) KL a b f
def MT a:=Mb a Ax
def Xt(j6:LI->Int->Int->Option Int)(a:LI):Option Int:=
if((Cv (Ac a) 1)||(Eh (Ac a) 1000))then
some 8
else
j6 a 0 0
def Iw:=Xt MT
def Hh(g h k a b:Int):Option (LI):=
(Fw a b).bind λf=>
some f
def Fy(f a b g h:Int):Option (Int×Int):=
some (a,b)
def UW(a b:Int):Option Int:=
some (Bw (Bj a b) 8)
def SY(k a b f g h:Int):Option Int:=
(Fy a b f g h).bind λ(p,u)=>
(UW p u).bind λv=>
some (Bj k v)
def RJ:=SY
def AP(j6:Int->Int->Int->Int->Int->Int->Option Int)(Tn:Int->Int->Option Int)(n a b f g h:Int)(m:LI)(k o:Int):Option Int:=
if(Cv o n)then
(Ap m o).bind λ_=>
(Ap m o).bind λw=>
Tn (Ad k w) (Ad o 1)
else
j6 k a b f g h
def Ng(n a b f g h:Int)(m:LI):Nat->Int->Int->Option Int
|0,_,_=>none
|q+1,k,o=>AP RJ (Ng n a b f g h m q) n a b f g h m k o
def nC n a b f g h m:=Ng n a b f g h m Ax
def RL(j4:Int->Int->Int->Int->Int->Int->LI->Int->Int->Option Int)(a b f g h n:Int):Option Int:=
(Hh a b f g h).bind λm=>
j4 n a b f g h m 0 0
def Yo:=RL nC
abbrev Hl:=Option (Int×Int)
def lZ(a:Int):Hl:=
some (a,0)
def lM:=lZ
def Xn(j6:Int->Hl)(Tn:Int->Int->Hl)(b:LB)(a f:Int):Hl:=
if(Cv f 4)then
(Ap b f).bind λg=>
if(Nk g 128)then
some (0,12)
else
(Ap b f).bind λh=>
Tn (Ad (Bj 128 a) (Af h:Int)) (Ad f 1)
else
j6 a
def Ma(b:LB):Nat->Int->Int->Hl
|0,_,_=>none
|q+1,a,f=>Xn lM (Ma b q) b a f
def MR b:=Ma b Ax
def MP(j4:LB->Int->Int->Hl)(b:LB):Hl:=
if(Bc (Ac b) 4)then
some (0,2)
else
j4 b 0 0
def EX:=MP MR
abbrev Hy:=Option (Int×Int)
def SS(a:LB)(g:Int):Hy:=
if(Eh g 4000)then
some (0,4)
else
if(Cv (Ac a) g)then
some (0,24)
else
(Ap a 5).bind λh=>
if(geq h 16)then
(Br a (Ao g 10) g).bind λk=>
(Br a 3 10).bind λm=>
(Ee ([51,68,73]:LB) m).bind λn=>
if(k !=n)then
some (0,12)
else
some (g,0)
else
some (g,0)
def Zt:=SS
def RX(j6:LB->Int->Hy)(a:LB)(b:Int):Hy:=
(Ap a 5).bind λo=>
if(geq o 16)then
j6 a (Ad (Ad 10 b) 10)
else
j6 a (Ad 10 b)
def Zg:=RX Zt
def SO(j5:LB->Int->Hy)(a:LB):Hy:=
if(Cv (Ac a) 10)then
some (0,24)
else
(Br a 6 10).bind λp=>
(EX p).bind λ(b,f)=>
(Ap a 3).bind λu=>
if(Cv u 2)then
if true then
if true then
if(true||(Bc f 0))then
some (0,12)
else
j5 a b
else
(Ap a 5).bind λv=>
if(Bc v 0)then
(Ap a 5).bind λw=>
if(Bc w 16)then
if(true||(Bc f 0))then
some (0,12)
else
j5 a b
else
(Ap a 3).bind λy=>
if((Bc y 4)||(Bc f 0))then
some (0,12)
else
j5 a b
else
if(false||(Bc f 0))then
some (0,12)
else
j5 a b
else
(Ap a 4).bind λaa=>
if(Bc aa 0)then
if(true||(Bc f 0))then
some (0,12)
else
j5 a b
else
(Ap a 5).bind λab=>
if(Bc ab 0)then
(Ap a 5).bind λac=>
if(Bc ac 16)then
if(true||(Bc f 0))then
some (0,12)
else
j5 a b
else
(Ap a 3).bind λad=>
if((Bc ad 4)||(Bc f 0))then
some (0,12)
else
j5 a b
else
if(false||(Bc f 0))then
some (0,12)
else
j5 a b
else
(Ap a 3).bind λae=>
if(Eh ae 4)then
if true then
if(true||(Bc f 0))then
some (0,12)
else
j5 a b
else
(Ap a 5).bind λaf=>
if(Bc af 0)then
(Ap a 5).bind λag=>
if(Bc ag 16)then
if(true||(Bc f 0))then
some (0,12)
else
j5 a b
else
(Ap a 3).bind λah=>
if((Bc ah 4)||(Bc f 0))then
some (0,12)
else
j5 a b
else
if(false||(Bc f 0))then
some (0,12)
else
j5 a b
else
(Ap a 4).bind λai=>
if(Bc ai 0)then
if(true||(Bc f 0))then
some (0,12)
else
j5 a b
else
(Ap a 5).bind λaj=>
if(Bc aj 0)then
(Ap a 5).bind λak=>
if(Bc ak 16)then
if(true||(Bc f 0))then
some (0,12)
else
j5 a b
else
(Ap a 3).bind λal=>
if((Bc al 4)||(Bc f 0))then
some (0,12)
else
j5 a b
else
if(false||(Bc f 0))then
some (0,12)
else
j5 a b
def SH:=SO Zg
def QM(j4:LB->Hy)(a:LB):Hy:=
if(Cv (Ac a) 3)then
some (0,6)
else
(Br a 0 3).bind λam=>
if(am !=([73,68,51]:LB))then
some (0,6)
else
j4 a
def JS:=QM SH
def aF(a:UInt64):Option UInt64:=
some a
def YN:=aF
def EN(j6:UInt64->Option UInt64)(Tn:UInt64->Int->Option UInt64)(b:LB)(a:UInt64)(f:Int):Option UInt64:=
if(Nk f 0)then
(Ap b f).bind λg=>
Tn (Ad (Bj 256 a) (Af g:UInt64)) (Ao f 1)
else
j6 a
def Qe(b:LB):Nat->UInt64->Int->Option UInt64
|0,_,_=>none
|q+1,a,f=>EN YN (Qe b q) b a f
def WV b:=Qe b Ax
def aH(j4:LB->UInt64->Int->Option UInt64)(b:LB):Option UInt64:=
j4 b 0 (Ao (Ac b) 1)
def El:=aH WV
def Ym(b:LB):Option (Int×Int×Bool):=
(Br b 12 16).bind λg=>
(El g).bind λa=>
(Br b 16 20).bind λh=>
(El h).bind λf=>
if(((Cv a 32)||(Eh a 3032))||(Eh f 1000))then
some (0,0,false)
else
some ((Ao (Af a:Int) 32),(Af f:Int),true)
def FU(a:LB):Option (LB):=
some a
def FL:=FU
def Us(j6:LB->Option (LB))(Tn:UInt64->Int->LB->Option (LB))(b:Int)(f:UInt64)(g:Int)(a:LB):Option (LB):=
if(Cv g b)then
(Ee a ([(Af (GY f 256):UInt8)]:LB)).bind λh=>
Tn (Bw f 256) (Ad g 1) h
else
j6 a
def Jg(b:Int):Nat->UInt64->Int->LB->Option (LB)
|0,_,_,_=>none
|q+1,f,g,a=>Us FL (Jg b q) b f g a
def GF b:=Jg b Ax
def GK(j4:Int->UInt64->Int->LB->Option (LB))(k:UInt64)(b:Int):Option (LB):=
j4 b k 0 ([]:LB)
def Fq:=GK GF
def Ul(a b:Int)(f:UInt64):Option (LB):=
(Fq 2000 4).bind λg=>
(Ee ([(65:UInt8),(80:UInt8),(69:UInt8),(84:UInt8),(65:UInt8),(71:UInt8),(69:UInt8),(88:UInt8)]:LB) g).bind λh=>
(Fq (Af (Ad a 32):UInt64) 4).bind λk=>
(Ee h k).bind λm=>
(Fq (Af b:UInt64) 4).bind λn=>
(Ee m n).bind λo=>
(Fq f 4).bind λp=>
(Ee o p).bind λu=>
(mkI (8:Int) (0:UInt8)).bind λv=>
(Ee u v).bind λw=>
some w
def Yk(a b:Int):Option (LB):=
(Ul a b 2684354560).bind λf=>
some f
def Nn(a b:Int)(f:Bool):Option (LB):=
if f then
(Ul a b 2147483648).bind λg=>
some g
else
(Ul a b 0).bind λh=>
some h
abbrev Nb:=Option (Int×Int)
def MO(a:LB)(b f:Int):Nb:=
if(Cv (Ac a) (Ad 64 b))then
some (0,24)
else
(Br a (Ao (Ad 64 b) 32) (Ad 64 b)).bind λg=>
(Nn b f true).bind λh=>
if(g !=h)then
some (0,12)
else
some ((Ad 64 b),0)
def MZ:=MO
def ME(j4:LB->Int->Int->Nb)(a:LB):Nb:=
if(Cv (Ac a) 32)then
some (0,24)
else
(Br a 0 32).bind λk=>
(Ym k).bind λ(b,f,m)=>
if(!m)then
some (0,12)
else
(Br a 0 32).bind λn=>
(Yk b f).bind λo=>
if(n !=o)then
some (0,12)
else
j4 a b f
def MC:=ME MZ
def NB(j3:LB->Nb)(a:LB):Nb:=
if(Cv (Ac a) 8)then
some (0,6)
else
(Br a 0 8).bind λp=>
if(p !=([65,80,69,84,65,71,69,88]:LB))then
some (0,6)
else
j3 a
def EP:=NB MC
abbrev Hi:=Option (LI×Int)
def MK(bk6:Int->LI->Hi)(a:LB)(b:Int)(f:LI)(g h:Int):Hi:=
if(geq h 6)then
some (f,0)
else
if(Bc h 0)then
some (([]:LI),h)
else
if(Eh (Ad b g) 4000)then
some (([]:LI),4)
else
(Ee f ([g]:LI)).bind λm=>
bk6 (Ad b g) m
def Qo bk6:=MK bk6
def Xq(j9:Int->LI->Int->Int->Hi)(a:LB)(b:Int)(f:LI):Hi:=
(Br a b (Ac a)).bind λn=>
(JS n).bind λ(o,k)=>
if(geq k 6)then
(Br a b (Ac a)).bind λp=>
(EP p).bind λ(u,v)=>
j9 b f u v
else
j9 b f o k
def Qu(a:LB):Nat->Int->LI->Hi
|0,_,_=>none
|q+1,b,f=>Xq (Qo (Qu a q) a) a b f
def lJ a:=Qu a Ax
def lN(j6:LB->Int->LI->Hi)(a:LB):Hi:=
j6 a 0 ([]:LI)
def YJ:=lN lJ
abbrev Gz:=Option (Int×Int)
def MF(a b:Int):Gz:=
some (b,a)
def MW:=MF
def Xs(j6:Int->Int->Gz)(Tn:Int->Int->Gz)(a:Int)(f:LI)(b g:Int):Gz:=
if(Cv g (Ac f))then
(Ap f g).bind λ_=>
(Ap f g).bind λh=>
Tn (Ad b h) (Ad g 1)
else
j6 a b
def Lt(a:Int)(f:LI):Nat->Int->Int->Gz
|0,_,_=>none
|q+1,b,g=>Xs MW (Lt a f q) a f b g
def Xm a f:=Lt a f Ax
def NH(j4:Int->LI->Int->Int->Gz)(k:LB):Gz:=
(YJ k).bind λ(f,a)=>
j4 a f 0 0
def Me:=NH Xm
def Ub(a b:LB):Option Bool:=
if(Cv (Ac a) (Ac b))then
(Br b 0 (Ac a)).bind λf=>
some (a==f)
else
some false
def QV(a:UInt32)(b:Bool):Option UInt32:=
if b then
some (AH (Bw a 2) 3988292384)
else
some (Bw a 2)
def RN:=QV
def SK(j2:UInt32->Bool->Option UInt32)(a:UInt32)(f:Int):Option UInt32:=
if(geq f 1)then
j2 a (!(geq (GY a 2) 1))
else
j2 a (geq (GY a 2) 1)
def HD:=SK RN
def QE(a:UInt32):Option UInt32:=
some a
def SD:=QE
def Zs(j6:UInt32->Option UInt32)(Tn:UInt32->UInt8->Int->Option UInt32)(a:UInt32)(b:UInt8)(f:Int):Option UInt32:=
if(Cv f 8)then
(HD a (Af (GY b 2):Int)).bind λg=>
Tn g (Bw b 2) (Ad f 1)
else
j6 a
def Nj:Nat->UInt32->UInt8->Int->Option UInt32
|0,_,_,_=>none
|q+1,a,b,f=>Zs SD (Nj q) a b f
def mN:=Nj Ax
def nH(j4:UInt32->UInt8->Int->Option UInt32)(h:UInt32)(k:UInt8):Option UInt32:=
j4 h k 0
def aU:=nH mN
def KZ(a:UInt32):Option UInt32:=
some a
def KQ:=KZ
def Vp(j6:UInt32->Option UInt32)(Tn:UInt32->Int->Option UInt32)(b:LB)(a:UInt32)(f:Int):Option UInt32:=
if(Cv f (Ac b))then
(Ap b f).bind λg=>
(aU a g).bind λh=>
Tn h (Ad f 1)
else
j6 a
def Km(b:LB):Nat->UInt32->Int->Option UInt32
|0,_,_=>none
|q+1,a,f=>Vp KQ (Km b q) b a f
def LK b:=Km b Ax
def KT(j4:LB->UInt32->Int->Option UInt32)(k:UInt32)(b:LB):Option UInt32:=
j4 b k 0
def VF:=KT LK
def Wr(a:LB):Option UInt32:=
(VF 4294967295 a).bind λb=>
some (Ao 4294967295 b)
abbrev Hz:=Option (Int×Int×Int×Int×Int×Int)
def QR(k h g f b:UInt64):Hz:=
(Ky (Af k:Int) (Af h:Int) (Af g:Int) (Af f:Int) (Af b:Int)).bind λv=>
if(!v)then
some (0,0,0,0,0,12)
else
(Yz (Af k:Int) (Af h:Int) (Af g:Int) (Af f:Int) (Af b:Int)).bind λw=>
if w then
some (0,0,0,0,0,4)
else
some ((Af k:Int),(Af h:Int),(Af g:Int),(Af f:Int),(Af b:Int),0)
def QI:=QR
def SX(j6:UInt64->UInt64->UInt64->UInt64->UInt64->Hz)(a:LB):Hz:=
(Br a 4 6).bind λu=>
(Br a 6 8).bind λp=>
(Br a 8 10).bind λo=>
(Br a 10 14).bind λn=>
(Br a 14 18).bind λm=>
(
(El u).bind λk=>
(
(El p).bind λh=>
(
(El o).bind λg=>
(
(El n).bind λf=>
(
(El m).bind λb=>
(
j6 k h g f b))))))
def QT:=SX QI
def QX(j5:LB->Hz)(a:LB):Hz:=
if(Cv (Ac a) 22)then
some (0,0,0,0,0,24)
else
(Br a 18 22).bind λy=>
(Br a 0 18).bind λaa=>
(El y).bind λab=>
(Wr aa).bind λac=>
if(Bc ab (Af ac:UInt64))then
some (0,0,0,0,0,22)
else
j5 a
def RR:=QX QT
def SU(j4:LB->Hz)(a:LB):Hz:=
(Br a 0 (Fo 4 (Ac a))).bind λad=>
(Br ([84,84,65,49]:LB) 0 (Fo 4 (Ac a))).bind λae=>
if(ad !=ae)then
some (0,0,0,0,0,12)
else
j4 a
def Nq:=SU RR
abbrev Wh:=Option (Int×Int×Int×Int×Int×Int×Int)
def FM(b:Int)(a:LB):Wh:=
(Nq a).bind λ(k,m,n,o,p,h)=>
if(geq h 24)then
some (0,0,0,0,0,0,(-1:Int))
else
some ((Ad b 22),k,m,n,o,p,h)
def GN:=FM
def GU(j2:Int->LB->Wh)(f:LB):Wh:=
(Me f).bind λ(b,g)=>
if(geq g 24)then
some (0,0,0,0,0,0,(-1:Int))
else
if(Bc g 0)then
some (0,0,0,0,0,0,g)
else
(Br f b (Ac f)).bind λa=>
(Ub a ([73,68,51]:LB)).bind λu=>
if u then
some (0,0,0,0,0,0,(-1:Int))
else
(Ub a ([65,80,69,84,65,71,69,88]:LB)).bind λv=>
if v then
some (0,0,0,0,0,0,(-1:Int))
else
j2 b a
def AE:=GU GN
def QQ(a:UInt64)(b:Bool):Option UInt64:=
if b then
some (AH (Bj a 2) 4823603603198064275)
else
some (Bj a 2)
def AA:=QQ
def RH(j2:UInt64->Bool->Option UInt64)(a:UInt64)(f:Int):Option UInt64:=
if(geq f 1)then
j2 a (!(Nk a 9223372036854775808))
else
j2 a (Nk a 9223372036854775808)
def IP:=RH AA
def QY(a:UInt64):Option UInt64:=
some a
def SL:=QY
def Zw(j6:UInt64->Option UInt64)(Tn:UInt64->Int->Option UInt64)(b:UInt8)(a:UInt64)(f:Int):Option UInt64:=
if(Eh f 0)then
(Kx (Bc f 0)).bind λ_=>
(IP a (Gw (Bw (Af b:Int) f) 2)).bind λg=>
Tn g (Bw f 2)
else
j6 a
def My(b:UInt8):Nat->UInt64->Int->Option UInt64
|0,_,_=>none
|q+1,a,f=>Zw SL (My b q) b a f
def nW b:=My b Ax
def mX(j4:UInt8->UInt64->Int->Option UInt64)(h:UInt64)(b:UInt8):Option UInt64:=
j4 b h 128
def bZ:=mX nW
def ID(a:UInt64):Option UInt64:=
some a
def HR:=ID
def Wk(j6:UInt64->Option UInt64)(Tn:UInt64->Int->Option UInt64)(b:LB)(a:UInt64)(f:Int):Option UInt64:=
if(Cv f (Ac b))then
(Ap b f).bind λg=>
(bZ a g).bind λh=>
Tn h (Ad f 1)
else
j6 a
def Kq(b:LB):Nat->UInt64->Int->Option UInt64
|0,_,_=>none
|q+1,a,f=>Wk HR (Kq b q) b a f
def iC b:=Kq b Ax
def kC(j4:LB->UInt64->Int->Option UInt64)(k:UInt64)(b:LB):Option UInt64:=
j4 b k 0
def BR:=kC iC
def cC(a:LB):Option UInt64:=
(BR 0 a).bind λb=>
some b
def Mx(a:LB):Option (LB):=
(cC a).bind λb=>
(Fq b 8).bind λf=>
some f
abbrev Fb:=Option (LI×Int)
def RS(f:LI):Fb:=
(Iw f).bind λh=>
if(Bc h 0)then
some (([]:LI),12)
else
some (f,0)
def Zv:=RS
def AG(j8:LI->Fb)(bk6:Int->LI->Fb)(b:LB)(a g:Int)(f:LI):Fb:=
if(Cv g a)then
(Br b (Bj 4 g) (Ad (Bj 4 g) 4)).bind λk=>
(El k).bind λm=>
(Ee f ([(Af m:Int)]:LI)).bind λn=>
bk6 (Ad g 1) n
else
j8 f
def Na(b:LB)(a:Int):Nat->Int->LI->Fb
|0,_,_=>none
|q+1,g,f=>AG Zv (Na b a q) b a g f
def QO b a:=Na b a Ax
def SI(j6:LB->Int->Int->LI->Fb)(b:LB)(a:Int):Fb:=
j6 b a 0 ([]:LI)
def SR:=SI QO
def QS(j5:LB->Int->Fb)(b:LB)(a:Int):Fb:=
if((Cv a 1)||(Eh a 1000))then
some (([]:LI),2)
else
if(Cv (Ac b) (Ad (Bj 4 a) 4))then
some (([]:LI),24)
else
(Br b (Bj 4 a) (Ad (Bj 4 a) 4)).bind λo=>
(Br b 0 (Bj 4 a)).bind λp=>
(El o).bind λu=>
(Wr p).bind λv=>
if(Bc u (Af v:UInt64))then
some (([]:LI),22)
else
j5 b a
def Sf:=QS SR
abbrev Ls:=Option (Int×LI×Int)
def JJ(b g:Int)(h:LI):Ls:=
if(geq g 24)then
some (0,([]:LI),(-1:Int))
else
some ((Ad (Ad b (Bj 4 (Ac h))) 4),h,g)
def KM:=JJ
def IA(j4:Int->Int->LI->Ls)(a:LB)(f k m n o b:Int):Ls:=
(Br a b (Ac a)).bind λp=>
(Hh f k m n o).bind λu=>
(Sf p (Ac u)).bind λ(h,g)=>
j4 b g h
def Du:=IA KM
def Hq(j3:LB->Int->Int->Int->Int->Int->Int->Ls)(a:LB)(f k m n o:Int)(v:LB):Ls:=
if(geq f 2)then
if(Cv (Ac a) 8)then
some (0,([]:LI),(-1:Int))
else
(Br a 0 8).bind λw=>
(Mx v).bind λy=>
if(w !=y)then
some (0,([]:LI),26)
else
j3 a f k m n o 8
else
j3 a f k m n o 0
def Fg:=Hq Du
def aT(b:UInt64)(a:LB):Option (UInt64×Int):=
if(Eh (Ac a) 100000)then
some (0,4)
else
(BR b a).bind λf=>
some (f,0)
def fV(a:LB):Option (UInt64×Int):=
(aT 0 a).bind λ(b,f)=>
some (b,f)
def rS(a:LX):Option (LX):=
some a
def rR:=rS
def XC(bk6:UInt64->Int->LX->Option (LX))(b:UInt64)(f:Int)(a:LX)(g:Int32):Option (LX):=
(Ap a f).bind λ_=>
(Oe a f g).bind λh=>
bk6 (Bw b 256) (Ad f 1) h
def EW bk6:=XC bk6
def FI(j8:UInt64->Int->LX->Int32->Option (LX))(j10:LX->Option (LX))(b:UInt64)(f:Int)(a:LX):Option (LX):=
if(Cv f 8)then
if(Eh (Af (GY b 256):Int32) 127)then
j8 b f a (Ao (Af (GY b 256):Int32) 256)
else
j8 b f a (Af (GY b 256):Int32)
else
j10 a
def Mk:Nat->UInt64->Int->LX->Option (LX)
|0,_,_,_=>none
|q+1,b,f,a=>FI (EW (Mk q)) rR b f a
def uB:=Mk Ax
def tL(j6:UInt64->Int->LX->Option (LX))(k:UInt64):Option (LX):=
j6 k 0 (List.replicate 16 (0:Int32))
def kU:=tL uB
def Nr(a:LB):Option (LX×Int):=
if(Eh (Ac a) 64)then
some (([(0:Int32),(0:Int32),(0:Int32),(0:Int32),(0:Int32),(0:Int32),(0:Int32),(0:Int32),(0:Int32),(0:Int32),(0:Int32),(0:Int32),(0:Int32),(0:Int32),(0:Int32),(0:Int32)]:LX),2)
else
(fV a).bind λ(b,g)=>
(kU b).bind λf=>
some (f,0)
def CV(b:LB):Option (LB):=
(Wr b).bind λa=>
(Ee ([]:LB) b).bind λf=>
(Ee f ([(Af a:UInt8),(Af (Ck a (GI.toZ (8:UInt64)).toNat):UInt8),(Af (Ck a (GI.toZ (16:UInt64)).toNat):UInt8),(Af (Ck a (GI.toZ (24:UInt64)).toNat):UInt8)]:LB)).bind λg=>
some g
def Tu(a:LB):Option Int:=
if(Cv (Ac a) 5)then
some 24
else
if(Eh (Ac a) 41254)then
some 4
else
(Br a 0 (Ao (Ac a) 4)).bind λb=>
(CV b).bind λf=>
if(f !=a)then
some 22
else
some 0
def Qf:Option (Int×Int×UInt64×UInt64):=
some (10,10,16384,16384)
def lW(a:UInt64):Option UInt64:=
some a
def mF:=lW
def Ye(j6:UInt64->Option UInt64)(Tn:UInt64->Int->Option UInt64)(b:Int)(a:UInt64)(f:Int):Option UInt64:=
if(Cv f b)then
Tn (Bj a 2) (Ad f 1)
else
j6 a
def Lq(b:Int):Nat->UInt64->Int->Option UInt64
|0,_,_=>none
|q+1,a,f=>Ye mF (Lq b q) b a f
def lR b:=Lq b Ax
def mA(j4:Int->UInt64->Int->Option UInt64)(b:Int):Option UInt64:=
j4 b 1 0
def He:=mA lR
def NN(a g:Int)(h k:UInt64)(b:UInt32):Option Bool:=
(He a).bind λf=>
some (Cv (Af b:UInt64) f)
def KF(a g:Int)(h k:UInt64)(b:UInt32):Option UInt32:=
(He a).bind λf=>
some (Af (Ao (Af b:UInt64) f):UInt32)
abbrev CR:=Option (Int×UInt64)
def SQ(b:Int)(a f:UInt64):CR:=
if(Cv b 24)then
(He (Ad b 5)).bind λg=>
if(Eh (Ao (Ad a f) (Bw a 16)) g)then
some ((Ad b 1),(Ao (Ad a f) (Bw a 16)))
else
some (b,(Ao (Ad a f) (Bw a 16)))
else
some (b,(Ao (Ad a f) (Bw a 16)))
def AR:=SQ
def RK(j2:Int->UInt64->UInt64->CR)(b:Int)(a f:UInt64):CR:=
if(Eh b 0)then
(He (Ad b 4)).bind λh=>
if(Cv (Ao (Ad a f) (Bw a 16)) h)then
some ((Ao b 1),(Ao (Ad a f) (Bw a 16)))
else
j2 b a f
else
j2 b a f
def Yw:=RK AR
abbrev Yc:=Option (Int×Int×UInt64×UInt64)
def HZ(h:UInt32)(f a:Int)(g b:UInt64)(o:Int)(p:UInt64):Yc:=
(Yw f g (Af h:UInt64)).bind λ(aa,ab)=>
some (aa,o,ab,p)
def Vt:=HZ
def JD(j2:UInt32->Int->Int->UInt64->UInt64->Int->UInt64->Yc)(f a:Int)(g b:UInt64)(h:UInt32):Yc:=
(NN f a g b h).bind λu=>
if(!u)then
(
(
(KF f a g b h).bind λk=>
(Yw a b (Af k:UInt64)).bind λ(m,n)=>
j2 h f a g b m n))
else
j2 h f a g b a b
def CK:=JD Vt
abbrev Gl:=Option (Int×Int×UInt64×UInt64)
def iH(a b:Int)(f g:UInt64):Gl:=
some (a,b,f,g)
def gS:=iH
def JG(j6:Int->Int->UInt64->UInt64->Gl)(Tn:Int->Int->Int->UInt64->UInt64->Gl)(h:Int)(k:LU)(m a b:Int)(f g:UInt64):Gl:=
if(Cv m (Ac k))then
(Ap k m).bind λn=>
(CK a b f g n).bind λ(o,p,u,v)=>
Tn (Ad m h) o p u v
else
j6 a b f g
def Pb(h:Int)(k:LU):Nat->Int->Int->Int->UInt64->UInt64->Gl
|0,_,_,_,_,_=>none
|q+1,m,a,b,f,g=>JG gS (Pb h k q) h k m a b f g
def iL h k:=Pb h k Ax
def KC(j4:Int->LU->Int->Int->Int->UInt64->UInt64->Gl)(h:Int)(k:LU):Gl:=
(Qf).bind λ(w,y,aa,ab)=>
(Kx (Bc h 0)).bind λ_=>
j4 h k (Gw (Ac k) h) w y aa ab
def Uc:=KC iL
def aC(a:Int):Option Int:=
some (Gw a 2)
def YL:=aC
def EG(j6:Int->Option Int)(Tn:Int->Int->Option Int)(b a f:Int):Option Int:=
if(Cv f (Gw b 8))then
Tn (Bw a 2) (Ad f 1)
else
j6 a
def Qh(b:Int):Nat->Int->Int->Option Int
|0,_,_=>none
|q+1,a,f=>EG YL (Qh b q) b a f
def XX b:=Qh b Ax
def YA(j4:Int->Int->Int->Option Int)(g:LB)(k b:Int):Option Int:=
(Ap g (Bw b 8)).bind λh=>
j4 b (Af h:Int) 0
def Of:=YA XX
abbrev Fx:=Option (LB×Int)
def UO(b g a:Int)(f:LB):Fx:=
(Ap f (Bw a 8)).bind λ_=>
(Ap f (Bw a 8)).bind λm=>
(Ap f (Bw a 8)).bind λ_=>
(Oe f (Bw a 8) (Ad m (Af (Bj b g):UInt8))).bind λn=>
some (n,(Ad a 1))
def CI:=UO
def CX(j8:Int->Int->Int->LB->Fx)(bk6:Int->Int->Fx)(b a:Int)(f:LB)(g h:Int):Fx:=
if(Cv h (Gw a 8))then
bk6 (Bj g 2) (Ad h 1)
else
j8 b g a f
def Oj(b a:Int)(f:LB):Nat->Int->Int->Fx
|0,_,_=>none
|q+1,g,h=>CX CI (Oj b a f q) b a f g h
def VB b a f:=Oj b a f Ax
def UR(j6:Int->Int->LB->Int->Int->Fx)(b a:Int)(f:LB):Fx:=
j6 b a f 1 0
def CT:=UR VB
def UT(j5:Int->Int->LB->Fx)(k:LB)(a b:Int):Fx:=
if(geq (Gw a 8) 0)then
(Ee k ([(0:UInt8)]:LB)).bind λo=>
j5 b a o
else
j5 b a k
def BA:=UT CT
abbrev Fu:=Option (LB×Int)
def eE(a:Int)(b:LB):Fu:=
some (b,a)
def eD:=eE
def Ve(j6:Int->LB->Fu)(Tn:Int->Int->LB->Fu)(f:Int)(g:LB)(h k a:Int)(b:LB):Fu:=
if(Cv k f)then
(Of g h k).bind λm=>
(BA b a m).bind λ(n,o)=>
Tn (Ad k 1) o n
else
j6 a b
def Jl(f:Int)(g:LB)(h:Int):Nat->Int->Int->LB->Fu
|0,_,_,_=>none
|q+1,k,a,b=>Ve eD (Jl f g h q) f g h k a b
def fR f g h:=Jl f g h Ax
def fC(j4:Int->LB->Int->Int->Int->LB->Fu)(g:LB)(h p f:Int):Fu:=
j4 f g h p 0 ([]:LB)
def QZ:=fC fR
def mC(a:UInt64):Option UInt64:=
some a
def lH:=mC
def Xu(j6:UInt64->Option UInt64)(Tn:UInt64->Int->Option UInt64)(b:Int)(f:LB)(g:Int)(a:UInt64)(h:Int):Option UInt64:=
if(Nk h 0)then
(Of f g (Ad b h)).bind λk=>
Tn (Ad (Bj 2 a) (Af k:UInt64)) (Ao h 1)
else
j6 a
def Lo(b:Int)(f:LB)(g:Int):Nat->UInt64->Int->Option UInt64
|0,_,_=>none
|q+1,a,h=>Xu lH (Lo b f g q) b f g a h
def MG b f g:=Lo b f g Ax
def NG(j4:Int->LB->Int->UInt64->Int->Option UInt64)(f:LB)(g b m:Int):Option UInt64:=
j4 b f g 0 (Ao m 1)
def Wc:=NG MG
abbrev Ix:=Option (Int×Int)
def VI(b a:Int)(g:LB)(f:Int):Ix:=
if(geq a 48)then
some (a,(Ad b a))
else
if(Nk (Ad b a) f)then
some ((-1:Int),0)
else
some (a,(Ad (Ad b a) 1))
def BU:=VI
def CA(j6:Int->Int->LB->Int->Ix)(Tn:Int->Ix)(b:Int)(g:LB)(f a:Int):Ix:=
if((Cv (Ad b a) f)&&(Cv a 48))then
(Of g f (Ad b a)).bind λh=>
if(geq h 1)then
Tn (Ad a 1)
else
j6 b a g f
else
j6 b a g f
def Oh(b:Int)(g:LB)(f:Int):Nat->Int->Ix
|0,_=>none
|q+1,a=>CA BU (Oh b g f q) b g f a
def rQ b g f:=Oh b g f Ax
def rP(j4:Int->LB->Int->Int->Ix)(g:LB)(f b:Int):Ix:=
j4 b g f 0
def gI:=rP rQ
def KV(b:UInt32)(f:Int):Option Int:=
(He f).bind λa=>
(Kx (Bc a 0)).bind λ_=>
some (Af (Fo 48 (Bw (Af b:UInt64) a)):Int)
abbrev EK:=Option (UInt32×Int×Int)
def CP(g a b:Int)(h:LB)(f k:Int):EK:=
if((Cv a 0)||(Cv (Ao f b) k))then
some (0,0,24)
else
(Wc h f b k).bind λm=>
if(Cv a 48)then
(He g).bind λo=>
some ((Af (Ad (Bj (Af a:UInt64) o) m):UInt32),(Ad b k),0)
else
(KV (Af m:UInt32) g).bind λp=>
if(Cv p a)then
some (0,0,12)
else
some ((Af m:UInt32),(Ad b k),0)
def CO:=CP
def VJ(j2:Int->Int->Int->LB->Int->Int->EK)(h:LB)(f n g:Int):EK:=
if(Nk n f)then
some (0,0,24)
else
(gI h f n).bind λ(a,b)=>
if(geq a 48)then
j2 g a b h f 32
else
j2 g a b h f g
def OE:=VJ CO
def NI(g:LB)(b a f n:Int)(v w:UInt64):Option (UInt32×Int×Int):=
if(Nk a b)then
some (0,0,24)
else
(Of g b a).bind λo=>
if(geq o 0)then
if(Cv (Ao (Ao b a) 1) f)then
some (0,0,24)
else
(Wc g b (Ad a 1) f).bind λp=>
some ((Af p:UInt32),(Ad (Ad a 1) f),0)
else
(OE g b (Ad a 1) n).bind λ(h,u,k)=>
if(Bc k 0)then
some (0,0,k)
else
(He f).bind λm=>
if(Eh (Ad (Af h:UInt64) m) 4294967295)then
some (0,0,12)
else
some ((Af (Ad (Af h:UInt64) m):UInt32),u,0)
abbrev Cb:=Option (LU×Int)
def lS(b:LU):Cb:=
some (b,0)
def mB:=lS
def Xx(j18:LU->Cb)(Is:Int->Cb)(a:LB)(b:LU)(m:Int):Cb:=
if(Cv m (Bj 8 (Ac a)))then
(Of a (Bj 8 (Ac a)) m).bind λn=>
if(Bc n 0)then
some (b,12)
else
Is (Ad m 1)
else
j18 b
def Lz(a:LB)(b:LU):Nat->Int->Cb
|0,_=>none
|q+1,m=>Xx mB (Lz a b q) a b m
def MQ a b:=Lz a b Ax
def MX(j16:LB->LU->Int->Cb)(f:Int)(a:LB)(b:LU):Cb:=
if(Eh (Ao (Bj 8 (Ac a)) f) 7)then
some (b,12)
else
j16 a b f
def Xw:=MX MQ
def MI(Aro:Int->Int->LU->Cb)(g h:Int)(a:LB)(f k:Int)(b:LU)(o p:Int)(u v:UInt64):Cb:=
(QZ a (Bj 8 (Ac a)) f (Fo (Ad f 81) (Bj 8 (Ac a)))).bind λ(y,aa)=>
(NI y aa 0 o p u v).bind λ(ab,ac,w)=>
if(Bc w 0)then
some (b,w)
else
(Ee b ([ab]:LU)).bind λad=>
Aro (Ad f ac) (Ad k 1) ad
def Lr Aro:=MI Aro
def MU(j13:Int->Int->LU->Int->Int->UInt64->UInt64->Cb)(j15:Int->LB->LU->Cb)(g h:Int)(a:LB)(f k:Int)(b:LU):Cb:=
if(Cv k (Bj h g))then
(Qf).bind λ(n,ae,af,ag)=>
if(Nk k g)then
(Uc g b).bind λ(ah,ai,aj,ak)=>
j13 f k b ah ai aj ak
else
j13 f k b n ae af ag
else
j15 f a b
def Gj(g h:Int)(a:LB):Nat->Int->Int->LU->Cb
|0,_,_,_=>none
|q+1,f,k,b=>MU (Lr (Gj g h a q) g h a) Xw g h a f k b
def lU g h a:=Gj g h a Ax
def QU(j10:Int->Int->LB->Int->Int->LU->Cb)(g h:Int)(a:LB):Cb:=
j10 g h a 0 0 ([]:LU)
def JW:=QU lU
def tU(a:Int):Option (Int×Int):=
if(geq a 8)then
some (4,0)
else
if((geq a 16)||(geq a 24))then
some (5,0)
else
some (0,2)
def zL(a:Int)(b:LX):Option (Int×LX×LX×Int):=
(tU a).bind λ(g,f)=>
if(Bc f 0)then
some (0,(List.replicate 16 (0:Int32)),(List.replicate 16 (0:Int32)),2)
else
if(geq a 16)then
some (9,b,(List.replicate 16 (0:Int32)),0)
else
some (10,b,(List.replicate 16 (0:Int32)),0)
def gQ(a:Int)(b:LX):Option (Int×Int32×Int×LX×LX×Int):=
(zL a b).bind λ(f,g,h,k)=>
if(Bc k 0)then
some (0,0,0,(List.replicate 16 (0:Int32)),(List.replicate 16 (0:Int32)),2)
else
some (a,0,f,g,h,0)
def IG(a:UInt32):Option Int32:=
if(geq (GY a 2) 0)then
some (Af (Bw a 2):Int32)
else
some (Af (Bw (wC (Ad (Af a:Int) 1)) 2):Int32)
def Dm(a:Int):Option Int32:=
some (Af (Af (Af a:UInt64):UInt32):Int32)
def UM(a:Int):Option Int32:=
some (Af a:Int32)
def UL:=UM
def BZ(j6:Int->Option Int32)(Tn:Int->Int->Option Int32)(h:Int)(f g:LX)(a b:Int):Option Int32:=
if(Cv b 16)then
(Ap f b).bind λ_=>
(Ap g b).bind λ_=>
(Ap f b).bind λk=>
(Ap g b).bind λm=>
(Dm (Bj (Af k:Int) (Af m:Int))).bind λn=>
(Dm (Ad a (Af n:Int))).bind λo=>
Tn (Af o:Int) (Ad b 1)
else
j6 a
def Om(h:Int)(f g:LX):Nat->Int->Int->Option Int32
|0,_,_=>none
|q+1,a,b=>BZ UL (Om h f g q) h f g a b
def rT h f g:=Om h f g Ax
def rV(j4:Int->LX->LX->Int->Int->Option Int32)(h:Int)(f g:LX):Option Int32:=
j4 h f g 0 0
def eU:=rV rT
def SN(b:Int)(f g:LX)(a:Int):Option Int32:=
(eU b f g).bind λk=>
(Dm (Ad (Af k:Int) (Bw a 2))).bind λh=>
(Kx (Bc a 0)).bind λ_=>
(Kx (Bc a 0)).bind λ_=>
if(Cv (Gw (Af h:Int) a) 0)then
some (Af (Ao (Bw (Af h:Int) a) 1):Int32)
else
some (Af (Bw (Af h:Int) a):Int32)
def Zp:=SN
def QH(j2:Int->LX->LX->Int->Option Int32)(b:Int)(f g:LX):Option Int32:=
if(geq b 9)then
j2 b f g 512
else
j2 b f g 1024
def IQ:=QH Zp
def IX(a:Int):Option Int32:=
if(geq a 0)then
some 4
else
if(gle a 3)then
some 2
else
some 1
def Za(a:Int32):Option Int32:=
if(Cv a 0)then
some (-1:Int32)
else
if(Eh a 0)then
some 1
else
some 0
abbrev Fv:=Option (Int×LX×LX)
def fY(g:Int)(b a:LX):Fv:=
some (g,b,a)
def gH:=fY
def Vc(j6:Int->LX->LX->Fv)(Tn:Int->LX->Fv)(h:Int32)(g:Int)(a:LX)(f:Int)(b:LX):Fv:=
if(Cv f 16)then
(Ap b f).bind λ_=>
(Ap a f).bind λ_=>
(Ap b f).bind λk=>
(Ap a f).bind λm=>
(IX f).bind λn=>
(Za m).bind λo=>
(Za h).bind λp=>
(Ap b f).bind λ_=>
(Oe b f (Ad k (Bj (Bj n o) p))).bind λu=>
Tn (Ad f 1) u
else
j6 g b a
def Ji(h:Int32)(g:Int)(a:LX):Nat->Int->LX->Fv
|0,_,_=>none
|q+1,f,b=>Vc gH (Ji h g a q) h g a f b
def eQ h g a:=Ji h g a Ax
def eN(j4:Int32->Int->LX->Int->LX->Fv)(g:Int)(v a:LX)(h:Int32):Fv:=
j4 h g a 0 v
def RB:=eN eQ
abbrev Gk:=Option (Int×LX×LX)
def KD(b:Int32)(f:Int)(g a:LX):Gk:=
(Ap a 0).bind λ_=>
(Oe a 0 b).bind λk=>
some (f,g,k)
def HQ:=KD
def Vl(j6:Int32->Int->LX->LX->Gk)(Tn:Int->LX->Gk)(b:Int32)(f:Int)(g:LX)(h:Int)(a:LX):Gk:=
if(Eh h 0)then
(Ap a (Ao h 1)).bind λ_=>
(Ap a (Ao h 1)).bind λm=>
(Ap a h).bind λ_=>
(Oe a h m).bind λn=>
Tn (Ao h 1) n
else
j6 b f g a
def Kn(b:Int32)(f:Int)(g:LX):Nat->Int->LX->Gk
|0,_,_=>none
|q+1,h,a=>Vl HQ (Kn b f g q) b f g h a
def jR b f g:=Kn b f g Ax
def iK(j4:Int32->Int->LX->Int->LX->Gk)(f:Int)(g o:LX)(b:Int32):Gk:=
j4 b f g 15 o
def VG:=iK jR
def AO(a:Int)(b f:LX)(g:Int32):Option (Int32×Int×LX×LX):=
(IQ a b f).bind λk=>
(Dm (Ad (Af g:Int) (Af k:Int))).bind λh=>
(RB a b f g).bind λ(m,n,o)=>
(VG m n o h).bind λ(p,u,v)=>
some (h,p,u,v)
def KO(b:Int32)(a:Int):Option Int32:=
(Kx (Bc a 0)).bind λ_=>
(Kx (Bc a 0)).bind λ_=>
if(Cv (Gw (Bj (Ao a 1) (Af b:Int)) a) 0)then
some (Af (Ao (Bw (Bj (Ao a 1) (Af b:Int)) a) 1):Int32)
else
some (Af (Bw (Bj (Ao a 1) (Af b:Int)) a):Int32)
def Vn:=KO
def KY(j2:Int32->Int->Option Int32)(f:Int)(b:Int32):Option Int32:=
if(geq f 5)then
j2 b 32
else
j2 b 16
def Tx:=KY Vn
def BY(b:Int)(a:Int32)(h:Int)(k m:LX):Option Int:=
if(geq b 8)then
(Tx 4 a).bind λf=>
some (Af f:Int)
else
(Tx 5 a).bind λg=>
some (Af g:Int)
def Zn(a:Int)(k:Int32)(b:Int)(f g:LX)(m:Int32):Option (Int32×Int×Int32×Int×LX×LX):=
(AO b f g m).bind λ(n,o,p,u)=>
(BY a k b f g).bind λv=>
(Dm (Ad (Af n:Int) v)).bind λh=>
some (h,a,h,o,p,u)
def Wp(a:Int)(b:LX):Option Int:=
if((Cv a 1)||(Eh a 6))then
some 2
else
if(Eh (Ac b) 4000)then
some 4
else
(Kx (Bc a 0)).bind λ_=>
if(Eh (Gw (Ac b) a) 0)then
some 2
else
some 0
def eK(b:LX):Option (LX):=
some b
def eJ:=eK
def Vf(j8:LX->Option (LX))(bk6:Int->LX->Option (LX))(a:LX)(f:Int)(b:LX):Option (LX):=
if(Nk f 0)then
(Ap b (Ad f 1)).bind λ_=>
(Ap a f).bind λm=>
(Ap b (Ad f 1)).bind λn=>
(Dm (Ao (Af n:Int) (Af m:Int))).bind λo=>
(Ap b f).bind λ_=>
(Oe b f o).bind λp=>
bk6 (Ao f 1) p
else
j8 b
def Jf(a:LX):Nat->Int->LX->Option (LX)
|0,_,_=>none
|q+1,f,b=>Vf eJ (Jf a q) a f b
def fE a:=Jf a Ax
def FY(j6:LX->Int->LX->Option (LX))(a g:LX):Option (LX):=
j6 a (Ao (Ac a) 2) g
def Uz:=FY fE
def GH(j5:LX->LX->Option (LX))(a:LX):Option (LX):=
(mkI (Ac a) (0:Int32)).bind λk=>
(Kx (geq (Ac a) (Ac a))).bind λ_=>
(Ap a (Ao (Ac a) 1)).bind λu=>
(Ap k (Ao (Ac a) 1)).bind λ_=>
(Oe k (Ao (Ac a) 1) u).bind λh=>
if(Eh (Ac a) 1)then
(Ap a (Ao (Ac a) 1)).bind λv=>
(Ap a (Ao (Ac a) 2)).bind λw=>
(Dm (Ad (Af v:Int) (Bw (Af w:Int) 2))).bind λy=>
(Ap h (Ao (Ac a) 1)).bind λ_=>
(Oe h (Ao (Ac a) 1) y).bind λaa=>
j5 a aa
else
j5 a h
def Zh:=GH Uz
abbrev Hx:=Option (LX×Int)
def nN(f:LX):Hx:=
some (f,0)
def nK:=nN
def RT(j6:LX->Hx)(Tn:Int->LX->Hx)(a:Int)(b:LX)(g:Int)(f:LX):Hx:=
if(Cv g (Ac b))then
(Br b g (Ad g a)).bind λh=>
(Zh h).bind λk=>
(Ee f k).bind λm=>
Tn (Ad g a) m
else
j6 f
def Sg(a:Int)(b:LX):Nat->Int->LX->Hx
|0,_,_=>none
|q+1,g,f=>RT nK (Sg a b q) a b g f
def nZ a b:=Sg a b Ax
def QP(j4:Int->LX->Int->LX->Hx)(a:Int)(b:LX):Hx:=
(Wp a b).bind λn=>
if(Bc n 0)then
(Wp a b).bind λo=>
some (([]:LX),o)
else
j4 a b 0 ([]:LX)
def KI:=QP nZ
def GP(a f:Int)(w:LX):Option (LX):=
(KI a w).bind λ(aj,ai)=>
some aj
def Vd:=GP
def FO(Agy:Int->LX->Option (LX))(b:LU)(a f:Int)(g:LX)(h:Int)(m:LX):Option (LX):=
Agy (Ad h 1) m
def FQ Agy:=FO Agy
def GG(Arm:Int->LX->Int->Int32->Int->LX->LX->Option (LX))(b:LU)(h a f:Int)(g:LX)(k:Int)(af:LX)(y:Int)(aa:Int32)(ab:Int)(ac ad:LX):Option (LX):=
Arm (Ad k a) af y aa ab ac ad
def GW Arm:=GG Arm
def FN(j30:Int->LX->Int->Int32->Int->LX->LX->Option (LX))(b:LU)(h a f:Int)(g:LX)(k:Int)(ae:Int32)(m:LX)(n:Int)(o:Int32)(p:Int)(u v:LX)(y:Int)(aa:Int32)(ab:Int)(ac ad:LX):Option (LX):=
(Ap m k).bind λ_=>
(Oe m k ae).bind λaf=>
j30 k af y aa ab ac ad
def GL Arm b h a f g:=FN (GW Arm b h a f g) b h a f g
def GA(j29:Int->Int32->LX->Int->Int32->Int->LX->LX->Int->Int32->Int->LX->LX->Option (LX))(j32:Int->LX->Option (LX))(b:LU)(a f:Int)(g:LX)(h k:Int)(m:LX)(n:Int)(o:Int32)(p:Int)(u v:LX):Option (LX):=
if(Cv k (Ac b))then
(Ap b k).bind λah=>
(
(IG ah).bind λag=>
(
(Zn n o p u v ag).bind λ(ae,y,aa,ab,ac,ad)=>
j29 k ae m n o p u v y aa ab ac ad))
else
j32 h m
def Nm(Agy:Int->LX->Option (LX))(b:LU)(a f:Int)(g:LX)(h:Int):Nat->Int->LX->Int->Int32->Int->LX->LX->Option (LX)
|0,_,_,_,_,_,_,_=>none
|q+1,k,m,n,o,p,u,v=>GA (GL (Nm Agy b a f g h q) b h a f g) (FQ Agy b a f g) b a f g h k m n o p u v
def FW Agy b a f g h:=Nm Agy b a f g h Ax
def Uw(j26:Int->Int->LX->Int->Int32->Int->LX->LX->Option (LX))(j34:Int->Int->LX->Option (LX))(b:LU)(a f:Int)(g:LX)(h:Int)(w:LX):Option (LX):=
if(Cv h a)then
(gQ f g).bind λ(ak,ai,al,am,an,aq)=>
j26 h h w ak ai al am an
else
j34 a f w
def Gv(b:LU)(a f:Int)(g:LX):Nat->Int->LX->Option (LX)
|0,_,_=>none
|q+1,h,w=>Uw (FW (Gv b a f g q) b a f g) Vd b a f g h w
def FP b a f g:=Gv b a f g Ax
def JF(j18:LU->Int->Int->LX->Int->LX->Option (LX))(a f:Int)(g:LX)(b:LU):Option (LX):=
(mkI (Ac b) (0:Int32)).bind λao=>
(Kx (geq (Ac b) (Ac b))).bind λ_=>
j18 b a f g 0 ao
def Tr:=JF FP
def Tv(g f:Int)(a:LX):Option (LX×Int):=
(Ay f a).bind λb=>
if(Bc b 0)then
some (([]:LX),b)
else
some (a,0)
abbrev Ya:=Option (LX×Int)
def Ht(f a b:Int)(g:LX)(h:LU):Ya:=
if(Bc f 0)then
some (([]:LX),f)
else
(
(
(Tr a b g h).bind λm=>
(Tv a b m).bind λ(n,o)=>
some (n,o)))
def Hr:=Ht
def Ox(j2:Int->Int->Int->LX->LU->Ya)(a b:Int)(g:LX)(p:Int)(k:LB):Ya:=
(Ec a b p).bind λy=>
if(Bc y 0)then
some (([]:LX),2)
else
(Tu k).bind λaa=>
if(Bc aa 0)then
(Tu k).bind λab=>
some (([]:LX),ab)
else
(Br k 0 (Ao (Ac k) 4)).bind λac=>
(JW a p ac).bind λ(h,f)=>
j2 f a b g h
def Dg:=Ox Hr
def CQ(a b:Int):Option (LB):=
if(geq a 24)then
(Ee ([(Af (Gw b 256):UInt8),(Af (Gw (Bw b 256) 256):UInt8)]:LB) ([(Af (Bw b 65536):UInt8)]:LB)).bind λg=>
some g
else
some ([(Af (Gw b 256):UInt8),(Af (Gw (Bw b 256) 256):UInt8)]:LB)
def On:=CQ
def VM(j2:Int->Int->Option (LB))(a:Int)(f:Int32):Option (LB):=
if(geq a 8)then
some ([(Af (Ad (Af f:Int) 128):UInt8)]:LB)
else
if(Cv (Af f:Int) 0)then
(Kr a).bind λh=>
j2 a (Ad (Af f:Int) (Bj 2 h))
else
j2 a (Af f:Int)
def OU:=VM On
abbrev Hf:=Option (LB×Int)
def lV(b:LB):Hf:=
some (b,0)
def mD:=lV
def Yf(j6:LB->Hf)(Tn:Int->LB->Hf)(f:Int)(a:LX)(g:Int)(b:LB):Hf:=
if(Cv g (Ac a))then
(Ap a g).bind λh=>
(OU f h).bind λk=>
(Ee b k).bind λm=>
Tn (Ad g 1) m
else
j6 b
def Lu(f:Int)(a:LX):Nat->Int->LB->Hf
|0,_,_=>none
|q+1,g,b=>Yf mD (Lu f a q) f a g b
def lP f a:=Lu f a Ax
def ML(j4:Int->LX->Int->LB->Hf)(f:Int)(a:LX):Hf:=
(Ay f a).bind λn=>
if(Bc n 0)then
(Ay f a).bind λo=>
some (([]:LB),o)
else
j4 f a 0 ([]:LB)
def Wj:=ML lP
abbrev Xo:=Option (LB×Int)
def Es(o:LX)(f:Int)(p g:LB)(h k a m n:Int)(u:LI)(b:Int)(v:LB)(w:Bool)(y:Int):Xo:=
if(Bc f 0)then
some (([]:LB),f)
else
(Wj a o).bind λ(ac,ai)=>
some (ac,0)
def Eo:=Es
def Em(j2:LX->Int->LB->LB->Int->Int->Int->Int->Int->LI->Int->LB->Bool->Int->Xo)(p g:LB)(h k a m n:Int)(u:LI)(b:Int)(v:LB)(w:Bool)(y:Int):Xo:=
(Ap u b).bind λaa=>
if(Cv (Ac g) aa)then
some (([]:LB),(-1:Int))
else
(Nr p).bind λ(ad,aj)=>
(Br g 0 aa).bind λae=>
(Fy h k a m n).bind λ(af,ag)=>
(Hh h k a m n).bind λab=>
(Ap ab b).bind λ_=>
(Ap ab b).bind λah=>
(Dg af ag ad ah ae).bind λ(o,f)=>
j2 o f p g h k a m n u b v w y
def Dh:=Em Eo
abbrev Ok:=Option (LB×LB×Int×Int×Int×Int×Int×LI×Int×LB×Bool×Int×Int)
def Bt(g a:LB)(m o p u v:Int)(b:LI)(f:Int)(n:LB)(h:Bool)(k:Int):Ok:=
if(geq (Ac b) 0)then
(Fg a m o p u v g).bind λ(ag,ak,w)=>
if(Bc w 0)then
some (g,a,m,o,p,u,v,b,f,n,h,k,w)
else
(Br a ag (Ac a)).bind λal=>
some (g,al,m,o,p,u,v,ak,f,n,h,k,0)
else
if(geq f (Ac b))then
if(Eh (Ac a) 4000)then
some (g,a,m,o,p,u,v,b,f,n,h,k,38)
else
some (g,a,m,o,p,u,v,b,f,n,h,k,(-1:Int))
else
(Dh g a m o p u v b f n h k).bind λ(am,y)=>
if(Bc y 0)then
some (g,a,m,o,p,u,v,b,f,n,h,k,y)
else
(Ee ([]:LB) n).bind λan=>
(Ee an am).bind λah=>
(
(
(
(Ap b f).bind λad=>
(
(Br a ad (Ac a)).bind λae=>
some (g,ae,m,o,p,u,v,b,(Ad f 1),ah,h,k,0)))))
def Bv:=Bt
def Hj(g af:LB)(aa w ab ac y:Int)(b:LI)(f:Int)(n:LB)(h:Bool)(k:Int):Ok:=
(Eu aa w ab ac y g).bind λaw=>
some (g,af,aa,w,ab,ac,y,b,f,n,h,k,aw)
def Hg:=Hj
def Bo(j3:LB->LB->Int->Int->Int->Int->Int->LI->Int->LB->Bool->Int->Ok)(j4:LB->LB->Int->Int->Int->Int->Int->LI->Int->LB->Bool->Int->Ok)(g a:LB)(m o p u v:Int)(b:LI)(f:Int)(n:LB)(h:Bool)(k:Int):Ok:=
if(geq m 0)then
(AE a).bind λ(ag,aa,w,ab,ac,y,ai)=>
if(Bc ai 0)then
some (g,a,m,o,p,u,v,b,f,n,h,k,ai)
else
(
(Br a ag (Ac a)).bind λaf=>
(
j3 g af aa w ab ac y b f n h k))
else
j4 g a m o p u v b f n h k
def Ag:=Bo Hg Bv
def Xp(o p:LB)(b f g h k:Int)(m:LI)(a:Int)(n:LB)(u:Bool)(v:Int):Option Bool:=
(Ag o p b f g h k m a n u v).bind λ(af,ag,ah,ai,aj,ak,al,am,an,ao,ap,aq,w)=>
some (geq w (-1:Int))
def Ct:=Xp
def Qt(j4:LB->LB->Int->Int->Int->Int->Int->LI->Int->LB->Bool->Int->Option Bool)(o p:LB)(b f g h k:Int)(m:LI)(a:Int)(n:LB)(u:Bool)(v:Int):Option Bool:=
if(geq (Ac m) 0)then
if((Bc a 0)||(Eh (Ac n) 0))then
some false
else
j4 o p b f g h k m a n u v
else
(Iw m).bind λy=>
if(Bc y 0)then
if((true||(Cv a 0))||(Eh a (Ac m)))then
some false
else
(Yo b f g h k a).bind λaa=>
if(Eh (Ac n) aa)then
some false
else
j4 o p b f g h k m a n u v
else
(Hh b f g h k).bind λab=>
if(((Bc (Ac m) (Ac ab))||(Cv a 0))||(Eh a (Ac m)))then
some false
else
(Yo b f g h k a).bind λac=>
if(Eh (Ac n) ac)then
some false
else
j4 o p b f g h k m a n u v
def Qp:=Qt Ct
def Xv(j4:LB->LB->Int->Int->Int->Int->Int->LI->Int->LB->Bool->Int->Option Bool)(j3:LB->LB->Int->Int->Int->Int->Int->LI->Int->LB->Bool->Int->Option Bool)(o p:LB)(b f g h k:Int)(m:LI)(a:Int)(n:LB)(u:Bool)(v:Int):Option Bool:=
if((geq b 0)&&((geq f 0)&&((geq g 0)&&((geq h 0)&&((geq k 0)&&true)))))then
if(((Eh (Ac m) 0)||(Bc a 0))||(Eh (Ac n) 0))then
some false
else
j4 o p b f g h k m a n u v
else
(Mh b f g h k).bind λad=>
if(Bc ad 0)then
some false
else
(Eu b f g h k o).bind λae=>
if(Bc ae 0)then
some false
else
j3 o p b f g h k m a n u v
def Mf:=Xv Ct Qp
def AQ(a:Int):Option Bool:=
some (((((((geq a 4)||(geq a 12))||(geq a 16))||(geq a 22))||(geq a 24))||(geq a 26))||(geq a 38))
def Ed(h k:LB)(m n o p u:Int)(v:LI)(f:Int)(g:LB)(b:Bool)(a:Int):Option Int:=
if(Eh (Ac h) 64)then
some 8
else
if((geq a 0)&&(!b))then
(Mf h k m n o p u v f g b a).bind λw=>
if(!w)then
some 8
else
some 0
else
if((geq (Ac k) 0)&&(geq (Ac v) 0))then
if((!(((geq m 0)&&((geq n 0)&&((geq o 0)&&((geq p 0)&&((geq u 0)&&true)))))&&(geq f 0)))||(Eh (Ac g) 12000))then
some 8
else
if(Bc a 0)then
if b then
some 8
else
(AQ a).bind λy=>
if(!y)then
some 8
else
some 0
else
some 0
else
if((!(false&&(geq f 0)))||(Eh (Ac g) 12000))then
some 8
else
if(Bc a 0)then
if b then
some 8
else
(AQ a).bind λaa=>
if(!aa)then
some 8
else
some 0
else
some 0
abbrev CH:=Option (LB×LB×Int×Int×Int×Int×Int×LI×Int×LB×Bool×Int)
def RO(f:LB)(g h k m n:Int)(o:LI)(p:Int)(u:Bool)(v:Int)(a b:LB):CH:=
(Ee ([]:LI) o).bind λaf=>
some (f,a,g,h,k,m,n,af,p,b,u,v)
def RQ:=RO
def QL(j2:LB->Int->Int->Int->Int->Int->LI->Int->Bool->Int->LB->LB->CH)(f w:LB)(g h k m n:Int)(o:LI)(p:Int)(y:LB)(u:Bool)(v:Int):CH:=
(
(
(
(Ee ([]:LB) w).bind λa=>
(
(Ee ([]:LB) y).bind λb=>
j2 f g h k m n o p u v a b))))
def Yu:=QL RQ
def Sa(f g:LB)(h k m n o:Int)(p:LI)(u:Int)(v:LB)(b:Bool)(a:Int):Option Int:=
if(Bc a 0)then
some a
else
if b then
some 36
else
some 0
def cH(a m:LB)(n o p u v:Int)(w:LI)(y:Int)(b:LB)(aa:Bool)(ab:Int):Option (LB×LB×Int×Int×Int×Int×Int×LI×Int×LB×Bool×Int):=
(
(
(Ee ([]:LB) b).bind λf=>
some (a,([]:LB),0,0,0,0,0,([]:LI),0,f,false,0)))
def CM(b f:LB)(g h k m n:Int)(o:LI)(p:Int)(u:LB)(v:Bool)(w a:Int):Option (LB×LB×Int×Int×Int×Int×Int×LI×Int×LB×Bool×Int×Int):=
(cH b f g h k m n o p u v w).bind λ(y,aa,ab,ac,ad,ae,af,ag,ah,ai,aj,ak)=>
some (y,aa,ab,ac,ad,ae,af,ag,ah,ai,aj,a,a)
abbrev Og:=Option (LB×LB×Int×Int×Int×Int×Int×LI×Int×LB×Bool×Int×Int)
def Cm(bk3:LB->LB->Int->Int->Int->Int->Int->LI->Int->LB->Bool->Int->Og)(a b:LB)(f g h k m:Int)(n:LI)(o:Int)(p:LB)(u:Bool)(v:Int):Og:=
(Ag a b f g h k m n o p u v).bind λ(bb,bc,bd,be,bf,bg,bh,bi,bj,bk,bl,bm,w)=>
if(geq w (-1:Int))then
(Yu a b f g h k m n o p u v).bind λ(bn,bp,bq,br,bs,bt,bu,bv,bw,bx,bz,da)=>
some (bn,bp,bq,br,bs,bt,bu,bv,bw,bx,bz,da,0)
else
if(Bc w 0)then
(CM a b f g h k m n o p u v w).bind λ(db,dc,dd,de,df,dg,dh,di,dj,dk,dl,dm,dn)=>
some (db,dc,dd,de,df,dg,dh,di,dj,dk,dl,dm,dn)
else
bk3 bb bc bd be bf bg bh bi bj bk bl bm
def Bg:Nat->LB->LB->Int->Int->Int->Int->Int->LI->Int->LB->Bool->Int->Og
|0,_,_,_,_,_,_,_,_,_,_,_,_=>none
|q+1,a,b,f,g,h,k,m,n,o,p,u,v=>Cm (Bg q) a b f g h k m n o p u v
def oF:=Bg Ax
def Se(j3:LB->LB->Int->Int->Int->Int->Int->LI->Int->LB->Bool->Int->Og)(al am:LB)(an ao ap aq ar:Int)(au:LI)(av:Int)(aw:LB)(ax:Bool)(ay:Int)(dp:LB):Og:=
(Ed al am an ao ap aq ar au av aw ax ay).bind λaz=>
if(Bc az 0)then
some (([]:LB),([]:LB),0,0,0,0,0,([]:LI),0,([]:LB),false,0,az)
else
(Yu al am an ao ap aq ar au av aw ax ay).bind λ(y,aa,ab,ac,ad,ae,af,ag,ah,ai,aj,ak)=>
(Sa y aa ab ac ad ae af ag ah ai aj ak).bind λba=>
if(Bc ba 0)then
some (y,aa,ab,ac,ad,ae,af,ag,ah,ai,aj,ak,ba)
else
(Ee aa dp).bind λdq=>
j3 y dq ab ac ad ae af ag ah ai aj ak
def Kf:=Se oF
abbrev Hw:=Option (Int×Int)
def Zx(a:LB)(f g:Int)(b h:LB)(k:Int):Hw:=
if(Cv (Ac a) k)then
some (0,24)
else
if(b==h)then
(Br a (Ao (Ac a) k) (Ad (Ao (Ac a) k) 32)).bind λo=>
(Yk f g).bind λp=>
if(o !=p)then
some (0,12)
else
some (k,0)
else
some (k,0)
def AB:=Zx
def AJ(j6:LB->Int->Int->LB->LB->Int->Hw)(a:LB)(f g:Int)(b h:LB):Hw:=
if(b==h)then
j6 a f g b h (Ad (Ad 32 f) 32)
else
j6 a f g b h (Ad 32 f)
def AN:=AJ AB
def RA(j5:LB->Int->Int->LB->LB->Hw)(a:LB):Hw:=
(Br a (Ao (Ac a) 32) (Ac a)).bind λb=>
(Ym b).bind λ(f,g,n)=>
if(!n)then
some (0,12)
else
(Nn f g true).bind λh=>
(
if(!(b==h))then
(Nn f g false).bind λm=>
if(b !=m)then
some (0,12)
else
j5 a f g b h
else
j5 a f g b h)
def SB:=RA AN
def SA(j4:LB->Hw)(a:LB):Hw:=
if(Cv (Ac a) 32)then
some (0,6)
else
(Br a (Ao (Ac a) 32) (Ad (Ao (Ac a) 32) 8)).bind λu=>
if(u !=([65,80,69,84,65,71,69,88]:LB))then
some (0,6)
else
j4 a
def LJ:=SA SB
abbrev Gi:=Option (Int×Int)
def gU(a:Int):Gi:=
some (a,0)
def gZ:=gU
def LC(j6:Int->Gi)(Tn:LB->Int->Gi)(b:LB)(a:Int):Gi:=
if(Eh (Ac b) 0)then
(LJ b).bind λ(g,h)=>
if(Bc h 0)then
some (0,38)
else
(Br b 0 (Ao (Ac b) g)).bind λk=>
Tn k (Ad a 1)
else
j6 a
def Pa:Nat->LB->Int->Gi
|0,_,_=>none
|q+1,b,a=>LC gZ (Pa q) b a
def jV:=Pa Ax
def IZ(j4:LB->Int->Gi)(f:LB):Gi:=
if(Eh (Ac f) 4000)then
some (0,38)
else
j4 f 0
def Ue:=IZ jV
def Cz(p a:LB)(g u v w y:Int)(b:LI)(h:Int)(aa:LB)(ab:Bool)(ac:Int):Option Int:=
if(geq g 0)then
(Me a).bind λ(k,f)=>
if(Bc f 0)then
some f
else
(Br a k (Ac a)).bind λm=>
(Nq m).bind λ(ad,ae,af,ag,ah,n)=>
some n
else
if((geq (Ac b) 0)||(Cv h (Ac b)))then
some 24
else
(Ue a).bind λ(ai,o)=>
if(Bc o 0)then
some 38
else
some 0
abbrev dM:=Option (Int×Int×Int×Int×Int×Int×LI×Int)
def oZ(a:LB)(b f g h k n:Int):dM:=
(Dw b f g h k).bind λ(ab,p)=>
if(Bc p 0)then
some (0,0,0,0,0,0,([]:LI),p)
else
(Br a n (Ac a)).bind λac=>
(FG ac (Ac ab)).bind λ(u,v)=>
if(Bc v 0)then
some (0,0,0,0,0,0,([]:LI),v)
else
some (b,f,g,h,k,(Ad (Ad n (Bj 4 (Ac u))) 4),u,0)
def Ql:=oZ
def Nf(j2:LB->Int->Int->Int->Int->Int->Int->dM)(a o:LB):dM:=
if(Eh (Ac o) 64)then
some (0,0,0,0,0,0,([]:LI),2)
else
if(Eh (Ac a) 100000)then
some (0,0,0,0,0,0,([]:LI),4)
else
(If a).bind λ(m,w)=>
if(Bc w 0)then
some (0,0,0,0,0,0,([]:LI),w)
else
(Br a m (Ac a)).bind λad=>
(Lh ad).bind λ(b,f,g,h,k,y)=>
if(Bc y 0)then
some (0,0,0,0,0,0,([]:LI),y)
else
if((o==([]:LB)) !=(geq b 1))then
some (0,0,0,0,0,0,([]:LI),26)
else
if(o !=([]:LB))then
if(Cv (Ac a) (Ad (Ad m 22) 8))then
some (0,0,0,0,0,0,([]:LI),24)
else
(Br a (Ad m 22) (Ad (Ad m 22) 8)).bind λae=>
(Pc ae o).bind λ(af,aa)=>
if(Bc aa 0)then
some (0,0,0,0,0,0,([]:LI),aa)
else
if(!af)then
some (0,0,0,0,0,0,([]:LI),26)
else
j2 a b f g h k (Ad (Ad m 22) 8)
else
j2 a b f g h k (Ad m 22)
def Cc:=Nf Ql
abbrev Lp:=Option (Int×Int×Int×Int×Int×Int×LI×Int)
def KS(m n b h k f g:Int)(o:LI):Lp:=
if(Bc n 0)then
some (0,0,0,0,0,0,([]:LI),n)
else
some (b,h,k,f,g,(Ad (Ad m (Bj 4 (Ac o))) 4),o,0)
def JN:=KS
def HC(j4:Int->Int->Int->Int->Int->Int->Int->LI->Lp)(a:LB)(b h k f g m:Int):Lp:=
(Br a m (Ac a)).bind λy=>
(Fw f g).bind λaa=>
(Sf y (Ac aa)).bind λ(o,n)=>
j4 m n b h k f g o
def Pe:=HC JN
def Vx(j3:LB->Int->Int->Int->Int->Int->Int->Lp)(a u:LB):Lp:=
if(Eh (Ac a) 100000)then
some (0,0,0,0,0,0,([]:LI),4)
else
(Me a).bind λ(p,v)=>
if(Bc v 0)then
some (0,0,0,0,0,0,([]:LI),v)
else
(Br a p (Ac a)).bind λab=>
(Nq ab).bind λ(b,h,k,f,g,w)=>
if(Bc w 0)then
some (0,0,0,0,0,0,([]:LI),w)
else
if((u==([]:LB)) !=(geq b 1))then
some (0,0,0,0,0,0,([]:LI),26)
else
if(geq b 2)then
if(Cv (Ao (Ac a) (Ad p 22)) 8)then
some (0,0,0,0,0,0,([]:LI),24)
else
(Br a (Ad p 22) (Ad (Ad p 22) 8)).bind λac=>
(Mx u).bind λad=>
if(ac !=ad)then
some (0,0,0,0,0,0,([]:LI),26)
else
j3 a b h k f g (Ad (Ad p 22) 8)
else
j3 a b h k f g (Ad p 22)
def Ff:=Vx Pe
def lX(a:Int):Option Int:=
some a
def mE:=lX
def Xr(j6:Int->Option Int)(Tn:Int->Int->Option Int)(b h k m n o f:Int)(g:LI)(a p:Int):Option Int:=
if(Cv p b)then
(Ap g p).bind λu=>
Tn (Ad a u) (Ad p 1)
else
j6 a
def Ly(b h k m n o f:Int)(g:LI):Nat->Int->Int->Option Int
|0,_,_=>none
|q+1,a,p=>Xr mE (Ly b h k m n o f g q) b h k m n o f g a p
def lO b h k m n o f g:=Ly b h k m n o f g Ax
def mG(j4:Int->Int->Int->Int->Int->Int->Int->LI->Int->Int->Option Int)(h k m n o f:Int)(g:LI)(b:Int):Option Int:=
j4 b h k m n o f g f 0
def ZU:=mG lO
abbrev ER:=Option (LB×Int)
def UU(p:LX)(m n g b h k o:Int)(a:LI):ER:=
if(Bc m 0)then
some (([]:LB),m)
else
(Wj b p).bind λ(af,ai)=>
some (af,0)
def VE:=UU
def UX(j2:LX->Int->Int->Int->Int->Int->Int->Int->LI->ER)(v y:LB)(n g b h k o:Int)(a:LI)(f:Int):ER:=
(ZU n g b h k o a f).bind λu=>
(Ap a f).bind λaa=>
if(Cv (Ao (Ac v) u) aa)then
some (([]:LB),24)
else
(Nr y).bind λ(ab,ag)=>
(Ap a f).bind λac=>
(Br v u (Ad u ac)).bind λad=>
(
(Fw h k).bind λw=>
(Ap w f).bind λ_=>
(Ap w f).bind λae=>
(Dg g b ab ae ad).bind λ(p,m)=>
j2 p m n g b h k o a)
def Un:=UX VE
def Aap(f:LB):Option (Int×Int×Int×Int×Int×Int×Int×Int×Int×Int×LI×Int):=
if(Eh (Ac f) 100000)then
some (0,0,0,0,0,0,0,0,0,0,([]:LI),4)
else
(If f).bind λ(a,n)=>
if(Bc n 0)then
some (0,0,0,0,0,0,0,0,0,0,([]:LI),n)
else
(Br f a (Ac f)).bind λu=>
(Lh u).bind λ(b,g,h,k,m,o)=>
if(Bc o 0)then
some (b,g,h,k,m,0,0,0,0,0,([]:LI),o)
else
(Dw b g h k m).bind λ(p,v)=>
if(geq b 2)then
some (b,g,h,k,m,a,(Ad a 22),(Ad (Ad a 22) 8),0,0,p,0)
else
some (b,g,h,k,m,a,(Ad a 22),(Ad a 22),0,0,p,0)
abbrev Cj:=Option (Int×Int×Int×LX×Int)
def pV(a:LB)(aa b f h:Int)(ad:LX):Cj:=
(Br a aa (Ac a)).bind λaq=>
(LR aq).bind λ(bb,ar)=>
if(Bc ar 0)then
some (0,0,0,([]:LX),38)
else
some (b,f,h,ad,0)
def oV:=pV
def pU(Arn:Int->Int->LX->Cj)(a:LB)(w:LI)(m b f h o p n g y ab:Int)(ac:LX)(k:LI)(aa aj ak ae:Int)(am ad:LX):Cj:=
if(Bc ak 0)then
some (0,0,0,([]:LX),ak)
else
(Ee ad am).bind λau=>
Arn (Ad aa aj) (Ad ae 1) au
def pK Arn:=pU Arn
def XI(j24:Int->Int->Int->Int->LX->LX->Cj)(j26:LB->Int->Int->Int->Int->LX->Cj)(a:LB)(w:LI)(m b f h o p n g y ab:Int)(ac:LX)(k:LI)(aa ae:Int)(ad:LX):Cj:=
if(Cv ae (Ac w))then
(Ap w ae).bind λ_=>
(Ap w ae).bind λaj=>
if(Cv (Ac a) (Ad aa aj))then
some (0,0,0,([]:LX),24)
else
(Ap k ae).bind λ_=>
(Br a aa (Ad aa aj)).bind λav=>
(Ap k ae).bind λaw=>
(Jy b f ac aw av).bind λ(am,ak)=>
j24 aa aj ak ae am ad
else
j26 a aa b f h ad
def Zu(a:LB)(w:LI)(m b f h o p n g y ab:Int)(ac:LX)(k:LI):Nat->Int->Int->LX->Cj
|0,_,_,_=>none
|q+1,aa,ae,ad=>XI (pK (Zu a w m b f h o p n g y ab ac k q) a w m b f h o p n g y ab ac k) oV a w m b f h o p n g y ab ac k aa ae ad
def Aeb a w m b f h o p n g y ab ac k:=Zu a w m b f h o p n g y ab ac k Ax
def ZV(j21:LB->LI->Int->Int->Int->Int->Int->Int->Int->Int->Int->Int->LX->LI->Int->Int->LX->Cj)(a u:LB)(m b f h o p n g:Int)(k:LI)(an y ab:Int)(w:LI):Cj:=
if(Bc an 0)then
some (0,0,0,([]:LX),an)
else
(Uf u).bind λ(ac,bc)=>
j21 a w m b f h o p n g y ab ac k y 0 ([]:LX)
def Ug:=ZV Aeb
def mQ(j20:LB->LB->Int->Int->Int->Int->Int->Int->Int->Int->LI->Int->Int->Int->LI->Cj)(a u:LB)(v:LI)(m b f h o p n g af:Int)(k:LI):Cj:=
j20 a u m b f h o p n g k 0 (Ad (Ad g (Bj 4 (Ac v))) 4) af v
def XZ:=mQ Ug
def ZC(j19:LB->LB->LI->Int->Int->Int->Int->Int->Int->Int->Int->Int->LI->Cj)(Bhc:Int->Int->Cj)(v:LI)(a u:LB)(m b f h o p n g:Int)(k:LI)(ag af:Int):Cj:=
if(Cv ag (Ac v))then
(Ap v ag).bind λ_=>
(Ap v ag).bind λax=>
Bhc (Ad ag 1) (Ad af ax)
else
j19 a u v m b f h o p n g af k
def Zi(v:LI)(a u:LB)(m b f h o p n g:Int)(k:LI):Nat->Int->Int->Cj
|0,_,_=>none
|q+1,ag,af=>ZC XZ (Zi v a u m b f h o p n g k q) v a u m b f h o p n g k ag af
def pQ v a u m b f h o p n g k:=Zi v a u m b f h o p n g k Ax
def ZA(j20:LB->LB->Int->Int->Int->Int->Int->Int->Int->Int->LI->Int->Int->Int->LI->Cj)(j17:LI->LB->LB->Int->Int->Int->Int->Int->Int->Int->Int->LI->Int->Int->Cj)(al:Int)(a u:LB)(m b f h o p n g ah ai:Int)(v k:LI):Cj:=
if(Bc al 0)then
j20 a u m b f h o p n g k al ah ai ([]:LI)
else
j17 v a u m b f h o p n g k 0 (Ad (Ad g (Bj 4 (Ac v))) 4)
def XJ:=ZA Ug pQ
def mL(j20:LB->LB->Int->Int->Int->Int->Int->Int->Int->Int->LI->Int->Int->Int->LI->Cj)(j16:Int->LB->LB->Int->Int->Int->Int->Int->Int->Int->Int->Int->Int->LI->LI->Cj)(a u:LB)(m b f h o p n g ah ai:Int)(k:LI):Cj:=
if(Cv (Ac a) g)then
j20 a u m b f h o p n g k 24 ah ai ([]:LI)
else
(Br a g (Ac a)).bind λay=>
(FG ay (Ac k)).bind λ(v,al)=>
j16 al a u m b f h o p n g ah ai v k
def KB:=mL Ug XJ
def YT(j15:LB->LB->Int->Int->Int->Int->Int->Int->Int->Int->Int->Int->LI->Cj)(a u:LB)(m b f h o p n g ah ai:Int)(k:LI)(ao:Int):Cj:=
if(Bc ao 0)then
some (0,0,0,([]:LX),ao)
else
j15 a u m b f h o p n g ah ai k
def AL:=YT KB
def sO(j14:LB->LB->Int->Int->Int->Int->Int->Int->Int->Int->Int->Int->LI->Int->Cj)(a u:LB):Cj:=
if(Eh (Ac u) 64)then
some (0,0,0,([]:LX),2)
else
(Aap a).bind λ(m,b,f,h,o,p,n,g,ah,ai,k,ap)=>
if(Bc ap 0)then
some (0,0,0,([]:LX),ap)
else
if((u==([]:LB)) !=(geq m 1))then
j14 a u m b f h o p n g ah ai k 26
else
if(geq m 1)then
j14 a u m b f h o p n g ah ai k 0
else
if(Cv (Ac a) g)then
j14 a u m b f h o p n g ah ai k 24
else
(Br a n g).bind λaz=>
(Pc az u).bind λ(ba,bd)=>
if(!ba)then
j14 a u m b f h o p n g ah ai k 26
else
j14 a u m b f h o p n g ah ai k 0
def Ny:=sO AL
def YP(a:LB):Option (Int×Int×Int×Int×Int×Int×Int):=
if(Eh (Ac a) 100000)then
some (0,0,0,0,0,0,4)
else
(Me a).bind λ(b,f)=>
if(Bc f 0)then
some (0,0,0,0,0,0,f)
else
(Br a b (Ac a)).bind λg=>
(Nq g).bind λ(h,k,m,n,o,p)=>
some (b,h,k,m,n,o,p)
def VN(f:LB)(a g m n o p:Int)(b:LB):Option (Int×Int):=
if((b==([]:LB)) !=(geq g 1))then
some (0,26)
else
if(b==([]:LB))then
some (a,0)
else
if(Cv (Ac f) (Ad a 8))then
some (0,24)
else
(Br f a (Ad a 8)).bind λh=>
(Mx b).bind λk=>
if(h !=k)then
some (0,26)
else
some ((Ad a 8),0)
def EY(a:LB)(b o p u f g:Int):Option (LI×Int):=
(Br a b (Ac a)).bind λh=>
(Fw f g).bind λk=>
(Sf h (Ac k)).bind λ(m,n)=>
some (m,n)
abbrev Fc:=Option (Int×Int×Int×LX×Int)
def MJ(a:LB)(n b f g:Int)(v:LX):Fc:=
(Br a n (Ac a)).bind λaf=>
(Ue af).bind λ(ao,ag)=>
if(Bc ag 0)then
some (0,0,0,([]:LX),38)
else
some (b,f,g,v,0)
def MS:=MJ
def MY(bk7:Int->Int->LX->Fc)(a:LB)(o b f g k:Int)(h p:LI)(u:LX)(n m:Int)(y:LX)(w:Int)(v:LX):Fc:=
if(Bc w 0)then
some (0,0,0,([]:LX),w)
else
(Ee v y).bind λah=>
(Ap h m).bind λ_=>
(Ap h m).bind λai=>
bk7 (Ad n ai) (Ad m 1) ah
def NA bk7:=MY bk7
def Zj(j10:Int->Int->LX->Int->LX->Fc)(j12:LB->Int->Int->Int->Int->LX->Fc)(a:LB)(o b f g k:Int)(h p:LI)(u:LX)(n m:Int)(v:LX):Fc:=
if(Cv m (Ac h))then
(Ap h m).bind λ_=>
(Ap h m).bind λaj=>
if(Cv (Ao (Ac a) n) aj)then
some (0,0,0,([]:LX),24)
else
(Ap p m).bind λ_=>
(Ap h m).bind λ_=>
(Ap p m).bind λak=>
(Ap h m).bind λal=>
(Br a n (Ad n al)).bind λam=>
(Dg b f u ak am).bind λ(y,w)=>
j10 n m y w v
else
j12 a n b f g v
def Nc(a:LB)(o b f g k:Int)(h p:LI)(u:LX):Nat->Int->Int->LX->Fc
|0,_,_,_=>none
|q+1,n,m,v=>Zj (NA (Nc a o b f g k h p u q) a o b f g k h p u) MS a o b f g k h p u n m v
def SF a o b f g k h p u:=Nc a o b f g k h p u Ax
def QF(j7:LB->Int->Int->Int->Int->Int->LI->LI->LX->Int->Int->LX->Fc)(a aa:LB):Fc:=
if(Eh (Ac aa) 64)then
some (0,0,0,([]:LX),2)
else
(YP a).bind λ(an,o,b,f,g,k,ab)=>
if(Bc ab 0)then
some (0,0,0,([]:LX),ab)
else
(VN a (Ad an 22) o b f g k aa).bind λ(ac,ad)=>
if(Bc ad 0)then
some (0,0,0,([]:LX),ad)
else
(EY a ac o b f g k).bind λ(h,ae)=>
if(Bc ae 0)then
some (0,0,0,([]:LX),ae)
else
(Fw g k).bind λp=>
(Nr aa).bind λ(u,ap)=>
j7 a o b f g k h p u (Ad ac (Ad (Bj 4 (Ac h)) 4)) 0 ([]:LX)
def Ka:=QF SF
def xD(a n:LB)(b:Int):Option UInt8:=
if(Eh (Ac a) 100000)then
some 0
else
(If a).bind λ(f,g)=>
if(Bc g 0)then
some 1
else
(Br a f (Ac a)).bind λh=>
(Lh h).bind λ(k,o,p,u,v,m)=>
if(Bc m 0)then
some 2
else
if(geq b 26)then
if(geq b 26)then
some 3
else
some 4
else
if((geq k 2)&&(Cv (Ao (Ac a) f) 30))then
some 3
else
some 4
end Go.Pl
