/- A part of a proof (see the text that ends in Proof). No conditions. -/
import Derived.Test.YtehlnpncgkmoaaaGreatDoorOeBA
set_option linter.unusedVariables false
namespace Go.Pl
open Go Go.Lv
abbrev LB:=List UInt8
abbrev LI:=List Int
abbrev LX:=List Int32
abbrev LU:=List UInt32
abbrev LQ:=List UInt64
variable(O:Int->Int->Int->Int->LB->LB->LX-> (List LB)->LB->Bool->Int->Option Bool)(x c i I:Int)(z q:LB)(d:LX)(r:List LB)(A:LB)(s:Bool)(e l G X Y:Int)(C:LI)(Z:Int)(D:LB)(R:Bool)(T Aw9:Int)(Axm:List LB)(o9 Ax0:LB)(Ax1 Ax2 Ax3:Int)(Ax4:LB)(Ax5:Bool)(Ax6:Int)(Ax7:LB)(B:LX)(Axh:LB)(Ax8:Bool)(y8:Int)(Ax9:LB)(p9:List LB)(x9:LB)(j:UInt64)(E:UInt32)(L:UInt64)(U:LB)(M Axn Axj:Int)(w9 Axa:UInt64)(Axo:LB)(y5:UInt64->Option UInt64)(y7:UInt64->Int->Option UInt64)(Axp:Int)(Axe:LB)(Aya:Int)(l5:UInt64)(l7:Int)(t:Int32)(J:Int)(P V:LX)(p8:Int32)(Axb:LX->Option (LX))(r9:Int->LX->Option (LX))(l8:LX)(N Axq:Int)(l6:LX)(F:LU)(l9 o7:Int)(y9:LX)(Axw:Int)(Ayb:UInt64)(Axf:Int)(Axr:LX)(Axs:UInt8)(Axx:UInt64)(Axk:Int)(Axt:Int->Int->Option Int)(Axu:Int->Option Int)(Axi:LI)(Axl Axc:Int)(Ayc:Int->Int->Option Int)(Ayd Axy Axz:Int)(q9:List (LB×LB×Unit))(o8:LQ)(Axv:Bool)(Axg:List (Int×Int×UInt64×UInt64×Unit))(Axd:LB)
def OY(a b f:Int)(g:LX):Option (Int×Int):=
some (a,b)
abbrev TU:=Option (Int32×Int32×Int)
def OW:TU:=
if s then
(Hq (Ls (Ak x 1) 0)).bind λ_=>
some ((M1 (Di (1:Int32) (GI.toZ (Ak x 1)).toNat)),(Ak (Di (1:Int32) (GI.toZ (Ak x 1)).toNat) 1),0)
else
some (0,0,2)
def QY:=OW
def PU(j2:Int->Bool->TU)(a:Int):TU:=
if(geq a 8)then
j2 a (geq a 8)
else
if(geq a 16)then
j2 a (geq a 16)
else
j2 a (geq a 24)
def Nd:=PU QY
def Ep:Option Int:=
(Nd c).bind λ(z,d,e)=>
if(((Bm e 0)||(Cm x 1))||(Da x 6))then
some 2
else
some 0
def Ko:Option (Int×Int):=
if((Cm x 1)||(Da x 1048576))then
some (0,2)
else
some ((nZ 1 (Ay (Bc 256 x) 245)),0)
def Kq:Option (Int×Int):=
(Ko x).bind λ(z,d)=>
if(Bm d 0)then
some (0,d)
else
if((Cm c 1)||(Da c 4000))then
some (0,2)
else
(Hq (Bm z 0)).bind λ_=>
if(Da (Ay (Ak (Ae c z) 1) z) 1000)then
some (0,4)
else
some ((Ay (Ak (Ae c z) 1) z),0)
def HV:Option Int:=
(OY x c i d).bind λ(z,j)=>
(Ep z j).bind λl=>
if((Bm l 0)||(Cm e 1))then
some 8
else
(Hq (Bm x 0)).bind λ_=>
if(Da e (Ay 4000 x))then
some 8
else
(Kq i e).bind λ(q,r)=>
if(Bm r 0)then
some 8
else
some 0
def yZ:Option Int:=
some 0
def eY:=yZ
def DM(j6:Option Int)(Ni:Int->Option Int)(b f:Int32)(a:LX)(g:Int):Option Int:=
if(Cm g (Ac a))then
(Aj a g).bind λh=>
if((Cm h b)||(Da h f))then
some 16
else
Ni (Ae g 1)
else
j6
def Ro:Nat->Int->Option Int
|0,_=>none
|x+1,z=>DM eY (Ro x) t p8 l8 z
def vJ b f a:=Ro b f a Aq
def QB(j4:Int32->Int32->LX->Int->Option Int)(m:Int)(a:LX):Option Int:=
(Nd m).bind λ(b,f,k)=>
if(Bm k 0)then
some k
else
if(Da (Ac a) 4000)then
some 4
else
j4 b f a 0
def Po:=QB vJ
def Hu:Option Int:=
if(Cm x 1)then
some 8
else
(Hq (Bm x 0)).bind λ_=>
if(Bm (Fm (Ac d) x) 0)then
some 8
else
(Hq (Bm x 0)).bind λ_=>
(HV x c i d (Ay (Ac d) x)).bind λz=>
if(Bm z 0)then
some z
else
(Po c d).bind λe=>
if(Bm e 0)then
some 8
else
some 0
abbrev Dh:=Option (LB×Int)
def tK:Dh:=
some (z,0)
def aT:=tK
def aQ(Er:Int->LB->Dh)(b:Int)(a:LX)(f:Int)(h:LB):Dh:=
Er (Ae f 1) h
def MB Er:=aQ Er
def AK(j28:Int->LB->Dh)(Abn:Int->LB->Dh)(b:Int)(a:LX)(k:Int32)(f m:Int)(h:LB):Dh:=
if(Cm m (Ay b 8))then
(Hq (Ls (Bc 8 m) 0)).bind λ_=>
(Br h ([(Ad (Ce k (GI.toZ (Bc 8 m)).toNat):UInt8)]:LB)).bind λp=>
Abn (Ae m 1) p
else
j28 f h
def Jo(Er:Int->LB->Dh)(b:Int)(a:LX)(k:Int32)(f:Int):Nat->Int->LB->Dh
|0,_,_=>none
|q+1,m,h=>AK (MB Er b a) (Jo Er b a k f q) b a k f m h
def MJ Er b a k f:=Jo Er b a k f Aq
def LJ(j26:Int32->Int->Int->LB->Dh)(b:Int)(a:LX)(f:Int)(g:LB)(k:Int32):Dh:=
j26 k f 0 g
def Pc Er b a:=LJ (MJ Er b a) b a
def AO(j25:Int->LB->Int32->Dh)(j30:LB->Dh)(b:Int)(a:LX)(f:Int)(g:LB):Dh:=
if(Cm f (Ac a))then
(Aj a f).bind λn=>
if(geq b 8)then
j25 f g (Ae n 128)
else
j25 f g n
else
j30 g
def Gb:Nat->Int->LB->Dh
|0,_,_=>none
|z+1,c,e=>AO (Pc (Gb z) x d) aT x d c e
def tQ b a:=Gb b a Aq
def QD(j16:Int->LX->Int->LB->Dh)(b:Int)(a:LX):Dh:=
(Po b a).bind λo=>
if(Bm o 0)then
some (([]:LB),o)
else
j16 b a 0 ([]:LB)
def CU:=QD tQ
def Qg:Option (Int×Bool):=
(Ko i).bind λ(d,e)=>
(Ep x c).bind λj=>
some (d,(((geq j 0)&&(geq e 0))&&(xZ (Ac z) 64)))
def CM:Option (Int×Int×Int×LB×LB×LX×(List LB)×LB×Bool×Int×Int):=
(Qg x c i z).bind λ(d,e)=>
if(!e)then
some (0,0,0,([]:LB),([]:LB),([]:LX),([]:List LB),([]:LB),false,0,2)
else
some (x,c,i,z,([]:LB),([]:LX),([]:List LB),([]:LB),false,0,0)
def Rt:Option Int:=
some (Ay (Bc x c) 8)
def Qe(a h k:Int)(m n:LB)(b:LX)(f:List LB)(o:LB)(p:Bool)(u g:Int):Option Int:=
(Hq (Bm a 0)).bind λ_=>
some (Ae (Bc (Ac f) g) (Ay (Ac b) a))
def Py(a g h:Int)(k m:LB)(n:LX)(o:List LB)(p:LB)(u:Bool)(v b f:Int):Option Bool:=
some ((xZ b 1000)&&(xZ (Bc f a) 4000))
def MW:Option Bool:=
some (!s)
def MX:=MW
def MO(j24:Bool->Option Bool)(y:Bool):Option Bool:=
j24 y
def Zm:=MO MX
def iV(j23:Bool->Option Bool):Option Bool:=
j23 (Ls (-1:Int) (0:Int))
def MR:=iV Zm
def Zf(Er:Int->Option Bool)(b:List LB)(f a h:Int):Option Bool:=
Er (Ae h 1)
def Za Er:=Zf Er
def Zl(j23:Bool->Option Bool)(j20:Int->Option Bool)(b:List LB)(f a h:Int)(w:LB):Option Bool:=
if((Cm (Ac w) 5)||(Da (Ac w) (Ae (Ay (Ae (Bc (Bc 81 f) a) 7) 8) 4)))then
j23 (Ls h 0)
else
j20 h
def Qi Er b f a:=Zl Zm (Za Er b f a) b f a
def Jh(j19:Int->LB->Option Bool)(j22:Option Bool)(b:List LB)(f a h:Int):Option Bool:=
if(Cm h (Ac b))then
(Aj b h).bind λw=>
j19 h w
else
j22
def Du:Nat->Int->Option Bool
|0,_=>none
|x+1,z=>Jh (Qi (Du x) r e l) MR r e l z
def Ql b f a:=Du b f a Aq
def Ly(j16:(List LB)->Int->Int->Int->Option Bool)(f a k o:Int)(p m:LB)(g:LX)(b:List LB)(n:LB)(u:Bool)(v:Int):Option Bool:=
j16 b f a 0
def Ra:=Ly Ql
def Mb:Option Bool:=
(Qe c i I z q d r A s e x).bind λj=>
(Py c i I z q d r A s e l j).bind λt=>
if(!t)then
some false
else
O x c i I z q d r A s e
def Md:=Mb Ra
def Qr(j14:Int->Int->Int->Int->LB->LB->LX-> (List LB)->LB->Bool->Int->Int->Option Bool)(f a k o:Int)(p m:LB)(g:LX)(b:List LB)(n:LB)(u:Bool)(v:Int):Option Bool:=
(Po k g).bind λad=>
if(Bm ad 0)then
some false
else
if(Da (Ac g) 0)then
j14 f a k o p m g b n u v (Ae (Ac b) 1)
else
j14 f a k o p m g b n u v (Ac b)
def Qn:=Qr Md
def Th:Option Bool:=
if(Da (Ac A) 0)then
if true then
if true then
if(true||(Da (Ac r) 1000))then
some false
else
O l x c i z q d r A s e
else
(Hq (Bm x 0)).bind λ_=>
if((Ls (Ay (Ac d) x) l)||(Da (Ac r) 1000))then
some false
else
O l x c i z q d r A s e
else
(Hq (Bm x 0)).bind λ_=>
if(Bm (Fm (Ac d) x) 0)then
if(true||(Da (Ac r) 1000))then
some false
else
O l x c i z q d r A s e
else
(Hq (Bm x 0)).bind λ_=>
if((Ls (Ay (Ac d) x) l)||(Da (Ac r) 1000))then
some false
else
O l x c i z q d r A s e
else
(Rt x c).bind λj=>
if(Ls (Ac q) j)then
if true then
if(true||(Da (Ac r) 1000))then
some false
else
O l x c i z q d r A s e
else
(Hq (Bm x 0)).bind λ_=>
if((Ls (Ay (Ac d) x) l)||(Da (Ac r) 1000))then
some false
else
O l x c i z q d r A s e
else
(Hq (Bm x 0)).bind λ_=>
if(Bm (Fm (Ac d) x) 0)then
if(true||(Da (Ac r) 1000))then
some false
else
O l x c i z q d r A s e
else
(Hq (Bm x 0)).bind λ_=>
if((Ls (Ay (Ac d) x) l)||(Da (Ac r) 1000))then
some false
else
O l x c i z q d r A s e
def Oz:=Th Qn
def Uu:Option Int:=
(Qg x c i z).bind λ(j,l)=>
if(!l)then
some 8
else
if(Bm e 0)then
if(!(((((geq e 18)||(geq e 24))&&(!s))&&(geq (Ae (Ae (Ac q) (Ac d)) (Ac r)) 0))&&(geq (Ac A) 0)))then
some 8
else
some 0
else
if s then
if(!((geq (Ae (Ae (Ac q) (Ac d)) (Ac r)) 0)&&(xZ (Ac A) 100000)))then
some 8
else
some 0
else
(Oz x c i z q d r A s e j).bind λt=>
if(!t)then
some 8
else
some 0
def Bv:Option (LB):=
(
(Br ([]:LB) z).bind λx=>
some x)
def Cx:Option (LX):=
(
(Br ([]:LX) d).bind λx=>
some x)
abbrev Jb:=Option (Int×Int×Int×LB×LB×LX×(List LB)×LB×Bool×Int)
def tT(b f g:Int)(h:LB)(a:List LB)(k:Bool)(m:Int)(u:List LB)(n:LB)(o:LX)(p:LB):Jb:=
some (b,f,g,h,n,o,u,p,k,m)
def aM:=tT
def AS(j8:Int->Int->Int->LB-> (List LB)->Bool->Int-> (List LB)->LB->LX->LB->Jb)(rO:Int-> (List LB)->Jb)(w a:List LB)(b f g:Int)(h:LB)(k:Bool)(m:Int)(n:LB)(o:LX)(p:LB)(v:Int)(u:List LB):Jb:=
if(Cm v (Ac (aS w a)))then
(Aj u v).bind λ_=>
(Aj u v).bind λy=>
(Bv y).bind λaa=>
(Aj u v).bind λ_=>
(Ku u v aa).bind λab=>
rO (Ae v 1) ab
else
j8 b f g h a k m u n o p
def Pb:Nat->Int-> (List LB)->Jb
|0,_,_=>none
|x+1,z,c=>AS aM (Pb x) r Axm Ax1 Ax2 Ax3 Ax4 Ax5 Ax6 Ax7 B Axh z c
def tN w a b f g h k m n o p:=Pb w a b f g h k m n o p Aq
def ME(j6:(List LB)-> (List LB)->Int->Int->Int->LB->Bool->Int->LB->LX->LB->Int-> (List LB)->Jb)(b f g:Int)(h:LB)(a:List LB)(k:Bool)(m:Int)(n:LB)(o:LX)(p:LB):Jb:=
(mkI (Ac a) ([]:LB)).bind λw=>
(Hq (geq (Ac a) (Ac a))).bind λ_=>
j6 w a b f g h k m n o p 0 (aS w a)
def aN:=ME tN
def LV(j5:Int->Int->Int->LB-> (List LB)->Bool->Int->LB->LX->LB->Jb)(b f g:Int)(h ac:LB)(ad:LX)(a:List LB)(ae:LB)(k:Bool)(m:Int):Jb:=
(Bv ac).bind λn=>
(Cx ad).bind λo=>
(Bv ae).bind λp=>
j5 b f g h a k m n o p
def NT:=LV aN
abbrev LY:=Option (Int×Int×Int×LB×LB×LX×(List LB)×LB×Bool×Int×Int×Int)
def US:LY:=
(NT c i I z q d r A s e).bind λ(j,t,B,C,D,E,F,G,J,L)=>
some (j,t,B,C,D,E,F,G,J,L,x,l)
def XT:=US
def UK(j2:Int->Int->Int->Int->LB->LB->LX-> (List LB)->LB->Bool->Int->Int->LY)(g h b:Int)(k m:LB)(n:LX)(o:List LB)(p:LB)(f:Bool)(a:Int):LY:=
(Uu g h b k m n o p f a).bind λv=>
if(Bm v 0)then
some (0,0,0,([]:LB),([]:LB),([]:LX),([]:List LB),([]:LB),false,0,0,v)
else
(Ko b).bind λ(u,aj)=>
if(Bm a 0)then
j2 u g h b k m n o p f a a
else
if f then
j2 u g h b k m n o p f a 36
else
j2 u g h b k m n o p f a aj
def AH:=UK XT
abbrev Ci:=Option (LX×Int)
def oU:Ci:=
some (d,0)
def SG:=oU
def Wd(Er:Int->LX->Ci)(a:Int)(b:LB)(f:Int)(o:LX):Ci:=
Er (Ae f (Ay a 8)) o
def Iy Er:=Wd Er
def DB(j28:Int->LX->Ci)(a:Int)(b:LB)(f:Int)(k:Int32)(g:LX):Ci:=
(Hq (Ls (Ak 32 a) 0)).bind λ_=>
(Hq (Ls (Ak 32 a) 0)).bind λ_=>
(Br g ([(Ce (Di k (GI.toZ (Ak 32 a)).toNat) (GI.toZ (Ak 32 a)).toNat)]:LX)).bind λp=>
j28 f p
def Wh Er a b:=DB (Iy Er a b) a b
def Ey(j27:Int->Int32->LX->Ci)(Ap8:Int32->Int->Ci)(a:Int)(b:LB)(f:Int)(g:LX)(k:Int32)(h:Int):Ci:=
if(Cm h (Ay a 8))then
(Aj b (Ae f h)).bind λm=>
(Hq (Ls (Bc 8 h) 0)).bind λ_=>
Ap8 (yG k (Di (Ad m:Int32) (GI.toZ (Bc 8 h)).toNat)) (Ae h 1)
else
j27 f k g
def Ee(Er:Int->LX->Ci)(a:Int)(b:LB)(f:Int)(g:LX):Nat->Int32->Int->Ci
|0,_,_=>none
|q+1,k,h=>Ey (Wh Er a b) (Ee Er a b f g q) a b f g k h
def Lo Er a b f g:=Ee Er a b f g Aq
def Ff(j28:Int->LX->Ci)(j25:Int->LX->Int32->Int->Ci)(j30:LX->Ci)(a:Int)(b:LB)(f:Int)(g:LX):Ci:=
if(Cm f (Ac b))then
if(geq a 8)then
(Aj b f).bind λm=>
(Br g ([(Ak (Ad m:Int32) 128)]:LX)).bind λu=>
j28 f u
else
j25 f g 0 0
else
j30 g
def Dm:Nat->Int->LX->Ci
|0,_,_=>none
|c+1,d,e=>Ff (Iy (Dm c) x z) (Lo (Dm c) x z) SG x z d e
def SQ a b:=Dm a b Aq
def IF(j16:Int->LB->Int->LX->Ci)(a:Int)(b:LB):Ci:=
(Nd a).bind λ(v,w,n)=>
if(Bm n 0)then
some (([]:LX),n)
else
(Hq (Bm (Ay a 8) 0)).bind λ_=>
if(Bm (Fm (Ac b) (Ay a 8)) 0)then
some (([]:LX),12)
else
(Hq (Bm (Ay a 8) 0)).bind λ_=>
if(Da (Ay (Ac b) (Ay a 8)) 4000)then
some (([]:LX),4)
else
j16 a b 0 ([]:LX)
def Zw:=IF SQ
abbrev Bz:=Option (UInt64×Int)
def eK:Bz:=
some (j,0)
def eM:=eK
def cY(j30:UInt64->Bz)(h b:UInt64)(a:LB)(f:LQ):Bz:=
j30 h
def QA:=cY eM
def EE(j29:UInt64->UInt64->LB->LQ->Bz)(aE:UInt64->Int->Bz)(a:LB)(b:UInt64)(f:LQ)(h:UInt64)(m:Int):Bz:=
if(Cm m (Ac a))then
(Aj a m).bind λp=>
Option.bind (Aj f (GI.toZ (Zk (Ad (Ce h (GI.toZ (56:UInt64)).toNat):UInt8) p))) λ_=>
Option.bind (Aj f (GI.toZ (Zk (Ad (Ce h (GI.toZ (56:UInt64)).toNat):UInt8) p))) λu=>
aE (Zk (Di h (GI.toZ (8:UInt64)).toNat) u) (Ae m 1)
else
j29 h b a f
def Ru:Nat->UInt64->Int->Bz
|0,_,_=>none
|x+1,c,d=>EE QA (Ru x) z j o8 c d
def OX a b f:=Ru a b f Aq
def OO(j27:LB->UInt64->LQ->UInt64->Int->Bz)(b:UInt64)(a:LB)(f:LQ):Bz:=
j27 a b f b 0
def PW:=OO OX
def cQ(Er:Int->LQ->Bz)(b:UInt64)(a:LB)(g:Int)(o:LQ):Bz:=
Er (Ae g 1) o
def dO Er:=cQ Er
def dG(j24:Int->LQ->Bz)(b:UInt64)(a:LB)(g:Int)(k:UInt64)(f:LQ):Bz:=
(Aj f g).bind λ_=>
(Ku f g k).bind λo=>
j24 g o
def DV Er b a:=dG (dO Er b a) b a
def DE(j23:Int->UInt64->LQ->Bz)(Ap9:UInt64->Int->Bz)(b:UInt64)(a:LB)(g:Int)(f:LQ)(k:UInt64)(n:Int):Bz:=
if(Cm n 8)then
Ap9 (Zk (Di k (GI.toZ (1:UInt64)).toNat) (Bc 4823603603198064275 (Ce k (GI.toZ (63:UInt64)).toNat))) (Ae n 1)
else
j23 g k f
def Sd(Er:Int->LQ->Bz)(b:UInt64)(a:LB)(g:Int)(f:LQ):Nat->UInt64->Int->Bz
|0,_,_=>none
|q+1,k,n=>DE (DV Er b a) (Sd Er b a g f q) b a g f k n
def QZ Er b a g f:=Sd Er b a g f Aq
def EF(j21:Int->LQ->UInt64->Int->Bz)(j26:UInt64->LB->LQ->Bz)(b:UInt64)(a:LB)(g:Int)(f:LQ):Bz:=
if(Cm g 256)then
j21 g f (Di (Ad g:UInt64) (GI.toZ (56:UInt64)).toNat) 0
else
j26 b a f
def Nt:Nat->Int->LQ->Bz
|0,_,_=>none
|x+1,z,c=>EF (QZ (Nt x) j U) PW j U z c
def eB b a:=Nt b a Aq
def TV(j16:UInt64->LB->Int->LQ->Bz)(b:UInt64)(a:LB):Bz:=
if(Da (Ac a) 100000)then
some (0,4)
else
j16 b a 0 (List.replicate 256 (0:UInt64))
def ZF:=TV eB
def VQ:Option (UInt64×Int):=
(ZF 0 z).bind λ(x,c)=>
some (x,c)
def Abi:Option (LX):=
some d
def wI:=Abi
def aC:Option (LX):=
if(Cm Axf 8)then
(Hq (Ls (Bc 8 Axf) 0)).bind λ_=>
(Aj Axr Axf).bind λ_=>
(Ku Axr Axf (Ad (Ad (Ce Ayb (GI.toZ (Bc 8 Axf)).toNat):Int8):Int32)).bind λx=>
r9 (Ae Axf 1) x
else
Axb Axr
def IG:Nat->Int->LX->Option (LX)
|0,_,_=>none
|x+1,z,c=>aC wI (IG x) j z c
def Abk f:=IG f Aq
def yT(j4:UInt64->Int->LX->Option (LX))(f:UInt64):Option (LX):=
j4 f 0 (List.replicate 16 (0:Int32))
def L8:=yT Abk
def XD:Option (LX×Int):=
if(Da (Ac z) 64)then
some (([(0:Int32),(0:Int32),(0:Int32),(0:Int32),(0:Int32),(0:Int32),(0:Int32),(0:Int32),(0:Int32),(0:Int32),(0:Int32),(0:Int32),(0:Int32),(0:Int32),(0:Int32),(0:Int32)]:LX),2)
else
(VQ z).bind λ(x,c)=>
if(Bm c 0)then
some (([(0:Int32),(0:Int32),(0:Int32),(0:Int32),(0:Int32),(0:Int32),(0:Int32),(0:Int32),(0:Int32),(0:Int32),(0:Int32),(0:Int32),(0:Int32),(0:Int32),(0:Int32),(0:Int32)]:LX),c)
else
(L8 x).bind λd=>
some (d,0)
def IX:Option Int:=
(Ep x c).bind λz=>
if(Bm z 0)then
some z
else
(Po c d).bind λe=>
if(Bm e 0)then
some e
else
if(geq (Ac d) 0)then
some 2
else
(Hq (Bm x 0)).bind λ_=>
if(Bm (Fm (Ac d) x) 0)then
some 2
else
some 0
def WM:Option Int:=
if((Cm x 1)||(Da x 6))then
some 2
else
if(Da (Ac d) 4000)then
some 4
else
(Hq (Bm x 0)).bind λ_=>
if(Bm (Fm (Ac d) x) 0)then
some 2
else
some 0
abbrev Jj:=Option (LX×Int)
def jw:Jj:=
some (d,0)
def rU:=jw
def dA(UG:Int->LX->Jj)(b a:Int)(u:LX):Jj:=
UG (Ae a b) u
def fE UG:=dA UG
def tG(j20:Int->LX->Jj)(b a:Int)(g:LX):Jj:=
if(Da (Ak ((Ae a b)-a) 1) 0)then
(Hq (decide (0<= (Ak ((Ae a b)-a) 1)/\ (Ak ((Ae a b)-a) 1)<((Ae a b)-a)))).bind λ_=>
Option.bind (Hq (decide (0<= (Ak (Ak ((Ae a b)-a) 1) 1)/\ (Ak (Ak ((Ae a b)-a) 1) 1)<((Ae a b)-a)))) λ_=>
(Aj g (a+(Ak ((Ae a b)-a) 1))).bind λk=>
(Aj g (a+(Ak (Ak ((Ae a b)-a) 1) 1))).bind λm=>
(Hq (decide (0<= (Ak ((Ae a b)-a) 1)/\ (Ak ((Ae a b)-a) 1)<((Ae a b)-a)))).bind λ_=>
(Ku g (a+(Ak ((Ae a b)-a) 1)) (Ak k (Ay m 2))).bind λn=>
j20 a n
else
j20 a g
def cP UG b:=tG (fE UG b) b
def RO(j19:Int->LX->Jj)(Atr:Int->LX->Jj)(b a f:Int)(g:LX):Jj:=
if(Cm f (Ak ((Ae a b)-a) 1))then
(Hq (decide (0<= (Ae f 1)/\ (Ae f 1)<((Ae a b)-a)))).bind λ_=>
(Hq (decide (0<=f/\f<((Ae a b)-a)))).bind λ_=>
(Aj g (a+(Ae f 1))).bind λk=>
(Aj g (a+f)).bind λm=>
(Hq (decide (0<=f/\f<((Ae a b)-a)))).bind λ_=>
(Ku g (a+f) (Ak k m)).bind λn=>
Atr (Ae f 1) n
else
j19 a g
def CP(UG:Int->LX->Jj)(b a:Int):Nat->Int->LX->Jj
|0,_,_=>none
|q+1,f,g=>RO (cP UG b) (CP UG b a q) b a f g
def sF UG b a:=CP UG b a Aq
def cV(j17:Int->Int->LX->Jj)(j22:LX->Jj)(b a:Int)(h:LX):Jj:=
if(Cm a (Ac h))then
(uG (Ac h) a (Ae a b)).bind λ_=>
j17 a 0 h
else
j22 h
def CY:Nat->Int->LX->Jj
|0,_,_=>none
|z+1,c,d=>cV (sF (CY z) x) rU x c d
def rY b:=CY b Aq
def lR(j12:Int->Int->LX->Jj)(b:Int)(o:LX):Jj:=
(WM b o).bind λp=>
if(Bm p 0)then
some (([]:LX),p)
else
(Cx o).bind λv=>
j12 b 0 v
def uP:=lR rY
abbrev lG:=Option (Int×LX×LX×Int)
def sw:lG:=
if s then
some (10,d,(List.replicate 16 (0:Int32)),0)
else
if(geq x 16)then
some (9,d,(List.replicate 16 (0:Int32)),0)
else
some (0,(List.replicate 16 (0:Int32)),(List.replicate 16 (0:Int32)),2)
def eu:=sw
def mq(j2:Int->LX->Bool->lG)(a:Int)(b:LX):lG:=
if(geq a 8)then
j2 a b (geq a 8)
else
j2 a b (geq a 24)
def oQ:=mq eu
def rM:Option (Int×Int32×Int×LX×LX×Int):=
(oQ x d).bind λ(z,c,e,i)=>
if(Bm i 0)then
some (0,0,0,(List.replicate 16 (0:Int32)),(List.replicate 16 (0:Int32)),i)
else
some (x,0,z,c,e,0)
def CF(a:Int)(k:Int32)(b:Int)(f m:LX):Option Int:=
(oQ a f).bind λ(g,n,o,h)=>
if((Bm h 0)||(Bm g b))then
some 8
else
some 0
def eE:Option (Int×Int):=
if(geq x 8)then
some (4,0)
else
if(geq x 16)then
if(geq x 16)then
some (5,0)
else
some (0,2)
else
if(geq x 24)then
some (5,0)
else
some (0,2)
def RP:Option Int32:=
(Hq (Ls x 0)).bind λ_=>
(Hq (Ls x 0)).bind λ_=>
some (Ad (S2 (Ak (Di (Ad t:Int) (GI.toZ x).toNat) (Ad t:Int)) (GI.toZ x).toNat):Int32)
def CH:Option (Int32×Int):=
(eE x).bind λ(z,c)=>
if(Bm c 0)then
some (0,c)
else
(RP z t).bind λd=>
some (d,0)
def IE(a:Int)(b f:LX):Option Int:=
if((Bm a 9)&&(Bm a 10))then
some 8
else
some 0
abbrev Uc:=Option (Int32×Int)
def kJ(h:Int32)(a:Int)(b f:LX):Uc:=
(Hq (Ls a 0)).bind λ_=>
some ((Ce h (GI.toZ a).toNat),0)
def TJ:=kJ
def JA(j6:Int32->Int->LX->LX->Uc)(Ni:Int32->Int->Uc)(b:LX)(a:Int)(f:LX)(h:Int32)(g:Int):Uc:=
if(Cm g 16)then
(Aj b g).bind λm=>
(Aj f g).bind λ_=>
(Aj f g).bind λn=>
Ni (Ae h (Bc m n)) (Ae g 1)
else
j6 h a b f
def Uw:Nat->Int32->Int->Uc
|0,_,_=>none
|x+1,z,c=>JA TJ (Uw x) d e B z c
def kA b a f:=Uw b a f Aq
def TG(j4:LX->Int->LX->Int32->Int->Uc)(a:Int)(b f:LX):Uc:=
(IE a b f).bind λk=>
if(Bm k 0)then
some (0,k)
else
(Hq (Ls (Ak a 1) 0)).bind λ_=>
j4 b a f (Di (1:Int32) (GI.toZ (Ak a 1)).toNat) 0
def PX:=TG kA
def VG:Option Int32:=
if(geq x 0)then
some 4
else
if(Cm x 4)then
some 2
else
some 1
abbrev Tc:=Option (Int×LX×LX×Int)
def C3:Tc:=
some (x,d,B,0)
def kB:=C3
def JB(j6:Int->LX->LX->Tc)(Ni:Int->LX->Tc)(h:Int32)(f:LX)(g a:Int)(b:LX):Tc:=
if(Cm a 16)then
(Aj f a).bind λm=>
if(geq m 0)then
Ni (Ae a 1) b
else
if((Cm m 0)==(Cm h 0))then
(Aj b a).bind λ_=>
(Aj b a).bind λo=>
(VG a).bind λp=>
(Aj b a).bind λ_=>
(Ku b a (Ae o p)).bind λu=>
Ni (Ae a 1) u
else
(Aj b a).bind λ_=>
(Aj b a).bind λv=>
(VG a).bind λw=>
(Aj b a).bind λ_=>
(Ku b a (Ak v w)).bind λy=>
Ni (Ae a 1) y
else
j6 g b f
def Ut:Nat->Int->LX->Tc
|0,_,_=>none
|x+1,z,c=>JB kB (Ut x) t P N z c
def B2 h f g:=Ut h f g Aq
def TS(j4:Int32->LX->Int->Int->LX->Tc)(g:Int)(k f:LX)(h:Int32):Tc:=
(IE g k f).bind λn=>
if(Bm n 0)then
some (0,(List.replicate 16 (0:Int32)),(List.replicate 16 (0:Int32)),n)
else
if(geq h 0)then
some (g,k,f,0)
else
j4 h f g 0 k
def aD:=TS B2
abbrev fV:=Option (Int×LX×LX×Int)
def nQ:fV:=
(Aj (LM V 1 ((16:Int)-(1:Int)) (tP V 0 ((16:Int)-(0:Int)))) 0).bind λ_=>
(Ku (LM V 1 ((16:Int)-(1:Int)) (tP V 0 ((16:Int)-(0:Int)))) 0 t).bind λx=>
some (J,P,x,0)
def YX:=nQ
def NQ(j2:Int32->Int->LX->LX->fV)(b:Int)(f a:LX)(g:Int32):fV:=
(IE b f a).bind λh=>
if(Bm h 0)then
some (0,(List.replicate 16 (0:Int32)),(List.replicate 16 (0:Int32)),h)
else
(
(uG 16 1 16).bind λ_=>
(uG 16 0 16).bind λ_=>
j2 g b f a)
def iA:=NQ YX
def XZ:Option (Int×LX×LX):=
(aD x d B p8).bind λ(z,c,e,i)=>
(iA z c e t).bind λ(j,l,q,r)=>
some (j,l,q)
def SY:Option (Int32×Int×LX×LX×Int):=
(PX x d B).bind λ(z,c)=>
if(Bm c 0)then
some (0,0,(List.replicate 16 (0:Int32)),(List.replicate 16 (0:Int32)),c)
else
(XZ x d B t (Ak t z)).bind λ(e,i,j)=>
some ((Ak t z),e,i,j,0)
def Us:Option (Int32×Int×Int32×Int×LX×LX×Int):=
(CF x t J P V).bind λz=>
if(Bm z 0)then
some (0,0,0,0,(List.replicate 16 (0:Int32)),(List.replicate 16 (0:Int32)),z)
else
(CH x t).bind λ(c,d)=>
(SY J P V (Ak p8 c)).bind λ(e,i,j,l,q)=>
(
some (e,x,p8,i,j,l,q))
def gP:Option UInt32:=
some (Zk (Di (Ad t:UInt32) (GI.toZ (1:UInt64)).toNat) (Ad (Ce t (GI.toZ (31:UInt64)).toNat):UInt32))
abbrev Cy:=Option (LU×Int)
def mK:Cy:=
some (F,0)
def RH:=mK
def Ug(j12:LU->Cy)(W6:Int-> (List (Int×Int32×(Int×LX×LX×Unit)×Unit))->LU->Cy)(b:LX)(a f g:Int)(k:List (Int×Int32×(Int×LX×LX×Unit)×Unit))(h:LU):Cy:=
if(Cm g (Ac b))then
(Aj b g).bind λ_=>
(Aj b g).bind λac=>
(Hq (Bm a 0)).bind λ_=>
(Aj k (Fm g a)).bind λ_=>
(Aj k (Fm g a)).bind λp=>
(Us p.1 p.2.1 p.2.2.1.1 p.2.2.1.2.1 p.2.2.1.2.2.1 ac).bind λ(u,ad,ae,v,af,ag,w)=>
if(Bm w 0)then
some (([]:LU),w)
else
(Ku k (Fm g a) (ad,ae,(v,af,ag,()),())).bind λah=>
(gP u).bind λai=>
(Br h ([ai]:LU)).bind λaj=>
W6 (Ae g 1) ah aj
else
j12 h
def Kh:Nat->Int-> (List (Int×Int32×(Int×LX×LX×Unit)×Unit))->LU->Cy
|0,_,_,_=>none
|x+1,z,c,i=>Ug RH (Kh x) d e l z c i
def OQ b a f:=Kh b a f Aq
def RL(j10:LX->Int->Int->Int-> (List (Int×Int32×(Int×LX×LX×Unit)×Unit))->LU->Cy)(a f:Int)(b:LX)(m:List (Int×Int32×(Int×LX×LX×Unit)×Unit)):Cy:=
j10 b a f 0 m ([]:LU)
def RN:=RL OQ
def RQ(j9:Int->Int->LX-> (List (Int×Int32×(Int×LX×LX×Unit)×Unit))->Cy)(bk7:Int-> (List (Int×Int32×(Int×LX×LX×Unit)×Unit))->Cy)(a f:Int)(n b:LX)(o:Int)(m:List (Int×Int32×(Int×LX×LX×Unit)×Unit)):Cy:=
if(Cm o 6)then
(rM f n).bind λ(ak,al,u,am,an,v)=>
(Aj m o).bind λ_=>
(Ku m o (ak,al,(u,am,an,()),())).bind λao=>
bk7 (Ae o 1) ao
else
j9 a f b m
def EG:Nat->Int-> (List (Int×Int32×(Int×LX×LX×Unit)×Unit))->Cy
|0,_,_=>none
|z+1,e,i=>RQ RN (EG z) x c d B e i
def GA a f n b:=EG a f n b Aq
def DY(j7:Int->Int->LX->LX->Int-> (List (Int×Int32×(Int×LX×LX×Unit)×Unit))->Cy)(a f:Int)(n y:LX):Cy:=
(IX a f y).bind λaa=>
if(Bm aa 0)then
some (([]:LU),aa)
else
(uP a y).bind λ(b,ab)=>
if(Bm ab 0)then
some (([]:LU),ab)
else
j7 a f n b 0 (List.replicate 6 ((0:Int),(0:Int32),((0:Int),(List.replicate 16 (0:Int32)),(List.replicate 16 (0:Int32)),()),()))
def DX:=DY GA
def mY:Option (Int×Int×UInt64×UInt64):=
some (10,10,16384,16384)
abbrev Kf:=Option ((List (Int×Int×UInt64×UInt64×Unit)))
def oV:Kf:=
some Axg
def SO:=oV
def SU(j6:(List (Int×Int×UInt64×UInt64×Unit))->Kf)(Ni:Int-> (List (Int×Int×UInt64×UInt64×Unit))->Kf)(b:Int)(a:List (Int×Int×UInt64×UInt64×Unit)):Kf:=
if(Cm b 6)then
(mY).bind λ(f,g,h,k)=>
(Aj a b).bind λ_=>
(Ku a b (f,g,h,k,())).bind λm=>
Ni (Ae b 1) m
else
j6 a
def DA:Nat->Int-> (List (Int×Int×UInt64×UInt64×Unit))->Kf
|0,_,_=>none
|q+1,b,a=>SU SO (DA q) b a
def SL:=DA Aq
def DT(j4:Int-> (List (Int×Int×UInt64×UInt64×Unit))->Kf):Kf:=
j4 0 (List.replicate 6 ((0:Int),(0:Int),(0:UInt64),(0:UInt64),()))
def EU:=DT SL
def Kl:Option Int:=
if(((Cm e 0)||(Da e 330000))||(Bm (Ac z) (S2 (Ae e 7) (GI.toZ (3:UInt64)).toNat)))then
some 8
else
if(Da (Fc e 7) 0)then
(Aj z (Ak (Ac z) 1)).bind λx=>
(Hq (Ls (Fc e 7) 0)).bind λ_=>
if(Bm (Ce x (GI.toZ (Fc e 7)).toNat) 0)then
some 8
else
some 0
else
some 0
def jU:Option Int:=
if(!((geq (Kt (nZ x 0) 24) x)&&((geq (Kt (nZ c 0) 24) c)&&((geq (Kt j 68719476735) j)&&((geq (Kt L 68719476735) L)&&true)))))then
some 8
else
some 0
def TB:=jU
def IW(j4:Int->Int->UInt64->UInt64->Option Int)(a b:Int)(f g:UInt64):Option Int:=
(
(
j4 a b f g))
def TY:=IW TB
def JC(j3:Int->Int->UInt64->UInt64->Option Int)(a b:Int)(f g:UInt64):Option Int:=
(
(
j3 a b f g))
def QN:=JC TY
def IH(a f:Int)(g h:UInt64)(b:UInt32):Option (Int×UInt32):=
(Hq (Ls a 0)).bind λ_=>
if(geq (Ce b (GI.toZ a).toNat) 0)then
some (0,b)
else
(Hq (Ls a 0)).bind λ_=>
some (1,(Ak b (Di (1:UInt32) (GI.toZ a).toNat)))
def VN:Option (LB×Int):=
(Bv z).bind λx=>
some (x,e)
abbrev Dn:=Option (LB×Int×Int)
def nB:Dn:=
some (z,x,0)
def YE:=nB
def oN(rP:UInt64->Int->Int->LB->Dn)(b:UInt64)(a:Int)(m:UInt64)(h f:Int)(w:LB):Dn:=
(Hq (Ls (Kt h (Ak 8 (Fc f 7))) 0)).bind λ_=>
rP (Ce m (GI.toZ (Kt h (Ak 8 (Fc f 7)))).toNat) (Ak h (Kt h (Ak 8 (Fc f 7)))) (Ae f (Kt h (Ak 8 (Fc f 7)))) w
def pL rP:=oN rP
def oO(j19:UInt64->Int->Int->LB->Dn)(b:UInt64)(a:Int)(m:UInt64)(h f:Int)(u:LB):Dn:=
(Aj u (Ak (Ac u) 1)).bind λ_=>
(Hq (Ls (Kt h (Ak 8 (Fc f 7))) 0)).bind λ_=>
(Hq (Ls (Fc f 7) 0)).bind λ_=>
(Aj u (Ak (Ac u) 1)).bind λad=>
(Aj u (Ak (Ac u) 1)).bind λ_=>
Option.bind (Ku u (Ak (Ac u) 1) (yG ad (Di (Ad (Fc m (Ak (Di (1:UInt64) (GI.toZ (Kt h (Ak 8 (Fc f 7)))).toNat) 1)):UInt8) (GI.toZ (Fc f 7)).toNat))) λw=>
j19 m h f w
def NN rP b a:=oO (pL rP b a) b a
def NO(j18:UInt64->Int->Int->LB->Dn)(j21:Int->LB->Dn)(b:UInt64)(a:Int)(m:UInt64)(h f:Int)(o:LB):Dn:=
if(Da h 0)then
if(geq (Fc f 7) 0)then
(Br o ([(0:UInt8)]:LB)).bind λaa=>
j18 m h f aa
else
j18 m h f o
else
j21 f o
def Pm:Nat->UInt64->Int->Int->LB->Dn
|0,_,_,_,_=>none
|x+1,z,c,d,e=>NO (NN (Pm x) j M) YE j M z c d e
def U1 b a:=Pm b a Aq
def M5:Dn:=
some (z,x,0)
def pF:=M5
def Q3(Aj3:UInt64->Int->Int->LB->Dn)(b:UInt64)(a:Int)(n:UInt64)(k g:Int)(ab:LB):Dn:=
(Hq (Ls (Kt k (Ak 8 (Fc g 7))) 0)).bind λ_=>
Aj3 (Ce n (GI.toZ (Kt k (Ak 8 (Fc g 7)))).toNat) (Ak k (Kt k (Ak 8 (Fc g 7)))) (Ae g (Kt k (Ak 8 (Fc g 7)))) ab
def O1 Aj3:=Q3 Aj3
def M6(j26:UInt64->Int->Int->LB->Dn)(b:UInt64)(a:Int)(n:UInt64)(k g:Int)(v:LB):Dn:=
(Aj v (Ak (Ac v) 1)).bind λ_=>
(Hq (Ls (Kt k (Ak 8 (Fc g 7))) 0)).bind λ_=>
(Hq (Ls (Fc g 7) 0)).bind λ_=>
(Aj v (Ak (Ac v) 1)).bind λae=>
(Aj v (Ak (Ac v) 1)).bind λ_=>
Option.bind (Ku v (Ak (Ac v) 1) (yG ae (Di (Ad (Fc n (Ak (Di (1:UInt64) (GI.toZ (Kt k (Ak 8 (Fc g 7)))).toNat) 1)):UInt8) (GI.toZ (Fc g 7)).toNat))) λab=>
j26 n k g ab
def oK Aj3 b a:=M6 (O1 Aj3 b a) b a
def nD(j25:UInt64->Int->Int->LB->Dn)(j28:Int->LB->Dn)(b:UInt64)(a:Int)(n:UInt64)(k g:Int)(p:LB):Dn:=
if(Da k 0)then
if(geq (Fc g 7) 0)then
(Br p ([(0:UInt8)]:LB)).bind λw=>
j25 n k g w
else
j25 n k g p
else
j28 g p
def YP:Nat->UInt64->Int->Int->LB->Dn
|0,_,_,_,_=>none
|x+1,z,c,d,e=>nD (oK (YP x) j M) pF j M z c d e
def P7 b a:=YP b a Aq
def dD(j15:UInt64->Int->UInt64->Int->Int->LB->Dn)(j22:UInt64->Int->UInt64->Int->Int->LB->Dn)(ac:LB)(y:Int)(b:UInt64)(a:Int):Dn:=
(Kl ac y).bind λaf=>
if(Bm af 0)then
some (([]:LB),0,8)
else
if((Cm a 0)||(Da a 64))then
some (([]:LB),0,2)
else
if(Cm a 64)then
(Hq (Ls a 0)).bind λ_=>
if(Bm (Ce b (GI.toZ a).toNat) 0)then
some (([]:LB),0,16)
else
if(Da (Ae y a) 330000)then
some (([]:LB),0,18)
else
(VN ac y).bind λ(ag,ah)=>
j15 b a b a ah ag
else
if(Da (Ae y a) 330000)then
some (([]:LB),0,18)
else
(VN ac y).bind λ(aa,ai)=>
j22 b a b a ai aa
def QG:=dD U1 P7
def FT:Option Bool:=
(Hq (Ls M 0)).bind λ_=>
some (Ls (Ce E (GI.toZ M).toNat) 48)
def ZI:Option (Int×Int):=
if((Cm x 0)||(Da x 48))then
some (0,2)
else
some ((Kt (Ae x 1) 48),0)
def SM:Option (LB×Int×Int):=
(Kl z e).bind λx=>
if(Bm x 0)then
some (([]:LB),0,x)
else
(ZI l).bind λ(c,d)=>
if(Bm d 0)then
some (([]:LB),0,d)
else
(Hq (Ls l 0)).bind λ_=>
(QG z e (Ak (Di (1:UInt64) (GI.toZ l).toNat) 1) c).bind λ(i,j,q)=>
some (i,j,q)
abbrev XY:=Option (LB×Int×Int)
def UC:XY:=
(SM z e l).bind λ(x,c,d)=>
if(Bm d 0)then
some (([]:LB),0,d)
else
(QG x c (Ad E:UInt64) M).bind λ(i,j,q)=>
some (i,j,q)
def TR:=UC
def jQ(j2:LB->Int->Int->UInt32->Int->XY)(b:LB)(f:Int)(g:UInt32)(a:Int):XY:=
(Kl b f).bind λk=>
if(Bm k 0)then
some (([]:LB),0,k)
else
if((Cm a 0)||(Da a 24))then
some (([]:LB),0,2)
else
(Hq (Ls a 0)).bind λ_=>
(Hq (Ls a 0)).bind λ_=>
(FT g a).bind λaa=>
if aa then
j2 b f 48 g 32
else
j2 b f (Ad (Ce g (GI.toZ a).toNat):Int) (Fc g (Ak (Di (1:UInt32) (GI.toZ a).toNat) 1)) a
def YS:=jQ TR
abbrev Jd:=Option (LB×Int×Int×Int×UInt64×UInt64×Int)
def FY:Jd:=
(
(
some (U,x,c,i,(Ae j (Ak (Ad E:UInt64) (Ce j (GI.toZ (4:UInt64)).toNat))),L,0)))
def RA:=FY
def TO(j10:Int->Int->Int->UInt64->UInt32->UInt64->LB->Jd)(b:UInt32)(k n:Int)(a o:UInt64)(m:LB)(u:Int):Jd:=
j10 k u n a b o m
def kI:=TO RA
def TE(j9:UInt32->Int->Int->UInt64->UInt64->LB->Int->Jd)(b:UInt32)(f:Int)(a:UInt64)(k:Int)(m:LB)(n:Int)(o:UInt64):Jd:=
if(Da f 0)then
(Hq (Ls f 0)).bind λ_=>
if(Cm (Ae a (Ak (Ad b:UInt64) (Ce a (GI.toZ (4:UInt64)).toNat))) (Di (16:UInt64) (GI.toZ f).toNat))then
j9 b k n a o m (Ak f 1)
else
if(Cm f 24)then
(Hq (Ls f 0)).bind λ_=>
if(Da (Ae a (Ak (Ad b:UInt64) (Ce a (GI.toZ (4:UInt64)).toNat))) (Di (32:UInt64) (GI.toZ f).toNat))then
j9 b k n a o m (Ae f 1)
else
j9 b k n a o m f
else
j9 b k n a o m f
else
if(Cm f 24)then
(Hq (Ls f 0)).bind λ_=>
if(Da (Ae a (Ak (Ad b:UInt64) (Ce a (GI.toZ (4:UInt64)).toNat))) (Di (32:UInt64) (GI.toZ f).toNat))then
j9 b k n a o m (Ae f 1)
else
j9 b k n a o m f
else
j9 b k n a o m f
def Zu:=TE kI
def TC(j8:UInt32->Int->UInt64->Int->LB->Int->UInt64->Jd)(b:UInt32)(f h:Int)(a g:UInt64)(ac k:Int)(m:LB):Jd:=
if(Bm ac 0)then
some (([]:LB),0,0,0,0,0,ac)
else
(IH f h a g b).bind λ(ag,p)=>
if(geq ag 1)then
if(Da h 0)then
(Hq (Ls h 0)).bind λ_=>
if(Cm (Ae g (Ak (Ad p:UInt64) (Ce g (GI.toZ (4:UInt64)).toNat))) (Di (16:UInt64) (GI.toZ h).toNat))then
j8 b f a k m (Ak h 1) (Ae g (Ak (Ad p:UInt64) (Ce g (GI.toZ (4:UInt64)).toNat)))
else
if(Cm h 24)then
(Hq (Ls h 0)).bind λ_=>
if(Da (Ae g (Ak (Ad p:UInt64) (Ce g (GI.toZ (4:UInt64)).toNat))) (Di (32:UInt64) (GI.toZ h).toNat))then
j8 b f a k m (Ae h 1) (Ae g (Ak (Ad p:UInt64) (Ce g (GI.toZ (4:UInt64)).toNat)))
else
j8 b f a k m h (Ae g (Ak (Ad p:UInt64) (Ce g (GI.toZ (4:UInt64)).toNat)))
else
j8 b f a k m h (Ae g (Ak (Ad p:UInt64) (Ce g (GI.toZ (4:UInt64)).toNat)))
else
if(Cm h 24)then
(Hq (Ls h 0)).bind λ_=>
if(Da (Ae g (Ak (Ad p:UInt64) (Ce g (GI.toZ (4:UInt64)).toNat))) (Di (32:UInt64) (GI.toZ h).toNat))then
j8 b f a k m (Ae h 1) (Ae g (Ak (Ad p:UInt64) (Ce g (GI.toZ (4:UInt64)).toNat)))
else
j8 b f a k m h (Ae g (Ak (Ad p:UInt64) (Ce g (GI.toZ (4:UInt64)).toNat)))
else
j8 b f a k m h (Ae g (Ak (Ad p:UInt64) (Ce g (GI.toZ (4:UInt64)).toNat)))
else
j8 b f a k m h g
def TQ:=TC Zu
def TX(j7:UInt32->Int->Int->UInt64->UInt64->Int->Int->LB->Jd)(b:UInt32)(v:LB)(w f h:Int)(a g:UInt64):Jd:=
(IH f h a g b).bind λ(ad,ae)=>
(QG v w (Ad ad:UInt64) 1).bind λ(y,aa,ab)=>
if((geq ab 0)&&(geq ad 0))then
(QG y aa (Ad ae:UInt64) f).bind λ(ah,ai,aj)=>
j7 b f h a g aj ai ah
else
if(geq ab 0)then
(YS y aa ae h).bind λ(ak,al,am)=>
j7 b f h a g am al ak
else
j7 b f h a g ab aa y
def jT:=TX TQ
def UE(j6:UInt32->LB->Int->Int->Int->UInt64->UInt64->Jd)(v:LB)(w f h:Int)(a g:UInt64)(b:UInt32):Jd:=
(Kl v w).bind λan=>
if(Bm an 0)then
some (([]:LB),0,0,0,0,0,8)
else
(QN f h a g).bind λao=>
if(Bm ao 0)then
some (([]:LB),0,0,0,0,0,8)
else
j6 b v w f h a g
def YN:=UE jT
abbrev Bx:=Option (UInt32×Int)
def dS:Bx:=
some (E,0)
def PA:=dS
def FI(j30:UInt32->Bx)(Ats:UInt32->Int->Bx)(a:LB)(b:LU)(h:UInt32)(m:Int):Bx:=
if(Cm m (Ac a))then
(Aj a m).bind λp=>
(Aj b (GI.toZ (Zk (Ad h:UInt8) p))).bind λ_=>
(Aj b (GI.toZ (Zk (Ad h:UInt8) p))).bind λu=>
Ats (Zk (Ce h (GI.toZ (8:UInt64)).toNat) u) (Ae m 1)
else
j30 h
def Rv:Nat->UInt32->Int->Bx
|0,_,_=>none
|x+1,c,d=>FI PA (Rv x) z F c d
def PR a b:=Rv a b Aq
def PK(j28:LB->LU->UInt32->Int->Bx)(f:UInt32)(a:LB)(b:LU):Bx:=
j28 a b f 0
def dT:=PK PR
def PD(j27:UInt32->LB->LU->Bx)(f:UInt32)(a:LB)(b:LU):Bx:=
j27 f a b
def PM:=PD dT
def dE(Er:Int->LU->Bx)(f:UInt32)(a:LB)(g:Int)(o:LU):Bx:=
Er (Ae g 1) o
def fU Er:=dE Er
def eH(j24:Int->LU->Bx)(f:UInt32)(a:LB)(g:Int)(k:UInt32)(b:LU):Bx:=
(Aj b g).bind λ_=>
(Ku b g k).bind λo=>
j24 g o
def EC Er f a:=eH (fU Er f a) f a
def DU(j23:Int->UInt32->LU->Bx)(Ap9:UInt32->Int->Bx)(f:UInt32)(a:LB)(g:Int)(b:LU)(k:UInt32)(n:Int):Bx:=
if(Cm n 8)then
Ap9 (Zk (Ce k (GI.toZ (1:UInt64)).toNat) (Bc 3988292384 (Fc k 1))) (Ae n 1)
else
j23 g k b
def Rm(Er:Int->LU->Bx)(f:UInt32)(a:LB)(g:Int)(b:LU):Nat->UInt32->Int->Bx
|0,_,_=>none
|q+1,k,n=>DU (EC Er f a) (Rm Er f a g b q) f a g b k n
def OM Er f a g b:=Rm Er f a g b Aq
def FJ(j21:Int->LU->UInt32->Int->Bx)(j26:UInt32->LB->LU->Bx)(f:UInt32)(a:LB)(g:Int)(b:LU):Bx:=
if(Cm g 256)then
j21 g b (Ad g:UInt32) 0
else
j26 f a b
def Nj:Nat->Int->LU->Bx
|0,_,_=>none
|x+1,z,c=>FJ (OM (Nj x) E U) PM E U z c
def dM f a:=Nj f a Aq
def TL(j16:UInt32->LB->Int->LU->Bx)(f:UInt32)(a:LB):Bx:=
if(Da (Ac a) 100000)then
some (0,4)
else
j16 f a 0 (List.replicate 256 (0:UInt32))
def ZS:=TL dM
def HY:Option (UInt32×Int):=
(ZS 4294967295 z).bind λ(x,c)=>
if(Bm c 0)then
some (0,c)
else
some ((Aak x),0)
def uN:Option Bool:=
if(geq M 8)then
some true
else
(Hq (Ls (Bc 8 M) 0)).bind λ_=>
some (geq (Ce j (GI.toZ (Bc 8 M)).toNat) 0)
abbrev BM:=Option (LB×Int)
def sT:BM:=
some (z,0)
def cU:=sT
def RX(j6:LB->BM)(Ni:Int->LB->BM)(f:UInt64)(g:LB)(a:Int)(b:LB):BM:=
if(Cm a (Ac g))then
(Hq (Ls (Bc 8 a) 0)).bind λ_=>
(Aj b a).bind λ_=>
(Ku b a (Ad (Ce f (GI.toZ (Bc 8 a)).toNat):UInt8)).bind λk=>
Ni (Ae a 1) k
else
j6 b
def CN:Nat->Int->LB->BM
|0,_,_=>none
|x+1,z,c=>RX cU (CN x) j U z c
def sU f g:=CN f g Aq
def eL(j4:UInt64->LB->Int->LB->BM)(f:UInt64)(h:Int):BM:=
if((Cm h 1)||(Da h 8))then
some (([]:LB),2)
else
(uN f h).bind λm=>
if(!m)then
some (([]:LB),16)
else
(mkI h (0:UInt8)).bind λg=>
(Hq (geq h h)).bind λ_=>
j4 f g 0 g
def Zr:=eL sU
def NZ:Option (LB):=
some z
def Wc:=NZ
def Cv(j16:LB->Option (LB))(OA:Int->LB->Option (LB))(a:List LB)(g:Int)(f:LB):Option (LB):=
if(Cm g (Ac a))then
(Aj a g).bind λn=>
(Br f n).bind λo=>
OA (Ae g 1) o
else
j16 f
def By:Nat->Int->LB->Option (LB)
|0,_,_=>none
|x+1,z,c=>Cv Wc (By x) r z c
def Ip a:=By a Aq
def Iq(j14:(List LB)->Int->LB->Option (LB))(a:List LB)(p:LB):Option (LB):=
j14 a 0 p
def Fb:=Iq Ip
def Is(j13:(List LB)->LB->Option (LB))(b:Int)(a:List LB):Option (LB):=
if(Da (Ak b (Ak (0:Int) (0:Int))) 0)then
(uG 0 0 0).bind λ_=>
(mkI (Ak b (Ak (0:Int) (0:Int))) (0:UInt8)).bind λu=>
(Br ([]:LB) u).bind λk=>
(uG (Ac k) 0 0).bind λ_=>
j13 a (tP k 0 ((0:Int)-(0:Int)))
else
j13 a ([]:LB)
def Mz:=Is Fb
def Ir(j12:Int-> (List LB)->Option (LB))(a:List LB)(b:Int):Option (LB):=
if(Cm b 0)then
none
else
j12 b a
def Fe:=Ir Mz
def Db(j11:(List LB)->Int->Option (LB))(bk9:Int->Int->Option (LB))(a:List LB)(b h:Int):Option (LB):=
if(Cm h (Ac a))then
(Aj a h).bind λm=>
if(Cm (Ae b (Ac m)) 0)then
none
else
bk9 (Ae b (Ac m)) (Ae h 1)
else
j11 a b
def Cc:Nat->Int->Int->Option (LB)
|0,_,_=>none
|x+1,z,c=>Db Fe (Cc x) r z c
def Wy a:=Cc a Aq
def Nw(j9:(List LB)->Int->Int->Option (LB))(a:List LB):Option (LB):=
j9 a 0 0
def Dy:=Nw Wy
abbrev Bo:=Option (LB×Int)
def QI(v:Int)(p:LB):Bo:=
(HY p).bind λ(af,ac)=>
if(Bm ac 0)then
some (([]:LB),ac)
else
(Zr (Ad af:UInt64) 4).bind λ(m,h)=>
if(Bm h 0)then
some (([]:LB),h)
else
(Dy ([p,m]:List LB)).bind λag=>
some (ag,0)
def BA:=QI
def PG(aE:Int-> (List (Int×Int×UInt64×UInt64×Unit))->Int->LB->Bo)(b:LU)(a g f:Int)(n:List (Int×Int×UInt64×UInt64×Unit))(k:Int)(w:LB):Bo:=
aE (Ae f 1) n k w
def BL aE:=PG aE
def RB(zW:Int->Int->LB->Bo)(h:Int)(b:LU)(f a g:Int)(n:List (Int×Int×UInt64×UInt64×Unit))(m:LB)(o k:Int)(ab:LB):Bo:=
zW (Ae o 1) (Ae k 1) ab
def PO zW:=RB zW
def OR(j48:Int->Int->LB->Bo)(h:Int)(b:LU)(f a g:Int)(n:List (Int×Int×UInt64×UInt64×Unit))(m:LB)(o k:Int)(y:LB):Bo:=
(Aj m (Ay o 8)).bind λ_=>
(Aj m (Ay o 8)).bind λah=>
(Hq (Ls (Fm o 8) 0)).bind λ_=>
(Aj y (Ay k 8)).bind λ_=>
(Hq (Ls (Fm k 8) 0)).bind λ_=>
(Aj y (Ay k 8)).bind λai=>
(Aj y (Ay k 8)).bind λ_=>
Option.bind (Ku y (Ay k 8) (yG ai (Di (Fc (Ce ah (GI.toZ (Fm o 8)).toNat) 1) (GI.toZ (Fm k 8)).toNat))) λab=>
j48 o k ab
def Tj zW h b f a g n m:=OR (PO zW h b f a g n m) h b f a g n m
def Ui(j47:Int->Int->LB->Bo)(j50:Int-> (List (Int×Int×UInt64×UInt64×Unit))->Int->LB->Bo)(b:LU)(a g h f:Int)(n:List (Int×Int×UInt64×UInt64×Unit))(m:LB)(o k:Int)(w:LB):Bo:=
if(Cm o h)then
if(geq (Fm k 8) 0)then
(Br w ([(0:UInt8)]:LB)).bind λaj=>
j47 o k aj
else
j47 o k w
else
j50 f n k w
def Fx(aE:Int-> (List (Int×Int×UInt64×UInt64×Unit))->Int->LB->Bo)(b:LU)(a g h f:Int)(n:List (Int×Int×UInt64×UInt64×Unit))(m:LB):Nat->Int->Int->LB->Bo
|0,_,_,_=>none
|q+1,o,k,w=>Ui (Tj (Fx aE b a g h f n m q) h b f a g n m) (BL aE b a g) b a g h f n m o k w
def PT aE b a g h f n m:=Fx aE b a g h f n m Aq
def Tx(j44:Int->Int-> (List (Int×Int×UInt64×UInt64×Unit))->LB->Int->Int->LB->Bo)(j52:Int->LB->Bo)(b:LU)(a g f:Int)(u:List (Int×Int×UInt64×UInt64×Unit))(v:Int)(p:LB):Bo:=
if(Cm f (Ac b))then
(Aj b f).bind λ_=>
(Aj b f).bind λak=>
(Hq (Bm a 0)).bind λ_=>
(Aj u (Fm f a)).bind λ_=>
(Aj u (Fm f a)).bind λaa=>
(YN ([]:LB) 0 aa.1 aa.2.1 aa.2.2.1 aa.2.2.2.1 ak).bind λ(m,h,al,am,an,ao,ad)=>
if(Bm ad 0)then
some (([]:LB),ad)
else
(Hq (Bm a 0)).bind λ_=>
(Aj u (Fm f a)).bind λ_=>
(Ku u (Fm f a) (al,am,an,ao,())).bind λn=>
j44 h f n m 0 v p
else
j52 v p
def Ia:Nat->Int-> (List (Int×Int×UInt64×UInt64×Unit))->Int->LB->Bo
|0,_,_,_,_=>none
|x+1,z,c,d,e=>Tx (PT (Ia x) F l9 o7) BA F l9 o7 z c d e
def ON b a g:=Ia b a g Aq
def DP(j27:LU->Int->Int->Int-> (List (Int×Int×UInt64×UInt64×Unit))->Int->LB->Bo)(a g:Int)(ap aq:LX):Bo:=
(DX a g ap aq).bind λ(b,ae)=>
if(Bm ae 0)then
some (([]:LB),ae)
else
(EU).bind λar=>
j27 b a g 0 ar 0 ([]:LB)
def Xs:=DP ON
def Ue(b f g:Int)(h k:LB)(m:LX)(n:List LB)(o:LB)(p:Bool)(u a:Int):Option (Int×Int×Int×LB×LB×LX×(List LB)×LB×Bool×Int×Int):=
some (b,f,g,h,([]:LB),([]:LX),([]:List LB),([]:LB),false,a,a)
abbrev Bs:=Option (Int×Int×Int×LB×LB×LX×(List LB)×LB×Bool×Int×Int)
def UU:Bs:=
some (x,c,i,z,D,B,p9,x9,s,e,0)
def IM:=UU
def Ya(OA:Int->LB->LX-> (List LB)->Bs)(p:Int)(n:LB)(a b g:Int)(f:LB)(h:Bool)(k o:Int)(m:LB)(u:Int)(ao:LB)(ap:LX)(aq:List LB):Bs:=
OA (Ae u 1) ao ap aq
def Nf OA:=Ya OA
def Yb(j24:Int->LB->LX-> (List LB)->Bs)(p:Int)(n:LB)(a b g:Int)(f:LB)(h:Bool)(k o:Int)(m:LB)(u ad:Int)(ae:LB)(af:LX)(ag:List LB):Bs:=
if(Bm ad 0)then
(Ue a b g f ae af ag m h k ad).bind λ(ar,au,av,aw,ax,ay,az,ba,bb,bc,bd)=>
some (ar,au,av,aw,ax,ay,az,ba,bb,bc,bd)
else
j24 u ae af ag
def Io OA p n a b g f h k o m:=Yb (Nf OA p n a b g f h k o m) p n a b g f h k o m
def pR(j23:Int->Int->LB->LX-> (List LB)->Bs)(p:Int)(n:LB)(a b g:Int)(f:LB)(h:Bool)(k o:Int)(m:LB)(u:Int)(ab:LX)(v:List LB)(be:Int):Bs:=
j23 u be ([]:LB) ab v
def rE OA p n a b g f h k o m:=pR (Io OA p n a b g f h k o m) p n a b g f h k o m
def WX(j23:Int->Int->LB->LX-> (List LB)->Bs)(p:Int)(n:LB)(a b g:Int)(f:LB)(h:Bool)(k o:Int)(m:LB)(u:Int)(ac:List LB):Bs:=
j23 u 0 ([]:LB) ([]:LX) ac
def VL OA p n a b g f h k o m:=WX (Io OA p n a b g f h k o m) p n a b g f h k o m
def UZ(j23:Int->Int->LB->LX-> (List LB)->Bs)(j21:Int->LX-> (List LB)->Int->Bs)(j22:Int-> (List LB)->Bs)(p:Int)(n:LB)(a b g:Int)(f:LB)(h:Bool)(k o:Int)(m:LB)(u:Int)(aa:LB)(w:LX)(v:List LB):Bs:=
(Zw b aa).bind λ(bf,ah)=>
if(Bm ah 0)then
j23 u ah aa w v
else
(Br w bf).bind λab=>
if(Cm (Ac ab) (Bc o a))then
j23 u 0 ([]:LB) ab v
else
(XD f).bind λ(bg,ai)=>
if(Bm ai 0)then
j21 u ab v ai
else
(Xs a b bg ab).bind λ(bh,aj)=>
if(Bm aj 0)then
j21 u ab v aj
else
(Br v ([bh]:List LB)).bind λac=>
j22 u ac
def HX OA p n a b g f h k o m:=UZ (Io OA p n a b g f h k o m) (rE OA p n a b g f h k o m) (VL OA p n a b g f h k o m) p n a b g f h k o m
def Yh(j24:Int->LB->LX-> (List LB)->Bs)(j23:Int->Int->LB->LX-> (List LB)->Bs)(j20:Int->LB->LX-> (List LB)->Bs)(j26:Int->Int->Int->LB->Bool->Int->LB->LX-> (List LB)->LB->Bs)(p:Int)(n:LB)(a b g:Int)(f:LB)(h:Bool)(k o:Int)(m:LB)(u:Int)(y:LB)(w:LX)(v:List LB):Bs:=
if(Cm u (Ac n))then
(Aj n u).bind λbi=>
(Br y ([bi]:LB)).bind λaa=>
if(Cm (Ac aa) p)then
j24 u aa w v
else
(Qe a b g f aa w v m h k o).bind λbj=>
(Py a b g f aa w v m h k (Ae (Ac v) 1) (Ae bj 1)).bind λbk=>
if(!bk)then
j23 u 18 aa w v
else
j20 u aa w v
else
j26 a b g f h k y w v m
def If:Nat->Int->LB->LX-> (List LB)->Bs
|0,_,_,_,_=>none
|c+1,d,i,j,q=>Yh (Nf (If c) x z e l G D R T Aw9 o9) (Io (If c) x z e l G D R T Aw9 o9) (HX (If c) x z e l G D R T Aw9 o9) IM x z e l G D R T Aw9 o9 d i j q
def WN p n a b g f h k o m:=If p n a b g f h k o m Aq
def MH(j14:Int->LB->Int->Int->Int->LB->Bool->Int->Int->LB->Int->LB->LX-> (List LB)->Bs)(bl bm bn:Int)(bp bq:LB)(br:LX)(bs:List LB)(bt:LB)(bu:Bool)(bv:Int)(n:LB):Bs:=
(AH bl bm bn bp bq br bs bt bu bv).bind λ(a,b,g,f,ak,al,am,m,h,k,o,an)=>
if(Bm an 0)then
some (a,b,g,f,ak,al,am,m,h,k,an)
else
(Rt a b).bind λp=>
j14 p n a b g f h k o m 0 ak al am
def NI:=MH WN
def JF:Option (Int×Int):=
if(Da (Ac z) 64)then
some (0,2)
else
if(geq (Ac z) 0)then
some (1,0)
else
some (2,0)
def VK(b f a g h:Int):Option Bool:=
some (((((((geq b 1)||(geq b 2))&&(Da f 0))&&(xZ f 6))&&(Da g 0))&&(xZ g 1048576))&&(Da h 0))
def ID:=VK
def VA(j2:Int->Int->Int->Int->Int->Option Bool)(b f a g h:Int):Option Bool:=
if(geq a 8)then
if(geq a 8)then
j2 b f a g h
else
some false
else
if(geq a 16)then
if(geq a 16)then
j2 b f a g h
else
some false
else
if(geq a 24)then
j2 b f a g h
else
some false
def IU:=VA ID
def SP(k a m f b:Int):Option Bool:=
(Hq (Bm a 0)).bind λ_=>
if(Da b (Ay 4000 a))then
some false
else
(Kq f b).bind λ(g,h)=>
some ((geq h 0)&&(xZ g 1000))
def NG:Option Int:=
(IU x c i I e).bind λz=>
if(!z)then
some 8
else
(SP x c i I e).bind λd=>
if(!d)then
some 8
else
some 0
abbrev Nr:=Option (LB×Int)
def aH:Nr:=
(HY z).bind λ(x,c)=>
(Zr (Ad x:UInt64) 4).bind λ(d,e)=>
(Br z d).bind λi=>
some (i,0)
def AR:=aH
def AP(j6:LB->Nr)(Ni:Int->LB->Nr)(b f g h k m:Int)(a:LB):Nr:=
if(Cm m 5)then
(Aj ([b,f,g,h,k]:LI) m).bind λw=>
(Aj ([(2:Int),(2:Int),(2:Int),(4:Int),(4:Int)]:LI) m).bind λy=>
(Zr (Ad w:UInt64) y).bind λ(n,v)=>
(Br a n).bind λo=>
Ni (Ae m 1) o
else
j6 a
def Lr:Nat->Int->LB->Nr
|0,_,_=>none
|z+1,d,j=>AP AR (Lr z) x c i I e d j
def aO b f g h k:=Lr b f g h k Aq
def MI(j4:Int->Int->Int->Int->Int->Int->LB->Nr)(b f g h k:Int):Nr:=
(NG b f g h k).bind λp=>
if(Bm p 0)then
some (([]:LB),p)
else
j4 b f g h k 0 ([(84:UInt8),(84:UInt8),(65:UInt8),(49:UInt8)]:LB)
def NS:=MI aO
def qW:Option (UInt64×Int):=
if(Da (Ac z) 64)then
some (0,2)
else
(VQ z).bind λ(x,c)=>
some (x,0)
def NR:Option (LB×Int):=
(qW z).bind λ(x,c)=>
if(Bm c 0)then
some (([]:LB),c)
else
(Zr x 8).bind λ(d,e)=>
some (d,e)
def yJ:Option Int:=
some 0
def gJ:=yJ
def FV(j6:Option Int)(Ni:Int->Int->Option Int)(a:LI)(f b:Int):Option Int:=
if(Cm b (Ac a))then
(Aj a b).bind λg=>
if((Cm g 5)||(Da g f))then
some 8
else
Ni (Ak f g) (Ae b 1)
else
j6
def Rw:Nat->Int->Int->Option Int
|0,_,_=>none
|x+1,z,c=>FV gJ (Rw x) C z c
def eO a:=Rw a Aq
def EZ(j4:LI->Int->Int->Option Int)(a:LI):Option Int:=
if((geq (Ac a) 0)||(Da (Ac a) 1000))then
some 8
else
j4 a 100000 0
def CV:=EZ eO
abbrev Hm:=Option (LB×Int)
def tJ:Hm:=
some (z,0)
def tR:=tJ
def aI(j14:LB->Hm)(b:LB):Hm:=
(HY b).bind λ(m,u)=>
(Zr (Ad m:UInt64) 4).bind λ(n,v)=>
(Br b n).bind λg=>
j14 g
def LR:=aI tR
def aR(bk8:Int->LB->Hm)(a:LI)(f:Int)(h:LB):Hm:=
bk8 (Ae f 1) h
def LZ bk8:=aR bk8
def FU(j11:Int->LB->Hm)(j13:LB->Hm)(a:LI)(f:Int)(b:LB):Hm:=
if(Cm f (Ac a))then
(Aj a f).bind λo=>
(Zr (Ad o:UInt64) 4).bind λ(p,w)=>
(Br b p).bind λh=>
j11 f h
else
j13 b
def Ri:Nat->Int->LB->Hm
|0,_,_=>none
|x+1,z,c=>FU (LZ (Ri x) C) LR C z c
def zE a:=Ri a Aq
def PC(j8:LI->Int->LB->Hm)(a:LI):Hm:=
(CV a).bind λk=>
if(Bm k 0)then
some (([]:LB),k)
else
j8 a 0 ([]:LB)
def LA:=PC zE
abbrev Iv:=Option (LB×Int)
def AL(f g h:Int)(b k:LB)(m:LX)(a:List LB)(n:LB)(o:Bool)(p:Int)(u:LB)(v:LI):Iv:=
(LA v).bind λ(aa,y)=>
if(Bm y 0)then
some (([]:LB),y)
else
(
(Br u aa).bind λab=>
(Dy a).bind λac=>
(Br ab ac).bind λad=>
some (ad,0))
def Up:=AL
def AM(j8:Int->Int->Int->LB->LB->LX-> (List LB)->LB->Bool->Int->LB->LI->Iv)(rO:Int->LI->Iv)(a:List LB)(f g h:Int)(b k:LB)(m:LX)(n:LB)(o:Bool)(p:Int)(u:LB)(w:Int)(v:LI):Iv:=
if(Cm w (Ac a))then
(Aj a w).bind λai=>
(Br v ([(Ac ai)]:LI)).bind λaj=>
rO (Ae w 1) aj
else
j8 f g h b k m a n o p u v
def Pa:Nat->Int->LI->Iv
|0,_,_=>none
|x+1,z,c=>AM Up (Pa x) r e l G D o9 B Axh Ax8 y8 Ax9 z c
def tO a f g h b k m n o p u:=Pa a f g h b k m n o p u Aq
def AT(j6:(List LB)->Int->Int->Int->LB->LB->LX->LB->Bool->Int->LB->Int->LI->Iv)(f g h:Int)(b k:LB)(m:LX)(a:List LB)(n:LB)(o:Bool)(p:Int)(u:LB):Iv:=
j6 a f g h b k m n o p u 0 ([]:LI)
def LH:=AT tO
def LK(j5:Int->Int->Int->LB->LB->LX-> (List LB)->LB->Bool->Int->LB->Iv)(f g h:Int)(b k:LB)(m:LX)(a:List LB)(n:LB)(o:Bool)(p ak:Int):Iv:=
(JF b).bind λ(al,ae)=>
if(Bm ae 0)then
some (([]:LB),ae)
else
(NS al f g h ak).bind λ(af,ag)=>
if(Bm ag 0)then
some (([]:LB),ag)
else
if(b !=([]:LB))then
(NR b).bind λ(am,ah)=>
if(Bm ah 0)then
some (([]:LB),ah)
else
(Br af am).bind λan=>
j5 f g h b k m a n o p an
else
j5 f g h b k m a n o p af
def NY:=LK LH
abbrev Nh:=Option (Int×Int×Int×LB×LB×LX×(List LB)×LB×Bool×Int×Int)
def DS:Nh:=
(NY c i I z D B p9 o9 s e x).bind λ(d,j)=>
if(Bm j 0)then
(Ue c i I z D B p9 o9 s e j).bind λ(l,q,r,t,A,C,E,F,G,J,L)=>
some (l,q,r,t,A,C,E,F,G,J,L)
else
some (c,i,I,z,([]:LB),([]:LX),([]:List LB),d,true,0,0)
def Wi:=DS
def RU(j4:Int->Int->Int->Int->LB->Bool->Int->LB->LB->LX-> (List LB)->Nh)(o a b g:Int)(f:LB)(k:Bool)(m:Int)(h n:LB)(ad:Int)(ae:LX)(af:List LB):Nh:=
if(Bm ad 0)then
(Ue a b g f h ae af n k m ad).bind λ(au,v,w,av,aw,ax,y,aa,ay,az,ba)=>
some (au,v,w,av,aw,ax,y,aa,ay,az,ba)
else
j4 o a b g f k m h n ae af
def SA:=RU Wi
def SR(j3:Int->Int->Int->Int->LB->Bool->Int->LB->LB->Int->LX-> (List LB)->Nh)(j4:Int->Int->Int->Int->LB->Bool->Int->LB->LB->LX-> (List LB)->Nh)(bb bc bd:Int)(be bf:LB)(bg:LX)(bh:List LB)(bi:LB)(bj:Bool)(bk:Int):Nh:=
(AH bb bc bd be bf bg bh bi bj bk).bind λ(a,b,g,f,h,p,u,n,k,m,bl,ag)=>
if(Bm ag 0)then
some (a,b,g,f,h,p,u,n,k,m,ag)
else
(Qe a b g f h p u n k m bl).bind λo=>
if((Da (Ac h) 0)||(geq o 0))then
(Ue a b g f h p u n k m 24).bind λ(bm,bn,bp,bq,br,bs,bt,bu,bv,bw,bx)=>
some (bm,bn,bp,bq,br,bs,bt,bu,bv,bw,bx)
else
if(Da (Ac p) 0)then
(XD f).bind λ(bz,ah)=>
if(Bm ah 0)then
j3 o a b g f k m h n ah p u
else
(Xs a b bz p).bind λ(da,ai)=>
if(Bm ai 0)then
j3 o a b g f k m h n ai p u
else
(Br u ([da]:List LB)).bind λdb=>
j3 o a b g f k m h n 0 ([]:LX) db
else
j4 o a b g f k m h n p u
def DN:=SR SA Wi
abbrev Ii:=Option (LB×Int)
def RS(aw bf bg bh:Int)(bi:LB)(bj:Bool)(bk:Int)(bl:LB)(bm:LX)(bn:List LB)(bc:LB):Ii:=
if(Bm aw 0)then
some (([]:LB),aw)
else
some (bc,0)
def FM:=RS
def SS(j6:Int->Int->Int->Int->LB->Bool->Int->LB->LX-> (List LB)->LB->Ii)(w a y aa ab:Int)(ac:LB)(ad:Bool)(ae b f g:Int)(h k:LB)(m:LX)(n:List LB)(o:LB)(p:Bool)(u:Int)(af:LB)(ag:LX)(ah:List LB)(ai:LB):Ii:=
j6 w y aa ab ac ad ae af ag ah ai
def SF:=SS FM
def RM(j6:Int->Int->Int->Int->LB->Bool->Int->LB->LX-> (List LB)->LB->Ii)(j5:Int->Int->Int->Int->Int->LB->Bool->Int->Int->Int->Int->LB->LB->LX-> (List LB)->LB->Bool->Int->LB->LX-> (List LB)->LB->Ii)(v a aj ak al:Int)(am:LB)(an:Bool)(ao b f g:Int)(h k:LB)(m:LX)(n:List LB)(o:LB)(p:Bool)(u:Int)(ap:LB)(aq:LX)(ar:List LB)(au:LB):Ii:=
if(Bm v 0)then
j6 v 0 0 0 ([]:LB) false 0 ([]:LB) ([]:LX) ([]:List LB) ([]:LB)
else
(DN aj ak al am ap aq ar au an ao).bind λ(y,aa,ab,ac,af,ag,ah,ai,ad,ae,w)=>
j5 w a y aa ab ac ad ae b f g h k m n o p u af ag ah ai
def SN:=RM FM SF
def Wf(j4:Int->Int->Int->Int->Int->LB->Bool->Int->Int->Int->Int->LB->LB->LX-> (List LB)->LB->Bool->Int->LB->LX-> (List LB)->LB->Ii)(ax av ay:Int)(az:LX)(bd:LB):Ii:=
(Hu ax av ay az).bind λba=>
if(Bm ba 0)then
some (([]:LB),ba)
else
(CU av az).bind λ(be,bb)=>
if(Bm bb 0)then
some (([]:LB),bb)
else
(CM ax av ay bd).bind λ(b,f,g,h,k,m,n,o,p,u,a)=>
if(Bm a 0)then
some (([]:LB),a)
else
(NI b f g h k m n o p u be).bind λ(aj,ak,al,am,ap,aq,ar,au,an,ao,v)=>
j4 v a aj ak al am an ao b f g h k m n o p u ap aq ar au
def Kw:=Wf SN
def Hy(a b f:Int)(g:LX):Option (Int×Int):=
some (a,b)
def Ef:Option Int:=
if(geq x 8)then
some 128
else
if(geq x 16)then
some 32768
else
if(geq x 24)then
some 8388608
else
some 0
def Cg:Option Int:=
if((Cm x 1)||(Da x 6))then
some 2
else
(Ef c).bind λz=>
if(geq z 0)then
some 2
else
some 0
def bM:Option Int:=
some 0
def GK:=bM
def Cj(j6:Option Int)(Ni:Int->Option Int)(a:LX)(b f:Int):Option Int:=
if(Cm f (Ac a))then
(Aj a f).bind λg=>
if(Cm (Ad g:Int) (M1 b))then
some 16
else
(Aj a f).bind λh=>
if(Ls (Ad h:Int) b)then
some 16
else
Ni (Ae f 1)
else
j6
def Bb:Nat->Int->Option Int
|0,_=>none
|x+1,z=>Cj GK (Bb x) d e z
def cC a b:=Bb a b Aq
def Dd(j4:LX->Int->Int->Option Int)(k:Int)(a:LX):Option Int:=
(Ef k).bind λb=>
if(geq b 0)then
some 2
else
if(Da (Ac a) 4000)then
some 4
else
j4 a b 0
def Al:=Dd cC
def Bk:Option Int:=
(Cg x c).bind λz=>
if(Bm z 0)then
some 2
else
(Al c d).bind λe=>
if(Bm e 0)then
(Al c d).bind λi=>
some i
else
if(Cm (Ac d) 1)then
some 2
else
(Hq (Bm x 0)).bind λ_=>
if(Da (Fm (Ac d) x) 0)then
some 2
else
some 0
def Nv:Option Int:=
(Cg x c).bind λz=>
if((Bm z 0)||(Cm i 1))then
some 2
else
(Hq (Bm x 0)).bind λ_=>
if(Da i (Ay 4000 x))then
some 2
else
some 0
def Ec:Option (Int×Int):=
if((Cm x 1)||(Da x 1048576))then
some (0,2)
else
if(geq (Ay (Bc x 256) 245) 0)then
some (1,0)
else
some ((Ay (Bc x 256) 245),0)
abbrev Ib:=Option (LI×Int)
def NA:Ib:=
if(Da (Ac C) 1000)then
some (([]:LI),4)
else
some (C,0)
def Zb:=NA
def Qv(j6:LI->Ib)(Ni:Int->LI->Ib)(b f:Int)(a:LI):Ib:=
if(Da f 0)then
(Br a ([(Kt f b)]:LI)).bind λh=>
Ni (Ak f (Kt f b)) h
else
j6 a
def Jl:Nat->Int->LI->Ib
|0,_,_=>none
|z+1,c,d=>Qv Zb (Jl z) x c d
def MV b:=Jl b Aq
def Qy(j4:Int->Int->LI->Ib)(k g:Int):Ib:=
(Ec k).bind λ(b,m)=>
if(((Bm m 0)||(Cm g 1))||(Da g 4000))then
some (([]:LI),2)
else
j4 b g ([]:LI)
def Yl:=Qy MV
def Jy:Option (Int×Int):=
(Yl x c).bind λ(z,d)=>
some ((Ac z),d)
def GB:Option Bool:=
(Hy x c i d).bind λ(z,j)=>
(Nv z j e).bind λl=>
if(Bm l 0)then
some false
else
(Jy i e).bind λ(q,r)=>
some (geq r 0)
def Cl:Option Int:=
(Hy x c i d).bind λ(z,e)=>
(Bk z e d).bind λj=>
if(Bm j 0)then
some 8
else
(Hq (Bm x 0)).bind λ_=>
(GB x c i d (Ay (Ac d) x)).bind λl=>
if(!l)then
some 8
else
some 0
def Kg:Option Int:=
(Ec i).bind λ(d,e)=>
(Cg x c).bind λj=>
if(((Bm j 0)||(Bm e 0))||(Da (Ac z) 64))then
some 2
else
some 0
def Xx:Option (Int×Int×Int×LB×LB×LX×(List LB)×LB×Bool×Int×Int):=
(Kg x c i z).bind λd=>
if(Bm d 0)then
some (0,0,0,([]:LB),([]:LB),([]:LX),([]:List LB),([]:LB),false,0,d)
else
some (x,c,i,z,([]:LB),([]:LX),([]:List LB),([]:LB),false,0,0)
def Zh:Option (LB):=
if(geq x 24)then
(Br ([(Ad (Fm c 256):UInt8),(Ad (Fm (Ay c 256) 256):UInt8)]:LB) ([(Ad (Ay c 65536):UInt8)]:LB)).bind λz=>
some z
else
some ([(Ad (Fm c 256):UInt8),(Ad (Fm (Ay c 256) 256):UInt8)]:LB)
def Mc:=Zh
def MY(j2:Int->Int->Option (LB))(a:Int)(f:Int32):Option (LB):=
if(geq a 8)then
some ([(Ad (Ae (Ad f:Int) 128):UInt8)]:LB)
else
if(Cm (Ad f:Int) 0)then
(Ef a).bind λh=>
j2 a (Ae (Ad f:Int) (Bc 2 h))
else
j2 a (Ad f:Int)
def Xw:=MY Mc
abbrev Fu:=Option (LB×Int)
def bE:Fu:=
some (z,0)
def GW:=bE
def Od(j6:LB->Fu)(Ni:Int->LB->Fu)(b:Int)(a:LX)(g:Int)(f:LB):Fu:=
if(Cm g (Ac a))then
(Aj a g).bind λh=>
(Xw b h).bind λk=>
(Br f k).bind λm=>
Ni (Ae g 1) m
else
j6 f
def Hi:Nat->Int->LB->Fu
|0,_,_=>none
|z+1,c,e=>Od GW (Hi z) x d c e
def bR b a:=Hi b a Aq
def Vr(j4:Int->LX->Int->LB->Fu)(b:Int)(a:LX):Fu:=
(Al b a).bind λn=>
if(Bm n 0)then
(Al b a).bind λo=>
some (([]:LB),o)
else
j4 b a 0 ([]:LB)
def Jx:=Vr bR
def He(f g a:Int)(h k:LB)(m:LX)(n:List LB)(o:LB)(p:Bool)(u:Int):Option Int:=
(Ec a).bind λ(b,v)=>
some b
def Gx:Option Int:=
some (Ay (Bc x c) 8)
def Dc:Option Int:=
(Hq (Bm x 0)).bind λ_=>
(He x c i z q d r A s e).bind λj=>
some (Ae (Bc (Ac r) j) (Ay (Ac d) x))
def Ln(a g h:Int)(k m:LB)(n:LX)(o:List LB)(p:LB)(u:Bool)(v b f:Int):Option Bool:=
if(xZ b 1000)then
(Hq (Bm a 0)).bind λ_=>
some (xZ f (Ay 4000 a))
else
some false
def UA:Option Bool:=
some true
def AI:=UA
def Ks(j12:Option Bool)(W6:Int->Option Bool)(h f g n:Int)(o k:LB)(b:LX)(a:List LB)(m:LB)(p:Bool)(u v:Int):Option Bool:=
if(Cm v (Ac a))then
(Aj a v).bind λw=>
if(Cm (Ac w) 5)then
some false
else
(Aj a v).bind λy=>
if(Da (Ac y) (Ae (Ay (Ae (Bc (Bc 81 h) f) 7) 8) 4))then
some false
else
W6 (Ae v 1)
else
j12
def Eo:Nat->Int->Option Bool
|0,_=>none
|j+1,l=>Ks AI (Eo j) x c i I z q d r A s e l
def Zq h f g n o k b a m p u:=Eo h f g n o k b a m p u Aq
def Sa(j10:Int->Int->Int->Int->LB->LB->LX-> (List LB)->LB->Bool->Int->Int->Option Bool)(h f g n:Int)(o k:LB)(b:LX)(a:List LB)(m:LB)(p:Bool)(u:Int):Option Bool:=
j10 h f g n o k b a m p u 0
def BS:=Sa Zq
def Rq:Option Bool:=
(Dc c i I z q d r A s e).bind λj=>
(Ln c i I z q d r A s e l j).bind λt=>
if(!t)then
some false
else
O x c i I z q d r A s e
def Ry:=Rq BS
def Rl(j8:Int->Int->Int->Int->LB->LB->LX-> (List LB)->LB->Bool->Int->Int->Option Bool)(h f g n:Int)(o k:LB)(b:LX)(a:List LB)(m:LB)(p:Bool)(u:Int):Option Bool:=
if(Da (Ac b) 0)then
j8 h f g n o k b a m p u (Ae (Ac a) 1)
else
j8 h f g n o k b a m p u (Ac a)
def Rn:=Rl Ry
def Sj:Option Bool:=
(He x c i z q d r A s e).bind λj=>
if(Da (Ac A) 0)then
if true then
if(true||(Ls (Ac d) (Bc j x)))then
if(true||(Da (Ac r) 1000))then
some false
else
O j x c i z q d r A s e
else
(Al c d).bind λl=>
if((Bm l 0)||(Da (Ac r) 1000))then
some false
else
O j x c i z q d r A s e
else
(Hq (Bm x 0)).bind λ_=>
if((Bm (Fm (Ac d) x) 0)||(Ls (Ac d) (Bc j x)))then
if(true||(Da (Ac r) 1000))then
some false
else
O j x c i z q d r A s e
else
(Al c d).bind λt=>
if((Bm t 0)||(Da (Ac r) 1000))then
some false
else
O j x c i z q d r A s e
else
(Gx x c).bind λB=>
if(Ls (Ac q) B)then
if(true||(Ls (Ac d) (Bc j x)))then
if(true||(Da (Ac r) 1000))then
some false
else
O j x c i z q d r A s e
else
(Al c d).bind λC=>
if((Bm C 0)||(Da (Ac r) 1000))then
some false
else
O j x c i z q d r A s e
else
(Hq (Bm x 0)).bind λ_=>
if((Bm (Fm (Ac d) x) 0)||(Ls (Ac d) (Bc j x)))then
if(true||(Da (Ac r) 1000))then
some false
else
O j x c i z q d r A s e
else
(Al c d).bind λD=>
if((Bm D 0)||(Da (Ac r) 1000))then
some false
else
O j x c i z q d r A s e
def Pe:=Sj Rn
def Jw:Option Int:=
(Kg x c i z).bind λj=>
if(Bm j 0)then
some 8
else
if(Bm e 0)then
if(((((Bm e 18)&&(Bm e 24))||s)||(!(((geq (Ac q) 0)&&(geq (Ac d) 0))&&(geq (Ac r) 0))))||(Da (Ac A) 0))then
some 8
else
some 0
else
if s then
if((!(((geq (Ac q) 0)&&(geq (Ac d) 0))&&(geq (Ac r) 0)))||(Da (Ac A) 100000))then
some 8
else
some 0
else
(Pe x c i z q d r A s e).bind λl=>
if(!l)then
some 8
else
some 0
abbrev Gy:=Option (Int×Int×Int×LB×LB×LX×(List LB)×LB×Bool×Int)
def fO(b f g:Int)(h:LB)(a:List LB)(k:Bool)(m:Int)(u:List LB)(n:LB)(o:LX)(p:LB):Gy:=
some (b,f,g,h,n,o,u,p,k,m)
def KN:=fO
def Pu(j6:Int->Int->Int->LB-> (List LB)->Bool->Int-> (List LB)->LB->LX->LB->Gy)(Ni:Int-> (List LB)->Gy)(b f g:Int)(h:LB)(a:List LB)(k:Bool)(m:Int)(n:LB)(o:LX)(p:LB)(v:Int)(u:List LB):Gy:=
if(Cm v (Ac a))then
(Aj a v).bind λw=>
(Br ([]:LB) w).bind λy=>
(Br u ([y]:List LB)).bind λaa=>
Ni (Ae v 1) aa
else
j6 b f g h a k m u n o p
def Ig:Nat->Int-> (List LB)->Gy
|0,_,_=>none
|d+1,j,l=>Pu KN (Ig d) x c i z r s e D B Axh j l
def fR b f g h a k m n o p:=Ig b f g h a k m n o p Aq
def Xd(j4:Int->Int->Int->LB-> (List LB)->Bool->Int->LB->LX->LB->Int-> (List LB)->Gy)(b f g:Int)(h ab:LB)(ac:LX)(a:List LB)(ad:LB)(k:Bool)(m:Int):Gy:=
(Br ([]:LB) ab).bind λn=>
(Br ([]:LX) ac).bind λo=>
(Br ([]:LB) ad).bind λp=>
j4 b f g h a k m n o p 0 ([]:List LB)
def Pf:=Xd fR
def Lb(f g h:Int)(k m:LB)(n:LX)(o:List LB)(p:LB)(b:Bool)(a:Int):Option Int:=
if(Bm a 0)then
some a
else
if b then
some 36
else
some 0
def Gp(a b f:Int)(g k:LB)(m:LX)(n:List LB)(o:LB)(p:Bool)(u h:Int):Option (Int×Int×Int×LB×LB×LX×(List LB)×LB×Bool×Int):=
some (a,b,f,g,([]:LB),([]:LX),([]:List LB),([]:LB),false,h)
abbrev Be:=Option (LX×Int)
def TI:Be:=
some (d,0)
def Zy:=TI
def Zz(Er:Int->LX->Be)(a:Int)(b:LB)(f g:Int)(n:LX):Be:=
Er (Ae g (Ay a 8)) n
def Qd Er:=Zz Er
def AD(j28:Int->LX->Be)(a:Int)(b:LB)(f g k:Int)(h:LX):Be:=
if(geq a 8)then
(Br h ([(Ad (Ak k 128):Int32)]:LX)).bind λo=>
j28 g o
else
if(Ls k f)then
(Br h ([(Ad (Ak k (Bc 2 f)):Int32)]:LX)).bind λp=>
j28 g p
else
(Br h ([(Ad k:Int32)]:LX)).bind λu=>
j28 g u
def Hn Er a b f:=AD (Qd Er a b f) a b f
def Kr(j27:Int->Int->LX->Be)(Ap8:Int->Int->Be)(a:Int)(b:LB)(f g:Int)(h:LX)(k m:Int):Be:=
if(Ls m 0)then
(Aj b (Ae g m)).bind λv=>
Ap8 (Ae (Bc 256 k) (Ad v:Int)) (Ak m 1)
else
j27 g k h
def Cw(Er:Int->LX->Be)(a:Int)(b:LB)(f g:Int)(h:LX):Nat->Int->Int->Be
|0,_,_=>none
|q+1,k,m=>Kr (Hn Er a b f) (Cw Er a b f g h q) a b f g h k m
def Qf Er a b f g h:=Cw Er a b f g h Aq
def Kp(j25:Int->LX->Int->Int->Be)(j30:LX->Be)(a:Int)(b:LB)(f g:Int)(h:LX):Be:=
if(Cm g (Ac b))then
j25 g h 0 (Ak (Ay a 8) 1)
else
j30 h
def Cn:Nat->Int->LX->Be
|0,_,_=>none
|c+1,d,i=>Kp (Qf (Cn c) x z e) Zy x z e d i
def Zt a b f:=Cn a b f Aq
def Rj(j16:Int->LB->Int->Int->LX->Be)(a:Int)(b:LB):Be:=
(Ef a).bind λf=>
if(geq f 0)then
some (([]:LX),2)
else
(Hq (Bm (Ay a 8) 0)).bind λ_=>
if(Da (Fm (Ac b) (Ay a 8)) 0)then
some (([]:LX),12)
else
(Hq (Bm (Ay a 8) 0)).bind λ_=>
if(Da (Ay (Ac b) (Ay a 8)) 4000)then
some (([]:LX),4)
else
j16 a b f 0 ([]:LX)
def Lf:=Rj Zt
def KS:Option UInt64:=
if Axv then
some (Zk (Bc j 2) 4823603603198064275)
else
some (Bc j 2)
def Wu:=KS
def KE(j2:UInt64->Bool->Option UInt64)(a:UInt64)(f:Int):Option UInt64:=
if(geq f 1)then
j2 a (!(Ls a 9223372036854775808))
else
j2 a (Ls a 9223372036854775808)
def Wn:=KE Wu
def KV:Option UInt64:=
some j
def Wr:=KV
def Qb:Option UInt64:=
if(Da Axk 0)then
(Hq (Bm Axk 0)).bind λ_=>
(Wn Axx (Fm (Ay (Ad Axs:Int) Axk) 2)).bind λx=>
y7 x (Ay Axk 2)
else
y5 Axx
def Ik:Nat->UInt64->Int->Option UInt64
|0,_,_=>none
|x+1,z,c=>Qb Wr (Ik x) Axs z c
def dB b:=Ik b Aq
def JV(j4:UInt8->UInt64->Int->Option UInt64)(h:UInt64)(b:UInt8):Option UInt64:=
j4 b h 128
def DF:=JV dB
def EV:Option UInt64:=
some j
def Tv:=EV
def Mw:Option UInt64:=
if(Cm l7 (Ac Axe))then
(Aj Axe l7).bind λx=>
(DF l5 x).bind λz=>
y7 z (Ae l7 1)
else
y5 l5
def Gi:Nat->UInt64->Int->Option UInt64
|0,_,_=>none
|x+1,c,d=>Mw Tv (Gi x) z c d
def YU a:=Gi a Aq
def DG(j4:LB->UInt64->Int->Option UInt64)(k:UInt64)(a:LB):Option UInt64:=
j4 a k 0
def Qo:=DG YU
def EK:Option (UInt64×Int):=
if(Da (Ac U) 100000)then
some (0,4)
else
(Qo j U).bind λx=>
some (x,0)
def IK:Option (UInt64×Int):=
(EK 0 z).bind λ(x,c)=>
some (x,c)
def jF:Option (LX):=
some d
def MS:=jF
def PY(rO:UInt64->Int->LX->Option (LX))(b:UInt64)(f:Int)(a:LX)(g:Int32):Option (LX):=
(Aj a f).bind λ_=>
(Ku a f g).bind λh=>
rO (Ay b 256) (Ae f 1) h
def Ty rO:=PY rO
def Ti(j8:UInt64->Int->LX->Int32->Option (LX))(j10:LX->Option (LX))(b:UInt64)(f:Int)(a:LX):Option (LX):=
if(Cm f 8)then
if(Da (Ad (Oq b 256):Int32) 127)then
j8 b f a (Ak (Ad (Oq b 256):Int32) 256)
else
j8 b f a (Ad (Oq b 256):Int32)
else
j10 a
def Ie:Nat->UInt64->Int->LX->Option (LX)
|0,_,_,_=>none
|q+1,b,f,a=>Ti (Ty (Ie q)) MS b f a
def lB:=Ie Aq
def QW(j6:UInt64->Int->LX->Option (LX))(k:UInt64):Option (LX):=
j6 k 0 (List.replicate 16 (0:Int32))
def MA:=QW lB
def Iw:Option (LX×Int):=
if(Da (Ac z) 64)then
some (([(0:Int32),(0:Int32),(0:Int32),(0:Int32),(0:Int32),(0:Int32),(0:Int32),(0:Int32),(0:Int32),(0:Int32),(0:Int32),(0:Int32),(0:Int32),(0:Int32),(0:Int32),(0:Int32)]:LX),2)
else
(IK z).bind λ(x,c)=>
(MA x).bind λd=>
some (d,0)
def Hv:Option Int:=
if((Cm x 1)||(Da x 6))then
some 2
else
if(Da (Ac d) 4000)then
some 4
else
(Hq (Bm x 0)).bind λ_=>
if(Da (Fm (Ac d) x) 0)then
some 2
else
some 0
def Bn:Option Int32:=
some (Ad (Ad (Ad x:UInt64):UInt32):Int32)
def bX:Option (LX):=
some d
def HN:=bX
def Om:Option (LX):=
if(Cm N (Ac l8))then
if(geq (Ac l8) 1)then
(Aj l8 0).bind λx=>
(Br l6 ([x]:LX)).bind λz=>
r9 (Ae N 1) z
else
if(Cm N (Ak (Ac l8) 1))then
(Aj l8 (Ae N 1)).bind λc=>
(Aj l8 N).bind λd=>
(Bn (Ak (Ad c:Int) (Ad d:Int))).bind λe=>
(Br l6 ([e]:LX)).bind λi=>
r9 (Ae N 1) i
else
(Aj l8 N).bind λj=>
(Aj l6 (Ak N 1)).bind λ_=>
(Aj l6 (Ak N 1)).bind λl=>
(Bn (Ak (Ad j:Int) (Ay (Ad l:Int) 2))).bind λq=>
(Br l6 ([q]:LX)).bind λr=>
r9 (Ae N 1) r
else
Axb l6
def Hj:Nat->Int->LX->Option (LX)
|0,_,_=>none
|x+1,z,c=>Om HN (Hj x) d z c
def bT a:=Hj a Aq
def GU(j4:LX->Int->LX->Option (LX))(a:LX):Option (LX):=
j4 a 0 ([]:LX)
def AY:=GU bT
abbrev Hw:=Option (LX×Int)
def iY:Hw:=
some (d,0)
def NB:=iY
def Zn(j6:LX->Hw)(Ni:Int->LX->Hw)(a:Int)(b:LX)(g:Int)(f:LX):Hw:=
if(Cm g (Ac b))then
(Cr b g (Ae g a)).bind λh=>
(AY h).bind λk=>
(Br f k).bind λm=>
Ni (Ae g a) m
else
j6 f
def Mg:Nat->Int->LX->Hw
|0,_,_=>none
|z+1,c,e=>Zn NB (Mg z) x d c e
def iK a b:=Mg a b Aq
def Ys(j4:Int->LX->Int->LX->Hw)(a:Int)(b:LX):Hw:=
(Hv a b).bind λn=>
if(Bm n 0)then
(Hv a b).bind λo=>
some (([]:LX),o)
else
j4 a b 0 ([]:LX)
def Yg:=Ys iK
def QX:Option (Int×Int):=
if(geq x 8)then
some (4,0)
else
if((geq x 16)||(geq x 24))then
some (5,0)
else
some (0,2)
def UL:Option (Int×LX×LX×Int):=
(QX x).bind λ(z,c)=>
if(Bm c 0)then
some (0,(List.replicate 16 (0:Int32)),(List.replicate 16 (0:Int32)),2)
else
if(geq x 16)then
some (9,d,(List.replicate 16 (0:Int32)),0)
else
some (10,d,(List.replicate 16 (0:Int32)),0)
def Xv:Option (Int×Int32×Int×LX×LX×Int):=
(UL x d).bind λ(z,c,e,i)=>
if(Bm i 0)then
some (0,0,0,(List.replicate 16 (0:Int32)),(List.replicate 16 (0:Int32)),2)
else
some (x,0,z,c,e,0)
def UT:Option (LX):=
some d
def BZ:=UT
def Lj:Option (LX):=
if(Cm Axq (Ac l8))then
(Aj l8 Axq).bind λx=>
(Br l6 ([x]:LX)).bind λz=>
r9 (Ae Axq N) z
else
Axb l6
def Fj:Nat->Int->LX->Option (LX)
|0,_,_=>none
|x+1,z,c=>Lj BZ (Fj x) d e z c
def XB a f:=Fj a f Aq
def Sg(j4:LX->Int->Int->LX->Option (LX))(a:LX)(m f:Int):Option (LX):=
j4 a f m ([]:LX)
def Pq:=Sg XB
def DH:Option Int32:=
(Hq (Bm J 0)).bind λ_=>
(Hq (Bm J 0)).bind λ_=>
if(Cm (Fm (Bc (Ak J 1) (Ad t:Int)) J) 0)then
some (Ad (Ak (Ay (Bc (Ak J 1) (Ad t:Int)) J) 1):Int32)
else
some (Ad (Ay (Bc (Ak J 1) (Ad t:Int)) J):Int32)
def Ub:=DH
def FG(j2:Int32->Int->Option Int32)(f:Int)(b:Int32):Option Int32:=
if(geq f 5)then
j2 b 32
else
j2 b 16
def Mi:=FG Ub
def Mj(b:Int)(a:Int32)(h:Int)(k m:LX):Option Int:=
if(geq b 8)then
(Mi 4 a).bind λf=>
some (Ad f:Int)
else
(Mi 5 a).bind λg=>
some (Ad g:Int)
def NF:Option Int32:=
some (Ad x:Int32)
def Yu:=NF
def Qh(j6:Int->Option Int32)(Ni:Int->Int->Option Int32)(h:Int)(b f:LX)(g a:Int):Option Int32:=
if(Cm a 16)then
(Aj b a).bind λ_=>
(Aj f a).bind λ_=>
(Aj b a).bind λk=>
(Aj f a).bind λm=>
(Bn (Bc (Ad k:Int) (Ad m:Int))).bind λn=>
(Bn (Ae g (Ad n:Int))).bind λo=>
Ni (Ad o:Int) (Ae a 1)
else
j6 g
def Jf:Nat->Int->Int->Option Int32
|0,_,_=>none
|z+1,c,e=>Qh Yu (Jf z) x d B c e
def iD h b f:=Jf h b f Aq
def MZ(j4:Int->LX->LX->Int->Int->Option Int32)(h:Int)(b f:LX):Option Int32:=
j4 h b f 0 0
def HU:=MZ iD
def JJ:Option Int32:=
(HU x d B).bind λz=>
(Bn (Ae (Ad z:Int) (Ay y8 2))).bind λc=>
(Hq (Bm y8 0)).bind λ_=>
(Hq (Bm y8 0)).bind λ_=>
if(Cm (Fm (Ad c:Int) y8) 0)then
some (Ad (Ak (Ay (Ad c:Int) y8) 1):Int32)
else
some (Ad (Ay (Ad c:Int) y8):Int32)
def Xr:=JJ
def JP(j2:Int->LX->LX->Int->Option Int32)(b:Int)(f g:LX):Option Int32:=
if(geq b 9)then
j2 b f g 512
else
j2 b f g 1024
def Pp:=JP Xr
def Wo:Option Int32:=
if(geq x 0)then
some 4
else
if(xZ x 3)then
some 2
else
some 1
def Pg:Option Int32:=
if(Cm t 0)then
some (-1:Int32)
else
if(Da t 0)then
some 1
else
some 0
abbrev Ek:=Option (Int×LX×LX)
def XS:Ek:=
some (x,d,B)
def CX:=XS
def Lk(j6:Int->LX->LX->Ek)(Ni:Int->LX->Ek)(h:Int32)(g:Int)(b:LX)(a:Int)(f:LX):Ek:=
if(Cm a 16)then
(Aj f a).bind λ_=>
(Aj b a).bind λ_=>
(Aj f a).bind λk=>
(Aj b a).bind λm=>
(Wo a).bind λn=>
(Pg m).bind λo=>
(Pg h).bind λp=>
(Aj f a).bind λ_=>
(Ku f a (Ae k (Bc (Bc n o) p))).bind λu=>
Ni (Ae a 1) u
else
j6 g f b
def Fl:Nat->Int->LX->Ek
|0,_,_=>none
|x+1,z,c=>Lk CX (Fl x) t J P z c
def WO h g b:=Fl h g b Aq
def CK(j4:Int32->Int->LX->Int->LX->Ek)(g:Int)(v b:LX)(h:Int32):Ek:=
j4 h g b 0 v
def Pk:=CK WO
abbrev Et:=Option (Int×LX×LX)
def EB:Et:=
(Aj V 0).bind λ_=>
(Ku V 0 t).bind λx=>
some (J,P,x)
def Tf:=EB
def Na(j6:Int32->Int->LX->LX->Et)(Ni:Int->LX->Et)(b:Int32)(f:Int)(g:LX)(h:Int)(a:LX):Et:=
if(Da h 0)then
(Aj a (Ak h 1)).bind λ_=>
(Aj a (Ak h 1)).bind λm=>
(Aj a h).bind λ_=>
(Ku a h m).bind λn=>
Ni (Ak h 1) n
else
j6 b f g a
def Gk:Nat->Int->LX->Et
|0,_,_=>none
|x+1,z,c=>Na Tf (Gk x) t J P z c
def YV b f g:=Gk b f g Aq
def EA(j4:Int32->Int->LX->Int->LX->Et)(f:Int)(g o:LX)(b:Int32):Et:=
j4 b f g 15 o
def Qk:=EA YV
def Wl:Option (Int32×Int×LX×LX):=
(Pp x d B).bind λz=>
(Bn (Ak (Ad t:Int) (Ad z:Int))).bind λc=>
(Pk x d B c).bind λ(e,i,j)=>
(Qk e i j t).bind λ(l,q,r)=>
some (c,l,q,r)
def Pw:Option (Int32×Int×Int32×Int×LX×LX):=
(Mj x t J P V).bind λz=>
(Bn (Ak (Ad p8:Int) z)).bind λc=>
(Wl J P V c).bind λ(d,e,i,j)=>
some (d,x,p8,e,i,j)
def Wq:Option UInt32:=
if(Ls t 0)then
some (Bc 2 (Ad t:UInt32))
else
some (Ad (Ak (Bc (-2:Int) (Ad t:Int)) 1):UInt32)
def XU:Option (LU):=
some F
def EI:=XU
def DL(OA:Int->LU->Option (LU))(a b:Int)(f g:LX)(h:Int)(n:LU):Option (LU):=
OA (Ae h 1) n
def Ts OA:=DL OA
def DI(Aqa:Int->LU->Int->Int32->Int->LX->LX->Option (LU))(h a b:Int)(f g k:LX)(m:Int)(aa:Int32)(n:LU)(p:Int)(u:Int32)(v:Int)(w y:LX)(ab:Int)(ac:Int32)(ad:Int)(ae af:LX):Option (LU):=
(Wq aa).bind λai=>
(Aj n (Ae h (Bc m a))).bind λ_=>
(Ku n (Ae h (Bc m a)) ai).bind λaj=>
Aqa (Ae m 1) aj ab ac ad ae af
def Tq Aqa:=DI Aqa
def Jc(j22:Int->Int32->LU->Int->Int32->Int->LX->LX->Int->Int32->Int->LX->LX->Option (LU))(j24:Int->LU->Option (LU))(a b:Int)(f g:LX)(h:Int)(k:LX)(m:Int)(n:LU)(p:Int)(u:Int32)(v:Int)(w y:LX):Option (LU):=
if(Cm m (Ac k))then
(Aj k m).bind λ_=>
(Aj k m).bind λah=>
(
(Pw p u v w y ah).bind λ(aa,ab,ac,ad,ae,af)=>
j22 m aa n p u v w y ab ac ad ae af)
else
j24 h n
def Ge(OA:Int->LU->Option (LU))(a b:Int)(f g:LX)(h:Int)(k:LX):Nat->Int->LU->Int->Int32->Int->LX->LX->Option (LU)
|0,_,_,_,_,_,_,_=>none
|q+1,m,n,p,u,v,w,y=>Jc (Tq (Ge OA a b f g h k q) h a b f g k) (Ts OA a b f g) a b f g h k m n p u v w y
def Tz OA a b f g h k:=Ge OA a b f g h k Aq
def Mt(j20:Int->LX->Int->LU->Int->Int32->Int->LX->LX->Option (LU))(j26:LU->Option (LU))(a b:Int)(f g:LX)(h:Int)(o:LU):Option (LU):=
if(Cm h a)then
(Xv b f).bind λ(ak,al,am,an,ao,ar)=>
(Pq g h a).bind λk=>
j20 h k 0 o ak al am an ao
else
j26 o
def Em:Nat->Int->LU->Option (LU)
|0,_,_=>none
|z+1,e,i=>Mt (Tz (Em z) x c d B) EI x c d B e i
def DQ a b f g:=Em a b f g Aq
def Vt(j14:Int->Int->LX->LX->Int->LU->Option (LU))(a b:Int)(f ag:LX):Option (LU):=
(Yg a ag).bind λ(g,au)=>
(mkI (Ac ag) (0:UInt32)).bind λap=>
(Hq (geq (Ac ag) (Ac ag))).bind λ_=>
j14 a b f g 0 ap
def Ua:=Vt DQ
def Nl:Option (Int×Int×UInt64×UInt64):=
some (10,10,16384,16384)
def bL:Option UInt64:=
some j
def GM:=bL
def Oe:Option UInt64:=
if(Cm l7 Axp)then
y7 (Bc l5 2) (Ae l7 1)
else
y5 l5
def Hf:Nat->UInt64->Int->Option UInt64
|0,_,_=>none
|z+1,c,d=>Oe GM (Hf z) x c d
def bI b:=Hf b Aq
def GD(j4:Int->UInt64->Int->Option UInt64)(b:Int):Option UInt64:=
j4 b 1 0
def Dp:=GD bI
def Ke(a g:Int)(h k:UInt64)(b:UInt32):Option Bool:=
(Dp a).bind λf=>
some (Cm (Ad b:UInt64) f)
def Eb(a g:Int)(h k:UInt64)(b:UInt32):Option UInt32:=
(Dp a).bind λf=>
some (Ad (Ak (Ad b:UInt64) f):UInt32)
abbrev Zo:=Option (Int×UInt64)
def KZ:Zo:=
if(Cm x 24)then
(Dp (Ae x 5)).bind λz=>
if(Da (Ak (Ae j L) (Ay j 16)) z)then
some ((Ae x 1),(Ak (Ae j L) (Ay j 16)))
else
some (x,(Ak (Ae j L) (Ay j 16)))
else
some (x,(Ak (Ae j L) (Ay j 16)))
def Wv:=KZ
def KC(j2:Int->UInt64->UInt64->Zo)(b:Int)(a f:UInt64):Zo:=
if(Da b 0)then
(Dp (Ae b 4)).bind λh=>
if(Cm (Ak (Ae a f) (Ay a 16)) h)then
some ((Ak b 1),(Ak (Ae a f) (Ay a 16)))
else
j2 b a f
else
j2 b a f
def Ix:=KC Wv
abbrev Vo:=Option (Int×Int×UInt64×UInt64)
def FA(f:UInt32)(g a:Int)(h b:UInt64)(w:Int)(y:UInt64):Vo:=
(Ix g h (Ad f:UInt64)).bind λ(aa,ab)=>
some (aa,w,ab,y)
def Ms:=FA
def Mq(j2:UInt32->Int->Int->UInt64->UInt64->Int->UInt64->Vo)(g a:Int)(h b:UInt64)(f:UInt32):Vo:=
(Ke g a h b f).bind λo=>
if(!o)then
(
(
(Eb g a h b f).bind λk=>
(Ix a b (Ad k:UInt64)).bind λ(m,n)=>
j2 f g a h b m n))
else
j2 f g a h b a b
def Lu:=Mq Ms
abbrev Eu:=Option ((List (Int×Int×UInt64×UInt64×Unit)))
def ZC:Eu:=
some Axg
def FC:=ZC
def My(j6:(List (Int×Int×UInt64×UInt64×Unit))->Eu)(Ni:Int-> (List (Int×Int×UInt64×UInt64×Unit))->Eu)(b:Int)(g:LU)(f:Int)(a:List (Int×Int×UInt64×UInt64×Unit)):Eu:=
if(Cm f (Ac g))then
if(Cm f b)then
(Nl).bind λ(k,m,n,o)=>
(Br a ([(k,m,n,o,())]:List (Int×Int×UInt64×UInt64×Unit))).bind λp=>
Ni (Ae f 1) p
else
(Aj a (Ak f b)).bind λ_=>
(Aj g (Ak f b)).bind λu=>
(Aj a (Ak f b)).bind λh=>
(Lu h.1 h.2.1 h.2.2.1 h.2.2.2.1 u).bind λ(v,w,y,aa)=>
(Br a ([(v,w,y,aa,())]:List (Int×Int×UInt64×UInt64×Unit))).bind λab=>
Ni (Ae f 1) ab
else
j6 a
def Gg:Nat->Int-> (List (Int×Int×UInt64×UInt64×Unit))->Eu
|0,_,_=>none
|z+1,c,d=>My FC (Gg z) x F c d
def YI b g:=Gg b g Aq
def Uh(j4:Int->LU->Int-> (List (Int×Int×UInt64×UInt64×Unit))->Eu)(b:Int)(g:LU):Eu:=
j4 b g 0 ([]:List (Int×Int×UInt64×UInt64×Unit))
def Qs:=Uh YI
abbrev Ej:=Option (LB×Int)
def MQ:Ej:=
(Aj z (Ay i 8)).bind λ_=>
(Aj z (Ay i 8)).bind λd=>
(Aj z (Ay i 8)).bind λ_=>
(Ku z (Ay i 8) (Ae d (Ad (Bc x c):UInt8))).bind λe=>
some (e,(Ae i 1))
def Qm:=MQ
def Re(j8:Int->Int->Int->LB->Ej)(rO:Int->Int->Ej)(b a:Int)(f:LB)(g h:Int):Ej:=
if(Cm h (Fm a 8))then
rO (Bc g 2) (Ae h 1)
else
j8 b g a f
def Jm:Nat->Int->Int->Ej
|0,_,_=>none
|d+1,e,i=>Re Qm (Jm d) x c z e i
def MM b a f:=Jm b a f Aq
def Zj(j6:Int->Int->LB->Int->Int->Ej)(b a:Int)(f:LB):Ej:=
j6 b a f 1 0
def Yx:=Zj MM
def Yz(j5:Int->Int->LB->Ej)(k:LB)(a b:Int):Ej:=
if(geq (Fm a 8) 0)then
(Br k ([(0:UInt8)]:LB)).bind λo=>
j5 b a o
else
j5 b a k
def Ck:=Yz Yx
abbrev Es:=Option (LB×Int)
def YK:Es:=
some (z,x)
def EO:=YK
def Mx(j6:Int->LB->Es)(Ni:UInt64->Int->Int->LB->Es)(f:Int)(g:UInt64)(h a:Int)(b:LB):Es:=
if(Cm h f)then
(Ck b a (Ad (Oq g 2):Int)).bind λ(k,m)=>
Ni (Ay g 2) (Ae h 1) m k
else
j6 a b
def Gh:Nat->UInt64->Int->Int->LB->Es
|0,_,_,_,_=>none
|z+1,c,d,e,i=>Mx EO (Gh z) x c d e i
def ZQ f:=Gh f Aq
def FQ(j4:Int->UInt64->Int->Int->LB->Es)(n:LB)(o:Int)(p:UInt64)(f:Int):Es:=
j4 f p 0 o n
def Jg:=FQ ZQ
def Ph:Option Int:=
(Dp M).bind λx=>
(Hq (Bm x 0)).bind λ_=>
some (Ad (Kt 48 (Ay (Ad E:UInt64) x)):Int)
abbrev Hs:=Option (LB×Int)
def MP:Hs:=
if(Cm x 48)then
(Ck z c 0).bind λ(d,e)=>
some (d,e)
else
some (z,c)
def Zp:=MP
def Qq(j6:Int->Int->LB->Hs)(Ni:Int->Int->LB->Hs)(a g b:Int)(f:LB):Hs:=
if(Cm g a)then
(Ck f b 1).bind λ(h,k)=>
Ni (Ae g 1) k h
else
j6 a b f
def Je:Nat->Int->Int->LB->Hs
|0,_,_,_=>none
|z+1,c,d,e=>Qq Zp (Je z) x c d e
def iX a:=Je a Aq
def ND(j4:Int->Int->Int->LB->Hs)(m:LB)(n a:Int):Hs:=
j4 a 0 n m
def HW:=ND iX
def Kk:Option (LB×Int):=
(Ph E M).bind λx=>
(HW z e x).bind λ(c,d)=>
if(geq x 48)then
(Jg c d (Ad E:UInt64) 32).bind λ(i,j)=>
some (i,j)
else
(Dp M).bind λl=>
(Hq (Bm l 0)).bind λ_=>
(Jg c d (Oq (Ad E:UInt64) l) M).bind λ(q,r)=>
some (q,r)
abbrev BE:=Option (LB×Int)
def Rb:BE:=
(
(
(Ck Axo M 1).bind λ(x,z)=>
(
(
(Eb Axn Axj w9 Axa E).bind λc=>
(Kk x z c Axj).bind λ(d,e)=>
some (d,e)))))
def Yy:=Rb
def Qw(j2:UInt32->Int->Int->Int->UInt64->UInt64->LB->BE)(m:LB)(g f a:Int)(h k:UInt64)(b:UInt32):BE:=
(Ke f a h k b).bind λy=>
if y then
(
(
(Ck m g 0).bind λ(n,o)=>
(Jg n o (Ad b:UInt64) f).bind λ(aa,ab)=>
some (aa,ab)))
else
j2 b g f a h k m
def Gc:=Qw Yy
def KK:Option UInt32:=
if Axv then
some (Zk (Ay E 2) 3988292384)
else
some (Ay E 2)
def JO:=KK
def JG(j2:UInt32->Bool->Option UInt32)(a:UInt32)(f:Int):Option UInt32:=
if(geq f 1)then
j2 a (!(geq (Oq a 2) 1))
else
j2 a (geq (Oq a 2) 1)
def Wm:=JG JO
def KR:Option UInt32:=
some E
def Xu:=KR
def Px(j6:UInt32->Option UInt32)(Ni:UInt32->UInt8->Int->Option UInt32)(a:UInt32)(b:UInt8)(f:Int):Option UInt32:=
if(Cm f 8)then
(Wm a (Ad (Oq b 2):Int)).bind λg=>
Ni g (Ay b 2) (Ae f 1)
else
j6 a
def Ij:Nat->UInt32->UInt8->Int->Option UInt32
|0,_,_,_=>none
|q+1,a,b,f=>Px Xu (Ij q) a b f
def dJ:=Ij Aq
def LD(j4:UInt32->UInt8->Int->Option UInt32)(h:UInt32)(k:UInt8):Option UInt32:=
j4 h k 0
def FH:=LD dJ
def EH:Option UInt32:=
some E
def Um:=EH
def Mp(j6:UInt32->Option UInt32)(Ni:UInt32->Int->Option UInt32)(a:LB)(b:UInt32)(f:Int):Option UInt32:=
if(Cm f (Ac a))then
(Aj a f).bind λg=>
(FH b g).bind λh=>
Ni h (Ae f 1)
else
j6 b
def Gj:Nat->UInt32->Int->Option UInt32
|0,_,_=>none
|x+1,c,d=>Mp Um (Gj x) z c d
def EW a:=Gj a Aq
def Tl(j4:LB->UInt32->Int->Option UInt32)(k:UInt32)(a:LB):Option UInt32:=
j4 a k 0
def Yt:=Tl EW
def Ga:Option UInt32:=
(Yt 4294967295 z).bind λx=>
some (Ak 4294967295 x)
def Me:Option (LB):=
(Ga z).bind λx=>
(Br ([]:LB) z).bind λc=>
(Br c ([(Ad x:UInt8),(Ad (Ce x (GI.toZ (8:UInt64)).toNat):UInt8),(Ad (Ce x (GI.toZ (16:UInt64)).toNat):UInt8),(Ad (Ce x (GI.toZ (24:UInt64)).toNat):UInt8)]:LB)).bind λd=>
some d
def FB:Option (LB):=
(Me z).bind λx=>
some x
def Tm:=FB
def EL(C6:Int->Int->LB->Option (LB))(f:LU)(b:List (Int×Int×UInt64×UInt64×Unit))(m a:Int)(u:LB):Option (LB):=
C6 m (Ae a 1) u
def Tg C6:=EL C6
def DZ(Am6:Int->Int->LB->Option (LB))(f:LU)(a:Int)(b:List (Int×Int×UInt64×UInt64×Unit))(h:Int)(g:LB)(m o:Int)(w:LB):Option (LB):=
(Aj g (Ay o 8)).bind λ_=>
(Aj g (Ay o 8)).bind λaj=>
if(geq (Oq (Ce aj (GI.toZ (Ad (Fm o 8):UInt64)).toNat) 2) 1)then
(Aj w (Ay m 8)).bind λ_=>
(Aj w (Ay m 8)).bind λak=>
(Aj w (Ay m 8)).bind λ_=>
(Ku w (Ay m 8) (Ae ak (Di (1:UInt8) (GI.toZ (Ad (Fm m 8):UInt64)).toNat))).bind λal=>
Am6 (Ae m 1) (Ae o 1) al
else
Am6 (Ae m 1) (Ae o 1) w
def Mu Am6:=DZ Am6
def Mv(j40:Int->Int->LB->Option (LB))(j42:Int->Int->LB->Option (LB))(f:LU)(b:List (Int×Int×UInt64×UInt64×Unit))(a h:Int)(g:LB)(m o:Int)(u:LB):Option (LB):=
if(Cm o h)then
if(geq (Fm m 8) 0)then
(Br u ([(0:UInt8)]:LB)).bind λam=>
j40 m o am
else
j40 m o u
else
j42 m a u
def Dk(C6:Int->Int->LB->Option (LB))(f:LU)(b:List (Int×Int×UInt64×UInt64×Unit))(a h:Int)(g:LB):Nat->Int->Int->LB->Option (LB)
|0,_,_,_=>none
|q+1,m,o,u=>Mv (Mu (Dk C6 f b a h g q) f a b h g) (Tg C6 f b) f b a h g m o u
def Tw C6 f b a h g:=Dk C6 f b a h g Aq
def Uj(j38:Int->Int->LB->Int->Int->LB->Option (LB))(f:LU)(b:List (Int×Int×UInt64×UInt64×Unit))(n a:Int)(k:LB)(h:Int)(g:LB):Option (LB):=
j38 a h g n 0 k
def DO C6 f b:=Uj (Tw C6 f b) f b
def Ja(j37:Int->Int->LB->Int->LB->Option (LB))(j44:LB->Option (LB))(f:LU)(b:List (Int×Int×UInt64×UInt64×Unit))(n a:Int)(k:LB):Option (LB):=
if(Cm a (Ac f))then
(Aj b a).bind λ_=>
(Aj f a).bind λv=>
(
(
(Aj b a).bind λp=>
(
(
(Gc ([]:LB) 0 p.1 p.2.1 p.2.2.1 p.2.2.2.1 v).bind λ(g,h)=>
j37 n a k h g))))
else
j44 k
def Ei:Nat->Int->Int->LB->Option (LB)
|0,_,_,_=>none
|x+1,z,c,d=>Ja (DO (Ei x) F Axg) Tm F Axg z c d
def EY f b:=Ei f b Aq
def Vi(j23:LU-> (List (Int×Int×UInt64×UInt64×Unit))->Int->Int->LB->Option (LB))(an:Int)(f:LU):Option (LB):=
(Qs an f).bind λb=>
j23 f b 0 0 ([]:LB)
def AX:=Vi EY
def Mm:Option (LB×Int):=
(Bk x c B).bind λz=>
if(Bm z 0)then
(Bk x c B).bind λe=>
some (([]:LB),e)
else
(Ua x c d B).bind λi=>
(AX x i).bind λj=>
some (j,0)
def BI:Option (Int×Int×Int×LB×LB×LX×(List LB)×LB×Bool×Int):=
(Iw z).bind λ(j,l)=>
(Mm x c j d).bind λ(t,B)=>
(Br r ([t]:List LB)).bind λC=>
some (x,c,i,z,q,([]:LX),C,A,s,e)
abbrev Tr:=Option (Int×Int×Int×LB×LB×LX×(List LB)×LB×Bool×Int×Int)
def CI:Tr:=
(Lf c D).bind λ(d,j)=>
(Br B d).bind λl=>
(He x c i z ([]:LB) l p9 x9 s e).bind λq=>
if(geq (Ac l) (Bc q x))then
(BI x c i z ([]:LB) l p9 x9 s e).bind λ(r,t,A,C,E,F,G,I,J,L)=>
some (r,t,A,C,E,F,G,I,J,L,0)
else
some (x,c,i,z,([]:LB),l,p9,x9,s,e,0)
def CO:=CI
def BU(j2:Int->Int->Int->LB->Bool->Int->LB->LX-> (List LB)->LB->Tr)(a b g:Int)(h ak:LB)(p:LX)(f:List LB)(n:LB)(k:Bool)(m:Int)(al:UInt8):Tr:=
(Br ak ([al]:LB)).bind λo=>
(Gx a b).bind λam=>
if(Cm (Ac o) am)then
some (a,b,g,h,o,p,f,n,k,m,0)
else
(Dc a b g h o p f n k m).bind λan=>
(Ln a b g h o p f n k m (Ae (Ac f) 1) (Ae an 1)).bind λao=>
if(!ao)then
(Gp a b g h o p f n k m 18).bind λ(ap,v,aq,ar,au,av,aw,ax,ay,az)=>
some (ap,v,aq,ar,au,av,aw,ax,ay,az,18)
else
j2 a b g h k m o p f n
def Lg:=BU CO
abbrev Dv:=Option (Int×Int×Int×LB×LB×LX×(List LB)×LB×Bool×Int×Int)
def HH:Dv:=
some (x,c,i,z,D,B,p9,x9,s,e,0)
def Vs:=HH
def Xj(rO:Int->Int->Int->Int->LB->Bool->Int->LB->LX-> (List LB)->LB->Dv)(a:LB)(n w b f g:Int)(h:LB)(k:Bool)(m y aa ab:Int)(ac:LB)(ad:Bool)(ae:Int)(af:LB)(ag:LX)(ah:List LB)(ai:LB):Dv:=
if(Bm w 0)then
some (y,aa,ab,ac,af,ag,ah,ai,ad,ae,w)
else
rO (Ae n 1) y aa ab ac ad ae af ag ah ai
def Pz rO:=Xj rO
def Kv(j8:Int->Int->Int->Int->Int->LB->Bool->Int->Int->Int->Int->LB->Bool->Int->LB->LX-> (List LB)->LB->Dv)(j10:Int->Int->Int->LB->Bool->Int->LB->LX-> (List LB)->LB->Dv)(a:LB)(n b f g:Int)(h:LB)(k:Bool)(m:Int)(o:LB)(p:LX)(u:List LB)(v:LB):Dv:=
if(Cm n (Ac a))then
(Aj a n).bind λaj=>
(
(
(
(Lg b f g h o p u v k m aj).bind λ(y,aa,ab,ac,af,ag,ah,ai,ad,ae,w)=>
j8 n w b f g h k m y aa ab ac ad ae af ag ah ai)))
else
j10 b f g h k m o p u v
def Ih:Nat->Int->Int->Int->Int->LB->Bool->Int->LB->LX-> (List LB)->LB->Dv
|0,_,_,_,_,_,_,_,_,_,_,_=>none
|x+1,c,d,e,i,j,l,q,r,s,t,A=>Kv (Pz (Ih x) z) Vs z c d e i j l q r s t A
def fY a:=Ih a Aq
def Xk(j6:LB->Int->Int->Int->Int->LB->Bool->Int->LB->LX-> (List LB)->LB->Dv)(aw ax ay:Int)(az ba:LB)(bb:LX)(bc:List LB)(bd:LB)(be:Bool)(bf:Int)(a:LB):Dv:=
(Jw aw ax ay az ba bb bc bd be bf).bind λbg=>
if(Bm bg 0)then
some (0,0,0,([]:LB),([]:LB),([]:LX),([]:List LB),([]:LB),false,0,bg)
else
(Pf aw ax ay az ba bb bc bd be bf).bind λ(ak,al,am,an,ao,ap,aq,ar,au,av)=>
(Lb ak al am an ao ap aq ar au av).bind λbh=>
if(Bm bh 0)then
some (ak,al,am,an,ao,ap,aq,ar,au,av,bh)
else
j6 a 0 ak al am an au av ao ap aq ar
def Wj:=Xk fY
def Ji:Option Int:=
if(z==([]:LB))then
some 1
else
some 2
def CG:Option (LB):=
some z
def Rg:=CG
def Lm(j6:LB->Option (LB))(Ni:UInt64->Int->LB->Option (LB))(b:Int)(f:UInt64)(g:Int)(a:LB):Option (LB):=
if(Cm g b)then
(Br a ([(Ad (Oq f 256):UInt8)]:LB)).bind λh=>
Ni (Ay f 256) (Ae g 1) h
else
j6 a
def Fi:Nat->UInt64->Int->LB->Option (LB)
|0,_,_,_=>none
|z+1,c,d,e=>Lm Rg (Fi z) x c d e
def CC b:=Fi b Aq
def Sf(j4:Int->UInt64->Int->LB->Option (LB))(k:UInt64)(b:Int):Option (LB):=
j4 b k 0 ([]:LB)
def Ah:=Sf CC
def Uf:Option (LB):=
(Ah (Ad x:UInt64) 2).bind λz=>
(Br ([(84:UInt8),(84:UInt8),(65:UInt8),(49:UInt8)]:LB) z).bind λd=>
(Ah (Ad c:UInt64) 2).bind λj=>
(Br d j).bind λl=>
(Ah (Ad i:UInt64) 2).bind λq=>
(Br l q).bind λr=>
(Ah (Ad I:UInt64) 4).bind λs=>
(Br r s).bind λt=>
(Ah (Ad e:UInt64) 4).bind λA=>
(Br t A).bind λB=>
(Ga B).bind λC=>
(Ah (Ad C:UInt64) 4).bind λD=>
(Br B D).bind λE=>
some E
def EP:Option UInt64:=
(Qo 0 z).bind λx=>
some x
def Kz:Option (LB):=
(EP z).bind λx=>
(Ah x 8).bind λc=>
some c
def GP:Option (LB):=
(Ga z).bind λx=>
(Ah (Ad x:UInt64) 4).bind λc=>
(Br z c).bind λd=>
some d
def Vx:=GP
def Oi(j6:LB->Option (LB))(Ni:Int->LB->Option (LB))(b:LI)(f:Int)(a:LB):Option (LB):=
if(Cm f (Ac b))then
(Aj b f).bind λm=>
(Ah (Ad m:UInt64) 4).bind λg=>
(Br a g).bind λh=>
Ni (Ae f 1) h
else
j6 a
def Hk:Nat->Int->LB->Option (LB)
|0,_,_=>none
|x+1,z,c=>Oi Vx (Hk x) C z c
def cE b:=Hk b Aq
def HJ(j4:LI->Int->LB->Option (LB))(b:LI):Option (LB):=
j4 b 0 ([]:LB)
def BP:=HJ cE
def Vm:Option (LB):=
(BP C).bind λx=>
(Br o9 x).bind λz=>
(Br z D).bind λc=>
some c
def Vf:=Vm
def GF(j12:LI->LB->LB->Option (LB))(b f g:Int)(a h:LB)(aa:LX)(k:LB)(m:Bool)(n p o:Int)(v:LI)(w:LB)(u:List LB):Option (LB):=
(Uf p b f g o).bind λaf=>
if(a !=([]:LB))then
(Kz a).bind λae=>
(Br af ae).bind λaj=>
j12 v w aj
else
j12 v w af
def Oo:=GF Vf
def Ps(j11:Int->Int->Int->LB->LB->LX->LB->Bool->Int->Int->Int->LI->LB-> (List LB)->Option (LB))(bk9:Int->LI->LB->Option (LB))(b f g:Int)(a h:LB)(aa:LX)(k:LB)(m:Bool)(n p o:Int)(u:List LB)(y:Int)(v:LI)(w:LB):Option (LB):=
if(Cm y (Ac u))then
(Aj u y).bind λ_=>
(Aj u y).bind λak=>
(Br v ([(Ac ak)]:LI)).bind λae=>
(Aj u y).bind λ_=>
(Aj u y).bind λal=>
(Br w al).bind λad=>
bk9 (Ae y 1) ae ad
else
j11 b f g a h aa k m n p o v w u
def Im:Nat->Int->LI->LB->Option (LB)
|0,_,_,_=>none
|j+1,r,t,B=>Ps Oo (Im j) x c i z q d A s e l G Axm r t B
def fC b f g a h aa k m n p o u:=Im b f g a h aa k m n p o u Aq
def JR(j9:Int->Int->Int->LB->LB->LX->LB->Bool->Int->Int->Int-> (List LB)->Int->LI->LB->Option (LB))(b f g:Int)(a h k:LB)(m:Bool)(n p o:Int)(aa:LX)(u:List LB):Option (LB):=
j9 b f g a h aa k m n p o u 0 ([]:LI) ([]:LB)
def KB:=JR fC
def Xb(j8:Int->Int->Int->LB->LB->LB->Bool->Int->Int->Int->LX-> (List LB)->Option (LB))(b f g:Int)(a h:LB)(ab:LX)(k:LB)(m:Bool)(n p o:Int)(ac:List LB):Option (LB):=
if(Da (Ac ab) 0)then
(Iw a).bind λ(am,ap)=>
(Mm b f am ab).bind λ(an,aq)=>
(Br ac ([an]:List LB)).bind λao=>
j8 b f g a h k m n p o ([]:LX) ao
else
j8 b f g a h k m n p o ab ac
def JH:=Xb KB
def Pd(j7:Int->Int->Int->LB->LB->LX->LB->Bool->Int->Int->Int-> (List LB)->Option (LB))(b f g:Int)(a h:LB)(ab:LX)(ac:List LB)(k:LB)(m:Bool)(n:Int):Option (LB):=
(
(Ji a).bind λp=>
(
(Dc b f g a h ab ac k m n).bind λo=>
(
j7 b f g a h ab k m n p o ac)))
def Lp:=Pd JH
abbrev Vh:=Option (Int×Int×Int×LB×LB×LX×(List LB)×LB×Bool×Int×Int)
def Nb:Vh:=
(
(
(
(Lp x c i z D B p9 x9 s e).bind λd=>
some (x,c,i,z,([]:LB),([]:LX),([]:List LB),d,true,0,0))))
def Ud:=Nb
def To(j2:Int->Int->Int->LB->Bool->Int->LB->LX-> (List LB)->LB->Vh)(aa ab ac:Int)(ad ae:LB)(af:LX)(ag:List LB)(ah:LB)(ai:Bool)(aj:Int):Vh:=
(Jw aa ab ac ad ae af ag ah ai aj).bind λak=>
if(Bm ak 0)then
some (0,0,0,([]:LB),([]:LB),([]:LX),([]:List LB),([]:LB),false,0,ak)
else
(Pf aa ab ac ad ae af ag ah ai aj).bind λ(a,b,f,g,h,n,o,p,k,m)=>
(Lb a b f g h n o p k m).bind λal=>
if(Bm al 0)then
some (a,b,f,g,h,n,o,p,k,m,al)
else
if(Da (Ac h) 0)then
(Gp a b f g h n o p k m 24).bind λ(ao,ap,aq,ar,au,av,aw,ax,ay,az)=>
some (ao,ap,aq,ar,au,av,aw,ax,ay,az,24)
else
(Dc a b f g h n o p k m).bind λba=>
if(geq ba 0)then
(Gp a b f g h n o p k m 24).bind λ(bb,bc,bd,be,bf,bg,bh,bi,bj,bk)=>
some (bb,bc,bd,be,bf,bg,bh,bi,bj,bk,24)
else
j2 a b f g k m h n o p
def Qx:=To Ud
def Gs:Option (LB×Int):=
(Cl x c i d).bind λz=>
if(Bm z 0)then
some (([]:LB),z)
else
if(Da (Ac A) 64)then
some (([]:LB),2)
else
(Xx x c i A).bind λ(e,j,l,q,r,s,t,B,C,D,E)=>
(Jx c d).bind λ(F,G)=>
(Wj e j l q r s t B C D F).bind λ(I,J,L,M,N,O,P,R,T,U,V)=>
(Qx I J L M N O P R T U).bind λ(X,Y,Z,l5,l6,l7,l8,l9,o7,o8,o9)=>
some (l9,o9)
abbrev BN:=Option (UInt64×Int)
def Y5:BN:=
some (j,0)
def sJ:=Y5
def SB(j6:UInt64->BN)(Ni:UInt64->Int->BN)(a:LB)(f:UInt64)(b:Int):BN:=
if(Cm b (Ac a))then
(Aj a b).bind λg=>
(Hq (Ls (Bc 8 b) 0)).bind λ_=>
Ni (yG f (Di (Ad g:UInt64) (GI.toZ (Bc 8 b)).toNat)) (Ae b 1)
else
j6 f
def BW:Nat->UInt64->Int->BN
|0,_,_=>none
|x+1,c,d=>SB sJ (BW x) z c d
def sW a:=BW a Aq
def gG(j4:LB->UInt64->Int->BN)(a:LB):BN:=
if((Cm (Ac a) 1)||(Da (Ac a) 8))then
some (0,2)
else
j4 a 0 0
def dQ:=gG sW
def kH:Option (UInt64×Int):=
if(((Cm l 1)||(Da l 8))||(Cm e 0))then
some (0,2)
else
if(Da e (Ak (Ac z) l))then
some (0,24)
else
(Cr z e (Ae e l)).bind λx=>
(dQ x).bind λ(c,d)=>
some (c,d)
def xE:Option Bool:=
some (geq (Ac z) 4)
def fK:=xE
def Se(j6:LB->Option Bool)(Ni:Int->Option Bool)(a:LB)(b:Int):Option Bool:=
if(Cm b (Ac a))then
(Aj a b).bind λ_=>
(Aj a b).bind λf=>
if((Cm f 32)||(Da f 126))then
some false
else
Ni (Ae b 1)
else
j6 a
def Fw:Nat->Int->Option Bool
|0,_=>none
|x+1,c=>Se fK (Fw x) z c
def wS a:=Fw a Aq
def fW(j4:LB->Int->Option Bool)(a:LB):Option Bool:=
j4 a 0
def Xa:=fW wS
def Ta:Option (LB):=
(
(Br ([]:LB) z).bind λx=>
some x)
abbrev JT:=Option (LB×LB×LB×Bool)
def DD:JT:=
if(Da j (Ad (Ac z):UInt64))then
some (([]:LB),([]:LB),([]:LB),false)
else
(Cr z 0 (GI.toZ j)).bind λx=>
(Ta x).bind λc=>
(Cr z (GI.toZ j) (Ac z)).bind λd=>
if(geq (Oq j 2) 1)then
if(geq (Ac d) 0)then
some (([]:LB),([]:LB),([]:LB),false)
else
(Aj d 0).bind λe=>
if(Bm e 0)then
some (([]:LB),([]:LB),([]:LB),false)
else
(Cr d 1 (Ac d)).bind λi=>
some (U,c,i,true)
else
some (U,c,d,true)
def YH:=DD
def YL(j4:LB->UInt64->LB->JT)(a:LB):JT:=
(kH a 4 4).bind λ(f,v)=>
(Cr a 0 4).bind λh=>
(Cr a 8 (Ac a)).bind λb=>
j4 b f h
def XV:=YL YH
def ZZ(j3:LB->JT)(a:LB):JT:=
if(Cm (Ac a) 8)then
some (([]:LB),([]:LB),([]:LB),false)
else
(Cr a 0 4).bind λp=>
(Xa p).bind λu=>
if(!u)then
some (([]:LB),([]:LB),([]:LB),false)
else
j3 a
def OC:=ZZ XV
abbrev Ld:=Option (LB×(List (LB×LB×Unit))×Int)
def UD:Ld:=
if(Da (Ad (Ac z):UInt64) (Ae j 8))then
some (([]:LB),([]:List (LB×LB×Unit)),38)
else
some (U,q9,0)
def IV:=UD
def NU(j10:LB->UInt64->LB-> (List (LB×LB×Unit))->Ld)(bk8:LB-> (List (LB×LB×Unit))->Ld)(a:LB)(b:UInt64)(f h:LB)(g:List (LB×LB×Unit)):Ld:=
if(Da (Ac h) 0)then
if(geq (Ac g) 20)then
some (([]:LB),([]:List (LB×LB×Unit)),4)
else
(OC h).bind λ(k,m,n,o)=>
if(!o)then
some (([]:LB),([]:List (LB×LB×Unit)),12)
else
(Br g ([(k,m,())]:List (LB×LB×Unit))).bind λp=>
bk8 n p
else
j10 a b f g
def Un:Nat->LB-> (List (LB×LB×Unit))->Ld
|0,_,_=>none
|x+1,c,d=>NU IV (Un x) z j U c d
def ZA a b f:=Un a b f Aq
def NL(j8:LB->UInt64->LB->LB-> (List (LB×LB×Unit))->Ld)(a:LB)(b:UInt64)(f:LB):Ld:=
(Cr a 12 (GI.toZ (Ae b 8))).bind λu=>
j8 a b f u ([]:List (LB×LB×Unit))
def NX:=NL ZA
def FD(j7:LB->UInt64->LB->Ld)(a:LB)(b:UInt64)(f:LB)(v:Bool):Ld:=
if v then
some (([]:LB),([]:List (LB×LB×Unit)),12)
else
if(Da (Ae b 8) 100000)then
some (([]:LB),([]:List (LB×LB×Unit)),4)
else
if(Da (Ae b 8) (Ad (Ac a):UInt64))then
some (([]:LB),([]:List (LB×LB×Unit)),24)
else
j7 a b f
def Pr:=FD NX
def NV(j6:LB->UInt64->LB->Bool->Ld)(a:LB):Ld:=
if(Cm (Ac a) 12)then
some (([]:LB),([]:List (LB×LB×Unit)),24)
else
(kH a 4 4).bind λ(b,aa)=>
(Cr a 8 12).bind λf=>
(Cr a 0 4).bind λw=>
if(w !=([82,73,70,70]:LB))then
j6 a b f (true||(Cm b 4))
else
(Xa f).bind λy=>
j6 a b f ((!y)||(Cm b 4))
def OD:=NV Pr
abbrev Ha:=Option (Int×Int)
def TH:Ha:=
if(Cm x 0)then
some (0,6)
else
some (x,0)
def IY:=TH
def jP(j16:Int->Ha):Ha:=
j16 (-1:Int)
def TZ:=jP IY
def jV(bk9:Int->Ha)(a:List (LB×LB×Unit))(b:LB)(f:Int):Ha:=
bk9 (Ae f 1)
def kK bk9:=jV bk9
def jR(j16:Int->Ha)(j13:Int->Ha)(a:List (LB×LB×Unit))(b:LB)(f:Int)(g:LB×LB×Unit):Ha:=
if(g.1==b)then
j16 f
else
j13 f
def TD bk9 a b:=jR IY (kK bk9 a b) a b
def NW(j12:Int-> (LB×LB×Unit)->Ha)(j15:Ha)(a:List (LB×LB×Unit))(b:LB)(f:Int):Ha:=
if(Cm f (Ac a))then
(Aj a f).bind λg=>
j12 f g
else
j15
def Ye:Nat->Int->Ha
|0,_=>none
|x+1,z=>NW (TD (Ye x) q9 Axd) TZ q9 Axd z
def O0 a b:=Ye a b Aq
def oM(j9:(List (LB×LB×Unit))->LB->Int->Ha)(a:List (LB×LB×Unit))(b:LB):Ha:=
j9 a b 0
def gZ:=oM O0
def OT:Option (Int×Int):=
(gZ q9 Axd).bind λ(x,z)=>
if(Bm z 0)then
some (0,z)
else
(Cr q9 (Ae x 1) (Ac q9)).bind λc=>
(gZ c Axd).bind λ(d,e)=>
if(geq e 0)then
some (0,12)
else
some (x,0)
def Lh:Option Int:=
if((((Cm x 1)||(Da x 6))||(Cm i 1))||(Da i 1048576))then
some 8
else
if(geq c 8)then
if(geq c 8)then
some 0
else
some 8
else
if(geq c 16)then
if(geq c 16)then
some 0
else
some 8
else
if(geq c 24)then
some 0
else
some 8
def IQ:Option (LB):=
if s then
(Cr ([(1:UInt8),(0:UInt8),(0:UInt8),(0:UInt8),(0:UInt8),(0:UInt8),(16:UInt8),(0:UInt8),(128:UInt8),(0:UInt8),(0:UInt8),(170:UInt8),(0:UInt8),(56:UInt8),(155:UInt8),(113:UInt8)]:LB) 0 16).bind λx=>
(Br D x).bind λz=>
some z
else
some D
def Yi:=IQ
def Rh(j8:Bool->LB->Option (LB))(rO:Int->LB->Option (LB))(a:Bool)(h:Int)(f:LQ)(g:Int)(b:LB):Option (LB):=
if(Cm g h)then
(Aj f g).bind λ_=>
(Aj f g).bind λv=>
(Aj ([(2:Int),(2:Int),(4:Int),(4:Int),(2:Int),(2:Int),(2:Int),(2:Int),(4:Int)]:LI) g).bind λw=>
(Zr v w).bind λ(y,ac)=>
(Br b y).bind λaa=>
rO (Ae g 1) aa
else
j8 a b
def Dw:Nat->Int->LB->Option (LB)
|0,_,_=>none
|x+1,z,c=>Rh Yi (Dw x) s e o8 z c
def HS a h f:=Dw a h f Aq
def Yj(j6:Bool->Int->LQ->Int->LB->Option (LB))(a:Bool)(h:Int)(f:LQ):Option (LB):=
j6 a h f 0 ([]:LB)
def IL:=Yj HS
def Xy(j5:Bool->Int->LQ->Option (LB))(m k n:Int)(a:Bool)(o:UInt64):Option (LB):=
if a then
(Aj ([(1:UInt64),(Ad m:UInt64),(Ad n:UInt64),(Bc (Ad n:UInt64) (Ad (Ay (Bc m k) 8):UInt64)),(Ad (Ay (Bc m k) 8):UInt64),(Ad k:UInt64),(22:UInt64),(Ad k:UInt64),o]:LQ) 0).bind λ_=>
(Ku ([(1:UInt64),(Ad m:UInt64),(Ad n:UInt64),(Bc (Ad n:UInt64) (Ad (Ay (Bc m k) 8):UInt64)),(Ad (Ay (Bc m k) 8):UInt64),(Ad k:UInt64),(22:UInt64),(Ad k:UInt64),o]:LQ) 0 65534).bind λab=>
j5 a 9 ab
else
j5 a 6 ([(1:UInt64),(Ad m:UInt64),(Ad n:UInt64),(Bc (Ad n:UInt64) (Ad (Ay (Bc m k) 8):UInt64)),(Ad (Ay (Bc m k) 8):UInt64),(Ad k:UInt64),(22:UInt64),(Ad k:UInt64),o]:LQ)
def Nc:=Xy IL
def CW:Option Bool:=
some (z==q)
abbrev Lt:=Option (Int×Int×Int×Int)
def Yd:Lt:=
(Aj o8 1).bind λ_=>
(Aj o8 1).bind λx=>
(Aj o8 5).bind λ_=>
(Aj o8 5).bind λc=>
(Aj o8 2).bind λ_=>
(Aj o8 2).bind λd=>
(Lh (Ad x:Int) (Ad c:Int) (Ad d:Int)).bind λe=>
if(Bm e 0)then
some (0,0,0,12)
else
(Aj o8 0).bind λ_=>
(Aj o8 0).bind λi=>
(Aj o8 8).bind λ_=>
(Aj o8 8).bind λj=>
(Nc (Ad x:Int) (Ad c:Int) (Ad d:Int) (geq i 65534) j).bind λl=>
(CW z l).bind λq=>
if(!q)then
some (0,0,0,12)
else
some ((Ad x:Int),(Ad c:Int),(Ad d:Int),0)
def XQ:=Yd
def Yf(j6:LB->LQ->Lt)(Ni:Int->Int->LQ->Lt)(b:LB)(g f:Int)(a:LQ):Lt:=
if(Cm f 9)then
(Aj ([(2:Int),(2:Int),(4:Int),(4:Int),(2:Int),(2:Int),(2:Int),(2:Int),(4:Int)]:LI) f).bind λh=>
if(xZ (Ae g h) (Ac b))then
(kH b g h).bind λ(w,aa)=>
(Aj a f).bind λ_=>
(Ku a f w).bind λy=>
Ni (Ae g h) (Ae f 1) y
else
Ni (Ae g h) (Ae f 1) a
else
j6 b a
def Ki:Nat->Int->Int->LQ->Lt
|0,_,_,_=>none
|x+1,c,d,e=>Yf XQ (Ki x) z c d e
def UJ b:=Ki b Aq
def HR(j4:LB->Int->Int->LQ->Lt)(b:LB):Lt:=
j4 b 0 0 ([(0:UInt64),(0:UInt64),(0:UInt64),(0:UInt64),(0:UInt64),(0:UInt64),(0:UInt64),(0:UInt64),(0:UInt64)]:LQ)
def Ux:=HR UJ
def pK:Option (Int×Int×Int×LX×Int):=
(OD z).bind λ(x,c,d)=>
if(Bm d 0)then
some (0,0,0,([]:LX),d)
else
if(x !=([87,65,86,69]:LB))then
some (0,0,0,([]:LX),12)
else
(OT c ([102,109,116,32]:LB)).bind λ(e,i)=>
(OT c ([100,97,116,97]:LB)).bind λ(j,l)=>
if((geq i 6)||(geq l 6))then
some (0,0,0,([]:LX),6)
else
if(((Bm i 0)||(Bm l 0))||(Da e j))then
some (0,0,0,([]:LX),12)
else
(Aj c e).bind λ_=>
(Aj c e).bind λq=>
(Ux q.2.1).bind λ(r,s,t,A)=>
if(Bm A 0)then
some (0,0,0,([]:LX),A)
else
(Aj c j).bind λ_=>
(Aj c j).bind λB=>
if(geq (Ac B.2.1) 0)then
some (0,0,0,([]:LX),12)
else
(Hq (Bm (Ay (Bc r s) 8) 0)).bind λ_=>
if(Da (Fm (Ac B.2.1) (Ay (Bc r s) 8)) 0)then
some (0,0,0,([]:LX),12)
else
(Zw s B.2.1).bind λ(C,D)=>
if(Bm D 0)then
some (0,0,0,([]:LX),4)
else
(Hu r s t C).bind λE=>
if(Bm E 0)then
some (0,0,0,([]:LX),4)
else
some (r,s,t,C,0)
abbrev Hc:=Option (LB×Int)
def mJ:Hc:=
some (z,x)
def QL:=mJ
def mX(j6:Int->LB->Hc)(b:Int)(f:LB):Hc:=
j6 b f
def lP:=mX QL
def BH(j6:Int->LB->Hc)(j5:Int->LB->Hc)(a:Int)(g:LB)(h k m:Int)(n:LX):Hc:=
if(Bm a 0)then
j6 a ([]:LB)
else
(Kw h k m n g).bind λ(f,b)=>
j5 b f
def BC:=BH QL lP
def BQ(j4:Int->LB->Int->Int->Int->LX->Hc)(u g:LB):Hc:=
(pK u).bind λ(h,k,m,n,a)=>
j4 a g h k m n
def Uo:=BQ BC
def OP:Option UInt64:=
some j
def BD:=OP
def Uk:Option UInt64:=
if(Ls l7 0)then
(Aj Axe l7).bind λx=>
y7 (Ae (Bc 256 l5) (Ad x:UInt64)) (Ak l7 1)
else
y5 l5
def Kj:Nat->UInt64->Int->Option UInt64
|0,_,_=>none
|x+1,c,d=>Uk BD (Kj x) z c d
def PL a:=Kj a Aq
def AW(j4:LB->UInt64->Int->Option UInt64)(a:LB):Option UInt64:=
j4 a 0 (Ak (Ac a) 1)
def Ax:=AW PL
def cX:Option Bool:=
some (geq (Ac z) 4)
def KW:=cX
def Qc(j6:LB->Option Bool)(Ni:Int->Option Bool)(a:LB)(b:Int):Option Bool:=
if(Cm b (Ac a))then
(Aj a b).bind λf=>
if(Cm f 32)then
some false
else
(Aj a b).bind λg=>
if(Da g 126)then
some false
else
Ni (Ae b 1)
else
j6 a
def Eg:Nat->Int->Option Bool
|0,_=>none
|x+1,c=>Qc KW (Eg x) z c
def cM a:=Eg a Aq
def JX(j4:LB->Int->Option Bool)(a:LB):Option Bool:=
j4 a 0
def Wk:=JX cM
abbrev Bq:=Option (LB×(List (LB×LB×Unit))×Int)
def HO:Bq:=
if(Da (Ac z) (Ae (Ad j:Int) 8))then
some (([]:LB),([]:List (LB×LB×Unit)),38)
else
some (q,q9,0)
def Vw:=HO
def HK(rP:Int-> (List (LB×LB×Unit))->Bq)(a f:LB)(b:UInt64)(g:Int)(k:UInt64)(m:List (LB×LB×Unit)):Bq:=
rP (Ae g (Ae 8 (Ad (Ae k (Oq k 2)):Int))) m
def Vj rP:=HK rP
def Oc(j24:Int->UInt64-> (List (LB×LB×Unit))->Bq)(a f:LB)(b:UInt64)(g:Int)(k:UInt64)(h:List (LB×LB×Unit)):Bq:=
(Cr a g (Ae g 4)).bind λn=>
(Cr a (Ae g 8) (Ae (Ae g 8) (Ad k:Int))).bind λo=>
(
(Br ([]:LB) o).bind λp=>
(Br h ([(n,p,())]:List (LB×LB×Unit))).bind λm=>
j24 g k m)
def On rP a f b:=Oc (Vj rP a f b) a f b
def Vy(j23:Int->UInt64-> (List (LB×LB×Unit))->Bq)(a f:LB)(b:UInt64)(g:Int)(h:List (LB×LB×Unit)):Bq:=
(Cr a (Ae g 4) (Ae g 8)).bind λv=>
(Ax v).bind λk=>
if(Da (Ae k (Oq k 2)) (Ad (Ak (Ak (Ae (Ad b:Int) 8) g) 8):UInt64))then
some (([]:LB),([]:List (LB×LB×Unit)),12)
else
if(geq (Oq k 2) 1)then
(Aj a (Ae (Ae g 8) (Ad k:Int))).bind λw=>
if(Bm w 0)then
some (([]:LB),([]:List (LB×LB×Unit)),12)
else
j23 g k h
else
j23 g k h
def HA rP a f b:=Vy (On rP a f b) a f b
def Of(j22:Int-> (List (LB×LB×Unit))->Bq)(j26:LB->LB->UInt64-> (List (LB×LB×Unit))->Bq)(a f:LB)(b:UInt64)(g:Int)(h:List (LB×LB×Unit)):Bq:=
if(Cm g (Ae (Ad b:Int) 8))then
if(geq (Ac h) 20)then
some (([]:LB),([]:List (LB×LB×Unit)),4)
else
if(Cm (Ak (Ae (Ad b:Int) 8) g) 8)then
some (([]:LB),([]:List (LB×LB×Unit)),12)
else
(Cr a g (Ae g 4)).bind λy=>
(Wk y).bind λaa=>
if(!aa)then
some (([]:LB),([]:List (LB×LB×Unit)),12)
else
j22 g h
else
j26 a f b h
def Cs:Nat->Int-> (List (LB×LB×Unit))->Bq
|0,_,_=>none
|x+1,c,d=>Of (HA (Cs x) z q j) Vw z q j c d
def GR a f b:=Cs a f b Aq
def Vb(j15:LB->LB->UInt64->Int-> (List (LB×LB×Unit))->Bq)(a f:LB)(b:UInt64):Bq:=
if(Da (Ae b 8) 100000)then
some (([]:LB),([]:List (LB×LB×Unit)),4)
else
if(Cm (Ac a) (Ae (Ad b:Int) 8))then
some (([]:LB),([]:List (LB×LB×Unit)),24)
else
j15 a f b 12 ([]:List (LB×LB×Unit))
def Va:=Vb GR
def Wz(j14:LB->LB->UInt64->Bq)(a:LB):Bq:=
if(Cm (Ac a) 12)then
some (([]:LB),([]:List (LB×LB×Unit)),24)
else
(Cr a 8 12).bind λf=>
(Cr a 4 8).bind λab=>
(Ax ab).bind λb=>
(Cr a 0 4).bind λac=>
if(ac !=([82,73,70,70]:LB))then
if(true||(Cm b 4))then
some (([]:LB),([]:List (LB×LB×Unit)),12)
else
j14 a f b
else
(Wk f).bind λad=>
if((!ad)||(Cm b 4))then
some (([]:LB),([]:List (LB×LB×Unit)),12)
else
j14 a f b
def Wp:=Wz Va
abbrev Fq:=Option (Int×Int)
def bD:Fq:=
some (x,c)
def GJ:=bD
def Oh(j6:Int->Int->Fq)(Ni:Int->Int->Int->Fq)(b:List (LB×LB×Unit))(h:LB)(a g f:Int):Fq:=
if(Cm f (Ac b))then
(Aj b f).bind λk=>
if(k.1==h)then
Ni (Ae a 1) f (Ae f 1)
else
Ni a g (Ae f 1)
else
j6 a g
def Hg:Nat->Int->Int->Int->Fq
|0,_,_,_=>none
|x+1,z,c,d=>Oh GJ (Hg x) q9 Axd z c d
def aU b h:=Hg b h Aq
def GL(j4:(List (LB×LB×Unit))->LB->Int->Int->Int->Fq)(b:List (LB×LB×Unit))(h:LB):Fq:=
j4 b h 0 0 0
def Tn:=GL aU
def Kb:Option Int:=
if((Cm x 1)||(Da x 6))then
if((true||(Cm i 1))||(Da i 1048576))then
some 8
else
some 0
else
if(((((Bm c 8)&&(Bm c 16))&&(Bm c 24))||(Cm i 1))||(Da i 1048576))then
some 8
else
some 0
def Nu:Option (LB):=
(Ah j 2).bind λz=>
(Ah (Ad x:UInt64) 2).bind λd=>
(Br z d).bind λe=>
(Ah (Ad i:UInt64) 4).bind λl=>
(Br e l).bind λq=>
(Ah (Bc (Ad i:UInt64) (Ad (Ay (Bc x c) 8):UInt64)) 4).bind λr=>
(Br q r).bind λs=>
(Ah (Ad (Ay (Bc x c) 8):UInt64) 2).bind λt=>
(Br s t).bind λA=>
(Ah (Ad c:UInt64) 2).bind λB=>
(Br A B).bind λC=>
some C
def BK:Option (LB):=
(Nu x c i 1).bind λz=>
some z
def Zd:Option (LB):=
(Nu x c i 65534).bind λz=>
(Br z ([(22:UInt8),(0:UInt8)]:LB)).bind λd=>
(Ah (Ad c:UInt64) 2).bind λe=>
(Br d e).bind λj=>
(Ah (Ad E:UInt64) 4).bind λl=>
(Br j l).bind λq=>
(Br q ([(1:UInt8),(0:UInt8),(0:UInt8),(0:UInt8),(0:UInt8),(0:UInt8),(16:UInt8),(0:UInt8),(128:UInt8),(0:UInt8),(0:UInt8),(170:UInt8),(0:UInt8),(56:UInt8),(155:UInt8),(113:UInt8)]:LB)).bind λr=>
some r
abbrev Mf:=Option (Int×Int×Int×Int)
def gI:Mf:=
if(Axo !=z)then
some (0,0,0,12)
else
some ((Ad j:Int),(Ad L:Int),(Ad w9:Int),0)
def JK:=gI
def Xe(j4:LB->UInt64->UInt64->UInt64->LB->Mf)(a:LB)(g b f:UInt64):Mf:=
(Kb (Ad g:Int) (Ad b:Int) (Ad f:Int)).bind λo=>
if(Bm o 0)then
some (0,0,0,12)
else
(BK (Ad g:Int) (Ad b:Int) (Ad f:Int)).bind λp=>
if(geq (Ac a) 40)then
(Cr a 20 24).bind λu=>
(Ax u).bind λv=>
(Zd (Ad g:Int) (Ad b:Int) (Ad f:Int) (Ad v:UInt32)).bind λw=>
j4 a g b f w
else
j4 a g b f p
def Fv:=Xe JK
def Pj(j3:LB->UInt64->UInt64->UInt64->Mf)(a:LB):Mf:=
if((Bm (Ac a) 16)&&(Bm (Ac a) 40))then
some (0,0,0,12)
else
(Cr a 2 4).bind λm=>
(Cr a 4 8).bind λk=>
(Cr a 14 16).bind λh=>
(
(Ax m).bind λg=>
(
(Ax k).bind λf=>
(
(Ax h).bind λb=>
(
j3 a g b f))))
def Qa:=Pj Fv
abbrev Dr:=Option (Int×Int×Int×LX×Int)
def GZ:Dr:=
(Cl x c i d).bind λz=>
if(Bm z 0)then
some (0,0,0,([]:LX),4)
else
some (x,c,i,d,0)
def Jv:=GZ
def GQ(bk7:Int->LX->Dr)(g:LB×LB×Unit)(a b f k:Int)(n h:LX):Dr:=
(Br h n).bind λab=>
bk7 (Ae k (Ay a 8)) ab
def Wa bk7:=GQ bk7
def Pv(j10:Int->LX->LX->Dr)(j12:Int->Int->Int->LX->Dr)(g:LB×LB×Unit)(a b f k:Int)(h:LX):Dr:=
if(Cm k (Ac g.2.1))then
(Cr g.2.1 k (Ae k (Ay a 8))).bind λac=>
(Lf a ac).bind λ(n,ag)=>
j10 k n h
else
j12 b a f h
def Ft(g:LB×LB×Unit)(a b f:Int):Nat->Int->LX->Dr
|0,_,_=>none
|q+1,k,h=>Pv (Wa (Ft g a b f q) g a b f) Jv g a b f k h
def KM g a b f:=Ft g a b f Aq
def Xh(j7:(LB×LB×Unit)->Int->Int->Int->Int->LX->Dr)(ad:LB):Dr:=
(Wp ad).bind λ(ae,m,u)=>
if(Bm u 0)then
some (0,0,0,([]:LX),u)
else
if(ae !=([87,65,86,69]:LB))then
some (0,0,0,([]:LX),12)
else
(Tn m ([102,109,116,32]:LB)).bind λ(v,o)=>
(Tn m ([100,97,116,97]:LB)).bind λ(w,p)=>
if((geq v 0)||(geq w 0))then
some (0,0,0,([]:LX),6)
else
if(((Da v 1)||(Da w 1))||(Da o p))then
some (0,0,0,([]:LX),12)
else
(Aj m o).bind λ_=>
(Aj m o).bind λaf=>
(Qa af.2.1).bind λ(b,a,f,y)=>
if(Bm y 0)then
some (0,0,0,([]:LX),y)
else
(Aj m p).bind λ_=>
(Aj m p).bind λg=>
if(geq (Ac g.2.1) 0)then
some (0,0,0,([]:LX),12)
else
(Hq (Bm (Ay (Bc b a) 8) 0)).bind λ_=>
if(Bm (Fm (Ac g.2.1) (Ay (Bc b a) 8)) 0)then
some (0,0,0,([]:LX),12)
else
(Hq (Bm (Ay a 8) 0)).bind λ_=>
if(Da (Ay (Ac g.2.1) (Ay a 8)) 4000)then
some (0,0,0,([]:LX),4)
else
j7 g a b f 0 ([]:LX)
def Wb:=Xh KM
def Kx:Option (LB×Int):=
(Wb z).bind λ(x,c,d,e,i)=>
if(Bm i 0)then
some (([]:LB),i)
else
(Gs x c d e q).bind λ(j,l)=>
some (j,l)
def Mr:Option Bool:=
if(((((Da (Ac d) 600)&&(xZ (Ac d) 4000))||(Da (Ac d) 4010))||(Da (Ac A) 100))||(Da (Ac D) 2000))then
some true
else
(Kw x c i d A).bind λ(z,e)=>
(Gs x c i d A).bind λ(j,l)=>
(Uo D A).bind λ(q,r)=>
(Kx D A).bind λ(s,t)=>
some ((((z==j)&&(geq e l))&&(q==s))&&(geq r t))
def fS:Option (LI):=
(
(Br ([]:LI) C).bind λx=>
some x)
def O7:Option (LB×LB×Int×Int×Int×Int×Int×LI×Int×LB×Bool×Int):=
(Ta q).bind λx=>
(Ta D).bind λc=>
(fS C).bind λd=>
some (z,x,e,l,G,X,Y,d,Z,c,R,T)
def aP:Option (UInt64×UInt64):=
some ((Ae (Ae (Bc (Ce j (GI.toZ (32:UInt64)).toNat) (Ce L (GI.toZ (32:UInt64)).toNat)) (Ce (Ae (Bc (Ce j (GI.toZ (32:UInt64)).toNat) (Fc L 4294967295)) (Ce (Bc (Fc j 4294967295) (Fc L 4294967295)) (GI.toZ (32:UInt64)).toNat)) (GI.toZ (32:UInt64)).toNat)) (Ce (Ae (Fc (Ae (Bc (Ce j (GI.toZ (32:UInt64)).toNat) (Fc L 4294967295)) (Ce (Bc (Fc j 4294967295) (Fc L 4294967295)) (GI.toZ (32:UInt64)).toNat)) 4294967295) (Bc (Fc j 4294967295) (Ce L (GI.toZ (32:UInt64)).toNat))) (GI.toZ (32:UInt64)).toNat)),(Bc j L))
def kN:Option (UInt64×UInt64):=
(aP j L).bind λ(x,z)=>
some (x,z)
def xO:Option (LB×Int):=
if(Cm (Ac z) 5)then
some (([]:LB),24)
else
if(Da (Ac z) 41254)then
some (([]:LB),4)
else
(Cr z 0 (Ak (Ac z) 4)).bind λx=>
(HY x).bind λ(c,d)=>
if(Bm d 0)then
some (([]:LB),d)
else
(Cr z (Ak (Ac z) 4) (Ac z)).bind λe=>
(dQ e).bind λ(i,j)=>
if((Bm j 0)||(Bm i (Ad c:UInt64)))then
some (([]:LB),22)
else
(Cr z 0 (Ak (Ac z) 4)).bind λl=>
some (l,0)
def Amn:Option (LB×Int×Int):=
if(Da (Ac z) 41250)then
some (([]:LB),0,4)
else
(Bv z).bind λx=>
some (x,(Bc 8 (Ac z)),0)
def ug:Option UInt64:=
some j
def mh:=ug
def ji(j6:UInt64->Option UInt64)(Ni:UInt64->Int->Option UInt64)(b f:Int)(h:LB)(k:Int)(g:UInt64)(a:Int):Option UInt64:=
if(Cm a f)then
(Aj h (S2 (Ae b a) (GI.toZ (3:UInt64)).toNat)).bind λm=>
(Hq (Ls (Fc (Ae b a) 7) 0)).bind λ_=>
(Hq (Ls (Kt (Ak f a) (Ak 8 (Fc (Ae b a) 7))) 0)).bind λ_=>
(Hq (Ls a 0)).bind λ_=>
Ni (yG g (Di (Ad (Fc (Ce m (GI.toZ (Fc (Ae b a) 7)).toNat) (Ak (Di (1:UInt8) (GI.toZ (Kt (Ak f a) (Ak 8 (Fc (Ae b a) 7)))).toNat) 1)):UInt64) (GI.toZ a).toNat)) (Ae a (Kt (Ak f a) (Ak 8 (Fc (Ae b a) 7))))
else
j6 g
def sO:Nat->UInt64->Int->Option UInt64
|0,_,_=>none
|d+1,i,j=>ji mh (sO d) x c z e i j
def ig b f h k:=sO b f h k Aq
def X6(j4:Int->Int->LB->Int->UInt64->Int->Option UInt64)(h:LB)(k b f:Int):Option UInt64:=
j4 b f h k 0 0
def pq:=X6 ig
abbrev Ex:=Option (LB×Int×Int)
def T3:Ex:=
some (z,x,0)
def N0:=T3
def O9(aE:Int->Int->LB->Ex)(a:Int)(g:LB)(b f h:Int)(u:LB):Ex:=
aE (Ae f 64) h u
def K5 aE:=O9 aE
def P3(zW:UInt64->Int->Int->LB->Ex)(a f:Int)(g:LB)(b:Int)(m n:UInt64)(k h:Int)(w:LB):Ex:=
(Hq (Ls (Kt k (Ak 8 (Fc h 7))) 0)).bind λ_=>
zW (Ce n (GI.toZ (Kt k (Ak 8 (Fc h 7)))).toNat) (Ak k (Kt k (Ak 8 (Fc h 7)))) (Ae h (Kt k (Ak 8 (Fc h 7)))) w
def R8 zW:=P3 zW
def V8(j48:UInt64->Int->Int->LB->Ex)(a f:Int)(g:LB)(b:Int)(m n:UInt64)(k h:Int)(v:LB):Ex:=
(Aj v (Ak (Ac v) 1)).bind λ_=>
(Hq (Ls (Kt k (Ak 8 (Fc h 7))) 0)).bind λ_=>
(Hq (Ls (Fc h 7) 0)).bind λ_=>
(Aj v (Ak (Ac v) 1)).bind λaa=>
(Aj v (Ak (Ac v) 1)).bind λ_=>
Option.bind (Ku v (Ak (Ac v) 1) (yG aa (Di (Ad (Fc n (Ak (Di (1:UInt64) (GI.toZ (Kt k (Ak 8 (Fc h 7)))).toNat) 1)):UInt8) (GI.toZ (Fc h 7)).toNat))) λw=>
j48 n k h w
def P2 zW a f g b m:=V8 (R8 zW a f g b m) a f g b m
def N7(j47:UInt64->Int->Int->LB->Ex)(j50:Int->Int->LB->Ex)(a:Int)(g:LB)(b f:Int)(m n:UInt64)(k h:Int)(u:LB):Ex:=
if(Da k 0)then
if(geq (Fc h 7) 0)then
(Br u ([(0:UInt8)]:LB)).bind λab=>
j47 n k h ab
else
j47 n k h u
else
j50 f h u
def nV(aE:Int->Int->LB->Ex)(a:Int)(g:LB)(b f:Int)(m:UInt64):Nat->UInt64->Int->Int->LB->Ex
|0,_,_,_,_=>none
|q+1,n,k,h,u=>N7 (P2 (nV aE a g b f m q) a f g b m) (K5 aE a g b) a g b f m n k h u
def S9 aE a g b f m:=nV aE a g b f m Aq
def S0(j44:Int->UInt64->UInt64->Int->Int->LB->Ex)(j52:Int->LB->Ex)(a:Int)(g:LB)(b f o:Int)(p:LB):Ex:=
if(Cm f a)then
(pq g b f (Kt 64 (Ak a f))).bind λm=>
j44 f m m (Kt 64 (Ak a f)) o p
else
j52 o p
def nP:Nat->Int->Int->LB->Ex
|0,_,_,_=>none
|c+1,d,i,j=>S0 (S9 (nP c) x z e) N0 x z e d i j
def K2 a g b:=nP a g b Aq
def ku(j27:Int->LB->Int->Int->Int->LB->Ex)(g:LB)(b y a:Int):Ex:=
(Kl g b).bind λac=>
if(Bm ac 0)then
some (([]:LB),0,8)
else
if(((Cm y 0)||(Da y a))||(Da a b))then
some (([]:LB),0,2)
else
j27 a g b y 0 ([]:LB)
def Ah7:=ku K2
def eX:Option (UInt64×Int):=
(Kl z e).bind λx=>
if(Bm x 0)then
some (0,8)
else
if(((Cm G 0)||(Da G 64))||(Cm l 0))then
some (0,2)
else
if(Da l (Ak e G))then
some (0,24)
else
(pq z e l G).bind λc=>
some (c,0)
def RI:Option Int:=
if(geq j 0)then
some 64
else
(Aj ([(0:UInt8),(1:UInt8),(56:UInt8),(2:UInt8),(57:UInt8),(49:UInt8),(28:UInt8),(3:UInt8),(61:UInt8),(58:UInt8),(42:UInt8),(50:UInt8),(38:UInt8),(29:UInt8),(17:UInt8),(4:UInt8),(62:UInt8),(47:UInt8),(59:UInt8),(36:UInt8),(45:UInt8),(43:UInt8),(51:UInt8),(22:UInt8),(53:UInt8),(39:UInt8),(33:UInt8),(30:UInt8),(24:UInt8),(18:UInt8),(12:UInt8),(5:UInt8),(63:UInt8),(55:UInt8),(48:UInt8),(27:UInt8),(60:UInt8),(41:UInt8),(37:UInt8),(16:UInt8),(46:UInt8),(35:UInt8),(44:UInt8),(21:UInt8),(52:UInt8),(32:UInt8),(23:UInt8),(11:UInt8),(54:UInt8),(26:UInt8),(40:UInt8),(15:UInt8),(34:UInt8),(20:UInt8),(31:UInt8),(10:UInt8),(25:UInt8),(14:UInt8),(19:UInt8),(9:UInt8),(13:UInt8),(8:UInt8),(7:UInt8),(6:UInt8)]:LB) (GI.toZ (Ce (Bc (Fc j (M1 j)) 285870213051353865) (GI.toZ (58:UInt64)).toNat))).bind λx=>
some (Ad x:Int)
abbrev Iz:=Option (Int×Int×Int)
def wY:Iz:=
some (0,0,24)
def wU:=wY
def C0(j10:Iz):Iz:=
j10
def A6:=C0 wU
def B0(j9:Iz)(f a:Int):Iz:=
if(geq f 48)then
some (f,(Ae 0 (Ae a f)),0)
else
j9
def B7:=B0 A6
def B5(j8:Int->Int->Iz)(f b a:Int):Iz:=
if(Cm f (Kt 48 (Ak b a)))then
some (f,(Ae (Ae (0:Int) (1:Int)) (Ae a f)),0)
else
j8 f a
def B9:=B5 B7
def B8(j7:Int->Int->Int->Iz)(h:Int)(k:UInt64)(a:Int)(g:LB)(b:Int):Iz:=
if(Bm h 0)then
some (0,0,h)
else
(RI (Aak k)).bind λf=>
j7 f b a
def A9:=B8 B9
def C1(j6:Int->UInt64->Int->LB->Int->Iz)(g:LB)(b a:Int):Iz:=
(Kl g b).bind λm=>
if(Bm m 0)then
some (0,0,m)
else
if(Cm a 0)then
some (0,0,2)
else
if(Ls a b)then
some (0,0,24)
else
(
(
(eX g b a (Kt 48 (Ak b a))).bind λ(k,h)=>
j6 h k a g b))
def Aaf:=C1 A9
abbrev eZ:=Option (UInt32×Int×Int)
def Q0:eZ:=
(eX z e c l).bind λ(d,j)=>
if(Bm j 0)then
some (0,0,j)
else
if(Cm i 48)then
(Hq (Ls x 0)).bind λ_=>
some ((yG (Di (Ad i:UInt32) (GI.toZ x).toNat) (Ad d:UInt32)),(Ae c l),0)
else
(FT (Ad d:UInt32) x).bind λq=>
if(!q)then
some (0,0,12)
else
some ((Ad d:UInt32),(Ae c l),0)
def T6:=Q0
def R3(j2:Int->Int->Int->LB->Int->Int->eZ)(g:LB)(h v a:Int):eZ:=
(Kl g h).bind λo=>
if(Bm o 0)then
some (0,0,o)
else
if((Cm a 0)||(Da a 24))then
some (0,0,2)
else
(Aaf g h v).bind λ(f,b,p)=>
if(Bm p 0)then
some (0,0,p)
else
if(geq f 48)then
j2 a b f g h 32
else
j2 a b f g h a
def Ae9:=R3 T6
abbrev Lc:=Option (UInt32×Int×Int×Int×UInt64×UInt64×Int)
def A4:Lc:=
some (E,M,Axn,Axj,(Ae w9 (Ak (Ad E:UInt64) (Ce w9 (GI.toZ (4:UInt64)).toNat))),Axa,0)
def B3:=A4
def T0(j10:UInt32->Int->Int->Int->UInt64->UInt64->Lc)(f:UInt32)(k m:Int)(b n:UInt64)(w:Int):Lc:=
j10 f k w m b n
def K8:=T0 B3
def U9(j9:UInt32->Int->Int->UInt64->UInt64->Int->Lc)(f:UInt32)(k a:Int)(b:UInt64)(m:Int)(n:UInt64):Lc:=
if(Da a 0)then
(Hq (Ls a 0)).bind λ_=>
if(Cm (Ae b (Ak (Ad f:UInt64) (Ce b (GI.toZ (4:UInt64)).toNat))) (Di (16:UInt64) (GI.toZ a).toNat))then
j9 f k m b n (Ak a 1)
else
if(Cm a 24)then
(Hq (Ls a 0)).bind λ_=>
if(Da (Ae b (Ak (Ad f:UInt64) (Ce b (GI.toZ (4:UInt64)).toNat))) (Di (32:UInt64) (GI.toZ a).toNat))then
j9 f k m b n (Ae a 1)
else
j9 f k m b n a
else
j9 f k m b n a
else
if(Cm a 24)then
(Hq (Ls a 0)).bind λ_=>
if(Da (Ae b (Ak (Ad f:UInt64) (Ce b (GI.toZ (4:UInt64)).toNat))) (Di (32:UInt64) (GI.toZ a).toNat))then
j9 f k m b n (Ae a 1)
else
j9 f k m b n a
else
j9 f k m b n a
def T5:=U9 K8
def N1(j8:UInt32->Int->Int->UInt64->Int->UInt64->Lc)(a h:Int)(b g:UInt64)(f:UInt32)(k:Int):Lc:=
(IH a h b g f).bind λ(ad,o)=>
if(geq ad 1)then
if(Da h 0)then
(Hq (Ls h 0)).bind λ_=>
if(Cm (Ae g (Ak (Ad o:UInt64) (Ce g (GI.toZ (4:UInt64)).toNat))) (Di (16:UInt64) (GI.toZ h).toNat))then
j8 f k a b (Ak h 1) (Ae g (Ak (Ad o:UInt64) (Ce g (GI.toZ (4:UInt64)).toNat)))
else
if(Cm h 24)then
(Hq (Ls h 0)).bind λ_=>
if(Da (Ae g (Ak (Ad o:UInt64) (Ce g (GI.toZ (4:UInt64)).toNat))) (Di (32:UInt64) (GI.toZ h).toNat))then
j8 f k a b (Ae h 1) (Ae g (Ak (Ad o:UInt64) (Ce g (GI.toZ (4:UInt64)).toNat)))
else
j8 f k a b h (Ae g (Ak (Ad o:UInt64) (Ce g (GI.toZ (4:UInt64)).toNat)))
else
j8 f k a b h (Ae g (Ak (Ad o:UInt64) (Ce g (GI.toZ (4:UInt64)).toNat)))
else
if(Cm h 24)then
(Hq (Ls h 0)).bind λ_=>
if(Da (Ae g (Ak (Ad o:UInt64) (Ce g (GI.toZ (4:UInt64)).toNat))) (Di (32:UInt64) (GI.toZ h).toNat))then
j8 f k a b (Ae h 1) (Ae g (Ak (Ad o:UInt64) (Ce g (GI.toZ (4:UInt64)).toNat)))
else
j8 f k a b h (Ae g (Ak (Ad o:UInt64) (Ce g (GI.toZ (4:UInt64)).toNat)))
else
j8 f k a b h (Ae g (Ak (Ad o:UInt64) (Ce g (GI.toZ (4:UInt64)).toNat)))
else
j8 f k a b h g
def N5:=N1 T5
def O3(j7:Int->Int->UInt64->UInt64->UInt32->Int->Lc)(p:Int)(u:LB)(v a h:Int)(b g:UInt64):Lc:=
(eX u v p 1).bind λ(ae,aa)=>
if(Bm aa 0)then
some (0,0,0,0,0,0,aa)
else
if(geq ae 0)then
(eX u v (Ae p 1) a).bind λ(af,ab)=>
if(Bm ab 0)then
some (0,0,0,0,0,0,ab)
else
j7 a h b g (Ad af:UInt32) (Ae (Ae p 1) a)
else
(Ae9 u v (Ae p 1) h).bind λ(y,ag,ac)=>
if(Bm ac 0)then
some (0,0,0,0,0,0,ac)
else
(Hq (Ls a 0)).bind λ_=>
if(Cm (Ae y (Di (1:UInt32) (GI.toZ a).toNat)) y)then
some (0,0,0,0,0,0,12)
else
j7 a h b g (Ae y (Di (1:UInt32) (GI.toZ a).toNat)) ag
def V5:=O3 N5
def W1(j6:Int->LB->Int->Int->Int->UInt64->UInt64->Lc)(u:LB)(v p a h:Int)(b g:UInt64):Lc:=
(Kl u v).bind λah=>
if(Bm ah 0)then
some (0,0,0,0,0,0,8)
else
(QN a h b g).bind λai=>
if(Bm ai 0)then
some (0,0,0,0,0,0,8)
else
j6 p u v a h b g
def Aek:=W1 V5
abbrev Bw:=Option (LU×Int×Int)
def lW:Bw:=
some (F,x,0)
def mE:=lW
def mC(Er:Int->Int-> (List (Int×Int×UInt64×UInt64×Unit))->LU->Bw)(a f:Int)(g:LB)(b k v:Int)(w:UInt32)(h:Int)(ah:List (Int×Int×UInt64×UInt64×Unit))(n:LU):Bw:=
(Br n ([w]:LU)).bind λak=>
Er (Ae k v) (Ae h 1) ah ak
def lC Er:=mC Er
def lM(j22:Int->Int->UInt32->Int-> (List (Int×Int×UInt64×UInt64×Unit))->LU->Bw)(a f:Int)(g:LB)(b k h y:Int)(w:UInt32)(v:Int)(m:List (Int×Int×UInt64×UInt64×Unit))(n:LU)(aa ab:Int)(ac ad:UInt64):Bw:=
if(Bm y 0)then
some (([]:LU),0,y)
else
(Hq (Bm a 0)).bind λ_=>
(Aj m (Fm h a)).bind λ_=>
(Ku m (Fm h a) (aa,ab,ac,ad,())).bind λah=>
j22 k v w h ah n
def lN Er a f g b:=lM (lC Er a f g b) a f g b
def mS(j21:Int->Int->Int->UInt32->Int-> (List (Int×Int×UInt64×UInt64×Unit))->LU->Int->Int->UInt64->UInt64->Bw)(j24:Int->LU->Bw)(a f:Int)(g:LB)(b k h:Int)(m:List (Int×Int×UInt64×UInt64×Unit))(n:LU):Bw:=
if(Cm h (Bc f a))then
(Ah7 g b k (Kt (Ae k 81) b)).bind λ(ag,ae,af)=>
if(Bm af 0)then
some (([]:LU),0,af)
else
(Hq (Bm a 0)).bind λ_=>
(Aj m (Fm h a)).bind λ_=>
(
(
(Aj m (Fm h a)).bind λo=>
(
(Aek ag ae 0 o.1 o.2.1 o.2.2.1 o.2.2.2.1).bind λ(w,v,aa,ab,ac,ad,y)=>
j21 k h y w v m n aa ab ac ad)))
else
j24 k n
def OL:Nat->Int->Int-> (List (Int×Int×UInt64×UInt64×Unit))->LU->Bw
|0,_,_,_,_=>none
|d+1,i,j,l,q=>mS (lN (OL d) x c z e) mE x c z e i j l q
def mT a f g b:=OL a f g b Aq
def kW(j16:Int->Int->LB->Int->Int->Int-> (List (Int×Int×UInt64×UInt64×Unit))->LU->Bw)(a f:Int)(g:LB)(b:Int)(p:List (Int×Int×UInt64×UInt64×Unit)):Bw:=
j16 a f g b 0 0 p ([]:LU)
def kR:=kW mT
def lD(j15:Int->Int->LB->Int-> (List (Int×Int×UInt64×UInt64×Unit))->Bw)(Aj4:Int-> (List (Int×Int×UInt64×UInt64×Unit))->Bw)(a f:Int)(g:LB)(b u:Int)(p:List (Int×Int×UInt64×UInt64×Unit)):Bw:=
if(Cm u 6)then
(mY).bind λ(al,ae,af,am)=>
(Aj p u).bind λ_=>
(Ku p u (al,ae,af,am,())).bind λan=>
Aj4 (Ae u 1) an
else
j15 a f g b p
def OV:Nat->Int-> (List (Int×Int×UInt64×UInt64×Unit))->Bw
|0,_,_=>none
|d+1,i,j=>lD kR (OV d) x c z e i j
def mU a f g b:=OV a f g b Aq
def oA(j13:Int->Int->LB->Int->Int-> (List (Int×Int×UInt64×UInt64×Unit))->Bw)(a f:Int)(g:LB)(b:Int):Bw:=
j13 a f g b 0 (List.replicate 6 ((0:Int),(0:Int),(0:UInt64),(0:UInt64),()))
def xH:=oA mU
def Afa:Option Int32:=
some (Zk (Ad (Ce E (GI.toZ (1:UInt64)).toNat):Int32) (M1 (Ad (Fc E 1):Int32)))
def Aje:Option (Int32×Int×LX×LX×Int):=
(PX x d B).bind λ(z,c)=>
if(Bm c 0)then
some (0,0,(List.replicate 16 (0:Int32)),(List.replicate 16 (0:Int32)),c)
else
(XZ x d B (Ae t z) t).bind λ(e,i,j)=>
some ((Ae t z),e,i,j,0)
def Aa4:Option (Int32×Int×Int32×Int×LX×LX×Int):=
(CF x t J P V).bind λz=>
if(Bm z 0)then
some (0,0,0,0,(List.replicate 16 (0:Int32)),(List.replicate 16 (0:Int32)),z)
else
(CH x t).bind λ(c,d)=>
(Aje J P V p8).bind λ(e,i,j,l,q)=>
(
some ((Ae e c),x,(Ae e c),i,j,l,q))
abbrev Gq:=Option (LX×Int)
def O2:Gq:=
some (d,0)
def N2:=O2
def Q6(UG:Int->LX->Gq)(b a:Int)(h:LX):Gq:=
UG (Ae a b) h
def Q7 UG:=Q6 UG
def L9(j20:Int->LX->Gq)(C7:Int->LX->Gq)(b a g:Int)(h:LX):Gq:=
if(Ls g 0)then
(Hq (decide (0<= (Ae g 1)/\ (Ae g 1)<((Ae a b)-a)))).bind λ_=>
(Hq (decide (0<=g/\g<((Ae a b)-a)))).bind λ_=>
(Aj h (a+(Ae g 1))).bind λn=>
(Aj h (a+g)).bind λo=>
(Hq (decide (0<=g/\g<((Ae a b)-a)))).bind λ_=>
(Ku h (a+g) (Ak n o)).bind λp=>
C7 (Ak g 1) p
else
j20 a h
def oP(UG:Int->LX->Gq)(b a:Int):Nat->Int->LX->Gq
|0,_,_=>none
|q+1,g,h=>L9 (Q7 UG b) (oP UG b a q) b a g h
def M9 UG b a:=oP UG b a Aq
def K4(j18:Int->Int->LX->Gq)(b a:Int)(u:LX):Gq:=
j18 a (Ak (Ak ((Ae a b)-a) 1) 1) u
def S1 UG b:=K4 (M9 UG b) b
def M3(j17:Int->LX->Gq)(j22:LX->Gq)(b a:Int)(f:LX):Gq:=
if(Cm a (Ac f))then
(uG (Ac f) a (Ae a b)).bind λ_=>
if(Da (Ak ((Ae a b)-a) 1) 0)then
(Hq (decide (0<= (Ak ((Ae a b)-a) 1)/\ (Ak ((Ae a b)-a) 1)<((Ae a b)-a)))).bind λ_=>
Option.bind (Hq (decide (0<= (Ak (Ak ((Ae a b)-a) 1) 1)/\ (Ak (Ak ((Ae a b)-a) 1) 1)<((Ae a b)-a)))) λ_=>
(Aj f (a+(Ak ((Ae a b)-a) 1))).bind λv=>
(Aj f (a+(Ak (Ak ((Ae a b)-a) 1) 1))).bind λw=>
(Hq (decide (0<= (Ak ((Ae a b)-a) 1)/\ (Ak ((Ae a b)-a) 1)<((Ae a b)-a)))).bind λ_=>
(Ku f (a+(Ak ((Ae a b)-a) 1)) (Ae v (Ay w 2))).bind λy=>
j17 a y
else
j17 a f
else
j22 f
def oH:Nat->Int->LX->Gq
|0,_,_=>none
|z+1,c,d=>M3 (S1 (oH z) x) N2 x c d
def R6 b:=oH b Aq
def tu(j12:Int->Int->LX->Gq)(b:Int)(k:LX):Gq:=
(WM b k).bind λm=>
if(Bm m 0)then
some (([]:LX),m)
else
(Cx k).bind λaa=>
j12 b 0 aa
def Ahu:=tu R6
abbrev Cf:=Option (LX×Int)
def iG:Cf:=
(Ahu x d).bind λ(z,e)=>
if(Bm e 0)then
some (([]:LX),e)
else
(Po c z).bind λi=>
if(Bm i 0)then
some (([]:LX),i)
else
some (z,0)
def iF:=iG
def iR(Aj4:Int-> (List (Int×Int32×(Int×LX×LX×Unit)×Unit))->LX->Cf)(a:Int)(f:LU)(b g:Int)(y:Int32)(v:Int)(h:List (Int×Int32×(Int×LX×LX×Unit)×Unit))(k:LX)(aa:Int)(w:Int32)(ab:Int)(ac ad:LX):Cf:=
if(Bm v 0)then
some (([]:LX),v)
else
(Ku h (Fm g a) (aa,w,(ab,ac,ad,()),())).bind λai=>
(Br k ([y]:LX)).bind λaj=>
Aj4 (Ae g 1) ai aj
def iW Aj4:=iR Aj4
def iE(j16:Int->Int32->Int-> (List (Int×Int32×(Int×LX×LX×Unit)×Unit))->LX->Int->Int32->Int->LX->LX->Cf)(j18:Int->Int->LX->Cf)(f:LU)(a b g:Int)(h:List (Int×Int32×(Int×LX×LX×Unit)×Unit))(k:LX):Cf:=
if(Cm g (Ac f))then
(Aj f g).bind λag=>
(Hq (Bm a 0)).bind λ_=>
(Aj h (Fm g a)).bind λ_=>
(
(Aj h (Fm g a)).bind λm=>
(
(Afa ag).bind λae=>
(
(Aa4 m.1 m.2.1 m.2.2.1.1 m.2.2.1.2.1 m.2.2.1.2.2.1 ae).bind λ(y,aa,w,ab,ac,ad,v)=>
j16 g y v h k aa w ab ac ad)))
else
j18 a b k
def MN:Nat->Int-> (List (Int×Int32×(Int×LX×LX×Unit)×Unit))->LX->Cf
|0,_,_,_=>none
|x+1,z,c,d=>iE (iW (MN x) l9 F o7) iF F l9 o7 z c d
def jO f a b:=MN f a b Aq
def jD(j13:LU->Int->Int->Int-> (List (Int×Int32×(Int×LX×LX×Unit)×Unit))->LX->Cf)(f:LU)(a b:Int)(n:List (Int×Int32×(Int×LX×LX×Unit)×Unit)):Cf:=
j13 f a b 0 n ([]:LX)
def jL:=jD jO
def jK(j12:LU->Int->Int-> (List (Int×Int32×(Int×LX×LX×Unit)×Unit))->Cf)(W6:Int-> (List (Int×Int32×(Int×LX×LX×Unit)×Unit))->Cf)(f:LU)(a b:Int)(o:LX)(p:Int)(n:List (Int×Int32×(Int×LX×LX×Unit)×Unit)):Cf:=
if(Cm p 6)then
(rM b o).bind λ(ak,af,ae,al,am,w)=>
(Aj n p).bind λ_=>
(Ku n p (ak,af,(ae,al,am,()),())).bind λan=>
W6 (Ae p 1) an
else
j12 f a b n
def NC:Nat->Int-> (List (Int×Int32×(Int×LX×LX×Unit)×Unit))->Cf
|0,_,_=>none
|x+1,z,c=>jK jL (NC x) F l9 o7 y9 z c
def jB f a b o:=NC f a b o Aq
def mR(j10:LU->Int->Int->LX->Int-> (List (Int×Int32×(Int×LX×LX×Unit)×Unit))->Cf)(a b:Int)(o:LX)(f:LU):Cf:=
j10 f a b o 0 (List.replicate 6 ((0:Int),(0:Int32),((0:Int),(List.replicate 16 (0:Int32)),(List.replicate 16 (0:Int32)),()),()))
def tL:=mR jB
def uQ:Option (LX×Int):=
(Ep x c).bind λz=>
if(Bm z 0)then
some (([]:LX),z)
else
if(Cm e 1)then
some (([]:LX),2)
else
(Hq (Bm x 0)).bind λ_=>
if(Da e (Ay 4000 x))then
some (([]:LX),2)
else
(xO D).bind λ(i,j)=>
if(Bm j 0)then
some (([]:LX),j)
else
(Amn i).bind λ(l,q,r)=>
if(Bm r 0)then
some (([]:LX),r)
else
(xH x e l q).bind λ(s,t,A)=>
if(Bm A 0)then
some (([]:LX),A)
else
if(Ls (Ak q t) 8)then
some (([]:LX),12)
else
(eX l q t (Ak q t)).bind λ(B,C)=>
if((Bm C 0)||(Bm B 0))then
some (([]:LX),12)
else
(tL x c d s).bind λ(E,F)=>
some (E,F)
def Zi:Option Bool:=
if((((geq x 1)||(geq x 2))&&(Ls c 1))&&(xZ c 6))then
some ((((((geq i 8)||(geq i 16))||(geq i 24))&&(Ls I 1))&&(xZ I 1048576))&&(Ls e 1))
else
some (((false&&(Ls I 1))&&(xZ I 1048576))&&(Ls e 1))
def Wg:Option Int:=
some (nZ 1 (Ay (Bc 256 x) 245))
def Oa:Option (LI):=
some C
def Ok:=Oa
def Jq(j6:LI->Option (LI))(Ni:Int->LI->Option (LI))(a f:Int)(b:LI):Option (LI):=
if(Da f 0)then
(Wg a).bind λg=>
(Br b ([(Kt f g)]:LI)).bind λh=>
(Wg a).bind λk=>
Ni (Ak f k) h
else
j6 b
def Ev:Nat->Int->LI->Option (LI)
|0,_,_=>none
|z+1,c,d=>Jq Ok (Ev z) x c d
def GG a:=Ev a Aq
def HC(j4:Int->Int->LI->Option (LI))(a m:Int):Option (LI):=
j4 a m ([]:LI)
def Ns:=HC GG
def FO(h a k f b:Int):Option Bool:=
(
(Hq (Bm a 0)).bind λ_=>
(
if(Da b (Ay 4000 a))then
some true
else
(Ns f b).bind λg=>
some (Da (Ac g) 1000)))
def lU(a f g h k:Int)(b:LB):Option Int:=
if((b==([]:LB)) !=(geq a 1))then
some 26
else
some 0
def ZK:Option Int:=
if(Da x 100000)then
some 8
else
some 0
def YY:=ZK
def bQ:Option Int:=
(Aj Axi Axc).bind λx=>
Axt (Ae Axl x) (Ae Axc 1)
def bU rO:=bQ rO
def bS:Option Int:=
if(Cm Axc (Ac Axi))then
(Aj Axi Axc).bind λx=>
if(Cm x 5)then
some 8
else
(Aj Axi Axc).bind λz=>
if(Da z 100000)then
some 8
else
Axt Axl Axc
else
Axu Axl
def HM:Nat->Int->Int->Option Int
|0,_,_=>none
|x+1,z,c=>bS (bU (HM x) C) YY C z c
def bZ a:=HM a Aq
def aV(j6:LI->Int->Int->Option Int)(a:LI):Option Int:=
if((Cm (Ac a) 1)||(Da (Ac a) 1000))then
some 8
else
j6 a 0 0
def kU:=aV bZ
def KI(g h k a b:Int):Option (LI):=
(Ns a b).bind λf=>
some f
def mH(f a b g h:Int):Option (Int×Int):=
some (a,b)
abbrev Fp:=Option (Int×Int)
def bG:Fp:=
some (x,0)
def cF:=bG
def Vq(j6:Int->Fp)(Ni:Int->Int->Fp)(a:LB)(b f:Int):Fp:=
if(Cm f 4)then
(Aj a f).bind λg=>
if(Ls g 128)then
some (0,12)
else
(Aj a f).bind λh=>
Ni (Ae (Bc 128 b) (Ad h:Int)) (Ae f 1)
else
j6 b
def Js:Nat->Int->Int->Fp
|0,_,_=>none
|x+1,c,d=>Vq cF (Js x) z c d
def GV a:=Js a Aq
def HI(j4:LB->Int->Int->Fp)(a:LB):Fp:=
if(Bm (Ac a) 4)then
some (0,2)
else
j4 a 0 0
def BF:=HI GV
abbrev Gz:=Option (Int×Int)
def KL:Gz:=
if(Da e 4000)then
some (0,4)
else
if(Cm (Ac z) e)then
some (0,24)
else
(Aj z 5).bind λx=>
if(geq x 16)then
(Cr z (Ak e 10) e).bind λc=>
(Cr z 3 10).bind λd=>
(Br ([51,68,73]:LB) d).bind λi=>
if(c !=i)then
some (0,12)
else
some (e,0)
else
some (e,0)
def Ws:=KL
def JN(j6:LB->Int->Gz)(a:LB)(b:Int):Gz:=
(Aj a 5).bind λo=>
if(geq o 16)then
j6 a (Ae (Ae 10 b) 10)
else
j6 a (Ae 10 b)
def Wx:=JN Ws
def KA(j5:LB->Int->Gz)(a:LB):Gz:=
if(Cm (Ac a) 10)then
some (0,24)
else
(Cr a 6 10).bind λp=>
(BF p).bind λ(b,f)=>
(Aj a 3).bind λu=>
if(Cm u 2)then
if true then
if true then
if(true||(Bm f 0))then
some (0,12)
else
j5 a b
else
(Aj a 5).bind λv=>
if(Bm v 0)then
(Aj a 5).bind λw=>
if(Bm w 16)then
if(true||(Bm f 0))then
some (0,12)
else
j5 a b
else
(Aj a 3).bind λy=>
if((Bm y 4)||(Bm f 0))then
some (0,12)
else
j5 a b
else
if(false||(Bm f 0))then
some (0,12)
else
j5 a b
else
(Aj a 4).bind λaa=>
if(Bm aa 0)then
if(true||(Bm f 0))then
some (0,12)
else
j5 a b
else
(Aj a 5).bind λab=>
if(Bm ab 0)then
(Aj a 5).bind λac=>
if(Bm ac 16)then
if(true||(Bm f 0))then
some (0,12)
else
j5 a b
else
(Aj a 3).bind λad=>
if((Bm ad 4)||(Bm f 0))then
some (0,12)
else
j5 a b
else
if(false||(Bm f 0))then
some (0,12)
else
j5 a b
else
(Aj a 3).bind λae=>
if(Da ae 4)then
if true then
if(true||(Bm f 0))then
some (0,12)
else
j5 a b
else
(Aj a 5).bind λaf=>
if(Bm af 0)then
(Aj a 5).bind λag=>
if(Bm ag 16)then
if(true||(Bm f 0))then
some (0,12)
else
j5 a b
else
(Aj a 3).bind λah=>
if((Bm ah 4)||(Bm f 0))then
some (0,12)
else
j5 a b
else
if(false||(Bm f 0))then
some (0,12)
else
j5 a b
else
(Aj a 4).bind λai=>
if(Bm ai 0)then
if(true||(Bm f 0))then
some (0,12)
else
j5 a b
else
(Aj a 5).bind λaj=>
if(Bm aj 0)then
(Aj a 5).bind λak=>
if(Bm ak 16)then
if(true||(Bm f 0))then
some (0,12)
else
j5 a b
else
(Aj a 3).bind λal=>
if((Bm al 4)||(Bm f 0))then
some (0,12)
else
j5 a b
else
if(false||(Bm f 0))then
some (0,12)
else
j5 a b
def LC:=KA Wx
def JQ(j4:LB->Gz)(a:LB):Gz:=
if(Cm (Ac a) 3)then
some (0,6)
else
(Cr a 0 3).bind λam=>
if(am !=([73,68,51]:LB))then
some (0,6)
else
j4 a
def DW:=JQ LC
def DJ:Option (Int×Int×Bool):=
(Cr z 12 16).bind λx=>
(Ax x).bind λc=>
(Cr z 16 20).bind λd=>
(Ax d).bind λe=>
if(((Cm c 32)||(Da c 3032))||(Da e 1000))then
some (0,0,false)
else
some ((Ak (Ad c:Int) 32),(Ad e:Int),true)
def Rz:Option (LB):=
(Ah 2000 4).bind λz=>
(Br ([(65:UInt8),(80:UInt8),(69:UInt8),(84:UInt8),(65:UInt8),(71:UInt8),(69:UInt8),(88:UInt8)]:LB) z).bind λd=>
(Ah (Ad (Ae x 32):UInt64) 4).bind λe=>
(Br d e).bind λi=>
(Ah (Ad c:UInt64) 4).bind λl=>
(Br i l).bind λq=>
(Ah j 4).bind λr=>
(Br q r).bind λs=>
(mkI (8:Int) (0:UInt8)).bind λt=>
(Br s t).bind λA=>
some A
def RW:Option (LB):=
(Rz x c 2684354560).bind λz=>
some z
def SW:Option (LB):=
if s then
(Rz x c 2147483648).bind λz=>
some z
else
(Rz x c 0).bind λd=>
some d
abbrev Ky:=Option (Int×Int)
def HG:Ky:=
if(Cm (Ac z) (Ae 64 e))then
some (0,24)
else
(Cr z (Ak (Ae 64 e) 32) (Ae 64 e)).bind λx=>
(SW e l true).bind λc=>
if(x !=c)then
some (0,12)
else
some ((Ae 64 e),0)
def HQ:=HG
def GY(j4:LB->Int->Int->Ky)(a:LB):Ky:=
if(Cm (Ac a) 32)then
some (0,24)
else
(Cr a 0 32).bind λk=>
(DJ k).bind λ(b,f,m)=>
if(!m)then
some (0,12)
else
(Cr a 0 32).bind λn=>
(RW b f).bind λo=>
if(n !=o)then
some (0,12)
else
j4 a b f
def HF:=GY HQ
def GO(j3:LB->Ky)(a:LB):Ky:=
if(Cm (Ac a) 8)then
some (0,6)
else
(Cr a 0 8).bind λp=>
if(p !=([65,80,69,84,65,71,69,88]:LB))then
some (0,6)
else
j3 a
def BB:=GO HF
abbrev Fs:=Option (LI×Int)
def HE(rO:Int->LI->Fs)(a:LB)(b:Int)(f:LI)(g h:Int):Fs:=
if(geq h 6)then
some (f,0)
else
if(Bm h 0)then
some (([]:LI),h)
else
if(Da (Ae b g) 4000)then
some (([]:LI),4)
else
(Br f ([g]:LI)).bind λm=>
rO (Ae b g) m
def Oj rO:=HE rO
def Vu(j9:Int->LI->Int->Int->Fs)(a:LB)(b:Int)(f:LI):Fs:=
(Cr a b (Ac a)).bind λn=>
(DW n).bind λ(o,k)=>
if(geq k 6)then
(Cr a b (Ac a)).bind λp=>
(BB p).bind λ(u,v)=>
j9 b f u v
else
j9 b f o k
def Nx:Nat->Int->LI->Fs
|0,_,_=>none
|x+1,c,d=>Vu (Oj (Nx x) z) z c d
def cH a:=Nx a Aq
def aX(j6:LB->Int->LI->Fs)(a:LB):Fs:=
j6 a 0 ([]:LI)
def OS:=aX cH
abbrev Fy:=Option (Int×Int)
def GN:Fy:=
some (c,x)
def HP:=GN
def Uy(j6:Int->Int->Fy)(Ni:Int->Int->Fy)(a:Int)(b:LI)(f g:Int):Fy:=
if(Cm g (Ac b))then
(Aj b g).bind λ_=>
(Aj b g).bind λh=>
Ni (Ae f h) (Ae g 1)
else
j6 a f
def Jp:Nat->Int->Int->Fy
|0,_,_=>none
|z+1,c,d=>Uy HP (Jp z) x C c d
def Vc a b:=Jp a b Aq
def HD(j4:Int->LI->Int->Int->Fy)(k:LB):Fy:=
(OS k).bind λ(b,a)=>
j4 a b 0 0
def BO:=HD Vc
def Qu:Option Bool:=
if(Cm (Ac z) (Ac q))then
(Cr q 0 (Ac z)).bind λx=>
some (z==x)
else
some false
abbrev Gv:=Option (Int×Int×Int×Int×Int×Int)
def KG:Gv:=
(Zi (Ad j:Int) (Ad L:Int) (Ad w9:Int) (Ad Axa:Int) (Ad l5:Int)).bind λx=>
if(!x)then
some (0,0,0,0,0,12)
else
(FO (Ad j:Int) (Ad L:Int) (Ad w9:Int) (Ad Axa:Int) (Ad l5:Int)).bind λz=>
if z then
some (0,0,0,0,0,4)
else
some ((Ad j:Int),(Ad L:Int),(Ad w9:Int),(Ad Axa:Int),(Ad l5:Int),0)
def KO:=KG
def KH(j6:UInt64->UInt64->UInt64->UInt64->UInt64->Gv)(a:LB):Gv:=
(Cr a 4 6).bind λu=>
(Cr a 6 8).bind λp=>
(Cr a 8 10).bind λo=>
(Cr a 10 14).bind λn=>
(Cr a 14 18).bind λm=>
(
(Ax u).bind λk=>
(
(Ax p).bind λh=>
(
(Ax o).bind λg=>
(
(Ax n).bind λf=>
(
(Ax m).bind λb=>
(
j6 k h g f b))))))
def KT:=KH KO
def JZ(j5:LB->Gv)(a:LB):Gv:=
if(Cm (Ac a) 22)then
some (0,0,0,0,0,24)
else
(Cr a 18 22).bind λy=>
(Cr a 0 18).bind λaa=>
(Ax y).bind λab=>
(Ga aa).bind λac=>
if(Bm ab (Ad ac:UInt64))then
some (0,0,0,0,0,22)
else
j5 a
def KQ:=JZ KT
def JU(j4:LB->Gv)(a:LB):Gv:=
(Cr a 0 (Kt 4 (Ac a))).bind λad=>
(Cr ([84,84,65,49]:LB) 0 (Kt 4 (Ac a))).bind λae=>
if(ad !=ae)then
some (0,0,0,0,0,12)
else
j4 a
def EX:=JU KQ
abbrev Td:=Option (Int×Int×Int×Int×Int×Int×Int)
def CB:Td:=
(EX z).bind λ(c,d,e,i,j,l)=>
if(geq l 24)then
some (0,0,0,0,0,0,(-1:Int))
else
some ((Ae x 22),c,d,e,i,j,l)
def BR:=CB
def BT(j2:Int->LB->Td)(f:LB):Td:=
(BO f).bind λ(b,g)=>
if(geq g 24)then
some (0,0,0,0,0,0,(-1:Int))
else
if(Bm g 0)then
some (0,0,0,0,0,0,g)
else
(Cr f b (Ac f)).bind λa=>
(Qu a ([73,68,51]:LB)).bind λu=>
if u then
some (0,0,0,0,0,0,(-1:Int))
else
(Qu a ([65,80,69,84,65,71,69,88]:LB)).bind λv=>
if v then
some (0,0,0,0,0,0,(-1:Int))
else
j2 b a
def Xl:=BT BR
abbrev Ds:=Option (LI×Int)
def eV:Ds:=
(kU C).bind λx=>
if(Bm x 0)then
some (([]:LI),12)
else
some (C,0)
def eI:=eV
def dU(j8:LI->Ds)(rO:Int->LI->Ds)(b:LB)(a g:Int)(f:LI):Ds:=
if(Cm g a)then
(Cr b (Bc 4 g) (Ae (Bc 4 g) 4)).bind λk=>
(Ax k).bind λm=>
(Br f ([(Ad m:Int)]:LI)).bind λn=>
rO (Ae g 1) n
else
j8 f
def JS:Nat->Int->LI->Ds
|0,_,_=>none
|x+1,c,d=>dU eI (JS x) z e c d
def fT b a:=JS b a Aq
def cO(j6:LB->Int->Int->LI->Ds)(b:LB)(a:Int):Ds:=
j6 b a 0 ([]:LI)
def dV:=cO fT
def cS(j5:LB->Int->Ds)(b:LB)(a:Int):Ds:=
if((Cm a 1)||(Da a 1000))then
some (([]:LI),2)
else
if(Cm (Ac b) (Ae (Bc 4 a) 4))then
some (([]:LI),24)
else
(Cr b (Bc 4 a) (Ae (Bc 4 a) 4)).bind λo=>
(Cr b 0 (Bc 4 a)).bind λp=>
(Ax o).bind λu=>
(Ga p).bind λv=>
if(Bm u (Ad v:UInt64))then
some (([]:LI),22)
else
j5 b a
def oX:=cS dV
abbrev Ju:=Option (Int×LI×Int)
def ZL:Ju:=
if(geq c 24)then
some (0,([]:LI),(-1:Int))
else
some ((Ae (Ae x (Bc 4 (Ac C))) 4),C,c)
def YW:=ZL
def ZX(j4:Int->Int->LI->Ju)(a:LB)(b k m n o f:Int):Ju:=
(Cr a f (Ac a)).bind λp=>
(KI b k m n o).bind λu=>
(oX p (Ac u)).bind λ(h,g)=>
j4 f g h
def ZB:=ZX YW
def ZM(j3:LB->Int->Int->Int->Int->Int->Int->Ju)(a:LB)(b k m n o:Int)(v:LB):Ju:=
if(geq b 2)then
if(Cm (Ac a) 8)then
some (0,([]:LI),(-1:Int))
else
(Cr a 0 8).bind λw=>
(Kz v).bind λy=>
if(w !=y)then
some (0,([]:LI),26)
else
j3 a b k m n o 8
else
j3 a b k m n o 0
def iZ:=ZM ZB
def MU:Option Int:=
if(Cm (Ac z) 5)then
some 24
else
if(Da (Ac z) 41254)then
some 4
else
(Cr z 0 (Ak (Ac z) 4)).bind λx=>
(Me x).bind λc=>
if(c !=z)then
some 22
else
some 0
abbrev Ew:=Option (Int×Int×UInt64×UInt64)
def YT:Ew:=
some (x,c,j,L)
def XX:=YT
def YZ(j6:Int->Int->UInt64->UInt64->Ew)(Ni:Int->Int->Int->UInt64->UInt64->Ew)(a:Int)(b:LU)(m f g:Int)(h k:UInt64):Ew:=
if(Cm m (Ac b))then
(Aj b m).bind λn=>
(Lu f g h k n).bind λ(o,p,u,v)=>
Ni (Ae m a) o p u v
else
j6 f g h k
def FF:Nat->Int->Int->Int->UInt64->UInt64->Ew
|0,_,_,_,_,_=>none
|z+1,c,d,e,i,j=>YZ XX (FF z) x F c d e i j
def ZW a b:=FF a b Aq
def YG(j4:Int->LU->Int->Int->Int->UInt64->UInt64->Ew)(a:Int)(b:LU):Ew:=
(Nl).bind λ(w,y,aa,ab)=>
(Hq (Bm a 0)).bind λ_=>
j4 a b (Fm (Ac b) a) w y aa ab
def iM:=YG ZW
def mM:Option Int:=
some (Fm x 2)
def mV:=mM
def lZ:Option Int:=
if(Cm Axz (Fm Ayd 8))then
Ayc (Ay Axy 2) (Ae Axz 1)
else
Axu Axy
def RG:Nat->Int->Int->Option Int
|0,_,_=>none
|z+1,c,d=>lZ mV (RG z) x c d
def mN a:=RG a Aq
def mO(j4:Int->Int->Int->Option Int)(g:LB)(k a:Int):Option Int:=
(Aj g (Ay a 8)).bind λh=>
j4 a (Ad h:Int) 0
def Uq:=mO mN
abbrev El:=Option (LB×Int)
def XL:El:=
some (z,x)
def WY:=XL
def WG(j6:Int->LB->El)(Ni:Int->Int->LB->El)(f:Int)(g:LB)(h k a:Int)(b:LB):El:=
if(Cm k f)then
(Uq g h k).bind λm=>
(Ck b a m).bind λ(n,o)=>
Ni (Ae k 1) o n
else
j6 a b
def CE:Nat->Int->Int->LB->El
|0,_,_,_=>none
|c+1,d,i,j=>WG WY (CE c) x z e d i j
def WT f g h:=CE f g h Aq
def XP(j4:Int->LB->Int->Int->Int->LB->El)(g:LB)(h p f:Int):El:=
j4 f g h p 0 ([]:LB)
def eP:=XP WT
def bY:Option UInt64:=
some j
def bB:=bY
def bN:Option UInt64:=
if(Ls l7 0)then
(Uq Axe Aya (Ae Axp l7)).bind λx=>
y7 (Ae (Bc 2 l5) (Ad x:UInt64)) (Ak l7 1)
else
y5 l5
def GH:Nat->UInt64->Int->Option UInt64
|0,_,_=>none
|c+1,d,i=>bN bB (GH c) x z e d i
def bO b f g:=GH b f g Aq
def bV(j4:Int->LB->Int->UInt64->Int->Option UInt64)(f:LB)(g b m:Int):Option UInt64:=
j4 b f g 0 (Ak m 1)
def QM:=bV bO
abbrev Ht:=Option (Int×Int)
def jE(b a:Int)(g:LB)(f:Int):Ht:=
if(geq a 48)then
some (a,(Ae b a))
else
if(Ls (Ae b a) f)then
some ((-1:Int),0)
else
some (a,(Ae (Ae b a) 1))
def jN:=jE
def jH(j6:Int->Int->LB->Int->Ht)(Ni:Int->Ht)(b:Int)(g:LB)(f a:Int):Ht:=
if((Cm (Ae b a) f)&&(Cm a 48))then
(Uq g f (Ae b a)).bind λh=>
if(geq h 1)then
Ni (Ae a 1)
else
j6 b a g f
else
j6 b a g f
def MK:Nat->Int->Ht
|0,_=>none
|c+1,d=>jH jN (MK c) x z e d
def iJ b g f:=MK b g f Aq
def jJ(j4:Int->LB->Int->Int->Ht)(g:LB)(f b:Int):Ht:=
j4 b g f 0
def pZ:=jJ iJ
abbrev AZ:=Option (UInt32×Int×Int)
def iS:AZ:=
if((Cm c 0)||(Cm (Ak e i) l))then
some (0,0,24)
else
(QM z e i l).bind λd=>
if(Cm c 48)then
(Dp x).bind λj=>
some ((Ad (Ae (Bc (Ad c:UInt64) j) d):UInt32),(Ae i l),0)
else
(Ph (Ad d:UInt32) x).bind λq=>
if(Cm q c)then
some (0,0,12)
else
some ((Ad d:UInt32),(Ae i l),0)
def jI:=iS
def iH(j2:Int->Int->Int->LB->Int->Int->AZ)(h:LB)(f n g:Int):AZ:=
if(Ls n f)then
some (0,0,24)
else
(pZ h f n).bind λ(a,b)=>
if(geq a 48)then
j2 g a b h f 32
else
j2 g a b h f g
def qQ:=iH jI
def qL(g:LB)(b a f n:Int)(v w:UInt64):Option (UInt32×Int×Int):=
if(Ls a b)then
some (0,0,24)
else
(Uq g b a).bind λo=>
if(geq o 0)then
if(Cm (Ak (Ak b a) 1) f)then
some (0,0,24)
else
(QM g b (Ae a 1) f).bind λp=>
some ((Ad p:UInt32),(Ae (Ae a 1) f),0)
else
(qQ g b (Ae a 1) n).bind λ(h,u,k)=>
if(Bm k 0)then
some (0,0,k)
else
(Dp f).bind λm=>
if(Da (Ae (Ad h:UInt64) m) 4294967295)then
some (0,0,12)
else
some ((Ad (Ae (Ad h:UInt64) m):UInt32),u,0)
abbrev Bp:=Option (LU×Int)
def cB:Bp:=
some (F,0)
def bF:=cB
def bH(j18:LU->Bp)(Er:Int->Bp)(a:LB)(b:LU)(m:Int):Bp:=
if(Cm m (Bc 8 (Ac a)))then
(Uq a (Bc 8 (Ac a)) m).bind λn=>
if(Bm n 0)then
some (b,12)
else
Er (Ae m 1)
else
j18 b
def GX:Nat->Int->Bp
|0,_=>none
|x+1,c=>bH bF (GX x) z F c
def bP a b:=GX a b Aq
def aZ(j16:LB->LU->Int->Bp)(f:Int)(a:LB)(b:LU):Bp:=
if(Da (Ak (Bc 8 (Ac a)) f) 7)then
some (b,12)
else
j16 a b f
def cD:=aZ bP
def bW(W6:Int->Int->LU->Bp)(g h:Int)(a:LB)(f k:Int)(b:LU)(p u:Int)(v w:UInt64):Bp:=
(eP a (Bc 8 (Ac a)) f (Kt (Ae f 81) (Bc 8 (Ac a)))).bind λ(y,aa)=>
(qL y aa 0 p u v w).bind λ(ab,ac,o)=>
if(Bm o 0)then
some (b,o)
else
(Br b ([ab]:LU)).bind λad=>
W6 (Ae f ac) (Ae k 1) ad
def aY W6:=bW W6
def cA(j13:Int->Int->LU->Int->Int->UInt64->UInt64->Bp)(j15:Int->LB->LU->Bp)(g h:Int)(a:LB)(f k:Int)(b:LU):Bp:=
if(Cm k (Bc h g))then
(Nl).bind λ(n,ae,af,ag)=>
if(Ls k g)then
(iM g b).bind λ(ah,ai,aj,ak)=>
j13 f k b ah ai aj ak
else
j13 f k b n ae af ag
else
j15 f a b
def HB:Nat->Int->Int->LU->Bp
|0,_,_,_=>none
|d+1,e,i,j=>cA (aY (HB d) x c z) cD x c z e i j
def bA g h a:=HB g h a Aq
def fL(j10:Int->Int->LB->Int->Int->LU->Bp)(g h:Int)(a:LB):Bp:=
j10 g h a 0 0 ([]:LU)
def nI:=fL bA
def nT:Option Int32:=
if(geq (Oq E 2) 0)then
some (Ad (Ay E 2):Int32)
else
some (Ad (Ay (M1 (Ae (Ad E:Int) 1)) 2):Int32)
def dC:Option (Int32×Int×LX×LX):=
(Pp x d B).bind λz=>
(Bn (Ae (Ad t:Int) (Ad z:Int))).bind λc=>
(Pk x d B t).bind λ(e,i,j)=>
(Qk e i j c).bind λ(l,q,r)=>
some (c,l,q,r)
def cT:Option (Int32×Int×Int32×Int×LX×LX):=
(dC J P V p8).bind λ(z,c,d,e)=>
(Mj x t J P V).bind λi=>
(Bn (Ae (Ad z:Int) i)).bind λj=>
some (j,x,j,c,d,e)
def XC:Option (LX):=
some d
def WR:=XC
def VW:Option (LX):=
if(Ls N 0)then
(Aj l6 (Ae N 1)).bind λ_=>
(Aj l8 N).bind λx=>
(Aj l6 (Ae N 1)).bind λz=>
(Bn (Ak (Ad z:Int) (Ad x:Int))).bind λc=>
(Aj l6 N).bind λ_=>
(Ku l6 N c).bind λd=>
r9 (Ak N 1) d
else
Axb l6
def CD:Nat->Int->LX->Option (LX)
|0,_,_=>none
|x+1,z,c=>VW WR (CD x) d z c
def UM a:=CD a Aq
def XM(j6:LX->Int->LX->Option (LX))(a p:LX):Option (LX):=
j6 a (Ak (Ac a) 2) p
def UY:=XM UM
def UP(j5:LX->LX->Option (LX))(a:LX):Option (LX):=
(mkI (Ac a) (0:Int32)).bind λh=>
(Hq (geq (Ac a) (Ac a))).bind λ_=>
(Aj a (Ak (Ac a) 1)).bind λu=>
(Aj h (Ak (Ac a) 1)).bind λ_=>
(Ku h (Ak (Ac a) 1) u).bind λg=>
if(Da (Ac a) 1)then
(Aj a (Ak (Ac a) 1)).bind λv=>
(Aj a (Ak (Ac a) 2)).bind λw=>
(Bn (Ae (Ad v:Int) (Ay (Ad w:Int) 2))).bind λy=>
(Aj g (Ak (Ac a) 1)).bind λ_=>
(Ku g (Ak (Ac a) 1) y).bind λaa=>
j5 a aa
else
j5 a g
def fJ:=UP UY
abbrev Gm:=Option (LX×Int)
def fG:Gm:=
some (d,0)
def fX:=fG
def fZ(j6:LX->Gm)(Ni:Int->LX->Gm)(a:Int)(b:LX)(g:Int)(f:LX):Gm:=
if(Cm g (Ac b))then
(Cr b g (Ae g a)).bind λh=>
(fJ h).bind λk=>
(Br f k).bind λm=>
Ni (Ae g a) m
else
j6 f
def KJ:Nat->Int->LX->Gm
|0,_,_=>none
|z+1,c,e=>fZ fX (KJ z) x d c e
def eT a b:=KJ a b Aq
def cZ(j4:Int->LX->Int->LX->Gm)(a:Int)(b:LX):Gm:=
(Hv a b).bind λn=>
if(Bm n 0)then
(Hv a b).bind λo=>
some (([]:LX),o)
else
j4 a b 0 ([]:LX)
def nU:=cZ eT
def VS(b f:Int)(w:LX):Option (LX):=
(nU b w).bind λ(aj,ai)=>
some aj
def UW:=VS
def VV(C7:Int->LX->Option (LX))(a:LU)(b f:Int)(g:LX)(h:Int)(m:LX):Option (LX):=
C7 (Ae h 1) m
def UR C7:=VV C7
def VD(Abn:Int->LX->Int->Int32->Int->LX->LX->Option (LX))(a:LU)(h b f:Int)(g:LX)(k:Int)(ah:LX)(y:Int)(aa:Int32)(ab:Int)(ac ad:LX):Option (LX):=
Abn (Ae k b) ah y aa ab ac ad
def UI Abn:=VD Abn
def VP(j30:Int->LX->Int->Int32->Int->LX->LX->Option (LX))(a:LU)(h b f:Int)(g:LX)(k:Int)(ae:Int32)(m:LX)(n:Int)(o:Int32)(p:Int)(u v:LX)(y:Int)(aa:Int32)(ab:Int)(ac ad:LX):Option (LX):=
(Aj m k).bind λ_=>
(Ku m k ae).bind λah=>
j30 k ah y aa ab ac ad
def WC Abn a h b f g:=VP (UI Abn a h b f g) a h b f g
def VO(j29:Int->Int32->LX->Int->Int32->Int->LX->LX->Int->Int32->Int->LX->LX->Option (LX))(j32:Int->LX->Option (LX))(a:LU)(b f:Int)(g:LX)(h k:Int)(m:LX)(n:Int)(o:Int32)(p:Int)(u v:LX):Option (LX):=
if(Cm k (Ac a))then
(Aj a k).bind λag=>
(
(nT ag).bind λaf=>
(
(cT n o p u v af).bind λ(ae,y,aa,ab,ac,ad)=>
j29 k ae m n o p u v y aa ab ac ad))
else
j32 h m
def CT:Nat->Int->LX->Int->Int32->Int->LX->LX->Option (LX)
|0,_,_,_,_,_,_,_=>none
|x+1,z,c,d,e,i,j,l=>VO (WC (CT x) F Axw l9 o7 y9) (UR r9 F l9 o7 y9) F l9 o7 y9 Axw z c d e i j l
def VU C7 a b f g h:=CT C7 a b f g h Aq
def UX(j26:Int->Int->LX->Int->Int32->Int->LX->LX->Option (LX))(j34:Int->Int->LX->Option (LX))(a:LU)(b f:Int)(g:LX)(h:Int)(w:LX):Option (LX):=
if(Cm h b)then
(Xv f g).bind λ(ak,ai,al,am,an,aq)=>
j26 h h w ak ai al am an
else
j34 b f w
def CQ:Nat->Int->LX->Option (LX)
|0,_,_=>none
|x+1,z,c=>UX (VU (CQ x) F l9 o7 y9) UW F l9 o7 y9 z c
def XN a b f g:=CQ a b f g Aq
def YD(j18:LU->Int->Int->LX->Int->LX->Option (LX))(b f:Int)(g:LX)(a:LU):Option (LX):=
(mkI (Ac a) (0:Int32)).bind λao=>
(Hq (geq (Ac a) (Ac a))).bind λ_=>
j18 a b f g 0 ao
def iQ:=YD XN
def jG(g f:Int)(a:LX):Option (LX×Int):=
(Al f a).bind λb=>
if(Bm b 0)then
some (([]:LX),b)
else
some (a,0)
abbrev Vd:=Option (LX×Int)
def ZN:Vd:=
if(Bm x 0)then
some (([]:LX),x)
else
(
(
(iQ c i d F).bind λz=>
(jG c i z).bind λ(e,j)=>
some (e,j)))
def YF:=ZN
def aB(j2:Int->Int->Int->LX->LU->Vd)(a b:Int)(g:LX)(p:Int)(k:LB):Vd:=
(Nv a b p).bind λy=>
if(Bm y 0)then
some (([]:LX),2)
else
(MU k).bind λaa=>
if(Bm aa 0)then
(MU k).bind λab=>
some (([]:LX),ab)
else
(Cr k 0 (Ak (Ac k) 4)).bind λac=>
(nI a p ac).bind λ(h,f)=>
j2 f a b g h
def Zc:=aB YF
abbrev Vn:=Option (LB×Int)
def XW(o:LX)(f:Int)(p g:LB)(h k a m n:Int)(u:LI)(b:Int)(v:LB)(w:Bool)(y:Int):Vn:=
if(Bm f 0)then
some (([]:LB),f)
else
(Jx a o).bind λ(ac,ai)=>
some (ac,0)
def ZY:=XW
def ZP(j2:LX->Int->LB->LB->Int->Int->Int->Int->Int->LI->Int->LB->Bool->Int->Vn)(p g:LB)(h k a m n:Int)(u:LI)(b:Int)(v:LB)(w:Bool)(y:Int):Vn:=
(Aj u b).bind λaa=>
if(Cm (Ac g) aa)then
some (([]:LB),(-1:Int))
else
(Iw p).bind λ(ad,aj)=>
(Cr g 0 aa).bind λae=>
(mH h k a m n).bind λ(af,ag)=>
(KI h k a m n).bind λab=>
(Aj ab b).bind λ_=>
(Aj ab b).bind λah=>
(Zc af ag ad ah ae).bind λ(o,f)=>
j2 o f p g h k a m n u b v w y
def iI:=ZP ZY
abbrev Lw:=Option (LB×LB×Int×Int×Int×Int×Int×LI×Int×LB×Bool×Int×Int)
def eD:Lw:=
if(geq (Ac C) 0)then
(iZ q e l G X Y z).bind λ(x,c,d)=>
if(Bm d 0)then
some (z,q,e,l,G,X,Y,C,Z,D,R,T,d)
else
(Cr q x (Ac q)).bind λi=>
some (z,i,e,l,G,X,Y,c,Z,D,R,T,0)
else
if(geq Z (Ac C))then
if(Da (Ac q) 4000)then
some (z,q,e,l,G,X,Y,C,Z,D,R,T,38)
else
some (z,q,e,l,G,X,Y,C,Z,D,R,T,(-1:Int))
else
(iI z q e l G X Y C Z D R T).bind λ(j,r)=>
if(Bm r 0)then
some (z,q,e,l,G,X,Y,C,Z,D,R,T,r)
else
(Br ([]:LB) D).bind λs=>
(Br s j).bind λt=>
(
(
(
(Aj C Z).bind λA=>
(
(Cr q A (Ac q)).bind λB=>
some (z,B,e,l,G,X,Y,C,(Ae Z 1),t,R,T,0)))))
def eQ:=eD
def dI:Lw:=
(lU e l G X Y z).bind λx=>
some (z,q,e,l,G,X,Y,C,Z,D,R,T,x)
def dW:=dI
def KF(j3:LB->LB->Int->Int->Int->Int->Int->LI->Int->LB->Bool->Int->Lw)(j4:LB->LB->Int->Int->Int->Int->Int->LI->Int->LB->Bool->Int->Lw)(g a:LB)(m n o p u:Int)(b:LI)(f:Int)(v:LB)(h:Bool)(k:Int):Lw:=
if(geq m 0)then
(Xl a).bind λ(ac,ae,w,af,ag,y,ai)=>
if(Bm ai 0)then
some (g,a,m,n,o,p,u,b,f,v,h,k,ai)
else
(
(Cr a ac (Ac a)).bind λad=>
(
j3 g ad ae w af ag y b f v h k))
else
j4 g a m n o p u b f v h k
def FL:=KF dW eQ
abbrev Yv:=Option (LB×LB×Int×Int×Int×Int×Int×LI×Int×LB×Bool×Int)
def dF:Yv:=
(Br ([]:LI) C).bind λx=>
some (z,o9,e,l,G,X,Y,x,Z,Ax0,R,T)
def dK:=dF
def cJ(j2:LB->Int->Int->Int->Int->Int->LI->Int->Bool->Int->LB->LB->Yv)(f w:LB)(g h k m n:Int)(o:LI)(p:Int)(y:LB)(u:Bool)(v:Int):Yv:=
(
(
(
(Br ([]:LB) w).bind λa=>
(
(Br ([]:LB) y).bind λb=>
j2 f g h k m n o p u v a b))))
def nK:=cJ dK
def V0(b g:LB)(h k m n o:Int)(p:LI)(u:Int)(f:LB)(v:Bool)(w a:Int):Option (LB×LB×Int×Int×Int×Int×Int×LI×Int×LB×Bool×Int×Int):=
some (b,([]:LB),0,0,0,0,0,([]:LI),0,f,false,a,a)
abbrev Xq:=Option (LB×LB×Int×Int×Int×Int×Int×LI×Int×LB×Bool×Int×Int)
def pQ(Aj5:LB->Int->Int->Int->Int->Int->Int->LI->LB->Xq)(a:LB)(b:Bool)(f:Int)(av:LB)(aw ax ay az ba bb:Int)(dy:Bool)(dk:Int)(bc:LI)(bd:LB):Xq:=
if dy then
(O7 a av aw ax ay az ba bc bb bd b f).bind λ(dz,fa,fb,ap,be,ae,fc,fd,fe,ff,fg,af)=>
some (dz,fa,fb,ap,be,ae,fc,fd,fe,ff,fg,af,0)
else
if(Bm dk 0)then
(V0 a av aw ax ay az ba bc bb bd b f dk).bind λ(fh,fi,fj,fk,fl,fm,fn,fo,fp,fq,fs,ft,fu)=>
some (fh,fi,fj,fk,fl,fm,fn,fo,fp,fq,fs,ft,fu)
else
Aj5 av aw ax ay az ba bb bc bd
def WA Aj5:=pQ Aj5
def qX(j71:LB->Int->Int->Int->Int->Int->Int->Bool->Int->LI->LB->Xq)(a:LB)(b:Bool)(f m o n p u h:Int)(v:LB)(bf:Bool)(bg:Int)(bh:LB)(bi:LI):Xq:=
j71 bh m o n p u h bf bg bi v
def qZ Aj5 a b f:=qX (WA Aj5 a b f) a b f
def pA(a m:LB)(n o p u v:Int)(w:LI)(y:Int)(b:LB)(aa:Bool)(ab:Int):Option (LB×LB×Int×Int×Int×Int×Int×LI×Int×LB×Bool×Int):=
(
(
(Br ([]:LB) b).bind λf=>
some (a,([]:LB),0,0,0,0,0,([]:LI),0,f,false,0)))
def jM:Option (LB×LB×Int×Int×Int×Int×Int×LI×Int×LB×Bool×Int×Int):=
(pA z q e l G X Y C Z D R T).bind λ(x,c,d,i,j,r,s,t,A,B,E,F)=>
some (x,c,d,i,j,r,s,t,A,B,E,Aw9,Aw9)
abbrev Ze:=Option (LB×LB×Int×Int×Int×Int×Int×LI×Int×LB×Bool×Int×Int)
def eN(bk3:LB->LB->Int->Int->Int->Int->Int->LI->Int->LB->Bool->Int->Ze)(a b:LB)(f g h k m:Int)(n:LI)(o:Int)(p:LB)(u:Bool)(v:Int):Ze:=
(FL a b f g h k m n o p u v).bind λ(bb,bc,bd,be,bf,bg,bh,bi,bj,bk,bl,bm,w)=>
if(geq w (-1:Int))then
(nK a b f g h k m n o p u v).bind λ(bn,bp,bq,br,bs,bt,bu,bv,bw,bx,bz,da)=>
some (bn,bp,bq,br,bs,bt,bu,bv,bw,bx,bz,da,0)
else
if(Bm w 0)then
(jM a b f g h k m n o p u v w).bind λ(db,dc,dd,de,df,dg,dh,di,dj,dk,dl,dm,dn)=>
some (db,dc,dd,de,df,dg,dh,di,dj,dk,dl,dm,dn)
else
bk3 bb bc bd be bf bg bh bi bj bk bl bm
def KU:Nat->LB->LB->Int->Int->Int->Int->Int->LI->Int->LB->Bool->Int->Ze
|0,_,_,_,_,_,_,_,_,_,_,_,_=>none
|q+1,a,b,f,g,h,k,m,n,o,p,u,v=>eN (KU q) a b f g h k m n o p u v
def cG:Option Int:=
some x
def bK:=cG
def bC(j6:Int->Option Int)(Ni:Int->Int->Option Int)(b h k m n o f:Int)(g:LI)(a p:Int):Option Int:=
if(Cm p b)then
(Aj g p).bind λu=>
Ni (Ae a u) (Ae p 1)
else
j6 a
def HL:Nat->Int->Int->Option Int
|0,_,_=>none
|z+1,d,j=>bC bK (HL z) x c i I e l G C d j
def aW b h k m n o f g:=HL b h k m n o f g Aq
def bJ(j4:Int->Int->Int->Int->Int->Int->Int->LI->Int->Int->Option Int)(h k m n o f:Int)(g:LI)(b:Int):Option Int:=
j4 b h k m n o f g f 0
def kT:=bJ aW
abbrev BJ:=Option (LB×Int)
def jC(u:LX)(n o g f h k p:Int)(b:LI):BJ:=
if(Bm n 0)then
some (([]:LB),n)
else
(Jx f u).bind λ(af,ai)=>
some (af,0)
def iT:=jC
def iP(j2:LX->Int->Int->Int->Int->Int->Int->Int->LI->BJ)(v y:LB)(o g f h k p:Int)(b:LI)(a:Int):BJ:=
(kT o g f h k p b a).bind λm=>
(Aj b a).bind λaa=>
if(Cm (Ak (Ac v) m) aa)then
some (([]:LB),24)
else
(Iw y).bind λ(ab,ag)=>
(Aj b a).bind λac=>
(Cr v m (Ae m ac)).bind λad=>
(
(Ns h k).bind λw=>
(Aj w a).bind λ_=>
(Aj w a).bind λae=>
(Zc g f ab ae ad).bind λ(u,n)=>
j2 u n o g f h k p b)
def qM:=iP iT
end Go.Pl
