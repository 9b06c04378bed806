/- A part of a proof (see the text that ends in Proof). No conditions. -/
import Derived.Test.YtaicmmejgiaafaaGreatDoorOwBA
set_option linter.unusedVariables false
namespace Go.Pl
open Go Go.Lv
abbrev LB:=List UInt8
abbrev LI:=List Int
abbrev LX:=List Int32
abbrev LU:=List UInt32
abbrev LQ:=List UInt64
variable(c:LB)(E:LI)(z d j I O Bqy Brg Br9 Bsa Bsb:Int)(i:LX)(l9:LI)(e p8:LB)(B F J T U:Int)(P:LI)(R:Int)(L:LB)(C:Bool)(D Bq5:Int)(M:LX)(l5:List LB)(X:LB)(Brl:Bool)(o8 Brh:Int)(Bsg:LI)(Bq6:LB)(Bsh:List LB)(Br1 Bsi Bsj:Int)(Brm:LB)(Bsk:Bool)(Bsl:Int)(Br2:LB)(Brc:LX)(Br3:LB)(Bsm:Bool)(Bsn:Int)(Bso:LB)(Bry:List LB)(Bsp:LB)(A:UInt64)(V:UInt32)(Y:UInt64)(o7:LB)(Brn:LB->Option (LB))(Bro:Int->LB->Option (LB))(l7 Brp:Int)(Bre:UInt64)(Bri:Int)(Bsc:LB)(Bq7:UInt64->Option UInt64)(Bq8:UInt64->Int->Option UInt64)(Br4:Int)(Brj:LB)(Bsq:Int)(o9:UInt64)(y7:Int)(Bq9:Option Int)(Bra:Int->Option Int)(G Brq:Int32)(Bq2:LX)(N:Int)(p9 q9:LX)(Brk:Int32)(Brr:UInt64)(Brs:List LB)(Bqz:Int)(Brt:LB)(Brb:Int->Int->Option Int)(Brf:LI)(Brd y8:Int)(l6:List (LB×LB×Unit))(Bru Br5:Int)(Bsr:Int->Option Int)(Br6:LI)(Bsd Brz:Int)(Brv:UInt8)(Bse:UInt64)(Bq0:Int)(Z:LU)(Bq3 Bq4:Int)(Br0:LX)(y9:LQ)(Bss:Int->LI->Option (LI))(Bsf:LI)(Br7:UInt64)(r9:Bool->Option Int)(y5:Bool)(Brw:Int)(Brx:LB)(Br8:List LI)
def QB:Option (Int×Int×Int×LX):=
some (1,8,8000,([(0:Int32)]:LX))
def PD(a b f:Int)(g:LX):Option (Int×Int):=
some (a,b)
abbrev gZ:=Option (Int32×Int32×Int)
def rQ:gZ:=
if C then
(Jg (Mk (Aq z 1) 0)).bind λ_=>
some ((G4 (Du (1:Int32) (GI.toZ (Aq z 1)).toNat)),(Aq (Du (1:Int32) (GI.toZ (Aq z 1)).toNat) 1),0)
else
some (0,0,2)
def uM:=rQ
def tB(j2:Int->Bool->gZ)(a:Int):gZ:=
if(geq a 8)then
j2 a (geq a 8)
else
if(geq a 16)then
j2 a (geq a 16)
else
j2 a (geq a 24)
def Te:=tB uM
def Gf:Option Int:=
(Te d).bind λ(c,e,i)=>
if(((Bg i 0)||(Cj z 1))||(Dx z 6))then
some 2
else
some 0
def Ph:Option (Int×Int):=
if((Cj z 1)||(Dx z 1048576))then
some (0,2)
else
some ((H5 1 (Bq (Bi 256 z) 245)),0)
def Ki:Option (Int×Int):=
(Ph z).bind λ(c,e)=>
if(Bg e 0)then
some (0,e)
else
if((Cj d 1)||(Dx d 4000))then
some (0,2)
else
(Jg (Bg c 0)).bind λ_=>
if(Dx (Bq (Aq (Ae d c) 1) c) 1000)then
some (0,4)
else
some ((Bq (Aq (Ae d c) 1) c),0)
def OW:Option Int:=
(PD z d j i).bind λ(c,e)=>
(Gf c e).bind λA=>
if((Bg A 0)||(Cj B 1))then
some 8
else
(Jg (Bg z 0)).bind λ_=>
if(Dx B (Bq 4000 z))then
some 8
else
(Ki j B).bind λ(C,D)=>
if(Bg D 0)then
some 8
else
some 0
def Adm:Option Int:=
some 0
def tL:=Adm
def JC:Option Int:=
if(Cj N (Ac Bq2))then
(Am Bq2 N).bind λz=>
if((Cj z G)||(Dx z Brq))then
some 16
else
Bra (Ae N 1)
else
Bq9
def Uu:Nat->Int->Option Int
|0,_=>none
|z+1,c=>JC tL (Uu z) G Brq Bq2 c
def yw b f a:=Uu b f a Au
def bG(j4:Int32->Int32->LX->Int->Option Int)(m:Int)(a:LX):Option Int:=
(Te m).bind λ(b,f,k)=>
if(Bg k 0)then
some k
else
if(Dx (Ac a) 4000)then
some 4
else
j4 b f a 0
def Sm:=bG yw
def Cl:Option Int:=
if(Cj z 1)then
some 8
else
(Jg (Bg z 0)).bind λ_=>
if(Bg (Ha (Ac i) z) 0)then
some 8
else
(Jg (Bg z 0)).bind λ_=>
(OW z d j i (Bq (Ac i) z)).bind λc=>
if(Bg c 0)then
some c
else
(Sm d i).bind λe=>
if(Bg e 0)then
some 8
else
some 0
abbrev Ej:=Option (LB×Int)
def oo:Ej:=
some (c,0)
def pQ:=oo
def pL(Jd:Int->LB->Ej)(b:Int)(a:LX)(f:Int)(h:LB):Ej:=
Jd (Ae f 1) h
def VF Jd:=pL Jd
def FC(j28:Int->LB->Ej)(Aqp:Int->LB->Ej)(b:Int)(a:LX)(k:Int32)(f m:Int)(h:LB):Ej:=
if(Cj m (Bq b 8))then
(Jg (Mk (Bi 8 m) 0)).bind λ_=>
(Dt h ([(Ad (Cw k (GI.toZ (Bi 8 m)).toNat):UInt8)]:LB)).bind λp=>
Aqp (Ae m 1) p
else
j28 f h
def Lr(Jd:Int->LB->Ej)(b:Int)(a:LX)(k:Int32)(f:Int):Nat->Int->LB->Ej
|0,_,_=>none
|q+1,m,h=>FC (VF Jd b a) (Lr Jd b a k f q) b a k f m h
def VU Jd b a k f:=Lr Jd b a k f Au
def UP(j26:Int32->Int->Int->LB->Ej)(b:Int)(a:LX)(f:Int)(g:LB)(k:Int32):Ej:=
j26 k f 0 g
def Se Jd b a:=UP (VU Jd b a) b a
def FL(j25:Int->LB->Int32->Ej)(j30:LB->Ej)(b:Int)(a:LX)(f:Int)(g:LB):Ej:=
if(Cj f (Ac a))then
(Am a f).bind λn=>
if(geq b 8)then
j25 f g (Ae n 128)
else
j25 f g n
else
j30 g
def Hu:Nat->Int->LB->Ej
|0,_,_=>none
|c+1,d,e=>FL (Se (Hu c) z i) pQ z i d e
def qc b a:=Hu b a Au
def bH(j16:Int->LX->Int->LB->Ej)(b:Int)(a:LX):Ej:=
(Sm b a).bind λo=>
if(Bg o 0)then
some (([]:LB),o)
else
j16 b a 0 ([]:LB)
def Jy:=bH qc
def EO:Option (Int×Bool):=
(Ph j).bind λ(c,i)=>
(Gf z d).bind λA=>
some (c,(((geq A 0)&&(geq i 0))&&(T5 (Ac e) 64)))
def eW:Option (Int×Int×Int×LB×LB×LX×(List LB)×LB×Bool×Int×Int):=
(EO z d j e).bind λ(c,i)=>
if(!i)then
some (0,0,0,([]:LB),([]:LB),([]:LX),([]:List LB),([]:LB),false,0,2)
else
some (z,d,j,e,([]:LB),([]:LX),([]:List LB),([]:LB),false,0,0)
def JM:Option Int:=
some (Bq (Bi z d) 8)
def Xy(a h k:Int)(m n:LB)(b:LX)(f:List LB)(o:LB)(p:Bool)(u g:Int):Option Int:=
(Jg (Bg a 0)).bind λ_=>
some (Ae (Bi (Ac f) g) (Bq (Ac b) a))
def Xi(a g h:Int)(k m:LB)(n:LX)(o:List LB)(p:LB)(u:Bool)(v b f:Int):Option Bool:=
some ((T5 b 1000)&&(T5 (Bi f a) 4000))
def xG:Option Bool:=
some (!C)
def xI:=xG
def wZ(j24:Bool->Option Bool)(y:Bool):Option Bool:=
j24 y
def XA:=wZ xI
def xF(j23:Bool->Option Bool):Option Bool:=
j23 (Mk (-1:Int) (0:Int))
def WH:=xF XA
def WR(Jd:Int->Option Bool)(b:List LB)(f a h:Int):Option Bool:=
Jd (Ae h 1)
def WK Jd:=WR Jd
def WY(j23:Bool->Option Bool)(j20:Int->Option Bool)(b:List LB)(f a h:Int)(w:LB):Option Bool:=
if((Cj (Ac w) 5)||(Dx (Ac w) (Ae (Bq (Ae (Bi (Bi 81 f) a) 7) 8) 4)))then
j23 (Mk h 0)
else
j20 h
def DE Jd b f a:=WY XA (WK Jd b f a) b f a
def Uf(j19:Int->LB->Option Bool)(j22:Option Bool)(b:List LB)(f a h:Int):Option Bool:=
if(Cj h (Ac b))then
(Am b h).bind λw=>
j19 h w
else
j22
def Lm:Nat->Int->Option Bool
|0,_=>none
|z+1,c=>Uf (DE (Lm z) l5 o8 Brh) WH l5 o8 Brh c
def DG b f a:=Lm b f a Au
def Ua(j16:(List LB)->Int->Int->Int->Option Bool)(f a k o:Int)(p m:LB)(g:LX)(b:List LB)(n:LB)(u:Bool)(v:Int):Option Bool:=
j16 b f a 0
def EA:=Ua DG
def Ub(j15:Int->Int->Int->Int->LB->LB->LX-> (List LB)->LB->Bool->Int->Option Bool)(f a k o:Int)(p m:LB)(g:LX)(b:List LB)(n:LB)(u:Bool)(v aa:Int):Option Bool:=
(Xy a k o p m g b n u v f).bind λab=>
(Xi a k o p m g b n u v aa ab).bind λac=>
if(!ac)then
some false
else
j15 f a k o p m g b n u v
def DL:=Ub EA
def DQ(j14:Int->Int->Int->Int->LB->LB->LX-> (List LB)->LB->Bool->Int->Int->Option Bool)(f a k o:Int)(p m:LB)(g:LX)(b:List LB)(n:LB)(u:Bool)(v:Int):Option Bool:=
(Sm k g).bind λad=>
if(Bg ad 0)then
some false
else
if(Dx (Ac g) 0)then
j14 f a k o p m g b n u v (Ae (Ac b) 1)
else
j14 f a k o p m g b n u v (Ac b)
def DJ:=DQ DL
def FU(j13:Int->Int->Int->Int->LB->LB->LX-> (List LB)->LB->Bool->Int->Option Bool)(a k o:Int)(p m:LB)(g:LX)(b:List LB)(n:LB)(u:Bool)(v f:Int):Option Bool:=
if(Dx (Ac n) 0)then
if true then
if true then
if(true||(Dx (Ac b) 1000))then
some false
else
j13 f a k o p m g b n u v
else
(Jg (Bg a 0)).bind λ_=>
if((Mk (Bq (Ac g) a) f)||(Dx (Ac b) 1000))then
some false
else
j13 f a k o p m g b n u v
else
(Jg (Bg a 0)).bind λ_=>
if(Bg (Ha (Ac g) a) 0)then
if(true||(Dx (Ac b) 1000))then
some false
else
j13 f a k o p m g b n u v
else
(Jg (Bg a 0)).bind λ_=>
if((Mk (Bq (Ac g) a) f)||(Dx (Ac b) 1000))then
some false
else
j13 f a k o p m g b n u v
else
(JM a k).bind λae=>
if(Mk (Ac m) ae)then
if true then
if(true||(Dx (Ac b) 1000))then
some false
else
j13 f a k o p m g b n u v
else
(Jg (Bg a 0)).bind λ_=>
if((Mk (Bq (Ac g) a) f)||(Dx (Ac b) 1000))then
some false
else
j13 f a k o p m g b n u v
else
(Jg (Bg a 0)).bind λ_=>
if(Bg (Ha (Ac g) a) 0)then
if(true||(Dx (Ac b) 1000))then
some false
else
j13 f a k o p m g b n u v
else
(Jg (Bg a 0)).bind λ_=>
if((Mk (Bq (Ac g) a) f)||(Dx (Ac b) 1000))then
some false
else
j13 f a k o p m g b n u v
def FH:=FU DJ
def RB:Option Int:=
(EO z d j e).bind λ(c,i)=>
if(!i)then
some 8
else
if(Bg o8 0)then
if(!(((((geq o8 18)||(geq o8 24))&&(!Brl))&&(geq (Ae (Ae (Ac p8) (Ac M)) (Ac l5)) 0))&&(geq (Ac X) 0)))then
some 8
else
some 0
else
if Brl then
if(!((geq (Ae (Ae (Ac p8) (Ac M)) (Ac l5)) 0)&&(T5 (Ac X) 100000)))then
some 8
else
some 0
else
(FH z d j e p8 M l5 X Brl o8 c).bind λA=>
if(!A)then
some 8
else
some 0
def Cb:Option (LB):=
(
(Dt ([]:LB) c).bind λz=>
some z)
def Dr:Option (LX):=
(
(Dt ([]:LX) i).bind λz=>
some z)
abbrev Kz:=Option (Int×Int×Int×LB×LB×LX×(List LB)×LB×Bool×Int)
def qj(b f g:Int)(h:LB)(a:List LB)(k:Bool)(m:Int)(u:List LB)(n:LB)(o:LX)(p:LB):Kz:=
some (b,f,g,h,n,o,u,p,k,m)
def pF:=qj
def FP(j8:Int->Int->Int->LB-> (List LB)->Bool->Int-> (List LB)->LB->LX->LB->Kz)(qm:Int-> (List LB)->Kz)(w a:List LB)(b f g:Int)(h:LB)(k:Bool)(m:Int)(n:LB)(o:LX)(p:LB)(v:Int)(u:List LB):Kz:=
if(Cj v (Ac (WZ w a)))then
(Am u v).bind λ_=>
(Am u v).bind λy=>
(Cb y).bind λaa=>
(Am u v).bind λ_=>
(Mv u v aa).bind λab=>
qm (Ae v 1) ab
else
j8 b f g h a k m u n o p
def Sd:Nat->Int-> (List LB)->Kz
|0,_,_=>none
|z+1,c,d=>FP pF (Sd z) l5 Bsh Br1 Bsi Bsj Brm Bsk Bsl Br2 Brc Br3 c d
def pq w a b f g h k m n o p:=Sd w a b f g h k m n o p Au
def VG(j6:(List LB)-> (List LB)->Int->Int->Int->LB->Bool->Int->LB->LX->LB->Int-> (List LB)->Kz)(b f g:Int)(h:LB)(a:List LB)(k:Bool)(m:Int)(n:LB)(o:LX)(p:LB):Kz:=
(mkI (Ac a) ([]:LB)).bind λw=>
(Jg (geq (Ac a) (Ac a))).bind λ_=>
j6 w a b f g h k m n o p 0 (WZ w a)
def pG:=VG pq
def UU(j5:Int->Int->Int->LB-> (List LB)->Bool->Int->LB->LX->LB->Kz)(b f g:Int)(h ac:LB)(ad:LX)(a:List LB)(ae:LB)(k:Bool)(m:Int):Kz:=
(Cb ac).bind λn=>
(Dr ad).bind λo=>
(Cb ae).bind λp=>
j5 b f g h a k m n o p
def XY:=UU pG
abbrev UZ:=Option (Int×Int×Int×LB×LB×LX×(List LB)×LB×Bool×Int×Int×Int)
def jC:UZ:=
(XY d j I e p8 M l5 X Brl o8).bind λ(c,i,A,B,C,D,E,F,G,J)=>
some (c,i,A,B,C,D,E,F,G,J,z,Brh)
def lJ:=jC
def iT(j2:Int->Int->Int->Int->LB->LB->LX-> (List LB)->LB->Bool->Int->Int->UZ)(g h b:Int)(k m:LB)(n:LX)(o:List LB)(p:LB)(f:Bool)(a:Int):UZ:=
(RB g h b k m n o p f a).bind λv=>
if(Bg v 0)then
some (0,0,0,([]:LB),([]:LB),([]:LX),([]:List LB),([]:LB),false,0,0,v)
else
(Ph b).bind λ(u,aj)=>
if(Bg a 0)then
j2 u g h b k m n o p f a a
else
if f then
j2 u g h b k m n o p f a 36
else
j2 u g h b k m n o p f a aj
def EV:=iT lJ
abbrev Dh:=Option (LX×Int)
def K9:Dh:=
some (i,0)
def eT:=K9
def Zf(Jd:Int->LX->Dh)(a:Int)(b:LB)(f:Int)(o:LX):Dh:=
Jd (Ae f (Bq a 8)) o
def Kr Jd:=Zf Jd
def IJ(j28:Int->LX->Dh)(a:Int)(b:LB)(f:Int)(k:Int32)(g:LX):Dh:=
(Jg (Mk (Aq 32 a) 0)).bind λ_=>
(Jg (Mk (Aq 32 a) 0)).bind λ_=>
(Dt g ([(Cw (Du k (GI.toZ (Aq 32 a)).toNat) (GI.toZ (Aq 32 a)).toNat)]:LX)).bind λp=>
j28 f p
def Zl Jd a b:=IJ (Kr Jd a b) a b
def Gu(j27:Int->Int32->LX->Dh)(Bnz:Int32->Int->Dh)(a:Int)(b:LB)(f:Int)(g:LX)(k:Int32)(h:Int):Dh:=
if(Cj h (Bq a 8))then
(Am b (Ae f h)).bind λm=>
(Jg (Mk (Bi 8 h) 0)).bind λ_=>
Bnz (zZ k (Du (Ad m:Int32) (GI.toZ (Bi 8 h)).toNat)) (Ae h 1)
else
j27 f k g
def Fk(Jd:Int->LX->Dh)(a:Int)(b:LB)(f:Int)(g:LX):Nat->Int32->Int->Dh
|0,_,_=>none
|q+1,k,h=>Gu (Zl Jd a b) (Fk Jd a b f g q) a b f g k h
def Nz Jd a b f g:=Fk Jd a b f g Au
def Gz(j28:Int->LX->Dh)(j25:Int->LX->Int32->Int->Dh)(j30:LX->Dh)(a:Int)(b:LB)(f:Int)(g:LX):Dh:=
if(Cj f (Ac b))then
if(geq a 8)then
(Am b f).bind λm=>
(Dt g ([(Aq (Ad m:Int32) 128)]:LX)).bind λu=>
j28 f u
else
j25 f g 0 0
else
j30 g
def Ew:Nat->Int->LX->Dh
|0,_,_=>none
|c+1,d,i=>Gz (Kr (Ew c) z e) (Nz (Ew c) z e) eT z e d i
def fN a b:=Ew a b Au
def QF(j16:Int->LB->Int->LX->Dh)(a:Int)(b:LB):Dh:=
(Te a).bind λ(v,w,n)=>
if(Bg n 0)then
some (([]:LX),n)
else
(Jg (Bg (Bq a 8) 0)).bind λ_=>
if(Bg (Ha (Ac b) (Bq a 8)) 0)then
some (([]:LX),12)
else
(Jg (Bg (Bq a 8) 0)).bind λ_=>
if(Dx (Bq (Ac b) (Bq a 8)) 4000)then
some (([]:LX),4)
else
j16 a b 0 ([]:LX)
def Nb:=QF fN
abbrev Cu:=Option (UInt64×Int)
def sY:Cu:=
some (A,0)
def tA:=sY
def rG(j30:UInt64->Cu)(h b:UInt64)(a:LB)(f:LQ):Cu:=
j30 h
def bF:=rG tA
def KI(j29:UInt64->UInt64->LB->LQ->Cu)(VV:UInt64->Int->Cu)(a:LB)(b:UInt64)(f:LQ)(h:UInt64)(m:Int):Cu:=
if(Cj m (Ac a))then
(Am a m).bind λp=>
Option.bind (Am f (GI.toZ (BH (Ad (Cw h (GI.toZ (56:UInt64)).toNat):UInt8) p))) λ_=>
Option.bind (Am f (GI.toZ (BH (Ad (Cw h (GI.toZ (56:UInt64)).toNat):UInt8) p))) λu=>
VV (BH (Du h (GI.toZ (8:UInt64)).toNat) u) (Ae m 1)
else
j29 h b a f
def Va:Nat->UInt64->Int->Cu
|0,_,_=>none
|z+1,d,e=>KI bF (Va z) c A y9 d e
def ZR a b f:=Va a b f Au
def ZE(j27:LB->UInt64->LQ->UInt64->Int->Cu)(b:UInt64)(a:LB)(f:LQ):Cu:=
j27 a b f b 0
def aZ:=ZE ZR
def rA(Jd:Int->LQ->Cu)(b:UInt64)(a:LB)(g:Int)(o:LQ):Cu:=
Jd (Ae g 1) o
def rV Jd:=rA Jd
def rM(j24:Int->LQ->Cu)(b:UInt64)(a:LB)(g:Int)(k:UInt64)(f:LQ):Cu:=
(Am f g).bind λ_=>
(Mv f g k).bind λo=>
j24 g o
def JS Jd b a:=rM (rV Jd b a) b a
def IU(j23:Int->UInt64->LQ->Cu)(Aqq:UInt64->Int->Cu)(b:UInt64)(a:LB)(g:Int)(f:LQ)(k:UInt64)(n:Int):Cu:=
if(Cj n 8)then
Aqq (BH (Du k (GI.toZ (1:UInt64)).toNat) (Bi 4823603603198064275 (Cw k (GI.toZ (63:UInt64)).toNat))) (Ae n 1)
else
j23 g k f
def Vs(Jd:Int->LQ->Cu)(b:UInt64)(a:LB)(g:Int)(f:LQ):Nat->UInt64->Int->Cu
|0,_,_=>none
|q+1,k,n=>IU (JS Jd b a) (Vs Jd b a g f q) b a g f k n
def cH Jd b a g f:=Vs Jd b a g f Au
def KL(j21:Int->LQ->UInt64->Int->Cu)(j26:UInt64->LB->LQ->Cu)(b:UInt64)(a:LB)(g:Int)(f:LQ):Cu:=
if(Cj g 256)then
j21 g f (Du (Ad g:UInt64) (GI.toZ (56:UInt64)).toNat) 0
else
j26 b a f
def Qx:Nat->Int->LQ->Cu
|0,_,_=>none
|z+1,c,d=>KL (cH (Qx z) A o7) aZ A o7 c d
def sM b a:=Qx b a Au
def hH(j16:UInt64->LB->Int->LQ->Cu)(b:UInt64)(a:LB):Cu:=
if(Dx (Ac a) 100000)then
some (0,4)
else
j16 b a 0 (List.replicate 256 (0:UInt64))
def nT:=hH sM
def jQ:Option (UInt64×Int):=
(nT 0 c).bind λ(z,d)=>
some (z,d)
def Aqi:Option (LX):=
some i
def Aak:=Aqi
def oM(j6:LX->Option (LX))(Rb:Int->LX->Option (LX))(f:UInt64)(a:Int)(b:LX):Option (LX):=
if(Cj a 8)then
(Jg (Mk (Bi 8 a) 0)).bind λ_=>
(Am b a).bind λ_=>
(Mv b a (Ad (Ad (Cw f (GI.toZ (Bi 8 a)).toNat):Int8):Int32)).bind λg=>
Rb (Ae a 1) g
else
j6 b
def QG:Nat->Int->LX->Option (LX)
|0,_,_=>none
|z+1,c,d=>oM Aak (QG z) A c d
def Aqk f:=QG f Au
def Ada(j4:UInt64->Int->LX->Option (LX))(f:UInt64):Option (LX):=
j4 f 0 (List.replicate 16 (0:Int32))
def Ahf:=Ada Aqk
def Oa:Option (LX×Int):=
if(Dx (Ac c) 64)then
some (([(0:Int32),(0:Int32),(0:Int32),(0:Int32),(0:Int32),(0:Int32),(0:Int32),(0:Int32),(0:Int32),(0:Int32),(0:Int32),(0:Int32),(0:Int32),(0:Int32),(0:Int32),(0:Int32)]:LX),2)
else
(jQ c).bind λ(z,d)=>
if(Bg d 0)then
some (([(0:Int32),(0:Int32),(0:Int32),(0:Int32),(0:Int32),(0:Int32),(0:Int32),(0:Int32),(0:Int32),(0:Int32),(0:Int32),(0:Int32),(0:Int32),(0:Int32),(0:Int32),(0:Int32)]:LX),d)
else
(Ahf z).bind λe=>
some (e,0)
def RA:Option Int:=
(Gf z d).bind λc=>
if(Bg c 0)then
some c
else
(Sm d i).bind λe=>
if(Bg e 0)then
some e
else
if(geq (Ac i) 0)then
some 2
else
(Jg (Bg z 0)).bind λ_=>
if(Bg (Ha (Ac i) z) 0)then
some 2
else
some 0
def kB:Option Int:=
if((Cj z 1)||(Dx z 6))then
some 2
else
if(Dx (Ac i) 4000)then
some 4
else
(Jg (Bg z 0)).bind λ_=>
if(Bg (Ha (Ac i) z) 0)then
some 2
else
some 0
abbrev Ln:=Option (LX×Int)
def Alz:Ln:=
some (i,0)
def Y9:=Alz
def rI(iK:Int->LX->Ln)(b a:Int)(u:LX):Ln:=
iK (Ae a b) u
def tS iK:=rI iK
def ni(j20:Int->LX->Ln)(b a:Int)(g:LX):Ln:=
if(Dx (Aq ((Ae a b)-a) 1) 0)then
(Jg (decide (0<= (Aq ((Ae a b)-a) 1)/\ (Aq ((Ae a b)-a) 1)<((Ae a b)-a)))).bind λ_=>
Option.bind (Jg (decide (0<= (Aq (Aq ((Ae a b)-a) 1) 1)/\ (Aq (Aq ((Ae a b)-a) 1) 1)<((Ae a b)-a)))) λ_=>
(Am g (a+(Aq ((Ae a b)-a) 1))).bind λk=>
(Am g (a+(Aq (Aq ((Ae a b)-a) 1) 1))).bind λm=>
(Jg (decide (0<= (Aq ((Ae a b)-a) 1)/\ (Aq ((Ae a b)-a) 1)<((Ae a b)-a)))).bind λ_=>
(Mv g (a+(Aq ((Ae a b)-a) 1)) (Aq k (Bq m 2))).bind λn=>
j20 a n
else
j20 a g
def qZ iK b:=ni (tS iK b) b
def dI(j19:Int->LX->Ln)(Bjs:Int->LX->Ln)(b a f:Int)(g:LX):Ln:=
if(Cj f (Aq ((Ae a b)-a) 1))then
(Jg (decide (0<= (Ae f 1)/\ (Ae f 1)<((Ae a b)-a)))).bind λ_=>
(Jg (decide (0<=f/\f<((Ae a b)-a)))).bind λ_=>
(Am g (a+(Ae f 1))).bind λk=>
(Am g (a+f)).bind λm=>
(Jg (decide (0<=f/\f<((Ae a b)-a)))).bind λ_=>
(Mv g (a+f) (Aq k m)).bind λn=>
Bjs (Ae f 1) n
else
j19 a g
def HX(iK:Int->LX->Ln)(b a:Int):Nat->Int->LX->Ln
|0,_,_=>none
|q+1,f,g=>dI (qZ iK b) (HX iK b a q) b a f g
def ig iK b a:=HX iK b a Au
def rE(j17:Int->Int->LX->Ln)(j22:LX->Ln)(b a:Int)(h:LX):Ln:=
if(Cj a (Ac h))then
(jT (Ac h) a (Ae a b)).bind λ_=>
j17 a 0 h
else
j22 h
def IE:Nat->Int->LX->Ln
|0,_,_=>none
|c+1,d,e=>rE (ig (IE c) z) Y9 z d e
def Z4 b:=IE b Au
def zS(j12:Int->Int->LX->Ln)(b:Int)(o:LX):Ln:=
(kB b o).bind λp=>
if(Bg p 0)then
some (([]:LX),p)
else
(Dr o).bind λv=>
j12 b 0 v
def uz:=zS Z4
abbrev zH:=Option (Int×LX×LX×Int)
def Ang:zH:=
if C then
some (10,i,(List.replicate 16 (0:Int32)),0)
else
if(geq z 16)then
some (9,i,(List.replicate 16 (0:Int32)),0)
else
some (0,(List.replicate 16 (0:Int32)),(List.replicate 16 (0:Int32)),2)
def Ak1:=Ang
def Amd(j2:Int->LX->Bool->zH)(a:Int)(b:LX):zH:=
if(geq a 8)then
j2 a b (geq a 8)
else
j2 a b (geq a 24)
def K5:=Amd Ak1
def Y1:Option (Int×Int32×Int×LX×LX×Int):=
(K5 z i).bind λ(c,d,e,j)=>
if(Bg j 0)then
some (0,0,0,(List.replicate 16 (0:Int32)),(List.replicate 16 (0:Int32)),j)
else
some (z,0,c,d,e,0)
def AO(a:Int)(k:Int32)(b:Int)(f m:LX):Option Int:=
(K5 a f).bind λ(g,n,o,h)=>
if((Bg h 0)||(Bg g b))then
some 8
else
some 0
def sR:Option (Int×Int):=
if(geq z 8)then
some (4,0)
else
if(geq z 16)then
if(geq z 16)then
some (5,0)
else
some (0,2)
else
if(geq z 24)then
some (5,0)
else
some (0,2)
def dL:Option Int32:=
(Jg (Mk z 0)).bind λ_=>
(Jg (Mk z 0)).bind λ_=>
some (Ad (Ail (Aq (Du (Ad G:Int) (GI.toZ z).toNat) (Ad G:Int)) (GI.toZ z).toNat):Int32)
def AP:Option (Int32×Int):=
(sR z).bind λ(c,d)=>
if(Bg d 0)then
some (0,d)
else
(dL c G).bind λe=>
some (e,0)
def PZ(a:Int)(b f:LX):Option Int:=
if((Bg a 9)&&(Bg a 10))then
some 8
else
some 0
abbrev Xb:=Option (Int32×Int)
def yS(h:Int32)(a:Int)(b f:LX):Xb:=
(Jg (Mk a 0)).bind λ_=>
some ((Cw h (GI.toZ a).toNat),0)
def gO:=yS
def RH(j6:Int32->Int->LX->LX->Xb)(Rb:Int32->Int->Xb)(b:LX)(a:Int)(f:LX)(h:Int32)(g:Int):Xb:=
if(Cj g 16)then
(Am b g).bind λm=>
(Am f g).bind λ_=>
(Am f g).bind λn=>
Rb (Ae h (Bi m n)) (Ae g 1)
else
j6 h a b f
def Ye:Nat->Int32->Int->Xb
|0,_,_=>none
|z+1,c,d=>RH gO (Ye z) i B M c d
def yG b a f:=Ye b a f Au
def gJ(j4:LX->Int->LX->Int32->Int->Xb)(a:Int)(b f:LX):Xb:=
(PZ a b f).bind λk=>
if(Bg k 0)then
some (0,k)
else
(Jg (Mk (Aq a 1) 0)).bind λ_=>
j4 b a f (Du (1:Int32) (GI.toZ (Aq a 1)).toNat) 0
def bB:=gJ yG
def jK:Option Int32:=
if(geq z 0)then
some 4
else
if(Cj z 4)then
some 2
else
some 1
abbrev Wg:=Option (Int×LX×LX×Int)
def Aew:Wg:=
some (z,i,M,0)
def yH:=Aew
def RI(j6:Int->LX->LX->Wg)(Rb:Int->LX->Wg)(h:Int32)(f:LX)(g a:Int)(b:LX):Wg:=
if(Cj a 16)then
(Am f a).bind λm=>
if(geq m 0)then
Rb (Ae a 1) b
else
if((Cj m 0)==(Cj h 0))then
(Am b a).bind λ_=>
(Am b a).bind λo=>
(jK a).bind λp=>
(Am b a).bind λ_=>
(Mv b a (Ae o p)).bind λu=>
Rb (Ae a 1) u
else
(Am b a).bind λ_=>
(Am b a).bind λv=>
(jK a).bind λw=>
(Am b a).bind λ_=>
(Mv b a (Aq v w)).bind λy=>
Rb (Ae a 1) y
else
j6 g b f
def Xx:Nat->Int->LX->Wg
|0,_,_=>none
|z+1,c,d=>RI yH (Xx z) G Bq2 N c d
def Aeq h f g:=Xx h f g Au
def gY(j4:Int32->LX->Int->Int->LX->Wg)(g:Int)(k f:LX)(h:Int32):Wg:=
(PZ g k f).bind λn=>
if(Bg n 0)then
some (0,(List.replicate 16 (0:Int32)),(List.replicate 16 (0:Int32)),n)
else
if(geq h 0)then
some (g,k,f,0)
else
j4 h f g 0 k
def oN:=gY Aeq
abbrev uH:=Option (Int×LX×LX×Int)
def G2:uH:=
(Am (Zx q9 1 ((16:Int)-(1:Int)) (dB q9 0 ((16:Int)-(0:Int)))) 0).bind λ_=>
(Mv (Zx q9 1 ((16:Int)-(1:Int)) (dB q9 0 ((16:Int)-(0:Int)))) 0 G).bind λz=>
some (N,p9,z,0)
def nL:=G2
def XU(j2:Int32->Int->LX->LX->uH)(b:Int)(f a:LX)(g:Int32):uH:=
(PZ b f a).bind λh=>
if(Bg h 0)then
some (0,(List.replicate 16 (0:Int32)),(List.replicate 16 (0:Int32)),h)
else
(
(jT 16 1 16).bind λ_=>
(jT 16 0 16).bind λ_=>
j2 g b f a)
def wR:=XU nL
def ZG:Option (Int×LX×LX):=
(oN z i M Brq).bind λ(c,d,e,j)=>
(wR c d e G).bind λ(A,B,C,D)=>
some (A,B,C)
def fX:Option (Int32×Int×LX×LX×Int):=
(bB z i M).bind λ(c,d)=>
if(Bg d 0)then
some (0,0,(List.replicate 16 (0:Int32)),(List.replicate 16 (0:Int32)),d)
else
(ZG z i M G (Aq G c)).bind λ(e,j,A)=>
some ((Aq G c),e,j,A,0)
def Xv:Option (Int32×Int×Int32×Int×LX×LX×Int):=
(AO z G N p9 q9).bind λc=>
if(Bg c 0)then
some (0,0,0,0,(List.replicate 16 (0:Int32)),(List.replicate 16 (0:Int32)),c)
else
(AP z G).bind λ(d,e)=>
(fX N p9 q9 (Aq Brk d)).bind λ(i,j,A,B,C)=>
(
some (i,z,Brk,j,A,B,C))
def vR:Option UInt32:=
some (BH (Du (Ad G:UInt32) (GI.toZ (1:UInt64)).toNat) (Ad (Cw G (GI.toZ (31:UInt64)).toNat):UInt32))
abbrev Ee:=Option (LU×Int)
def B9:Ee:=
some (Z,0)
def cT:=B9
def Xe(j12:LU->Ee)(Aqr:Int-> (List (Int×Int32×(Int×LX×LX×Unit)×Unit))->LU->Ee)(b:LX)(a f g:Int)(k:List (Int×Int32×(Int×LX×LX×Unit)×Unit))(h:LU):Ee:=
if(Cj g (Ac b))then
(Am b g).bind λ_=>
(Am b g).bind λac=>
(Jg (Bg a 0)).bind λ_=>
(Am k (Ha g a)).bind λ_=>
(Am k (Ha g a)).bind λp=>
(Xv p.1 p.2.1 p.2.2.1.1 p.2.2.1.2.1 p.2.2.1.2.2.1 ac).bind λ(u,ad,ae,v,af,ag,w)=>
if(Bg w 0)then
some (([]:LU),w)
else
(Mv k (Ha g a) (ad,ae,(v,af,ag,()),())).bind λah=>
(vR u).bind λai=>
(Dt h ([ai]:LU)).bind λaj=>
Aqr (Ae g 1) ah aj
else
j12 h
def Mq:Nat->Int-> (List (Int×Int32×(Int×LX×LX×Unit)×Unit))->LU->Ee
|0,_,_,_=>none
|z+1,c,d,e=>Xe cT (Mq z) i B F c d e
def ZI b a f:=Mq b a f Au
def dF(j10:LX->Int->Int->Int-> (List (Int×Int32×(Int×LX×LX×Unit)×Unit))->LU->Ee)(a f:Int)(b:LX)(m:List (Int×Int32×(Int×LX×LX×Unit)×Unit)):Ee:=
j10 b a f 0 m ([]:LU)
def dH:=dF ZI
def dM(j9:Int->Int->LX-> (List (Int×Int32×(Int×LX×LX×Unit)×Unit))->Ee)(bk7:Int-> (List (Int×Int32×(Int×LX×LX×Unit)×Unit))->Ee)(a f:Int)(n b:LX)(o:Int)(m:List (Int×Int32×(Int×LX×LX×Unit)×Unit)):Ee:=
if(Cj o 6)then
(Y1 f n).bind λ(ak,al,u,am,an,v)=>
(Am m o).bind λ_=>
(Mv m o (ak,al,(u,am,an,()),())).bind λao=>
bk7 (Ae o 1) ao
else
j9 a f b m
def KM:Nat->Int-> (List (Int×Int32×(Int×LX×LX×Unit)×Unit))->Ee
|0,_,_=>none
|c+1,e,j=>dM dH (KM c) z d i M e j
def NB a f n b:=KM a f n b Au
def JX(j7:Int->Int->LX->LX->Int-> (List (Int×Int32×(Int×LX×LX×Unit)×Unit))->Ee)(a f:Int)(n y:LX):Ee:=
(RA a f y).bind λaa=>
if(Bg aa 0)then
some (([]:LU),aa)
else
(uz a y).bind λ(b,ab)=>
if(Bg ab 0)then
some (([]:LU),ab)
else
j7 a f n b 0 (List.replicate 6 ((0:Int),(0:Int32),((0:Int),(List.replicate 16 (0:Int32)),(List.replicate 16 (0:Int32)),()),()))
def JW:=JX NB
def D4:Option (Int×Int×UInt64×UInt64):=
some (10,10,16384,16384)
abbrev Mo:=Option ((List (Int×Int×UInt64×UInt64×Unit)))
def L4(a:List (Int×Int×UInt64×UInt64×Unit)):Mo:=
some a
def fL:=L4
def fT(j6:(List (Int×Int×UInt64×UInt64×Unit))->Mo)(Rb:Int-> (List (Int×Int×UInt64×UInt64×Unit))->Mo)(b:Int)(a:List (Int×Int×UInt64×UInt64×Unit)):Mo:=
if(Cj b 6)then
(D4).bind λ(f,g,h,k)=>
(Am a b).bind λ_=>
(Mv a b (f,g,h,k,())).bind λm=>
Rb (Ae b 1) m
else
j6 a
def II:Nat->Int-> (List (Int×Int×UInt64×UInt64×Unit))->Mo
|0,_,_=>none
|q+1,b,a=>fT fL (II q) b a
def fF:=II Au
def JP(j4:Int-> (List (Int×Int×UInt64×UInt64×Unit))->Mo):Mo:=
j4 0 (List.replicate 6 ((0:Int),(0:Int),(0:UInt64),(0:UInt64),()))
def LH:=JP fF
def Le:Option Int:=
if(((Cj z 0)||(Dx z 330000))||(Bg (Ac c) (Ail (Ae z 7) (GI.toZ (3:UInt64)).toNat)))then
some 8
else
if(Dx (Ez z 7) 0)then
(Am c (Aq (Ac c) 1)).bind λd=>
(Jg (Mk (Ez z 7) 0)).bind λ_=>
if(Bg (Cw d (GI.toZ (Ez z 7)).toNat) 0)then
some 8
else
some 0
else
some 0
def xT:Option Int:=
if(!((geq (Iu (H5 z 0) 24) z)&&((geq (Iu (H5 d 0) 24) d)&&((geq (Iu A 68719476735) A)&&((geq (Iu Y 68719476735) Y)&&true)))))then
some 8
else
some 0
def gA:=xT
def QZ(j4:Int->Int->UInt64->UInt64->Option Int)(a b:Int)(f g:UInt64):Option Int:=
(
(
j4 a b f g))
def iD:=QZ gA
def RJ(j3:Int->Int->UInt64->UInt64->Option Int)(a b:Int)(f g:UInt64):Option Int:=
(
(
j3 a b f g))
def bV:=RJ iD
def QH(a f:Int)(g h:UInt64)(b:UInt32):Option (Int×UInt32):=
(Jg (Mk a 0)).bind λ_=>
if(geq (Cw b (GI.toZ a).toNat) 0)then
some (0,b)
else
(Jg (Mk a 0)).bind λ_=>
some (1,(Aq b (Du (1:UInt32) (GI.toZ a).toNat)))
def jP:Option (LB×Int):=
(Cb c).bind λd=>
some (d,z)
abbrev Ex:=Option (LB×Int×Int)
def D8:Ex:=
some (e,z,0)
def lZ:=D8
def J9(Bb9:UInt64->Int->Int->LB->Ex)(b:UInt64)(a:Int)(m:UInt64)(h f:Int)(w:LB):Ex:=
(Jg (Mk (Iu h (Aq 8 (Ez f 7))) 0)).bind λ_=>
Bb9 (Cw m (GI.toZ (Iu h (Aq 8 (Ez f 7)))).toNat) (Aq h (Iu h (Aq 8 (Ez f 7)))) (Ae f (Iu h (Aq 8 (Ez f 7)))) w
def N9 Bb9:=J9 Bb9
def K0(j19:UInt64->Int->Int->LB->Ex)(b:UInt64)(a:Int)(m:UInt64)(h f:Int)(u:LB):Ex:=
(Am u (Aq (Ac u) 1)).bind λ_=>
(Jg (Mk (Iu h (Aq 8 (Ez f 7))) 0)).bind λ_=>
(Jg (Mk (Ez f 7) 0)).bind λ_=>
(Am u (Aq (Ac u) 1)).bind λad=>
(Am u (Aq (Ac u) 1)).bind λ_=>
Option.bind (Mv u (Aq (Ac u) 1) (zZ ad (Du (Ad (Ez m (Aq (Du (1:UInt64) (GI.toZ (Iu h (Aq 8 (Ez f 7)))).toNat) 1)):UInt8) (GI.toZ (Ez f 7)).toNat))) λw=>
j19 m h f w
def XQ Bb9 b a:=K0 (N9 Bb9 b a) b a
def XR(j18:UInt64->Int->Int->LB->Ex)(j21:Int->LB->Ex)(b:UInt64)(a:Int)(m:UInt64)(h f:Int)(o:LB):Ex:=
if(Dx h 0)then
if(geq (Ez f 7) 0)then
(Dt o ([(0:UInt8)]:LB)).bind λaa=>
j18 m h f aa
else
j18 m h f o
else
j21 f o
def Sj:Nat->UInt64->Int->Int->LB->Ex
|0,_,_,_,_=>none
|z+1,c,d,e,i=>XR (XQ (Sj z) A l7) lZ A l7 c d e i
def Ai0 b a:=Sj b a Au
def Ahi:Ex:=
some (e,z,0)
def M9:=Ahi
def Aia(Bca:UInt64->Int->Int->LB->Ex)(b:UInt64)(a:Int)(n:UInt64)(k g:Int)(ab:LB):Ex:=
(Jg (Mk (Iu k (Aq 8 (Ez g 7))) 0)).bind λ_=>
Bca (Cw n (GI.toZ (Iu k (Aq 8 (Ez g 7)))).toNat) (Aq k (Iu k (Aq 8 (Ez g 7)))) (Ae g (Iu k (Aq 8 (Ez g 7)))) ab
def Ahv Bca:=Aia Bca
def Ahj(j26:UInt64->Int->Int->LB->Ex)(b:UInt64)(a:Int)(n:UInt64)(k g:Int)(v:LB):Ex:=
(Am v (Aq (Ac v) 1)).bind λ_=>
(Jg (Mk (Iu k (Aq 8 (Ez g 7))) 0)).bind λ_=>
(Jg (Mk (Ez g 7) 0)).bind λ_=>
(Am v (Aq (Ac v) 1)).bind λae=>
(Am v (Aq (Ac v) 1)).bind λ_=>
Option.bind (Mv v (Aq (Ac v) 1) (zZ ae (Du (Ad (Ez n (Aq (Du (1:UInt64) (GI.toZ (Iu k (Aq 8 (Ez g 7)))).toNat) 1)):UInt8) (GI.toZ (Ez g 7)).toNat))) λab=>
j26 n k g ab
def J5 Bca b a:=Ahj (Ahv Bca b a) b a
def E0(j25:UInt64->Int->Int->LB->Ex)(j28:Int->LB->Ex)(b:UInt64)(a:Int)(n:UInt64)(k g:Int)(p:LB):Ex:=
if(Dx k 0)then
if(geq (Ez g 7) 0)then
(Dt p ([(0:UInt8)]:LB)).bind λw=>
j25 n k g w
else
j25 n k g p
else
j28 g p
def mV:Nat->UInt64->Int->Int->LB->Ex
|0,_,_,_,_=>none
|z+1,c,d,e,i=>E0 (J5 (mV z) A l7) M9 A l7 c d e i
def Ah5 b a:=mV b a Au
def rK(j15:UInt64->Int->UInt64->Int->Int->LB->Ex)(j22:UInt64->Int->UInt64->Int->Int->LB->Ex)(ac:LB)(y:Int)(b:UInt64)(a:Int):Ex:=
(Le ac y).bind λaf=>
if(Bg af 0)then
some (([]:LB),0,8)
else
if((Cj a 0)||(Dx a 64))then
some (([]:LB),0,2)
else
if(Cj a 64)then
(Jg (Mk a 0)).bind λ_=>
if(Bg (Cw b (GI.toZ a).toNat) 0)then
some (([]:LB),0,16)
else
if(Dx (Ae y a) 330000)then
some (([]:LB),0,18)
else
(jP ac y).bind λ(ag,ah)=>
j15 b a b a ah ag
else
if(Dx (Ae y a) 330000)then
some (([]:LB),0,18)
else
(jP ac y).bind λ(aa,ai)=>
j22 b a b a ai aa
def bK:=rK Ai0 Ah5
def CV:Option Bool:=
(Jg (Mk l7 0)).bind λ_=>
some (Mk (Cw V (GI.toZ l7).toNat) 48)
def nW:Option (Int×Int):=
if((Cj z 0)||(Dx z 48))then
some (0,2)
else
some ((Iu (Ae z 1) 48),0)
def fG:Option (LB×Int×Int):=
(Le c z).bind λe=>
if(Bg e 0)then
some (([]:LB),0,e)
else
(nW d).bind λ(i,j)=>
if(Bg j 0)then
some (([]:LB),0,j)
else
(Jg (Mk d 0)).bind λ_=>
(bK c z (Aq (Du (1:UInt64) (GI.toZ d).toNat) 1) i).bind λ(A,B,C)=>
some (A,B,C)
abbrev lS:=Option (LB×Int×Int)
def iG:lS:=
(fG c z d).bind λ(e,i,j)=>
if(Bg j 0)then
some (([]:LB),0,j)
else
(bK e i (Ad V:UInt64) l7).bind λ(A,B,C)=>
some (A,B,C)
def gX:=iG
def xP(j2:LB->Int->Int->UInt32->Int->lS)(b:LB)(f:Int)(g:UInt32)(a:Int):lS:=
(Le b f).bind λk=>
if(Bg k 0)then
some (([]:LB),0,k)
else
if((Cj a 0)||(Dx a 24))then
some (([]:LB),0,2)
else
(Jg (Mk a 0)).bind λ_=>
(Jg (Mk a 0)).bind λ_=>
(CV g a).bind λaa=>
if aa then
j2 b f 48 g 32
else
j2 b f (Ad (Cw g (GI.toZ a).toNat):Int) (Ez g (Aq (Du (1:UInt32) (GI.toZ a).toNat) 1)) a
def mZ:=xP gX
abbrev Lf:=Option (LB×Int×Int×Int×UInt64×UInt64×Int)
def MZ:Lf:=
(
(
some (o7,z,d,j,(Ae A (Aq (Ad V:UInt64) (Cw A (GI.toZ (4:UInt64)).toNat))),Y,0)))
def cI:=MZ
def gT(j10:Int->Int->Int->UInt64->UInt32->UInt64->LB->Lf)(b:UInt32)(k n:Int)(a o:UInt64)(m:LB)(u:Int):Lf:=
j10 k u n a b o m
def yR:=gT cI
def gG(j9:UInt32->Int->Int->UInt64->UInt64->LB->Int->Lf)(b:UInt32)(f:Int)(a:UInt64)(k:Int)(m:LB)(n:Int)(o:UInt64):Lf:=
if(Dx f 0)then
(Jg (Mk f 0)).bind λ_=>
if(Cj (Ae a (Aq (Ad b:UInt64) (Cw a (GI.toZ (4:UInt64)).toNat))) (Du (16:UInt64) (GI.toZ f).toNat))then
j9 b k n a o m (Aq f 1)
else
if(Cj f 24)then
(Jg (Mk f 0)).bind λ_=>
if(Dx (Ae a (Aq (Ad b:UInt64) (Cw a (GI.toZ (4:UInt64)).toNat))) (Du (32:UInt64) (GI.toZ f).toNat))then
j9 b k n a o m (Ae f 1)
else
j9 b k n a o m f
else
j9 b k n a o m f
else
if(Cj f 24)then
(Jg (Mk f 0)).bind λ_=>
if(Dx (Ae a (Aq (Ad b:UInt64) (Cw a (GI.toZ (4:UInt64)).toNat))) (Du (32:UInt64) (GI.toZ f).toNat))then
j9 b k n a o m (Ae f 1)
else
j9 b k n a o m f
else
j9 b k n a o m f
def EG:=gG yR
def gC(j8:UInt32->Int->UInt64->Int->LB->Int->UInt64->Lf)(b:UInt32)(f h:Int)(a g:UInt64)(ac k:Int)(m:LB):Lf:=
if(Bg ac 0)then
some (([]:LB),0,0,0,0,0,ac)
else
(QH f h a g b).bind λ(ag,p)=>
if(geq ag 1)then
if(Dx h 0)then
(Jg (Mk h 0)).bind λ_=>
if(Cj (Ae g (Aq (Ad p:UInt64) (Cw g (GI.toZ (4:UInt64)).toNat))) (Du (16:UInt64) (GI.toZ h).toNat))then
j8 b f a k m (Aq h 1) (Ae g (Aq (Ad p:UInt64) (Cw g (GI.toZ (4:UInt64)).toNat)))
else
if(Cj h 24)then
(Jg (Mk h 0)).bind λ_=>
if(Dx (Ae g (Aq (Ad p:UInt64) (Cw g (GI.toZ (4:UInt64)).toNat))) (Du (32:UInt64) (GI.toZ h).toNat))then
j8 b f a k m (Ae h 1) (Ae g (Aq (Ad p:UInt64) (Cw g (GI.toZ (4:UInt64)).toNat)))
else
j8 b f a k m h (Ae g (Aq (Ad p:UInt64) (Cw g (GI.toZ (4:UInt64)).toNat)))
else
j8 b f a k m h (Ae g (Aq (Ad p:UInt64) (Cw g (GI.toZ (4:UInt64)).toNat)))
else
if(Cj h 24)then
(Jg (Mk h 0)).bind λ_=>
if(Dx (Ae g (Aq (Ad p:UInt64) (Cw g (GI.toZ (4:UInt64)).toNat))) (Du (32:UInt64) (GI.toZ h).toNat))then
j8 b f a k m (Ae h 1) (Ae g (Aq (Ad p:UInt64) (Cw g (GI.toZ (4:UInt64)).toNat)))
else
j8 b f a k m h (Ae g (Aq (Ad p:UInt64) (Cw g (GI.toZ (4:UInt64)).toNat)))
else
j8 b f a k m h (Ae g (Aq (Ad p:UInt64) (Cw g (GI.toZ (4:UInt64)).toNat)))
else
j8 b f a k m h g
def gW:=gC EG
def iB(j7:UInt32->Int->Int->UInt64->UInt64->Int->Int->LB->Lf)(b:UInt32)(v:LB)(w f h:Int)(a g:UInt64):Lf:=
(QH f h a g b).bind λ(ad,ae)=>
(bK v w (Ad ad:UInt64) 1).bind λ(y,aa,ab)=>
if((geq ab 0)&&(geq ad 0))then
(bK y aa (Ad ae:UInt64) f).bind λ(ah,ai,aj)=>
j7 b f h a g aj ai ah
else
if(geq ab 0)then
(mZ y aa ae h).bind λ(ak,al,am)=>
j7 b f h a g am al ak
else
j7 b f h a g ab aa y
def xR:=iB gW
def iJ(j6:UInt32->LB->Int->Int->Int->UInt64->UInt64->Lf)(v:LB)(w f h:Int)(a g:UInt64)(b:UInt32):Lf:=
(Le v w).bind λan=>
if(Bg an 0)then
some (([]:LB),0,0,0,0,0,8)
else
(bV f h a g).bind λao=>
if(Bg ao 0)then
some (([]:LB),0,0,0,0,0,8)
else
j6 b v w f h a g
def mM:=iJ xR
abbrev Cr:=Option (UInt32×Int)
def rZ:Cr:=
some (V,0)
def ZT:=rZ
def MG(j30:UInt32->Cr)(Bn0:UInt32->Int->Cr)(a:LB)(b:LU)(h:UInt32)(m:Int):Cr:=
if(Cj m (Ac a))then
(Am a m).bind λp=>
(Am b (GI.toZ (BH (Ad h:UInt8) p))).bind λ_=>
(Am b (GI.toZ (BH (Ad h:UInt8) p))).bind λu=>
Bn0 (BH (Cw h (GI.toZ (8:UInt64)).toNat) u) (Ae m 1)
else
j30 h
def Vi:Nat->UInt32->Int->Cr
|0,_,_=>none
|z+1,d,e=>MG ZT (Vi z) c Z d e
def aV a b:=Vi a b Au
def aH(j28:LB->LU->UInt32->Int->Cr)(f:UInt32)(a:LB)(b:LU):Cr:=
j28 a b f 0
def sC:=aH aV
def ZX(j27:UInt32->LB->LU->Cr)(f:UInt32)(a:LB)(b:LU):Cr:=
j27 f a b
def aO:=ZX sC
def rL(Jd:Int->LU->Cr)(f:UInt32)(a:LB)(g:Int)(o:LU):Cr:=
Jd (Ae g 1) o
def uD Jd:=rL Jd
def sU(j24:Int->LU->Cr)(f:UInt32)(a:LB)(g:Int)(k:UInt32)(b:LU):Cr:=
(Am b g).bind λ_=>
(Mv b g k).bind λo=>
j24 g o
def KG Jd f a:=sU (uD Jd f a) f a
def JQ(j23:Int->UInt32->LU->Cr)(Aqq:UInt32->Int->Cr)(f:UInt32)(a:LB)(g:Int)(b:LU)(k:UInt32)(n:Int):Cr:=
if(Cj n 8)then
Aqq (BH (Cw k (GI.toZ (1:UInt64)).toNat) (Bi 3988292384 (Ez k 1))) (Ae n 1)
else
j23 g k b
def Us(Jd:Int->LU->Cr)(f:UInt32)(a:LB)(g:Int)(b:LU):Nat->UInt32->Int->Cr
|0,_,_=>none
|q+1,k,n=>JQ (KG Jd f a) (Us Jd f a g b q) f a g b k n
def ZA Jd f a g b:=Us Jd f a g b Au
def MI(j21:Int->LU->UInt32->Int->Cr)(j26:UInt32->LB->LU->Cr)(f:UInt32)(a:LB)(g:Int)(b:LU):Cr:=
if(Cj g 256)then
j21 g b (Ad g:UInt32) 0
else
j26 f a b
def Qk:Nat->Int->LU->Cr
|0,_,_=>none
|z+1,c,d=>MI (ZA (Qk z) V o7) aO V o7 c d
def rR f a:=Qk f a Au
def gR(j16:UInt32->LB->Int->LU->Cr)(f:UInt32)(a:LB):Cr:=
if(Dx (Ac a) 100000)then
some (0,4)
else
j16 f a 0 (List.replicate 256 (0:UInt32))
def oD:=gR rR
def BW:Option (UInt32×Int):=
(oD 4294967295 c).bind λ(z,d)=>
if(Bg d 0)then
some (0,d)
else
some ((Acr z),0)
def uw:Option Bool:=
if(geq l7 8)then
some true
else
(Jg (Mk (Bi 8 l7) 0)).bind λ_=>
some (geq (Cw A (GI.toZ (Bi 8 l7)).toNat) 0)
abbrev GP:=Option (LB×Int)
def kg:GP:=
some (c,0)
def rD:=kg
def eC(j6:LB->GP)(Rb:Int->LB->GP)(f:UInt64)(g:LB)(a:Int)(b:LB):GP:=
if(Cj a (Ac g))then
(Jg (Mk (Bi 8 a) 0)).bind λ_=>
(Am b a).bind λ_=>
(Mv b a (Ad (Cw f (GI.toZ (Bi 8 a)).toNat):UInt8)).bind λk=>
Rb (Ae a 1) k
else
j6 b
def HW:Nat->Int->LB->GP
|0,_,_=>none
|z+1,c,d=>eC rD (HW z) A o7 c d
def ko f g:=HW f g Au
def sZ(j4:UInt64->LB->Int->LB->GP)(f:UInt64)(h:Int):GP:=
if((Cj h 1)||(Dx h 8))then
some (([]:LB),2)
else
(uw f h).bind λm=>
if(!m)then
some (([]:LB),16)
else
(mkI h (0:UInt8)).bind λg=>
(Jg (geq h h)).bind λ_=>
j4 f g 0 g
def Qf:=sZ ko
def YG:Option (LB):=
some c
def Zd:=YG
def Dz:Option (LB):=
if(Cj Bqz (Ac Brs))then
(Am Brs Bqz).bind λz=>
(Dt Brt z).bind λc=>
Bro (Ae Bqz 1) c
else
Brn Brt
def Cs:Nat->Int->LB->Option (LB)
|0,_,_=>none
|z+1,c,d=>Dz Zd (Cs z) l5 c d
def Ka a:=Cs a Au
def Kb(j14:(List LB)->Int->LB->Option (LB))(a:List LB)(p:LB):Option (LB):=
j14 a 0 p
def Gx:=Kb Ka
def Kf(j13:(List LB)->LB->Option (LB))(b:Int)(a:List LB):Option (LB):=
if(Dx (Aq b (Aq (0:Int) (0:Int))) 0)then
(jT 0 0 0).bind λ_=>
(mkI (Aq b (Aq (0:Int) (0:Int))) (0:UInt8)).bind λu=>
(Dt ([]:LB) u).bind λk=>
(jT (Ac k) 0 0).bind λ_=>
j13 a (dB k 0 ((0:Int)-(0:Int)))
else
j13 a ([]:LB)
def Po:=Kf Gx
def Ke(j12:Int-> (List LB)->Option (LB))(a:List LB)(b:Int):Option (LB):=
if(Cj b 0)then
none
else
j12 b a
def Gy:=Ke Po
def Ef(j11:(List LB)->Int->Option (LB))(bk9:Int->Int->Option (LB))(a:List LB)(b h:Int):Option (LB):=
if(Cj h (Ac a))then
(Am a h).bind λm=>
if(Cj (Ae b (Ac m)) 0)then
none
else
bk9 (Ae b (Ac m)) (Ae h 1)
else
j11 a b
def Db:Nat->Int->Int->Option (LB)
|0,_,_=>none
|z+1,c,d=>Ef Gy (Db z) l5 c d
def AG a:=Db a Au
def Qy(j9:(List LB)->Int->Int->Option (LB))(a:List LB):Option (LB):=
j9 a 0 0
def Fi:=Qy AG
abbrev Ca:=Option (LB×Int)
def bM(v:Int)(p:LB):Ca:=
(BW p).bind λ(af,ac)=>
if(Bg ac 0)then
some (([]:LB),ac)
else
(Qf (Ad af:UInt64) 4).bind λ(m,h)=>
if(Bg h 0)then
some (([]:LB),h)
else
(Fi ([p,m]:List LB)).bind λag=>
some (ag,0)
def GB:=bM
def aA(VV:Int-> (List (Int×Int×UInt64×UInt64×Unit))->Int->LB->Ca)(b:LU)(a g f:Int)(n:List (Int×Int×UInt64×UInt64×Unit))(k:Int)(w:LB):Ca:=
VV (Ae f 1) n k w
def GO VV:=aA VV
def cK(Aei:Int->Int->LB->Ca)(h:Int)(b:LU)(f a g:Int)(n:List (Int×Int×UInt64×UInt64×Unit))(m:LB)(o k:Int)(ab:LB):Ca:=
Aei (Ae o 1) (Ae k 1) ab
def aP Aei:=cK Aei
def ZK(j48:Int->Int->LB->Ca)(h:Int)(b:LU)(f a g:Int)(n:List (Int×Int×UInt64×UInt64×Unit))(m:LB)(o k:Int)(y:LB):Ca:=
(Am m (Bq o 8)).bind λ_=>
(Am m (Bq o 8)).bind λah=>
(Jg (Mk (Ha o 8) 0)).bind λ_=>
(Am y (Bq k 8)).bind λ_=>
(Jg (Mk (Ha k 8) 0)).bind λ_=>
(Am y (Bq k 8)).bind λai=>
(Am y (Bq k 8)).bind λ_=>
Option.bind (Mv y (Bq k 8) (zZ ai (Du (Ez (Cw ah (GI.toZ (Ha o 8)).toNat) 1) (GI.toZ (Ha k 8)).toNat))) λab=>
j48 o k ab
def Wo Aei h b f a g n m:=ZK (aP Aei h b f a g n m) h b f a g n m
def Xh(j47:Int->Int->LB->Ca)(j50:Int-> (List (Int×Int×UInt64×UInt64×Unit))->Int->LB->Ca)(b:LU)(a g h f:Int)(n:List (Int×Int×UInt64×UInt64×Unit))(m:LB)(o k:Int)(w:LB):Ca:=
if(Cj o h)then
if(geq (Ha k 8) 0)then
(Dt w ([(0:UInt8)]:LB)).bind λaj=>
j47 o k aj
else
j47 o k w
else
j50 f n k w
def Hr(VV:Int-> (List (Int×Int×UInt64×UInt64×Unit))->Int->LB->Ca)(b:LU)(a g h f:Int)(n:List (Int×Int×UInt64×UInt64×Unit))(m:LB):Nat->Int->Int->LB->Ca
|0,_,_,_=>none
|q+1,o,k,w=>Xh (Wo (Hr VV b a g h f n m q) h b f a g n m) (GO VV b a g) b a g h f n m o k w
def aX VV b a g h f n m:=Hr VV b a g h f n m Au
def Ww(j44:Int->Int-> (List (Int×Int×UInt64×UInt64×Unit))->LB->Int->Int->LB->Ca)(j52:Int->LB->Ca)(b:LU)(a g f:Int)(u:List (Int×Int×UInt64×UInt64×Unit))(v:Int)(p:LB):Ca:=
if(Cj f (Ac b))then
(Am b f).bind λ_=>
(Am b f).bind λak=>
(Jg (Bg a 0)).bind λ_=>
(Am u (Ha f a)).bind λ_=>
(Am u (Ha f a)).bind λaa=>
(mM ([]:LB) 0 aa.1 aa.2.1 aa.2.2.1 aa.2.2.2.1 ak).bind λ(m,h,al,am,an,ao,ad)=>
if(Bg ad 0)then
some (([]:LB),ad)
else
(Jg (Bg a 0)).bind λ_=>
(Am u (Ha f a)).bind λ_=>
(Mv u (Ha f a) (al,am,an,ao,())).bind λn=>
j44 h f n m 0 v p
else
j52 v p
def Jl:Nat->Int-> (List (Int×Int×UInt64×UInt64×Unit))->Int->LB->Ca
|0,_,_,_,_=>none
|z+1,c,d,e,i=>Ww (aX (Jl z) Z Bq3 Bq4) GB Z Bq3 Bq4 c d e i
def ZD b a g:=Jl b a g Au
def JJ(j27:LU->Int->Int->Int-> (List (Int×Int×UInt64×UInt64×Unit))->Int->LB->Ca)(a g:Int)(ap aq:LX):Ca:=
(JW a g ap aq).bind λ(b,ae)=>
if(Bg ae 0)then
some (([]:LB),ae)
else
(LH).bind λar=>
j27 b a g 0 ar 0 ([]:LB)
def Nt:=JJ ZD
def Xd(b f g:Int)(h k:LB)(m:LX)(n:List LB)(o:LB)(p:Bool)(u a:Int):Option (Int×Int×Int×LB×LB×LX×(List LB)×LB×Bool×Int×Int):=
some (b,f,g,h,([]:LB),([]:LX),([]:List LB),([]:LB),false,a,a)
abbrev Ch:=Option (Int×Int×Int×LB×LB×LX×(List LB)×LB×Bool×Int×Int)
def jD:Ch:=
some (z,d,j,e,X,Brc,Bry,Bsp,C,D,0)
def QU:=jD
def BY(vF:Int->LB->LX-> (List LB)->Ch)(p:Int)(n:LB)(a b g:Int)(f:LB)(h:Bool)(k o:Int)(m:LB)(u:Int)(ao:LB)(ap:LX)(aq:List LB):Ch:=
vF (Ae u 1) ao ap aq
def Px vF:=BY vF
def CA(j24:Int->LB->LX-> (List LB)->Ch)(p:Int)(n:LB)(a b g:Int)(f:LB)(h:Bool)(k o:Int)(m:LB)(u ad:Int)(ae:LB)(af:LX)(ag:List LB):Ch:=
if(Bg ad 0)then
(Xd a b g f ae af ag m h k ad).bind λ(ar,au,av,aw,ax,ay,az,ba,bb,bc,bd)=>
some (ar,au,av,aw,ax,ay,az,ba,bb,bc,bd)
else
j24 u ae af ag
def Jz vF p n a b g f h k o m:=CA (Px vF p n a b g f h k o m) p n a b g f h k o m
def P1(j23:Int->Int->LB->LX-> (List LB)->Ch)(p:Int)(n:LB)(a b g:Int)(f:LB)(h:Bool)(k o:Int)(m:LB)(u:Int)(ab:LX)(v:List LB)(be:Int):Ch:=
j23 u be ([]:LB) ab v
def X2 vF p n a b g f h k o m:=P1 (Jz vF p n a b g f h k o m) p n a b g f h k o m
def kL(j23:Int->Int->LB->LX-> (List LB)->Ch)(p:Int)(n:LB)(a b g:Int)(f:LB)(h:Bool)(k o:Int)(m:LB)(u:Int)(ac:List LB):Ch:=
j23 u 0 ([]:LB) ([]:LX) ac
def jN vF p n a b g f h k o m:=kL (Jz vF p n a b g f h k o m) p n a b g f h k o m
def jG(j23:Int->Int->LB->LX-> (List LB)->Ch)(j21:Int->LX-> (List LB)->Int->Ch)(j22:Int-> (List LB)->Ch)(p:Int)(n:LB)(a b g:Int)(f:LB)(h:Bool)(k o:Int)(m:LB)(u:Int)(aa:LB)(w:LX)(v:List LB):Ch:=
(Nb b aa).bind λ(bf,ah)=>
if(Bg ah 0)then
j23 u ah aa w v
else
(Dt w bf).bind λab=>
if(Cj (Ac ab) (Bi o a))then
j23 u 0 ([]:LB) ab v
else
(Oa f).bind λ(bg,ai)=>
if(Bg ai 0)then
j21 u ab v ai
else
(Nt a b bg ab).bind λ(bh,aj)=>
if(Bg aj 0)then
j21 u ab v aj
else
(Dt v ([bh]:List LB)).bind λac=>
j22 u ac
def PC vF p n a b g f h k o m:=jG (Jz vF p n a b g f h k o m) (X2 vF p n a b g f h k o m) (jN vF p n a b g f h k o m) p n a b g f h k o m
def CO(j24:Int->LB->LX-> (List LB)->Ch)(j23:Int->Int->LB->LX-> (List LB)->Ch)(j20:Int->LB->LX-> (List LB)->Ch)(j26:Int->Int->Int->LB->Bool->Int->LB->LX-> (List LB)->LB->Ch)(p:Int)(n:LB)(a b g:Int)(f:LB)(h:Bool)(k o:Int)(m:LB)(u:Int)(y:LB)(w:LX)(v:List LB):Ch:=
if(Cj u (Ac n))then
(Am n u).bind λbi=>
(Dt y ([bi]:LB)).bind λaa=>
if(Cj (Ac aa) p)then
j24 u aa w v
else
(Xy a b g f aa w v m h k o).bind λbj=>
(Xi a b g f aa w v m h k (Ae (Ac v) 1) (Ae bj 1)).bind λbk=>
if(!bk)then
j23 u 18 aa w v
else
j20 u aa w v
else
j26 a b g f h k y w v m
def Jo:Nat->Int->LB->LX-> (List LB)->Ch
|0,_,_,_,_=>none
|c+1,d,i,j,A=>CO (Px (Jo c) z e B F J L C D Bq5 X) (Jz (Jo c) z e B F J L C D Bq5 X) (PC (Jo c) z e B F J L C D Bq5 X) QU z e B F J L C D Bq5 X d i j A
def kD p n a b g f h k o m:=Jo p n a b g f h k o m Au
def VS(j14:Int->LB->Int->Int->Int->LB->Bool->Int->Int->LB->Int->LB->LX-> (List LB)->Ch)(bl bm bn:Int)(bp bq:LB)(br:LX)(bs:List LB)(bt:LB)(bu:Bool)(bv:Int)(n:LB):Ch:=
(EV bl bm bn bp bq br bs bt bu bv).bind λ(a,b,g,f,ak,al,am,m,h,k,o,an)=>
if(Bg an 0)then
some (a,b,g,f,ak,al,am,m,h,k,an)
else
(JM a b).bind λp=>
j14 p n a b g f h k o m 0 ak al am
def XJ:=VS kD
def RQ:Option (Int×Int):=
if(Dx (Ac c) 64)then
some (0,2)
else
if(geq (Ac c) 0)then
some (1,0)
else
some (2,0)
def PO(b f a g h:Int):Option Bool:=
some (((((((geq b 1)||(geq b 2))&&(Dx f 0))&&(T5 f 6))&&(Dx g 0))&&(T5 g 1048576))&&(Dx h 0))
def Vo:=PO
def PB(j2:Int->Int->Int->Int->Int->Option Bool)(b f a g h:Int):Option Bool:=
if(geq a 8)then
if(geq a 8)then
j2 b f a g h
else
some false
else
if(geq a 16)then
if(geq a 16)then
j2 b f a g h
else
some false
else
if(geq a 24)then
j2 b f a g h
else
some false
def Th:=PB Vo
def UE(k a m f b:Int):Option Bool:=
(Jg (Bg a 0)).bind λ_=>
if(Dx b (Bq 4000 a))then
some false
else
(Ki f b).bind λ(g,h)=>
some ((geq h 0)&&(T5 g 1000))
def Pg:Option Int:=
(Th z d j I O).bind λc=>
if(!c)then
some 8
else
(UE z d j I O).bind λe=>
if(!e)then
some 8
else
some 0
abbrev Qt:=Option (LB×Int)
def oW:Qt:=
(BW c).bind λ(z,d)=>
(Qf (Ad z:UInt64) 4).bind λ(e,i)=>
(Dt c e).bind λj=>
some (j,0)
def FO:=oW
def FM(j6:LB->Qt)(Rb:Int->LB->Qt)(b f g h k m:Int)(a:LB):Qt:=
if(Cj m 5)then
(Am ([b,f,g,h,k]:LI) m).bind λw=>
(Am ([(2:Int),(2:Int),(2:Int),(4:Int),(4:Int)]:LI) m).bind λy=>
(Qf (Ad w:UInt64) y).bind λ(n,v)=>
(Dt a n).bind λo=>
Rb (Ae m 1) o
else
j6 a
def Oh:Nat->Int->LB->Qt
|0,_,_=>none
|c+1,e,i=>FM FO (Oh c) z d j I O e i
def pH b f g h k:=Oh b f g h k Au
def VT(j4:Int->Int->Int->Int->Int->Int->LB->Qt)(b f g h k:Int):Qt:=
(Pg b f g h k).bind λp=>
if(Bg p 0)then
some (([]:LB),p)
else
j4 b f g h k 0 ([(84:UInt8),(84:UInt8),(65:UInt8),(49:UInt8)]:LB)
def LD:=VT pH
def U1:Option (UInt64×Int):=
if(Dx (Ac c) 64)then
some (0,2)
else
(jQ c).bind λ(z,d)=>
some (z,0)
def CJ:Option (LB×Int):=
(U1 c).bind λ(z,d)=>
if(Bg d 0)then
some (([]:LB),d)
else
(Qf z 8).bind λ(e,i)=>
some (e,i)
def Acs:Option Int:=
some 0
def vE:=Acs
def MU:Option Int:=
if(Cj y8 (Ac Brf))then
(Am Brf y8).bind λz=>
if((Cj z 5)||(Dx z Brd))then
some 8
else
Brb (Aq Brd z) (Ae y8 1)
else
Bq9
def Vj:Nat->Int->Int->Option Int
|0,_,_=>none
|z+1,c,d=>MU vE (Vj z) E c d
def tE a:=Vj a Au
def LZ(j4:LI->Int->Int->Option Int)(a:LI):Option Int:=
if((geq (Ac a) 0)||(Dx (Ac a) 1000))then
some 8
else
j4 a 100000 0
def Td:=LZ tE
abbrev Iz:=Option (LB×Int)
def oh:Iz:=
some (c,0)
def qd:=oh
def oX(j14:LB->Iz)(b:LB):Iz:=
(BW b).bind λ(m,u)=>
(Qf (Ad m:UInt64) 4).bind λ(n,v)=>
(Dt b n).bind λg=>
j14 g
def UT:=oX qd
def pO(bk8:Int->LB->Iz)(a:LI)(f:Int)(h:LB):Iz:=
bk8 (Ae f 1) h
def VC bk8:=pO bk8
def MT(j11:Int->LB->Iz)(j13:LB->Iz)(a:LI)(f:Int)(b:LB):Iz:=
if(Cj f (Ac a))then
(Am a f).bind λo=>
(Qf (Ad o:UInt64) 4).bind λ(p,w)=>
(Dt b p).bind λh=>
j11 f h
else
j13 b
def Up:Nat->Int->LB->Iz
|0,_,_=>none
|z+1,c,d=>MT (VC (Up z) E) UT E c d
def Adu a:=Up a Au
def ZW(j8:LI->Int->LB->Iz)(a:LI):Iz:=
(Td a).bind λk=>
if(Bg k 0)then
some (([]:LB),k)
else
j8 a 0 ([]:LB)
def IC:=ZW Adu
abbrev Ko:=Option (LB×Int)
def FF(f g h:Int)(b k:LB)(m:LX)(a:List LB)(n:LB)(o:Bool)(p:Int)(u:LB)(v:LI):Ko:=
(IC v).bind λ(aa,y)=>
if(Bg y 0)then
some (([]:LB),y)
else
(
(Dt u aa).bind λab=>
(Fi a).bind λac=>
(Dt ab ac).bind λad=>
some (ad,0))
def Xp:=FF
def FG(j8:Int->Int->Int->LB->LB->LX-> (List LB)->LB->Bool->Int->LB->LI->Ko)(qm:Int->LI->Ko)(a:List LB)(f g h:Int)(b k:LB)(m:LX)(n:LB)(o:Bool)(p:Int)(u:LB)(w:Int)(v:LI):Ko:=
if(Cj w (Ac a))then
(Am a w).bind λai=>
(Dt v ([(Ac ai)]:LI)).bind λaj=>
qm (Ae w 1) aj
else
j8 f g h b k m a n o p u v
def Sc:Nat->Int->LI->Ko
|0,_,_=>none
|z+1,c,d=>FG Xp (Sc z) l5 o8 Brh Br1 Brm Br2 Brc Br3 Bsm Bsn Bso c d
def pz a f g h b k m n o p u:=Sc a f g h b k m n o p u Au
def FQ(j6:(List LB)->Int->Int->Int->LB->LB->LX->LB->Bool->Int->LB->Int->LI->Ko)(f g h:Int)(b k:LB)(m:LX)(a:List LB)(n:LB)(o:Bool)(p:Int)(u:LB):Ko:=
j6 a f g h b k m n o p u 0 ([]:LI)
def UO:=FQ pz
def UQ(j5:Int->Int->Int->LB->LB->LX-> (List LB)->LB->Bool->Int->LB->Ko)(f g h:Int)(b k:LB)(m:LX)(a:List LB)(n:LB)(o:Bool)(p ak:Int):Ko:=
(RQ b).bind λ(al,ae)=>
if(Bg ae 0)then
some (([]:LB),ae)
else
(LD al f g h ak).bind λ(af,ag)=>
if(Bg ag 0)then
some (([]:LB),ag)
else
if(b !=([]:LB))then
(CJ b).bind λ(am,ah)=>
if(Bg ah 0)then
some (([]:LB),ah)
else
(Dt af am).bind λan=>
j5 f g h b k m a n o p an
else
j5 f g h b k m a n o p af
def YE:=UQ UO
abbrev Qb:=Option (Int×Int×Int×LB×LB×LX×(List LB)×LB×Bool×Int×Int)
def JN:Qb:=
(YE d j I e X Brc Bry Bq6 C D z).bind λ(c,i)=>
if(Bg i 0)then
(Xd d j I e X Brc Bry Bq6 C D i).bind λ(A,B,E,F,G,J,L,M,N,O,P)=>
some (A,B,E,F,G,J,L,M,N,O,P)
else
some (d,j,I,e,([]:LB),([]:LX),([]:List LB),c,true,0,0)
def Zn:=JN
def dU(j4:Int->Int->Int->Int->LB->Bool->Int->LB->LB->LX-> (List LB)->Qb)(o a b g:Int)(f:LB)(k:Bool)(m:Int)(h n:LB)(ad:Int)(ae:LX)(af:List LB):Qb:=
if(Bg ad 0)then
(Xd a b g f h ae af n k m ad).bind λ(au,v,w,av,aw,ax,y,aa,ay,az,ba)=>
some (au,v,w,av,aw,ax,y,aa,ay,az,ba)
else
j4 o a b g f k m h n ae af
def eJ:=dU Zn
def fO(j3:Int->Int->Int->Int->LB->Bool->Int->LB->LB->Int->LX-> (List LB)->Qb)(j4:Int->Int->Int->Int->LB->Bool->Int->LB->LB->LX-> (List LB)->Qb)(bb bc bd:Int)(be bf:LB)(bg:LX)(bh:List LB)(bi:LB)(bj:Bool)(bk:Int):Qb:=
(EV bb bc bd be bf bg bh bi bj bk).bind λ(a,b,g,f,h,p,u,n,k,m,bl,ag)=>
if(Bg ag 0)then
some (a,b,g,f,h,p,u,n,k,m,ag)
else
(Xy a b g f h p u n k m bl).bind λo=>
if((Dx (Ac h) 0)||(geq o 0))then
(Xd a b g f h p u n k m 24).bind λ(bm,bn,bp,bq,br,bs,bt,bu,bv,bw,bx)=>
some (bm,bn,bp,bq,br,bs,bt,bu,bv,bw,bx)
else
if(Dx (Ac p) 0)then
(Oa f).bind λ(bz,ah)=>
if(Bg ah 0)then
j3 o a b g f k m h n ah p u
else
(Nt a b bz p).bind λ(da,ai)=>
if(Bg ai 0)then
j3 o a b g f k m h n ai p u
else
(Dt u ([da]:List LB)).bind λdb=>
j3 o a b g f k m h n 0 ([]:LX) db
else
j4 o a b g f k m h n p u
def JF:=fO eJ Zn
abbrev Jp:=Option (LB×Int)
def dR(aw bf bg bh:Int)(bi:LB)(bj:Bool)(bk:Int)(bl:LB)(bm:LX)(bn:List LB)(bc:LB):Jp:=
if(Bg aw 0)then
some (([]:LB),aw)
else
some (bc,0)
def MJ:=dR
def fS(j6:Int->Int->Int->Int->LB->Bool->Int->LB->LX-> (List LB)->LB->Jp)(w a y aa ab:Int)(ac:LB)(ad:Bool)(ae b f g:Int)(h k:LB)(m:LX)(n:List LB)(o:LB)(p:Bool)(u:Int)(af:LB)(ag:LX)(ah:List LB)(ai:LB):Jp:=
j6 w y aa ab ac ad ae af ag ah ai
def eQ:=fS MJ
def dG(j6:Int->Int->Int->Int->LB->Bool->Int->LB->LX-> (List LB)->LB->Jp)(j5:Int->Int->Int->Int->Int->LB->Bool->Int->Int->Int->Int->LB->LB->LX-> (List LB)->LB->Bool->Int->LB->LX-> (List LB)->LB->Jp)(v a aj ak al:Int)(am:LB)(an:Bool)(ao b f g:Int)(h k:LB)(m:LX)(n:List LB)(o:LB)(p:Bool)(u:Int)(ap:LB)(aq:LX)(ar:List LB)(au:LB):Jp:=
if(Bg v 0)then
j6 v 0 0 0 ([]:LB) false 0 ([]:LB) ([]:LX) ([]:List LB) ([]:LB)
else
(JF aj ak al am ap aq ar au an ao).bind λ(y,aa,ab,ac,af,ag,ah,ai,ad,ae,w)=>
j5 w a y aa ab ac ad ae b f g h k m n o p u af ag ah ai
def fH:=dG MJ eQ
def eK(j4:Int->Int->Int->Int->Int->LB->Bool->Int->Int->Int->Int->LB->LB->LX-> (List LB)->LB->Bool->Int->LB->LX-> (List LB)->LB->Jp)(ax av ay:Int)(az:LX)(bd:LB):Jp:=
(Cl ax av ay az).bind λba=>
if(Bg ba 0)then
some (([]:LB),ba)
else
(Jy av az).bind λ(be,bb)=>
if(Bg bb 0)then
some (([]:LB),bb)
else
(eW ax av ay bd).bind λ(b,f,g,h,k,m,n,o,p,u,a)=>
if(Bg a 0)then
some (([]:LB),a)
else
(XJ b f g h k m n o p u be).bind λ(aj,ak,al,am,ap,aq,ar,au,an,ao,v)=>
j4 v a aj ak al am an ao b f g h k m n o p u ap aq ar au
def Zz:=eK fH
def eX:Option (LB×LB×Int×Int×Int×Int×Int×LI×Int×LB×Bool×Int×Int):=
if(Dx (Ac c) 64)then
some (([]:LB),([]:LB),0,0,0,0,0,([]:LI),0,([]:LB),false,0,2)
else
some (c,([]:LB),0,0,0,0,0,([]:LI),0,([]:LB),false,0,0)
def Ir:Option (LB):=
(
(Dt ([]:LB) c).bind λz=>
some z)
def Hq:Option (LI):=
(
(Dt ([]:LI) E).bind λz=>
some z)
def Es:Option (LB×LB×Int×Int×Int×Int×Int×LI×Int×LB×Bool×Int):=
(Ir e).bind λz=>
(Ir L).bind λd=>
(Hq P).bind λi=>
some (c,z,B,F,J,T,U,i,R,d,C,D)
def VH:Option (UInt64×UInt64):=
some ((Ae (Ae (Bi (Cw A (GI.toZ (32:UInt64)).toNat) (Cw Y (GI.toZ (32:UInt64)).toNat)) (Cw (Ae (Bi (Cw A (GI.toZ (32:UInt64)).toNat) (Ez Y 4294967295)) (Cw (Bi (Ez A 4294967295) (Ez Y 4294967295)) (GI.toZ (32:UInt64)).toNat)) (GI.toZ (32:UInt64)).toNat)) (Cw (Ae (Ez (Ae (Bi (Cw A (GI.toZ (32:UInt64)).toNat) (Ez Y 4294967295)) (Cw (Bi (Ez A 4294967295) (Ez Y 4294967295)) (GI.toZ (32:UInt64)).toNat)) 4294967295) (Bi (Ez A 4294967295) (Cw Y (GI.toZ (32:UInt64)).toNat))) (GI.toZ (32:UInt64)).toNat)),(Bi A Y))
def RN:Option (UInt64×UInt64):=
(VH A Y).bind λ(z,c)=>
some (z,c)
def Rq:Option (LI):=
some E
def Lu:=Rq
def Ja(j10:LI->Option (LI))(bk8:Int->LI->Option (LI))(b:Int)(a:LI):Option (LI):=
if(Cj b (Ac a))then
(
(jT (Ac a) b (Ac a)).bind λ_=>
(jT (Ac a) 0 b).bind λ_=>
bk8 (Ae b (bN ((Ac a)-b) (dB a 0 (b-(0:Int))).length)) (Zx a b ((Ac a)-b) (dB a 0 (b-(0:Int)))))
else
j10 a
def Gg:Nat->Int->LI->Option (LI)
|0,_,_=>none
|q+1,b,a=>Ja Lu (Gg q) b a
def EX:=Gg Au
def Tt:Option (LI):=
(mkI (Ad Br7:Int) (0:Int)).bind λz=>
(Jg (geq (Ad Br7:Int) (Ad Br7:Int))).bind λ_=>
Bss (bN (Ac z) Bsf.length) (WZ z Bsf)
def EP:=Tt EX
def Ti(j7:LI->UInt64->Option (LI))(f:LI)(h:Int):Option (LI):=
(RN (Ad (Ac f):UInt64) (Ad h:UInt64)).bind λ(m,g)=>
if((Dx m 0)||(Dx g 9223372036854775807))then
none
else
j7 f g
def EY:=Ti EP
def Tp(j6:LI->Int->Option (LI))(f:LI)(h:Int):Option (LI):=
if(Cj h 0)then
none
else
j6 f h
def Rl:=Tp EY
def cZ:Option (LI):=
some E
def DB:=cZ
def Ig(j16:LI->Option (LI))(vF:Int->LI->Option (LI))(a:List LI)(g:Int)(f:LI):Option (LI):=
if(Cj g (Ac a))then
(Am a g).bind λn=>
(Dt f n).bind λo=>
vF (Ae g 1) o
else
j16 f
def Fq:Nat->Int->LI->Option (LI)
|0,_,_=>none
|z+1,c,d=>Ig DB (Fq z) Br8 c d
def Ru a:=Fq a Au
def Rr(j14:(List LI)->Int->LI->Option (LI))(a:List LI)(p:LI):Option (LI):=
j14 a 0 p
def Rv:=Rr Ru
def Rs(j13:(List LI)->LI->Option (LI))(b:Int)(a:List LI):Option (LI):=
if(Dx (Aq b (Aq (0:Int) (0:Int))) 0)then
(jT 0 0 0).bind λ_=>
(mkI (Aq b (Aq (0:Int) (0:Int))) (0:Int)).bind λu=>
(Dt ([]:LI) u).bind λk=>
(jT (Ac k) 0 0).bind λ_=>
j13 a (dB k 0 ((0:Int)-(0:Int)))
else
j13 a ([]:LI)
def CZ:=Rs Rv
def Rw(j12:Int-> (List LI)->Option (LI))(a:List LI)(b:Int):Option (LI):=
if(Cj b 0)then
none
else
j12 b a
def CY:=Rw CZ
def Iy(j11:(List LI)->Int->Option (LI))(bk9:Int->Int->Option (LI))(a:List LI)(b h:Int):Option (LI):=
if(Cj h (Ac a))then
(Am a h).bind λm=>
if(Cj (Ae b (Ac m)) 0)then
none
else
bk9 (Ae b (Ac m)) (Ae h 1)
else
j11 a b
def Ge:Nat->Int->Int->Option (LI)
|0,_,_=>none
|z+1,c,d=>Iy CY (Ge z) Br8 c d
def EK a:=Ge a Au
def Tm(j9:(List LI)->Int->Int->Option (LI))(a:List LI):Option (LI):=
j9 a 0 0
def Re:=Tm EK
def aW:Option (LI):=
(Re ([E,l9]:List LI)).bind λz=>
some z
def AI:Option (LI×Int):=
(Ki z d).bind λ(c,e)=>
if(Bg e 0)then
some (([]:LI),e)
else
(Ph z).bind λ(i,j)=>
(Rl ([i]:LI) (Aq c 1)).bind λA=>
(aW A ([(Aq d (Bi (Aq c 1) i))]:LI)).bind λB=>
some (B,0)
def Eb:Option (LI×Int):=
(Pg z d j I O).bind λc=>
if(Bg c 0)then
some (([]:LI),c)
else
(AI I O).bind λ(e,i)=>
some (e,i)
def Qp(a f g h k:Int)(b:LB):Option Int:=
if((b==([]:LB)) !=(geq a 1))then
some 26
else
some 0
def oR(y:Int)(o p:LB)(h b f k m:Int)(g:LI)(a:Int)(n:LB)(u:Bool)(v:Int):Option Bool:=
some (T5 (Ac n) y)
def VJ:=oR
def FB(j8:Int->LB->LB->Int->Int->Int->Int->Int->LI->Int->LB->Bool->Int->Option Bool)(qm:Int->Int->Option Bool)(w:LI)(o p:LB)(h b f k m:Int)(g:LI)(a:Int)(n:LB)(u:Bool)(v y aa:Int):Option Bool:=
if(Cj aa (Ac w))then
(Am w aa).bind λac=>
qm (Ae y (Bq (Bi (Bi ac b) f) 8)) (Ae aa 1)
else
j8 y o p h b f k m g a n u v
def Sa:Nat->Int->Int->Option Bool
|0,_,_=>none
|z+1,c,d=>FB VJ (Sa z) E e p8 B F J T U P R L C D c d
def pN w o p h b f k m g a n u v:=Sa w o p h b f k m g a n u v Au
def VI(j6:LI->LB->LB->Int->Int->Int->Int->Int->LI->Int->LB->Bool->Int->Int->Int->Option Bool)(o p:LB)(h b f k m:Int)(g:LI)(a:Int)(n:LB)(u:Bool)(v:Int)(ab:LI):Option Bool:=
if(geq (Ac g) 0)then
some ((geq a 0)&&(geq (Ac n) 0))
else
(Td g).bind λad=>
if((((Bg ad 0)||(Bg (Ac g) (Ac ab)))||(Cj a 0))||(Dx a (Ac ab)))then
some false
else
(Br ab 0 a).bind λw=>
j6 w o p h b f k m g a n u v 0 0
def pK:=VI pN
def VO(j5:LB->LB->Int->Int->Int->Int->Int->LI->Int->LB->Bool->Int->LI->Option Bool)(o p:LB)(h b f k m:Int)(g:LI)(a:Int)(n:LB)(u:Bool)(v:Int):Option Bool:=
if((geq h 0)&&((geq b 0)&&((geq f 0)&&((geq k 0)&&((geq m 0)&&true)))))then
some (((geq (Ac g) 0)&&(geq a 0))&&(geq (Ac n) 0))
else
(Eb h b f k m).bind λ(ab,ae)=>
if(Bg ae 0)then
some false
else
(Qp h b f k m o).bind λaf=>
if(Bg af 0)then
some false
else
j5 o p h b f k m g a n u v ab
def BT:=VO pK
def Fp:Option Bool:=
some (c==e)
def Oj:Option Bool:=
if(Mk (Ac c) (Ac e))then
(Br c 0 (Ac e)).bind λz=>
(Fp z e).bind λd=>
some d
else
some false
abbrev Oo:=Option (Int×Int)
def S0:Oo:=
some (z,0)
def kM:=S0
def CB(j6:Int->Oo)(Rb:Int->Int->Oo)(a:LB)(b f:Int):Oo:=
if(Cj f (Ac a))then
(Am a f).bind λg=>
if(Dx g 127)then
some (0,12)
else
Rb (zZ (Du b (GI.toZ (7:UInt64)).toNat) (Ad g:Int)) (Ae f 1)
else
j6 b
def Qa:Nat->Int->Int->Oo
|0,_,_=>none
|z+1,d,e=>CB kM (Qa z) c d e
def iZ a:=Qa a Au
def QP(j4:LB->Int->Int->Oo)(a:LB):Oo:=
if(Bg (Ac a) 4)then
some (0,2)
else
j4 a 0 0
def RG:=QP iZ
abbrev Lc:=Option (Int×Int)
def oZ:Lc:=
if(Dx Bq0 4000)then
some (0,4)
else
if(Cj (Ac c) Bq0)then
some (0,24)
else
if(geq Brv 16)then
(Br c (Aq Bq0 10) Bq0).bind λz=>
(Br z 0 3).bind λd=>
if(d !=([51,68,73]:LB))then
some (0,12)
else
(Br z 3 (Ac z)).bind λe=>
(Br c 3 10).bind λi=>
(Fp e i).bind λj=>
if(!j)then
some (0,12)
else
some (Bq0,0)
else
some (Bq0,0)
def UY:=oZ
def pJ(j8:LB->UInt8->Int->Lc)(a:LB)(g:Int)(b:UInt8):Lc:=
if(geq b 16)then
j8 a b (Ae (Ae g 10) 10)
else
j8 a b (Ae g 10)
def VR:=pJ UY
def oP(j7:LB->Int->UInt8->Lc)(a:LB)(g:Int)(b:UInt8)(m:Bool):Lc:=
if m then
some (0,12)
else
j7 a g b
def UR:=oP VR
def VQ(j6:LB->Int->UInt8->Bool->Lc)(a:LB)(f b:UInt8):Lc:=
(Br a 6 10).bind λaa=>
(RG aa).bind λ(g,ab)=>
if(Bg ab 0)then
if true then
j6 a g b true
else
if(geq b 0)then
j6 a g b (!((Mk f 2)&&(T5 f 4)))
else
if(geq b 16)then
j6 a g b (!(geq f 4))
else
j6 a g b (!false)
else
(Am a 4).bind λac=>
if(Bg ac 0)then
j6 a g b true
else
if(geq b 0)then
j6 a g b (!((Mk f 2)&&(T5 f 4)))
else
if(geq b 16)then
j6 a g b (!(geq f 4))
else
j6 a g b (!false)
def VA:=VQ UR
def FD(j5:LB->UInt8->UInt8->Lc)(a:LB):Lc:=
(Oj a ([(73:UInt8),(68:UInt8),(51:UInt8)]:LB)).bind λn=>
if(!n)then
some (0,6)
else
if(Cj (Ac a) 10)then
some (0,24)
else
(Am a 3).bind λf=>
(Am a 5).bind λb=>
(
(
(
j5 a f b)))
def XI:=FD VA
abbrev GR:=Option (UInt64×Int)
def Akf:GR:=
some (A,0)
def jg:=Akf
def eL(j6:UInt64->GR)(Rb:UInt64->Int->GR)(a:LB)(f:UInt64)(b:Int):GR:=
if(Cj b (Ac a))then
(Am a b).bind λg=>
(Jg (Mk (Bi 8 b) 0)).bind λ_=>
Rb (zZ f (Du (Ad g:UInt64) (GI.toZ (Bi 8 b)).toNat)) (Ae b 1)
else
j6 f
def HC:Nat->UInt64->Int->GR
|0,_,_=>none
|z+1,d,e=>eL jg (HC z) c d e
def lg a:=HC a Au
def vB(j4:LB->UInt64->Int->GR)(a:LB):GR:=
if((Cj (Ac a) 1)||(Dx (Ac a) 8))then
some (0,2)
else
j4 a 0 0
def rY:=vB lg
def HZ:Option (UInt64×Int):=
if(((Cj d 1)||(Dx d 8))||(Cj z 0))then
some (0,2)
else
if(Dx z (Aq (Ac c) d))then
some (0,24)
else
(Br c z (Ae z d)).bind λe=>
(rY e).bind λ(i,j)=>
some (i,j)
def Ac3:Option (LB):=
some c
def zR:=Ac3
def mX:Option (LB):=
if(Cj Bri (Ac ([(2000:UInt64),(Ad (Ae l7 32):UInt64),(Ad Brp:UInt64),Bre,(0:UInt64),(0:UInt64)]:LQ)))then
(Am ([(2000:UInt64),(Ad (Ae l7 32):UInt64),(Ad Brp:UInt64),Bre,(0:UInt64),(0:UInt64)]:LQ) Bri).bind λ_=>
(Am ([(2000:UInt64),(Ad (Ae l7 32):UInt64),(Ad Brp:UInt64),Bre,(0:UInt64),(0:UInt64)]:LQ) Bri).bind λz=>
(Qf z 4).bind λ(c,d)=>
(Dt Bsc c).bind λe=>
Bro (Ae Bri 1) e
else
Brn Bsc
def GX:Nat->Int->LB->Option (LB)
|0,_,_=>none
|c+1,e,i=>mX zR (GX c) z d A e i
def Aam a b f:=GX a b f Au
def B8(j4:Int->Int->UInt64->Int->LB->Option (LB))(a b:Int)(f:UInt64):Option (LB):=
j4 a b f 0 ([(65:UInt8),(80:UInt8),(69:UInt8),(84:UInt8),(65:UInt8),(71:UInt8),(69:UInt8),(88:UInt8)]:LB)
def vV:=B8 Aam
def YM:Option (Int×Int×Bool):=
(HZ c 12 4).bind λ(z,d)=>
(HZ c 16 4).bind λ(e,i)=>
if(((Cj z 32)||(Dx z 3032))||(Dx e 1000))then
some (0,0,false)
else
(vV (Aq (Ad z:Int) 32) (Ad e:Int) A).bind λj=>
(Fp c j).bind λB=>
some ((Aq (Ad z:Int) 32),(Ad e:Int),B)
def wA:Option (Int×Int):=
(Oj c ([(65:UInt8),(80:UInt8),(69:UInt8),(84:UInt8),(65:UInt8),(71:UInt8),(69:UInt8),(88:UInt8)]:LB)).bind λz=>
if(!z)then
some (0,6)
else
if(Cj (Ac c) 32)then
some (0,24)
else
(Br c 0 32).bind λd=>
(YM d 2684354560).bind λ(e,i,j)=>
if(!j)then
some (0,12)
else
if(Cj (Ac c) (Ae e 64))then
some (0,24)
else
(Br c (Aq (Ae e 64) 32) (Ae e 64)).bind λA=>
(vV e i 2147483648).bind λB=>
(Fp A B).bind λC=>
if(!C)then
some (0,12)
else
some ((Ae e 64),0)
def AN:Option (Int×Int):=
(XI c).bind λ(z,d)=>
if(Bg d 6)then
some (z,d)
else
(wA c).bind λ(e,i)=>
some (e,i)
def Yd(b:List UInt8):Nat->Int->Option (Int×Int)
  |0,_=>none
  |q+1,x=>Option.bind (Br b x (Ac b)) λs=>Option.bind (AN s) λr=>
    if geq r.2 (6:Int)=true then some (x,0)
    else if(geq r.2 (0:Int)&&Dx (Ae x r.1) (4000:Int))=true then some (0,4)
    else if Bg r.2 (0:Int)=true then some (0,r.2)
    else Yd b q (Ae x r.1)
def Ju(b:List UInt8):Option (Int×Int):=Yd b Au 0
def Ao:Option (Bool×Int):=
some (false,z)
def Ia:Option Bool:=
if(Mk (Ac c) (Ac e))then
(Br c 0 (Ac e)).bind λz=>
some (z==e)
else
some false
def Kl:Option Bool:=
(Ia c e).bind λz=>
some z
def ou:Option Bool:=
some false
def oY:=ou
def Xm(j6:Option Bool)(Rb:Int->Option Bool)(a:LB)(b:Int):Option Bool:=
if(Cj b 2)then
(Am ([([73,68,51]:LB),([65,80,69,84,65,71,69,88]:LB)]:List LB) b).bind λf=>
if(Cj (Ac a) (Ac f))then
(Kl f a).bind λg=>
if g then
some true
else
Rb (Ae b 1)
else
Rb (Ae b 1)
else
j6
def Lp:Nat->Int->Option Bool
|0,_=>none
|z+1,d=>Xm oY (Lp z) c d
def pA a:=Lp a Au
def VM(j4:LB->Int->Option Bool)(a:LB):Option Bool:=
j4 a 0
def Tf:=VM pA
abbrev Tu:=Option (Int×Int×Int×Int×Int×Int)
def uN:Tu:=
(Am E 0).bind λ_=>
(Am E 0).bind λz=>
(Am E 1).bind λ_=>
(Am E 1).bind λc=>
(Am E 2).bind λ_=>
(Am E 2).bind λd=>
(Am E 3).bind λ_=>
(Am E 3).bind λe=>
(Am E 4).bind λ_=>
(Am E 4).bind λi=>
(Th z c d e i).bind λj=>
if(!j)then
some (0,0,0,0,0,12)
else
(UE z c d e i).bind λA=>
if(!A)then
some (0,0,0,0,0,4)
else
some (z,c,d,e,i,0)
def JG:=uN
def JI(j6:LI->Tu)(Rb:Int->Int->LI->Tu)(b:LB)(g f:Int)(a:LI):Tu:=
if(Cj f 5)then
(Am ([(2:Int),(2:Int),(2:Int),(4:Int),(4:Int)]:LI) f).bind λh=>
(HZ b g h).bind λ(v,ae)=>
(Am a f).bind λ_=>
(Mv a f (Ad v:Int)).bind λw=>
Rb (Ae g h) (Ae f 1) w
else
j6 a
def Qj:Nat->Int->Int->LI->Tu
|0,_,_,_=>none
|z+1,d,e,i=>JI JG (Qj z) c d e i
def aE b:=Qj b Au
def bQ(j4:LB->Int->Int->LI->Tu)(b:LB):Tu:=
(Br b 0 (Iu 4 (Ac b))).bind λy=>
(Kl ([84,84,65,49]:LB) y).bind λaa=>
if(!aa)then
some (0,0,0,0,0,12)
else
if(Cj (Ac b) 22)then
some (0,0,0,0,0,24)
else
(HZ b 18 4).bind λ(ab,af)=>
(Br b 0 18).bind λac=>
(BW ac).bind λ(ad,ag)=>
if(Bg (Ad ad:UInt64) ab)then
some (0,0,0,0,0,22)
else
j4 b 4 0 (List.replicate 5 (0:Int))
def Nh:=bQ aE
def Pn:Option (Bool×Int):=
(CJ e).bind λ(z,d)=>
if((Bg d 0)||(Bg (Ac c) (Ac z)))then
some (false,2)
else
(Fp c z).bind λi=>
some (i,0)
abbrev Wy:=Option (LI×Int)
def yX:Wy:=
(Td E).bind λz=>
if(Bg z 0)then
some (([]:LI),12)
else
some (E,0)
def QX:=yX
def RF(j6:LI->Wy)(Rb:Int->LI->Wy)(a:LB)(f:LI)(g:Int)(b:LI):Wy:=
if(Cj g (Ac f))then
(HZ a (Bi 4 g) 4).bind λ(k,u)=>
(Am b g).bind λ_=>
(Mv b g (Ad k:Int)).bind λm=>
Rb (Ae g 1) m
else
j6 b
def Ya:Nat->Int->LI->Wy
|0,_,_=>none
|z+1,d,e=>RF QX (Ya z) c E d e
def yE a f:=Ya a f Au
def iH(j4:LB->LI->Int->LI->Wy)(a:LB)(h:Int):Wy:=
if((Cj h 1)||(Dx h 1000))then
some (([]:LI),2)
else
if(Cj (Ac a) (Ae (Bi 4 h) 4))then
some (([]:LI),24)
else
(HZ a (Bi 4 h) 4).bind λ(n,v)=>
(Br a 0 (Bi 4 h)).bind λo=>
(BW o).bind λ(p,w)=>
if(Bg (Ad p:UInt64) n)then
some (([]:LI),22)
else
(mkI h (0:Int)).bind λf=>
(Jg (geq h h)).bind λ_=>
j4 a f 0 f
def GC:=iH yE
def EI(f a b g h:Int):Option (Int×Int):=
some (a,b)
def KS:Option (LB×Int):=
if(Cj (Ac c) 5)then
some (([]:LB),24)
else
if(Dx (Ac c) 41254)then
some (([]:LB),4)
else
(Br c 0 (Aq (Ac c) 4)).bind λz=>
(BW z).bind λ(d,e)=>
if(Bg e 0)then
some (([]:LB),e)
else
(Br c (Aq (Ac c) 4) (Ac c)).bind λi=>
(rY i).bind λ(j,A)=>
if((Bg A 0)||(Bg j (Ad d:UInt64)))then
some (([]:LB),22)
else
(Br c 0 (Aq (Ac c) 4)).bind λB=>
some (B,0)
def Aiy:Option (LB×Int×Int):=
if(Dx (Ac c) 41250)then
some (([]:LB),0,4)
else
(Cb c).bind λz=>
some (z,(Bi 8 (Ac c)),0)
def Anj:Option UInt64:=
some A
def ku:=Anj
def tF(j6:UInt64->Option UInt64)(Rb:UInt64->Int->Option UInt64)(b f:Int)(h:LB)(k:Int)(g:UInt64)(a:Int):Option UInt64:=
if(Cj a f)then
(Am h (Ail (Ae b a) (GI.toZ (3:UInt64)).toNat)).bind λm=>
(Jg (Mk (Ez (Ae b a) 7) 0)).bind λ_=>
(Jg (Mk (Iu (Aq f a) (Aq 8 (Ez (Ae b a) 7))) 0)).bind λ_=>
(Jg (Mk a 0)).bind λ_=>
Rb (zZ g (Du (Ad (Ez (Cw m (GI.toZ (Ez (Ae b a) 7)).toNat) (Aq (Du (1:UInt8) (GI.toZ (Iu (Aq f a) (Aq 8 (Ez (Ae b a) 7)))).toNat) 1)):UInt64) (GI.toZ a).toNat)) (Ae a (Iu (Aq f a) (Aq 8 (Ez (Ae b a) 7))))
else
j6 g
def TF:Nat->UInt64->Int->Option UInt64
|0,_,_=>none
|c+1,i,j=>tF ku (TF c) z d e B i j
def Ak6 b f h k:=TF b f h k Au
def Z2(j4:Int->Int->LB->Int->UInt64->Int->Option UInt64)(h:LB)(k b f:Int):Option UInt64:=
j4 b f h k 0 0
def L9:=Z2 Ak6
abbrev Gq:=Option (LB×Int×Int)
def M1:Gq:=
some (e,z,0)
def mB:=M1
def I2(VV:Int->Int->LB->Gq)(a:Int)(g:LB)(b f h:Int)(u:LB):Gq:=
VV (Ae f 64) h u
def XH VV:=I2 VV
def I4(Aei:UInt64->Int->Int->LB->Gq)(a f:Int)(g:LB)(b:Int)(m n:UInt64)(k h:Int)(w:LB):Gq:=
(Jg (Mk (Iu k (Aq 8 (Ez h 7))) 0)).bind λ_=>
Aei (Cw n (GI.toZ (Iu k (Aq 8 (Ez h 7)))).toNat) (Aq k (Iu k (Aq 8 (Ez h 7)))) (Ae h (Iu k (Aq 8 (Ez h 7)))) w
def K4 Aei:=I4 Aei
def O6(j48:UInt64->Int->Int->LB->Gq)(a f:Int)(g:LB)(b:Int)(m n:UInt64)(k h:Int)(v:LB):Gq:=
(Am v (Aq (Ac v) 1)).bind λ_=>
(Jg (Mk (Iu k (Aq 8 (Ez h 7))) 0)).bind λ_=>
(Jg (Mk (Ez h 7) 0)).bind λ_=>
(Am v (Aq (Ac v) 1)).bind λaa=>
(Am v (Aq (Ac v) 1)).bind λ_=>
Option.bind (Mv v (Aq (Ac v) 1) (zZ aa (Du (Ad (Ez n (Aq (Du (1:UInt64) (GI.toZ (Iu k (Aq 8 (Ez h 7)))).toNat) 1)):UInt8) (GI.toZ (Ez h 7)).toNat))) λw=>
j48 n k h w
def XS Aei a f g b m:=O6 (K4 Aei a f g b m) a f g b m
def XP(j47:UInt64->Int->Int->LB->Gq)(j50:Int->Int->LB->Gq)(a:Int)(g:LB)(b f:Int)(m n:UInt64)(k h:Int)(u:LB):Gq:=
if(Dx k 0)then
if(geq (Ez h 7) 0)then
(Dt u ([(0:UInt8)]:LB)).bind λab=>
j47 n k h ab
else
j47 n k h u
else
j50 f h u
def Sk(VV:Int->Int->LB->Gq)(a:Int)(g:LB)(b f:Int)(m:UInt64):Nat->UInt64->Int->Int->LB->Gq
|0,_,_,_,_=>none
|q+1,n,k,h,u=>XP (XS (Sk VV a g b f m q) a f g b m) (XH VV a g b) a g b f m n k h u
def nU VV a g b f m:=Sk VV a g b f m Au
def nR(j44:Int->UInt64->UInt64->Int->Int->LB->Gq)(j52:Int->LB->Gq)(a:Int)(g:LB)(b f o:Int)(p:LB):Gq:=
if(Cj f a)then
(L9 g b f (Iu 64 (Aq a f))).bind λm=>
j44 f m m (Iu 64 (Aq a f)) o p
else
j52 o p
def BS:Nat->Int->Int->LB->Gq
|0,_,_,_=>none
|c+1,d,i,j=>nR (nU (BS c) z e B) mB z e B d i j
def D7 a g b:=BS a g b Au
def tK(j27:Int->LB->Int->Int->Int->LB->Gq)(g:LB)(b y a:Int):Gq:=
(Le g b).bind λac=>
if(Bg ac 0)then
some (([]:LB),0,8)
else
if(((Cj y 0)||(Dx y a))||(Dx a b))then
some (([]:LB),0,2)
else
j27 a g b y 0 ([]:LB)
def tC:=tK D7
def LO:Option (UInt64×Int):=
(Le c z).bind λe=>
if(Bg e 0)then
some (0,8)
else
if(((Cj j 0)||(Dx j 64))||(Cj d 0))then
some (0,2)
else
if(Dx d (Aq z j))then
some (0,24)
else
(L9 c z d j).bind λi=>
some (i,0)
def If:Option Int:=
if(geq A 0)then
some 64
else
(Am ([(0:UInt8),(1:UInt8),(56:UInt8),(2:UInt8),(57:UInt8),(49:UInt8),(28:UInt8),(3:UInt8),(61:UInt8),(58:UInt8),(42:UInt8),(50:UInt8),(38:UInt8),(29:UInt8),(17:UInt8),(4:UInt8),(62:UInt8),(47:UInt8),(59:UInt8),(36:UInt8),(45:UInt8),(43:UInt8),(51:UInt8),(22:UInt8),(53:UInt8),(39:UInt8),(33:UInt8),(30:UInt8),(24:UInt8),(18:UInt8),(12:UInt8),(5:UInt8),(63:UInt8),(55:UInt8),(48:UInt8),(27:UInt8),(60:UInt8),(41:UInt8),(37:UInt8),(16:UInt8),(46:UInt8),(35:UInt8),(44:UInt8),(21:UInt8),(52:UInt8),(32:UInt8),(23:UInt8),(11:UInt8),(54:UInt8),(26:UInt8),(40:UInt8),(15:UInt8),(34:UInt8),(20:UInt8),(31:UInt8),(10:UInt8),(25:UInt8),(14:UInt8),(19:UInt8),(9:UInt8),(13:UInt8),(8:UInt8),(7:UInt8),(6:UInt8)]:LB) (GI.toZ (Cw (Bi (Ez A (G4 A)) 285870213051353865) (GI.toZ (58:UInt64)).toNat))).bind λz=>
some (Ad z:Int)
abbrev Kt:=Option (Int×Int×Int)
def Aa9:Kt:=
some (0,0,24)
def Aa5:=Aa9
def Aeu(j10:Kt):Kt:=
j10
def Aeo:=Aeu Aa5
def xX(j9:Kt)(f a:Int):Kt:=
if(geq f 48)then
some (f,(Ae 0 (Ae a f)),0)
else
j9
def yK:=xX Aeo
def yD(j8:Int->Int->Kt)(f b a:Int):Kt:=
if(Cj f (Iu 48 (Aq b a)))then
some (f,(Ae (Ae (0:Int) (1:Int)) (Ae a f)),0)
else
j8 f a
def yP:=yD yK
def yM(j7:Int->Int->Int->Kt)(h:Int)(k:UInt64)(a:Int)(g:LB)(b:Int):Kt:=
if(Bg h 0)then
some (0,0,h)
else
(If (Acr k)).bind λf=>
j7 f b a
def gM:=yM yP
def EU(j6:Int->UInt64->Int->LB->Int->Kt)(g:LB)(b a:Int):Kt:=
(Le g b).bind λm=>
if(Bg m 0)then
some (0,0,m)
else
if(Cj a 0)then
some (0,0,2)
else
if(Mk a b)then
some (0,0,24)
else
(
(
(LO g b a (Iu 48 (Aq b a))).bind λ(k,h)=>
j6 h k a g b))
def QE:=EU gM
abbrev tN:=Option (UInt32×Int×Int)
def nB:tN:=
(LO e B d F).bind λ(c,i)=>
if(Bg i 0)then
some (0,0,i)
else
if(Cj j 48)then
(Jg (Mk z 0)).bind λ_=>
some ((zZ (Du (Ad j:UInt32) (GI.toZ z).toNat) (Ad c:UInt32)),(Ae d F),0)
else
(CV (Ad c:UInt32) z).bind λA=>
if(!A)then
some (0,0,12)
else
some ((Ad c:UInt32),(Ae d F),0)
def oB:=nB
def J7(j2:Int->Int->Int->LB->Int->Int->tN)(g:LB)(h v a:Int):tN:=
(Le g h).bind λo=>
if(Bg o 0)then
some (0,0,o)
else
if((Cj a 0)||(Dx a 24))then
some (0,0,2)
else
(QE g h v).bind λ(f,b,p)=>
if(Bg p 0)then
some (0,0,p)
else
if(geq f 48)then
j2 a b f g h 32
else
j2 a b f g h a
def wF:=J7 oB
abbrev Nq:=Option (UInt32×Int×Int×Int×UInt64×UInt64×Int)
def xS:Nq:=
some (V,l7,Brp,Bri,(Ae o9 (Aq (Ad V:UInt64) (Cw o9 (GI.toZ (4:UInt64)).toNat))),Brr,0)
def yC:=xS
def L7(j10:UInt32->Int->Int->Int->UInt64->UInt64->Nq)(f:UInt32)(k m:Int)(b n:UInt64)(w:Int):Nq:=
j10 f k w m b n
def E1:=L7 yC
def N6(j9:UInt32->Int->Int->UInt64->UInt64->Int->Nq)(f:UInt32)(k a:Int)(b:UInt64)(m:Int)(n:UInt64):Nq:=
if(Dx a 0)then
(Jg (Mk a 0)).bind λ_=>
if(Cj (Ae b (Aq (Ad f:UInt64) (Cw b (GI.toZ (4:UInt64)).toNat))) (Du (16:UInt64) (GI.toZ a).toNat))then
j9 f k m b n (Aq a 1)
else
if(Cj a 24)then
(Jg (Mk a 0)).bind λ_=>
if(Dx (Ae b (Aq (Ad f:UInt64) (Cw b (GI.toZ (4:UInt64)).toNat))) (Du (32:UInt64) (GI.toZ a).toNat))then
j9 f k m b n (Ae a 1)
else
j9 f k m b n a
else
j9 f k m b n a
else
if(Cj a 24)then
(Jg (Mk a 0)).bind λ_=>
if(Dx (Ae b (Aq (Ad f:UInt64) (Cw b (GI.toZ (4:UInt64)).toNat))) (Du (32:UInt64) (GI.toZ a).toNat))then
j9 f k m b n (Ae a 1)
else
j9 f k m b n a
else
j9 f k m b n a
def MN:=N6 E1
def mC(j8:UInt32->Int->Int->UInt64->Int->UInt64->Nq)(a h:Int)(b g:UInt64)(f:UInt32)(k:Int):Nq:=
(QH a h b g f).bind λ(ad,o)=>
if(geq ad 1)then
if(Dx h 0)then
(Jg (Mk h 0)).bind λ_=>
if(Cj (Ae g (Aq (Ad o:UInt64) (Cw g (GI.toZ (4:UInt64)).toNat))) (Du (16:UInt64) (GI.toZ h).toNat))then
j8 f k a b (Aq h 1) (Ae g (Aq (Ad o:UInt64) (Cw g (GI.toZ (4:UInt64)).toNat)))
else
if(Cj h 24)then
(Jg (Mk h 0)).bind λ_=>
if(Dx (Ae g (Aq (Ad o:UInt64) (Cw g (GI.toZ (4:UInt64)).toNat))) (Du (32:UInt64) (GI.toZ h).toNat))then
j8 f k a b (Ae h 1) (Ae g (Aq (Ad o:UInt64) (Cw g (GI.toZ (4:UInt64)).toNat)))
else
j8 f k a b h (Ae g (Aq (Ad o:UInt64) (Cw g (GI.toZ (4:UInt64)).toNat)))
else
j8 f k a b h (Ae g (Aq (Ad o:UInt64) (Cw g (GI.toZ (4:UInt64)).toNat)))
else
if(Cj h 24)then
(Jg (Mk h 0)).bind λ_=>
if(Dx (Ae g (Aq (Ad o:UInt64) (Cw g (GI.toZ (4:UInt64)).toNat))) (Du (32:UInt64) (GI.toZ h).toNat))then
j8 f k a b (Ae h 1) (Ae g (Aq (Ad o:UInt64) (Cw g (GI.toZ (4:UInt64)).toNat)))
else
j8 f k a b h (Ae g (Aq (Ad o:UInt64) (Cw g (GI.toZ (4:UInt64)).toNat)))
else
j8 f k a b h (Ae g (Aq (Ad o:UInt64) (Cw g (GI.toZ (4:UInt64)).toNat)))
else
j8 f k a b h g
def mE:=mC MN
def mL(j7:Int->Int->UInt64->UInt64->UInt32->Int->Nq)(p:Int)(u:LB)(v a h:Int)(b g:UInt64):Nq:=
(LO u v p 1).bind λ(ae,aa)=>
if(Bg aa 0)then
some (0,0,0,0,0,0,aa)
else
if(geq ae 0)then
(LO u v (Ae p 1) a).bind λ(af,ab)=>
if(Bg ab 0)then
some (0,0,0,0,0,0,ab)
else
j7 a h b g (Ad af:UInt32) (Ae (Ae p 1) a)
else
(wF u v (Ae p 1) h).bind λ(y,ag,ac)=>
if(Bg ac 0)then
some (0,0,0,0,0,0,ac)
else
(Jg (Mk a 0)).bind λ_=>
if(Cj (Ae y (Du (1:UInt32) (GI.toZ a).toNat)) y)then
some (0,0,0,0,0,0,12)
else
j7 a h b g (Ae y (Du (1:UInt32) (GI.toZ a).toNat)) ag
def O3:=mL mE
def oK(j6:Int->LB->Int->Int->Int->UInt64->UInt64->Nq)(u:LB)(v p a h:Int)(b g:UInt64):Nq:=
(Le u v).bind λah=>
if(Bg ah 0)then
some (0,0,0,0,0,0,8)
else
(bV a h b g).bind λai=>
if(Bg ai 0)then
some (0,0,0,0,0,0,8)
else
j6 p u v a h b g
def PT:=oK O3
abbrev Cm:=Option (LU×Int×Int)
def zX:Cm:=
some (Z,z,0)
def bW:=zX
def bR(Jd:Int->Int-> (List (Int×Int×UInt64×UInt64×Unit))->LU->Cm)(a f:Int)(g:LB)(b k v:Int)(w:UInt32)(h:Int)(ah:List (Int×Int×UInt64×UInt64×Unit))(n:LU):Cm:=
(Dt n ([w]:LU)).bind λak=>
Jd (Ae k v) (Ae h 1) ah ak
def ZH Jd:=bR Jd
def FY(j22:Int->Int->UInt32->Int-> (List (Int×Int×UInt64×UInt64×Unit))->LU->Cm)(a f:Int)(g:LB)(b k h y:Int)(w:UInt32)(v:Int)(m:List (Int×Int×UInt64×UInt64×Unit))(n:LU)(aa ab:Int)(ac ad:UInt64):Cm:=
if(Bg y 0)then
some (([]:LU),0,y)
else
(Jg (Bg a 0)).bind λ_=>
(Am m (Ha h a)).bind λ_=>
(Mv m (Ha h a) (aa,ab,ac,ad,())).bind λah=>
j22 k v w h ah n
def Ws Jd a f g b:=FY (ZH Jd a f g b) a f g b
def Xj(j21:Int->Int->Int->UInt32->Int-> (List (Int×Int×UInt64×UInt64×Unit))->LU->Int->Int->UInt64->UInt64->Cm)(j24:Int->LU->Cm)(a f:Int)(g:LB)(b k h:Int)(m:List (Int×Int×UInt64×UInt64×Unit))(n:LU):Cm:=
if(Cj h (Bi f a))then
(tC g b k (Iu (Ae k 81) b)).bind λ(ag,ae,af)=>
if(Bg af 0)then
some (([]:LU),0,af)
else
(Jg (Bg a 0)).bind λ_=>
(Am m (Ha h a)).bind λ_=>
(
(
(Am m (Ha h a)).bind λo=>
(
(PT ag ae 0 o.1 o.2.1 o.2.2.1 o.2.2.2.1).bind λ(w,v,aa,ab,ac,ad,y)=>
j21 k h y w v m n aa ab ac ad)))
else
j24 k n
def Qh:Nat->Int->Int-> (List (Int×Int×UInt64×UInt64×Unit))->LU->Cm
|0,_,_,_,_=>none
|c+1,i,j,A,C=>Xj (Ws (Qh c) z d e B) bW z d e B i j A C
def cL a f g b:=Qh a f g b Au
def YZ(j16:Int->Int->LB->Int->Int->Int-> (List (Int×Int×UInt64×UInt64×Unit))->LU->Cm)(a f:Int)(g:LB)(b:Int)(p:List (Int×Int×UInt64×UInt64×Unit)):Cm:=
j16 a f g b 0 0 p ([]:LU)
def YV:=YZ cL
def ZJ(j15:Int->Int->LB->Int-> (List (Int×Int×UInt64×UInt64×Unit))->Cm)(Bcb:Int-> (List (Int×Int×UInt64×UInt64×Unit))->Cm)(a f:Int)(g:LB)(b u:Int)(p:List (Int×Int×UInt64×UInt64×Unit)):Cm:=
if(Cj u 6)then
(D4).bind λ(al,ae,af,am)=>
(Am p u).bind λ_=>
(Mv p u (al,ae,af,am,())).bind λan=>
Bcb (Ae u 1) an
else
j15 a f g b p
def FT:Nat->Int-> (List (Int×Int×UInt64×UInt64×Unit))->Cm
|0,_,_=>none
|c+1,i,j=>ZJ YV (FT c) z d e B i j
def GQ a f g b:=FT a f g b Au
def KO(j13:Int->Int->LB->Int->Int-> (List (Int×Int×UInt64×UInt64×Unit))->Cm)(a f:Int)(g:LB)(b:Int):Cm:=
j13 a f g b 0 (List.replicate 6 ((0:Int),(0:Int),(0:UInt64),(0:UInt64),()))
def KP:=KO GQ
def CP:Option Int32:=
some (BH (Ad (Cw V (GI.toZ (1:UInt64)).toNat):Int32) (G4 (Ad (Ez V 1):Int32)))
def uR:Option (Int32×Int×LX×LX×Int):=
(bB z i M).bind λ(c,d)=>
if(Bg d 0)then
some (0,0,(List.replicate 16 (0:Int32)),(List.replicate 16 (0:Int32)),d)
else
(ZG z i M (Ae G c) G).bind λ(e,j,A)=>
some ((Ae G c),e,j,A,0)
def On:Option (Int32×Int×Int32×Int×LX×LX×Int):=
(AO z G N p9 q9).bind λc=>
if(Bg c 0)then
some (0,0,0,0,(List.replicate 16 (0:Int32)),(List.replicate 16 (0:Int32)),c)
else
(AP z G).bind λ(d,e)=>
(uR N p9 q9 Brk).bind λ(i,j,A,B,C)=>
(
some ((Ae i d),z,(Ae i d),j,A,B,C))
abbrev Ij:=Option (LX×Int)
def Ahx:Ij:=
some (i,0)
def G7:=Ahx
def J2(iK:Int->LX->Ij)(b a:Int)(h:LX):Ij:=
iK (Ae a b) h
def nI iK:=J2 iK
def XL(j20:Int->LX->Ij)(Aey:Int->LX->Ij)(b a g:Int)(h:LX):Ij:=
if(Mk g 0)then
(Jg (decide (0<= (Ae g 1)/\ (Ae g 1)<((Ae a b)-a)))).bind λ_=>
(Jg (decide (0<=g/\g<((Ae a b)-a)))).bind λ_=>
(Am h (a+(Ae g 1))).bind λn=>
(Am h (a+g)).bind λo=>
(Jg (decide (0<=g/\g<((Ae a b)-a)))).bind λ_=>
(Mv h (a+g) (Aq n o)).bind λp=>
Aey (Aq g 1) p
else
j20 a h
def CM(iK:Int->LX->Ij)(b a:Int):Nat->Int->LX->Ij
|0,_,_=>none
|q+1,g,h=>XL (nI iK b) (CM iK b a q) b a g h
def mA iK b a:=CM iK b a Au
def lN(j18:Int->Int->LX->Ij)(b a:Int)(u:LX):Ij:=
j18 a (Aq (Aq ((Ae a b)-a) 1) 1) u
def nS iK b:=lN (mA iK b) b
def lW(j17:Int->LX->Ij)(j22:LX->Ij)(b a:Int)(f:LX):Ij:=
if(Cj a (Ac f))then
(jT (Ac f) a (Ae a b)).bind λ_=>
if(Dx (Aq ((Ae a b)-a) 1) 0)then
(Jg (decide (0<= (Aq ((Ae a b)-a) 1)/\ (Aq ((Ae a b)-a) 1)<((Ae a b)-a)))).bind λ_=>
Option.bind (Jg (decide (0<= (Aq (Aq ((Ae a b)-a) 1) 1)/\ (Aq (Aq ((Ae a b)-a) 1) 1)<((Ae a b)-a)))) λ_=>
(Am f (a+(Aq ((Ae a b)-a) 1))).bind λv=>
(Am f (a+(Aq (Aq ((Ae a b)-a) 1) 1))).bind λw=>
(Jg (decide (0<= (Aq ((Ae a b)-a) 1)/\ (Aq ((Ae a b)-a) 1)<((Ae a b)-a)))).bind λ_=>
(Mv f (a+(Aq ((Ae a b)-a) 1)) (Ae v (Bq w 2))).bind λy=>
j17 a y
else
j17 a f
else
j22 f
def Wv:Nat->Int->LX->Ij
|0,_,_=>none
|c+1,d,e=>lW (nS (Wv c) z) G7 z d e
def K1 b:=Wv b Au
def uW(j12:Int->Int->LX->Ij)(b:Int)(k:LX):Ij:=
(kB b k).bind λm=>
if(Bg m 0)then
some (([]:LX),m)
else
(Dr k).bind λaa=>
j12 b 0 aa
def I0:=uW K1
abbrev Dc:=Option (LX×Int)
def VZ:Dc:=
(I0 z i).bind λ(c,e)=>
if(Bg e 0)then
some (([]:LX),e)
else
(Sm d c).bind λj=>
if(Bg j 0)then
some (([]:LX),j)
else
some (c,0)
def Oy:=VZ
def WN(Bcb:Int-> (List (Int×Int32×(Int×LX×LX×Unit)×Unit))->LX->Dc)(a:Int)(f:LU)(b g:Int)(y:Int32)(v:Int)(h:List (Int×Int32×(Int×LX×LX×Unit)×Unit))(k:LX)(aa:Int)(w:Int32)(ab:Int)(ac ad:LX):Dc:=
if(Bg v 0)then
some (([]:LX),v)
else
(Mv h (Ha g a) (aa,w,(ab,ac,ad,()),())).bind λai=>
(Dt k ([y]:LX)).bind λaj=>
Bcb (Ae g 1) ai aj
def DR Bcb:=WN Bcb
def Ox(j16:Int->Int32->Int-> (List (Int×Int32×(Int×LX×LX×Unit)×Unit))->LX->Int->Int32->Int->LX->LX->Dc)(j18:Int->Int->LX->Dc)(f:LU)(a b g:Int)(h:List (Int×Int32×(Int×LX×LX×Unit)×Unit))(k:LX):Dc:=
if(Cj g (Ac f))then
(Am f g).bind λag=>
(Jg (Bg a 0)).bind λ_=>
(Am h (Ha g a)).bind λ_=>
(
(Am h (Ha g a)).bind λm=>
(
(CP ag).bind λae=>
(
(On m.1 m.2.1 m.2.2.1.1 m.2.2.1.2.1 m.2.2.1.2.2.1 ae).bind λ(y,aa,w,ab,ac,ad,v)=>
j16 g y v h k aa w ab ac ad)))
else
j18 a b k
def Lk:Nat->Int-> (List (Int×Int32×(Int×LX×LX×Unit)×Unit))->LX->Dc
|0,_,_,_=>none
|z+1,c,d,e=>Ox (DR (Lk z) Bq3 Z Bq4) Oy Z Bq3 Bq4 c d e
def XF f a b:=Lk f a b Au
def WW(j13:LU->Int->Int->Int-> (List (Int×Int32×(Int×LX×LX×Unit)×Unit))->LX->Dc)(f:LU)(a b:Int)(n:List (Int×Int32×(Int×LX×LX×Unit)×Unit)):Dc:=
j13 f a b 0 n ([]:LX)
def XD:=WW XF
def XB(j12:LU->Int->Int-> (List (Int×Int32×(Int×LX×LX×Unit)×Unit))->Dc)(Aqr:Int-> (List (Int×Int32×(Int×LX×LX×Unit)×Unit))->Dc)(f:LU)(a b:Int)(o:LX)(p:Int)(n:List (Int×Int32×(Int×LX×LX×Unit)×Unit)):Dc:=
if(Cj p 6)then
(Y1 b o).bind λ(ak,af,ae,al,am,w)=>
(Am n p).bind λ_=>
(Mv n p (ak,af,(ae,al,am,()),())).bind λan=>
Aqr (Ae p 1) an
else
j12 f a b n
def DY:Nat->Int-> (List (Int×Int32×(Int×LX×LX×Unit)×Unit))->Dc
|0,_,_=>none
|z+1,c,d=>XB XD (DY z) Z Bq3 Bq4 Br0 c d
def DV f a b o:=DY f a b o Au
def GN(j10:LU->Int->Int->LX->Int-> (List (Int×Int32×(Int×LX×LX×Unit)×Unit))->Dc)(a b:Int)(o:LX)(f:LU):Dc:=
j10 f a b o 0 (List.replicate 6 ((0:Int),(0:Int32),((0:Int),(List.replicate 16 (0:Int32)),(List.replicate 16 (0:Int32)),()),()))
def Xo:=GN DV
def Kj:Option (LX×Int):=
(Gf z d).bind λc=>
if(Bg c 0)then
some (([]:LX),c)
else
if(Cj B 1)then
some (([]:LX),2)
else
(Jg (Bg z 0)).bind λ_=>
if(Dx B (Bq 4000 z))then
some (([]:LX),2)
else
(KS L).bind λ(e,j)=>
if(Bg j 0)then
some (([]:LX),j)
else
(Aiy e).bind λ(A,C,D)=>
if(Bg D 0)then
some (([]:LX),D)
else
(KP z B A C).bind λ(E,F,G)=>
if(Bg G 0)then
some (([]:LX),G)
else
if(Mk (Aq C F) 8)then
some (([]:LX),12)
else
(LO A C F (Aq C F)).bind λ(I,J)=>
if((Bg J 0)||(Bg I 0))then
some (([]:LX),12)
else
(Xo z d i E).bind λ(M,N)=>
some (M,N)
def ES:Option Int:=
some (-1:Int)
def Ps:=ES
def Fl:Option Int:=
if(Cj y8 (Ac Brf))then
(Am Brf y8).bind λz=>
if(geq Brd z)then
some y8
else
Bra (Ae y8 1)
else
Bq9
def Cg:Nat->Int->Option Int
|0,_=>none
|c+1,d=>Fl Ps (Cg c) E z d
def Pw a b:=Cg a b Au
def Jc(j4:LI->Int->Int->Option Int)(a:LI)(b:Int):Option Int:=
j4 a b 0
def Kv:=Jc Pw
def Iw:Option Bool:=
(Kv E z).bind λc=>
some (Mk c 0)
def Tl:Option Bool:=
(Iw ([(4:Int),(12:Int),(16:Int),(22:Int),(24:Int),(26:Int),(38:Int)]:LI) z).bind λc=>
some c
def fR:Option Int:=
if(!C)then
some 8
else
some 0
def Bz:=fR
def fA:Option Int:=
r9 ((true==true)&&((geq (0:Int) (0:Int))&&true))
def Zm:=fA Bz
def dE:Option Int:=
r9 ((y5==true)&&((geq Brw 0)&&true))
def Fj:=dE Bz
def fV(j13:Bool->Int->Option Int)(g ax:LB)(ay az ab ba af b:Int)(n:Bool)(o:Int)(f:LI)(k:LB):Option Int:=
(Qp ay az ab ba af g).bind λdi=>
(Ao di).bind λ(dj,ai)=>
j13 dj ai
def Ze:=fV Fj
def dY:Option Int:=
r9 ((y5==true)&&((geq Brw 0)&&true))
def Kw:=dY Bz
def dO(j25:Bool->Int->Option Int)(g a:LB)(h p m u v b:Int)(n:Bool)(o:Int)(f:LI)(k:LB)(de:Int):Option Int:=
(Eb h p m u v).bind λ(dm,be)=>
if(Bg be 0)then
(Ao be).bind λ(aj,bg)=>
j25 aj bg
else
(Br a de (Ac a)).bind λdn=>
(GC dn (Ac dm)).bind λ(dp,ab)=>
if(geq ab 24)then
j25 true 0
else
if(Bg ab 0)then
(Ao ab).bind λ(dq,af)=>
j25 dq af
else
(Br a (Ae (Ae de (Bi 4 (Ac dp))) 4) (Ac a)).bind λfc=>
j25 false 0
def Lj:=dO Kw
def dS(j25:Bool->Int->Option Int)(j24:LB->LB->Int->Int->Int->Int->Int->Int->Bool->Int->LI->LB->Int->Option Int)(bh:Bool)(bf:Int)(g a:LB)(h p m u v b:Int)(n:Bool)(o:Int)(f:LI)(k:LB):Option Int:=
if(Bg bf 0)then
(Ao bf).bind λ(dr,be)=>
j25 dr be
else
if(!bh)then
(Ao 26).bind λ(aj,bg)=>
j25 aj bg
else
j24 g a h p m u v b n o f k 8
def fK:=dS Kw Lj
def fP(j15:Bool->Int->LB->LB->Int->Int->Int->Int->Int->Int->Bool->Int->LI->LB->Option Int)(g a:LB)(h p m u v b:Int)(n:Bool)(o:Int)(f:LI)(k:LB):Option Int:=
(Br a 0 8).bind λds=>
(Pn ds g).bind λ(bh,bf)=>
j15 bh bf g a h p m u v b n o f k
def Zb:=fP fK
def dN:Option Int:=
r9 ((y5==true)&&((geq Brw 0)&&true))
def Gt:=dN Bz
def Zp(j28:Bool->Int->Option Int)(y ac:Int)(g a:LB)(h p m u v b:Int)(n:Bool)(o:Int)(ak:LX)(f:LI)(k:LB):Option Int:=
if(Bg ac 0)then
(Ao ac).bind λ(bi,bj)=>
j28 bi bj
else
(Jy m ak).bind λ(bk,bb)=>
if(Bg bb 0)then
(Ao bb).bind λ(bl,bm)=>
j28 bl bm
else
(Dt k bk).bind λdv=>
(
(Br a y (Ac a)).bind λdw=>
j28 false 0)
def NA:=Zp Gt
def KV(j27:Int->Int->LB->LB->Int->Int->Int->Int->Int->Int->Bool->Int->LX->LI->LB->Option Int)(y:Int)(g a:LB)(h p m u v b:Int)(n:Bool)(o:Int)(bc:LX)(ag f:LI)(k:LB):Option Int:=
(Am ag b).bind λ_=>
(Br a 0 y).bind λdx=>
(Am ag b).bind λdy=>
(EI h p m u v).bind λ(dz,bd)=>
(Kj dz bd bc dy dx).bind λ(ak,ac)=>
j27 y ac g a h p m u v b n o ak f k
def IX:=KV NA
def CI(j13:Bool->Int->Option Int)(j12:LB->LB->Int->Int->Int->Int->Int->Int->Bool->Int->LI->LB->Option Int)(j25:Bool->Int->Option Int)(j23:LB->LB->Int->Int->Int->Int->Int->Int->Bool->Int->LI->LB->Option Int)(j24:LB->LB->Int->Int->Int->Int->Int->Int->Bool->Int->LI->LB->Int->Option Int)(j28:Bool->Int->Option Int)(j26:Int->LB->LB->Int->Int->Int->Int->Int->Int->Bool->Int->LX->LI->LI->LB->Option Int)(j22:Bool->Option Int)(j21:Option Int)(al am:LB)(an ao ap aq ar:Int)(au:LI)(ad:Int)(ae:LB)(aa:Bool)(w:Int):Option Int:=
if(Dx (Ac al) 64)then
some 8
else
if((geq w 0)&&(!aa))then
(Es al am an ao ap aq ar au ad ae aa w).bind λ(g,a,h,p,m,u,v,f,b,k,n,o)=>
(BT al am an ao ap aq ar au ad ae aa w).bind λbn=>
if bn then
if(geq h 0)then
(Ju a).bind λ(ah,av)=>
if(geq av 24)then
j13 true 0
else
if(Bg av 0)then
(Ao av).bind λ(bp,bq)=>
j13 bp bq
else
(Br a ah (Ac a)).bind λbr=>
(Tf br).bind λaj=>
if aj then
j13 true 0
else
(Br a ah (Ac a)).bind λbs=>
(Nh bs).bind λ(ay,az,ab,ba,af,aw)=>
if(geq aw 24)then
j13 true 0
else
if(Bg aw 0)then
(Ao aw).bind λ(bt,bu)=>
j13 bt bu
else
(
(Br a (Ae ah 22) (Ac a)).bind λax=>
(
j12 g ax ay az ab ba af b n o f k))
else
if(geq (Ac f) 0)then
if(geq h 2)then
if(Cj (Ac a) 8)then
j25 true 0
else
j23 g a h p m u v b n o f k
else
j24 g a h p m u v b n o f k 0
else
if(Cj b (Ac f))then
(Am f b).bind λ_=>
(Am f b).bind λy=>
if(Cj (Ac a) y)then
j28 true 0
else
(Oa g).bind λ(bc,ai)=>
if(Bg ai 0)then
(Ao ai).bind λ(bv,bw)=>
j28 bv bw
else
(Eb h p m u v).bind λ(ag,bx)=>
if((Bg bx 0)||(Mk b (Ac ag)))then
(Ao 8).bind λ(bz,da)=>
j28 bz da
else
j26 y g a h p m u v b n o bc ag f k
else
if(Dx (Ac a) 4000)then
(Ao 38).bind λ(db,bd)=>
j22 ((db==true)&&((geq bd 0)&&true))
else
j21
else
j22 false
else
if((geq (Ac am) 0)&&(geq (Ac au) 0))then
if((((geq an 0)&&((geq ao 0)&&((geq ap 0)&&((geq aq 0)&&((geq ar 0)&&true)))))&&(geq ad 0))&&(T5 (Ac ae) 12000))then
if(geq w 0)then
j22 true
else
if(!aa)then
(Tl w).bind λdc=>
j22 dc
else
j22 false
else
j22 false
else
if((false&&(geq ad 0))&&(T5 (Ac ae) 12000))then
if(geq w 0)then
j22 true
else
if(!aa)then
(Tl w).bind λdd=>
j22 dd
else
j22 false
else
j22 false
def Pv:=CI Fj Ze Kw Zb Lj Gt IX Bz Zm
def Tv:Option (LB×LB×Int×Int×Int×Int×Int×LI×Int×LB×Bool×Int×Int):=
(Pv c e B F J T U P R L C D).bind λz=>
if(Bg z 0)then
some (([]:LB),([]:LB),0,0,0,0,0,([]:LI),0,([]:LB),false,0,z)
else
if(Bg D 0)then
(
(
(Es c e B F J T U P R L C D).bind λ(d,i,j,A,E,G,I,M,N,O,V,X)=>
(
some (d,i,j,A,E,G,I,M,N,O,V,X,D))))
else
if C then
(Es c e B F J T U P R L C D).bind λ(Y,Z,l5,l6,l7,l9,o7,o8,o9,p8,p9,q9)=>
some (Y,Z,l5,l6,l7,l9,o7,o8,o9,p8,p9,q9,36)
else
(Es c e B F J T U P R L C D).bind λ(r9,y5,y7,y8,y9,Bqy,Bqz,Bq0,Bq2,Bq3,Bq4,Bq5)=>
some (r9,y5,y7,y8,y9,Bqy,Bqz,Bq0,Bq2,Bq3,Bq4,Bq5,0)
def YD(b g:LB)(h k m n o:Int)(p:LI)(u:Int)(f:LB)(v:Bool)(w a:Int):Option (LB×LB×Int×Int×Int×Int×Int×LI×Int×LB×Bool×Int×Int):=
some (b,([]:LB),0,0,0,0,0,([]:LI),0,f,false,a,a)
abbrev Ax:=Option (LB×LB×Int×Int×Int×Int×Int×LI×Int×LB×Bool×Int×Int)
def OT(YH:LB->Int->Int->Int->Int->Int->Int->LI->LB->Ax)(a:LB)(b:Bool)(f:Int)(av:LB)(aw ax ay az ba bb:Int)(dy:Bool)(dk:Int)(bc:LI)(bd:LB):Ax:=
if dy then
(Es a av aw ax ay az ba bc bb bd b f).bind λ(dz,fa,fb,ap,be,ae,fc,fd,fe,ff,fg,af)=>
some (dz,fa,fb,ap,be,ae,fc,fd,fe,ff,fg,af,0)
else
if(Bg dk 0)then
(YD a av aw ax ay az ba bc bb bd b f dk).bind λ(fh,fi,fj,fk,fl,fm,fn,fo,fp,fq,fs,ft,fu)=>
some (fh,fi,fj,fk,fl,fm,fn,fo,fp,fq,fs,ft,fu)
else
YH av aw ax ay az ba bb bc bd
def Cq YH:=OT YH
def X6(j71:LB->Int->Int->Int->Int->Int->Int->Bool->Int->LI->LB->Ax)(a:LB)(b:Bool)(f:Int)(g:LB)(m o n p u h:Int)(k:LI)(v:LB):Ax:=
j71 g m o n p u h true 0 k v
def CN YH a b f:=X6 (Cq YH a b f) a b f
def U4(j71:LB->Int->Int->Int->Int->Int->Int->Bool->Int->LI->LB->Ax)(a:LB)(b:Bool)(f h:Int)(k:LI)(v:LB)(fv:Bool)(fw:Int)(fx:LB)(fy fz ga gb gc:Int):Ax:=
j71 fx fy fz ga gb gc h fv fw k v
def Qd YH a b f:=U4 (Cq YH a b f) a b f
def kO(j62:Int->LI->LB->Bool->Int->LB->Int->Int->Int->Int->Int->Ax)(a:LB)(b:Bool)(f:Int)(ag:LB)(ah ai y aj aa h:Int)(k:LI)(v:LB):Ax:=
(Qp ah ai y aj aa a).bind λgd=>
(Ao gd).bind λ(ge,ak)=>
j62 h k v ge ak ag ah ai y aj aa
def Ut YH a b f:=kO (Qd YH a b f) a b f
def U2(j71:LB->Int->Int->Int->Int->Int->Int->Bool->Int->LI->LB->Ax)(a:LB)(b:Bool)(f m o n p u h:Int)(v:LB)(bf:Bool)(bg:Int)(bh:LB)(bi:LI):Ax:=
j71 bh m o n p u h bf bg bi v
def Mr YH a b f:=U2 (Cq YH a b f) a b f
def CX(j75:Int->Int->Int->Int->Int->Int->LB->Bool->Int->LB->LI->Ax)(a:LB)(b:Bool)(f:Int)(g:LB)(m o n p u h:Int)(k:LI)(v:LB)(dl:Int):Ax:=
(Eb m o n p u).bind λ(gf,ar)=>
if(Bg ar 0)then
(Ao ar).bind λ(al,bj)=>
j75 m o n p u h v al bj g k
else
(Br g dl (Ac g)).bind λgg=>
(GC gg (Ac gf)).bind λ(dm,y)=>
if(geq y 24)then
j75 m o n p u h v true 0 g k
else
if(Bg y 0)then
(Ao y).bind λ(gh,aa)=>
j75 m o n p u h v gh aa g k
else
(Br g (Ae (Ae dl (Bi 4 (Ac dm))) 4) (Ac g)).bind λgi=>
j75 m o n p u h v false 0 gi dm
def Qe YH a b f:=CX (Mr YH a b f) a b f
def QS(j75:Int->Int->Int->Int->Int->Int->LB->Bool->Int->LB->LI->Ax)(j74:LB->Int->Int->Int->Int->Int->Int->LI->LB->Int->Ax)(a:LB)(b:Bool)(f:Int)(bk:Bool)(au:Int)(g:LB)(m o n p u h:Int)(k:LI)(v:LB):Ax:=
if(Bg au 0)then
(Ao au).bind λ(gj,ar)=>
j75 m o n p u h v gj ar g k
else
if(!bk)then
(Ao 26).bind λ(al,bj)=>
j75 m o n p u h v al bj g k
else
j74 g m o n p u h k v 8
def iQ YH a b f:=QS (Mr YH a b f) (Qe YH a b f) a b f
def OZ(j64:Bool->Int->LB->Int->Int->Int->Int->Int->Int->LI->LB->Ax)(a:LB)(b:Bool)(f:Int)(g:LB)(m o n p u h:Int)(k:LI)(v:LB):Ax:=
(Br g 0 8).bind λgk=>
(Pn gk a).bind λ(bk,au)=>
j64 bk au g m o n p u h k v
def BR YH a b f:=OZ (iQ YH a b f) a b f
def S7(j71:LB->Int->Int->Int->Int->Int->Int->Bool->Int->LI->LB->Ax)(a:LB)(b:Bool)(f m o n p u:Int)(k:LI)(bl:Bool)(bm:Int)(bn:LB)(bp:Int)(bq:LB):Ax:=
j71 bn m o n p u bp bl bm k bq
def Qc YH a b f:=S7 (Cq YH a b f) a b f
def CF(j78:Int->Int->Int->Int->Int->LI->Bool->Int->LB->Int->LB->Ax)(a:LB)(b:Bool)(f w ab:Int)(g:LB)(m o n p u h:Int)(am:LX)(k:LI)(v:LB):Ax:=
if(Bg ab 0)then
(Ao ab).bind λ(br,bs)=>
j78 m o n p u k br bs g h v
else
(Jy n am).bind λ(bt,af)=>
if(Bg af 0)then
(Ao af).bind λ(bu,bv)=>
j78 m o n p u k bu bv g h v
else
(Dt v bt).bind λbw=>
(
(Br g w (Ac g)).bind λbx=>
j78 m o n p u k false 0 bx (Ae h 1) bw)
def PX YH a b f:=CF (Qc YH a b f) a b f
def OY(j77:Int->Int->LB->Int->Int->Int->Int->Int->Int->LX->LI->LB->Ax)(a:LB)(b:Bool)(f w:Int)(g:LB)(m o n p u h:Int)(aq:LX)(ac k:LI)(v:LB):Ax:=
(Am ac h).bind λ_=>
(Br g 0 w).bind λgl=>
(Am ac h).bind λgm=>
(EI m o n p u).bind λ(be,ae)=>
(Kj be ae aq gm gl).bind λ(am,ab)=>
j77 w ab g m o n p u h am k v
def CW YH a b f:=OY (PX YH a b f) a b f
def Jn(j62:Int->LI->LB->Bool->Int->LB->Int->Int->Int->Int->Int->Ax)(j61:LB->Int->Int->Int->Int->Int->Int->LI->LB->Ax)(j75:Int->Int->Int->Int->Int->Int->LB->Bool->Int->LB->LI->Ax)(j73:LB->Int->Int->Int->Int->Int->Int->LI->LB->Ax)(j74:LB->Int->Int->Int->Int->Int->Int->LI->LB->Int->Ax)(j78:Int->Int->Int->Int->Int->LI->Bool->Int->LB->Int->LB->Ax)(j76:Int->LB->Int->Int->Int->Int->Int->Int->LX->LI->LI->LB->Ax)(j71:LB->Int->Int->Int->Int->Int->Int->Bool->Int->LI->LB->Ax)(j70:LB->Int->Int->Int->Int->Int->Int->LI->LB->Ax)(a:LB)(b:Bool)(f:Int)(g:LB)(m o n p u h:Int)(k:LI)(v:LB):Ax:=
if(geq m 0)then
(Ju g).bind λ(ad,an)=>
if(geq an 24)then
j62 h k v true 0 g m o n p u
else
if(Bg an 0)then
(Ao an).bind λ(bz,da)=>
j62 h k v bz da g m o n p u
else
(Br g ad (Ac g)).bind λdb=>
(Tf db).bind λal=>
if al then
j62 h k v true 0 g m o n p u
else
(Br g ad (Ac g)).bind λdc=>
(Nh dc).bind λ(ah,ai,y,aj,aa,ao)=>
if(geq ao 24)then
j62 h k v true 0 g m o n p u
else
if(Bg ao 0)then
(Ao ao).bind λ(dd,de)=>
j62 h k v dd de g m o n p u
else
(
(Br g (Ae ad 22) (Ac g)).bind λag=>
(
j61 ag ah ai y aj aa h k v))
else
if(geq (Ac k) 0)then
if(geq m 2)then
if(Cj (Ac g) 8)then
j75 m o n p u h v true 0 g k
else
j73 g m o n p u h k v
else
j74 g m o n p u h k v 0
else
if(Cj h (Ac k))then
(Am k h).bind λ_=>
(Am k h).bind λw=>
if(Cj (Ac g) w)then
j78 m o n p u k true 0 g h v
else
(Oa a).bind λ(aq,ak)=>
if(Bg ak 0)then
(Ao ak).bind λ(df,dg)=>
j78 m o n p u k df dg g h v
else
(Eb m o n p u).bind λ(ac,dh)=>
if((Bg dh 0)||(Mk h (Ac ac)))then
(Ao 8).bind λ(di,ap)=>
j78 m o n p u k di ap g h v
else
j76 w g m o n p u h aq ac k v
else
if(Dx (Ac g) 4000)then
(Ao 38).bind λ(dj,ae)=>
j71 g m o n p u h dj ae k v
else
j70 g m o n p u h k v
def Bj:Nat->LB->Int->Int->Int->Int->Int->Int->LI->LB->Ax
|0,_,_,_,_,_,_,_,_,_=>none
|z+1,d,e,i,j,A,B,E,F,G=>Jn (Qd (Bj z) c C D) (Ut (Bj z) c C D) (Mr (Bj z) c C D) (BR (Bj z) c C D) (Qe (Bj z) c C D) (Qc (Bj z) c C D) (CW (Bj z) c C D) (Cq (Bj z) c C D) (CN (Bj z) c C D) c C D d e i j A B E F G
def S9 a b f:=Bj a b f Au
def Xs(j37:LB->Bool->Int->LB->Int->Int->Int->Int->Int->Int->LI->LB->Ax)(gn go:LB)(gp gq gr gs gt:Int)(gu:LI)(gv:Int)(gw:LB)(gx:Bool)(gy:Int)(gz:LB):Ax:=
(Tv gn go gp gq gr gs gt gu gv gw gx gy).bind λ(a,dn,dp,dq,dr,ds,dt,du,dv,dw,b,f,dx)=>
if(Bg dx 0)then
some (a,dn,dp,dq,dr,ds,dt,du,dv,dw,b,f,dx)
else
(Dt dn gz).bind λha=>
j37 a b f ha dp dq dr ds dt dv du dw
def Ku:=Xs S9
abbrev C8:=Option (Int×Int)
def lq:C8:=
(Br c (Aq (Ac c) 32) (Ac c)).bind λz=>
(YM z 0).bind λ(d,e,i)=>
if i then
if(Cj (Aq (Ac c) 32) d)then
some (0,24)
else
some ((Ae d 32),0)
else
(Br c (Aq (Ac c) 32) (Ac c)).bind λj=>
(YM j 2147483648).bind λ(A,B,C)=>
if(!C)then
some (0,12)
else
if(Cj (Ac c) (Ae A 64))then
some (0,24)
else
(Br c (Aq (Ac c) (Ae A 64)) (Ae (Aq (Ac c) (Ae A 64)) 32)).bind λD=>
(vV A B 2684354560).bind λE=>
(Fp D E).bind λF=>
if(!F)then
some (0,12)
else
some ((Ae A 64),0)
def Y5:=lq
def jr(j2:LB->C8)(a:LB):C8:=
if(Cj (Aq (Ac a) 32) 0)then
some (0,6)
else
(Br a (Aq (Ac a) 32) (Ac a)).bind λv=>
(Oj v ([(65:UInt8),(80:UInt8),(69:UInt8),(84:UInt8),(65:UInt8),(71:UInt8),(69:UInt8),(88:UInt8)]:LB)).bind λw=>
if(!w)then
some (0,6)
else
j2 a
def H3:=jr Y5
abbrev Hh:=Option (Int×Int)
def U5:Hh:=
some (z,0)
def kT:=U5
def kZ(bk8:Int->LB->Hh)(a:Int)(g:LB):Hh:=
bk8 (Ae a 1) g
def kW bk8:=kZ bk8
def kQ(j12:Int->LB->Hh)(a f:Int)(b:LB):Hh:=
if(geq f 0)then
some (0,38)
else
(Br b 0 (Aq (Ac b) f)).bind λg=>
j12 a g
def PW bk8:=kQ (kW bk8)
def VP(j11:Int->Int->LB->Hh)(j14:Int->Hh)(a:Int)(b:LB):Hh:=
if(Dx (Ac b) 0)then
(H3 b).bind λ(f,k)=>
j11 a f b
else
j14 a
def Xl:Nat->Int->LB->Hh
|0,_,_=>none
|q+1,a,b=>VP (PW (Xl q)) kT a b
def qb:=Xl Au
def VK(j8:Int->LB->Hh)(h:LB):Hh:=
if(Dx (Ac h) 4000)then
some (0,38)
else
j8 0 h
def KE:=VK qb
def JU(p a:LB)(g u v w y:Int)(b:LI)(h:Int)(aa:LB)(ab:Bool)(ac:Int):Option Int:=
if(geq g 0)then
(Ju a).bind λ(k,f)=>
if(Bg f 0)then
some f
else
(Br a k (Ac a)).bind λm=>
(Nh m).bind λ(ad,ae,af,ag,ah,n)=>
some n
else
if((Cj h (Ac b))||(geq (Ac b) 0))then
some 24
else
(KE a).bind λ(ai,o)=>
some o
def Hp:Option (LB×LB×Int×Int×Int×Int×Int×LI×Int×LB×Bool×Int×Int):=
(Tv c e B F J T U P R L C D).bind λ(z,d,i,j,A,E,G,I,M,N,O,V,X)=>
if(Bg X 0)then
some (z,d,i,j,A,E,G,I,M,N,O,V,X)
else
(JU z d i j A E G I M N O V).bind λY=>
if(Bg Y 0)then
(YD z d i j A E G I M N O V Y).bind λ(Z,l5,l6,l7,l9,o7,o8,o9,p8,p9,q9,r9,y5)=>
some (Z,l5,l6,l7,l9,o7,o8,o9,p8,p9,q9,r9,y5)
else
some (z,([]:LB),0,0,0,0,0,([]:LI),0,N,true,0,0)
def Nr:Option (Int×Int×Int×LX×Int):=
(eX e).bind λ(z,d,i,j,A,B,C,D,E,F,G,I,J)=>
if(Bg J 0)then
some (0,0,0,([]:LX),J)
else
(Ku z d i j A B C D E F G I c).bind λ(L,M,N,O,P,R,T,U,V,X,Y,Z,l5)=>
if(Bg l5 0)then
some (0,0,0,([]:LX),l5)
else
(Hp L M N O P R T U V X Y Z).bind λ(l6,l7,l9,o7,o8,o9,p8,p9,q9,r9,y5,y7,y8)=>
if(Bg y8 0)then
some (0,0,0,([]:LX),y8)
else
if((geq N 0)&&((geq O 0)&&((geq P 0)&&((geq R 0)&&((geq T 0)&&true)))))then
some (0,0,0,([]:LX),24)
else
(Nb P r9).bind λ(y9,Bqy)=>
if(Bg Bqy 0)then
some (0,0,0,([]:LX),Bqy)
else
some (O,P,R,y9,0)
def sG:Option Bool:=
some true
def UL:=sG
def TE(j6:Option Bool)(Rb:Int->Option Bool)(a b:LX)(f:Int):Option Bool:=
if(Cj f (Ac a))then
(Am a f).bind λg=>
(Am b f).bind λh=>
if(Bg g h)then
some false
else
Rb (Ae f 1)
else
j6
def AQ:Nat->Int->Option Bool
|0,_=>none
|z+1,c=>TE UL (AQ z) i M c
def sD a b:=AQ a b Au
def SD(j4:LX->LX->Int->Option Bool)(a b:LX):Option Bool:=
if(Bg (Ac a) (Ac b))then
some false
else
j4 a b 0
def eG:=SD sD
def fD:Option Bool:=
if(((geq z B)&&(geq d F))&&(geq j J))then
(eG i M).bind λc=>
some c
else
some false
def FX:Option Bool:=
(QB).bind λ(f,g,h,k)=>
(Zz f g h k ([]:LB)).bind λ(a,m)=>
(Nr a ([]:LB)).bind λ(n,o,p,u,v)=>
(Nr a ([120]:LB)).bind λ(ad,ae,af,ag,b)=>
if(((geq m 0)&&(geq (Ac a) 36))&&(geq v 0))then
(QB).bind λ(w,y,aa,ab)=>
(fD n o p u w y aa ab).bind λac=>
some (ac&&(geq b 26))
else
some (false&&(geq b 26))
def Ft(a b f:Int)(g:LX):Option (Int×Int):=
some (a,b)
def Lg:Option Int:=
if(geq z 8)then
some 128
else
if(geq z 16)then
some 32768
else
if(geq z 24)then
some 8388608
else
some 0
def Dd:Option Int:=
if((Cj z 1)||(Dx z 6))then
some 2
else
(Lg d).bind λc=>
if(geq c 0)then
some 2
else
some 0
def qH:Option Int:=
some 0
def NJ:=qH
def Cy:Option Int:=
if(Cj Bqz (Ac Bq2))then
(Am Bq2 Bqz).bind λz=>
if(Cj (Ad z:Int) (G4 N))then
some 16
else
(Am Bq2 Bqz).bind λc=>
if(Mk (Ad c:Int) N)then
some 16
else
Bra (Ae Bqz 1)
else
Bq9
def Ba:Nat->Int->Option Int
|0,_=>none
|z+1,c=>Cy NJ (Ba z) i B c
def qO a b:=Ba a b Au
def Dw(j4:LX->Int->Int->Option Int)(k:Int)(a:LX):Option Int:=
(Lg k).bind λb=>
if(geq b 0)then
some 2
else
if(Dx (Ac a) 4000)then
some 4
else
j4 a b 0
def Ay:=Dw qO
def Ce:Option Int:=
(Dd z d).bind λc=>
if(Bg c 0)then
some 2
else
(Ay d i).bind λe=>
if(Bg e 0)then
(Ay d i).bind λj=>
some j
else
if(Cj (Ac i) 1)then
some 2
else
(Jg (Bg z 0)).bind λ_=>
if(Dx (Ha (Ac i) z) 0)then
some 2
else
some 0
def Dm:Option Int:=
(Dd z d).bind λc=>
if((Bg c 0)||(Cj j 1))then
some 2
else
(Jg (Bg z 0)).bind λ_=>
if(Dx j (Bq 4000 z))then
some 2
else
some 0
def Sp:Option (Int×Int):=
if((Cj z 1)||(Dx z 1048576))then
some (0,2)
else
if(geq (Bq (Bi z 256) 245) 0)then
some (1,0)
else
some ((Bq (Bi z 256) 245),0)
abbrev Jm:=Option (LI×Int)
def Ul:Jm:=
if(Dx (Ac E) 1000)then
some (([]:LI),4)
else
some (E,0)
def Pb:=Ul
def Io(j6:LI->Jm)(Rb:Int->LI->Jm)(b f:Int)(a:LI):Jm:=
if(Dx f 0)then
(Dt a ([(Iu f b)]:LI)).bind λh=>
Rb (Aq f (Iu f b)) h
else
j6 a
def Ei:Nat->Int->LI->Jm
|0,_,_=>none
|c+1,d,e=>Io Pb (Ei c) z d e
def DS b:=Ei b Au
def Pe(j4:Int->Int->LI->Jm)(k g:Int):Jm:=
(Sp k).bind λ(b,m)=>
if(((Bg m 0)||(Cj g 1))||(Dx g 4000))then
some (([]:LI),2)
else
j4 b g ([]:LI)
def Vz:=Pe DS
def Hj:Option (Int×Int):=
(Vz z d).bind λ(c,e)=>
some ((Ac c),e)
def Zr:Option Bool:=
(Ft z d j i).bind λ(c,e)=>
(Dm c e B).bind λA=>
if(Bg A 0)then
some false
else
(Hj j B).bind λ(C,D)=>
some (geq D 0)
def Da:Option Int:=
(Ft z d j i).bind λ(c,e)=>
(Ce c e i).bind λA=>
if(Bg A 0)then
some 8
else
(Jg (Bg z 0)).bind λ_=>
(Zr z d j i (Bq (Ac i) z)).bind λB=>
if(!B)then
some 8
else
some 0
def Ra:Option Int:=
if((((Cj z 1)||(Dx z 6))||(Cj j 1))||(Dx j 1048576))then
some 8
else
if(geq d 8)then
if(geq d 8)then
some 0
else
some 8
else
if(geq d 16)then
if(geq d 16)then
some 0
else
some 8
else
if(geq d 24)then
some 0
else
some 8
def gS:Option (Bool×Int):=
(Ra z d j).bind λc=>
if(Bg c 0)then
some (false,c)
else
some (((Dx z 2)||(Dx d 16)),0)
def QV:Option (LB):=
if C then
(Br ([(1:UInt8),(0:UInt8),(0:UInt8),(0:UInt8),(0:UInt8),(0:UInt8),(16:UInt8),(0:UInt8),(128:UInt8),(0:UInt8),(0:UInt8),(170:UInt8),(0:UInt8),(56:UInt8),(155:UInt8),(113:UInt8)]:LB) 0 16).bind λz=>
(Dt X z).bind λc=>
some c
else
some X
def CQ:=QV
def Un(j8:Bool->LB->Option (LB))(qm:Int->LB->Option (LB))(a:Bool)(h:Int)(f:LQ)(g:Int)(b:LB):Option (LB):=
if(Cj g h)then
(Am f g).bind λ_=>
(Am f g).bind λv=>
(Am ([(2:Int),(2:Int),(4:Int),(4:Int),(2:Int),(2:Int),(2:Int),(2:Int),(4:Int)]:LI) g).bind λw=>
(Qf v w).bind λ(y,ac)=>
(Dt b y).bind λaa=>
qm (Ae g 1) aa
else
j8 a b
def Fh:Nat->Int->LB->Option (LB)
|0,_,_=>none
|z+1,c,d=>Un CQ (Fh z) C D y9 c d
def OS a h f:=Fh a h f Au
def CR(j6:Bool->Int->LQ->Int->LB->Option (LB))(a:Bool)(h:Int)(f:LQ):Option (LB):=
j6 a h f 0 ([]:LB)
def QT:=CR OS
def OX(j5:Bool->Int->LQ->Option (LB))(m k n:Int)(a:Bool)(o:UInt64):Option (LB):=
if a then
(Am ([(1:UInt64),(Ad m:UInt64),(Ad n:UInt64),(Bi (Ad n:UInt64) (Ad (Bq (Bi m k) 8):UInt64)),(Ad (Bq (Bi m k) 8):UInt64),(Ad k:UInt64),(22:UInt64),(Ad k:UInt64),o]:LQ) 0).bind λ_=>
(Mv ([(1:UInt64),(Ad m:UInt64),(Ad n:UInt64),(Bi (Ad n:UInt64) (Ad (Bq (Bi m k) 8):UInt64)),(Ad (Bq (Bi m k) 8):UInt64),(Ad k:UInt64),(22:UInt64),(Ad k:UInt64),o]:LQ) 0 65534).bind λab=>
j5 a 9 ab
else
j5 a 6 ([(1:UInt64),(Ad m:UInt64),(Ad n:UInt64),(Bi (Ad n:UInt64) (Ad (Bq (Bi m k) 8):UInt64)),(Ad (Bq (Bi m k) 8):UInt64),(Ad k:UInt64),(22:UInt64),(Ad k:UInt64),o]:LQ)
def EW:=OX QT
def MW:Option (LB×Int):=
(gS z d j).bind λ(c,e)=>
if(Bg e 0)then
some (([]:LB),e)
else
(Jg (Mk z 0)).bind λ_=>
(EW z d j c (Aq (Du (1:UInt64) (GI.toZ z).toNat) 1)).bind λi=>
some (i,0)
def Abi:Option Bool:=
some (geq (Ac c) 4)
def tY:=Abi
def KY(j6:LB->Option Bool)(Rb:Int->Option Bool)(a:LB)(b:Int):Option Bool:=
if(Cj b (Ac a))then
(Am a b).bind λ_=>
(Am a b).bind λf=>
if((Cj f 32)||(Dx f 126))then
some false
else
Rb (Ae b 1)
else
j6 a
def Vw:Nat->Int->Option Bool
|0,_=>none
|z+1,d=>KY tY (Vw z) c d
def Aa2 a:=Vw a Au
def uI(j4:LB->Int->Option Bool)(a:LB):Option Bool:=
j4 a 0
def Sg:=uI Aa2
def O1:Option Int:=
some z
def mS:=O1
def KU:Option Int:=
if(Cj Br5 (Ac l6))then
(Am l6 Br5).bind λz=>
Brb (Ae Bru (Ae (Ae 8 (Ac z.2.1)) (Ez (Ac z.2.1) 1))) (Ae Br5 1)
else
Bra Bru
def BU:Nat->Int->Int->Option Int
|0,_,_=>none
|z+1,c,d=>KU mS (BU z) l6 c d
def G3 a:=BU a Au
def nD(j4:(List (LB×LB×Unit))->Int->Int->Option Int)(a:List (LB×LB×Unit)):Option Int:=
j4 a 4 0
def PA:=nD G3
def KR(a f:LB):Option Bool:=
(Sg a).bind λb=>
some (!b)
def sA:Option Int:=
some 0
def vD:=sA
def tM:Option Int:=
if y5 then
some 8
else
Bq9
def BB:=tM vD
def Aav:Option Int:=
r9 y5
def tD:=Aav BB
def Abj:Option Int:=
r9 (Mk (-1:Int) (0:Int))
def uT:=Abj tD
def Acw(Bcc:Int->Option Int)(a:List (LB×LB×Unit))(b:Int):Option Int:=
Bcc (Ae b 1)
def Aac Bcc:=Acw Bcc
def Aeg(j26:Bool->Option Int)(j23:Int->Option Int)(a:List (LB×LB×Unit))(b:Int)(g:Bool):Option Int:=
if g then
j26 (Mk b 0)
else
j23 b
def uQ Bcc a:=Aeg tD (Aac Bcc a) a
def uC(j22:Int->Bool->Option Int)(j25:Option Int)(a:List (LB×LB×Unit))(b:Int):Option Int:=
if(Cj b (Ac a))then
(Am a b).bind λk=>
(KR k.1 k.2.1).bind λg=>
j22 b g
else
j25
def aS:Nat->Int->Option Int
|0,_=>none
|z+1,c=>uC (uQ (aS z) l6) uT l6 c
def Abe a:=aS a Au
def sP:Option Int:=
r9 y5
def aQ:=sP BB
def sF:Option Int:=
r9 (Mk (-1:Int) (0:Int))
def bY:=sF aQ
def aT(VV:Int->Option Int)(a:List (LB×LB×Unit))(f:Int):Option Int:=
VV (Ae f 1)
def ZQ VV:=aT VV
def aR(j34:Bool->Option Int)(j31:Int->Option Int)(a:List (LB×LB×Unit))(f:Int)(h:Bool):Option Int:=
if h then
j34 (Mk f 0)
else
j31 f
def MQ VV a:=aR aQ (ZQ VV a) a
def BF(j30:Int->Bool->Option Int)(j33:Option Int)(a:List (LB×LB×Unit))(f:Int):Option Int:=
if(Cj f (Ac a))then
(Am a f).bind λm=>
(KR m.1 m.2.1).bind λh=>
j30 f h
else
j33
def Vm:Nat->Int->Option Int
|0,_=>none
|z+1,c=>BF (MQ (Vm z) l6) bY l6 c
def tJ a:=Vm a Au
def QW(j35:Bool->Option Int)(j19:(List (LB×LB×Unit))->Int->Option Int)(j27:(List (LB×LB×Unit))->Int->Option Int)(u:LB)(a:List (LB×LB×Unit)):Option Int:=
if(Dx (Ac a) 20)then
some 4
else
(Sg u).bind λv=>
if(!v)then
if true then
j35 true
else
j19 a 0
else
(PA a).bind λw=>
if(Dx (Ae w 8) 100000)then
j35 true
else
j27 a 0
def AL:=QW BB Abe tJ
def YL:Option LB:=
(Qf (Ad B:UInt64) 4).bind λ(z,_)=>
(Dt c e).bind λd=>
Dt d z
def SG:List (LB×LB×Unit)->LB->Option LB
|[],o=>some o
|c::l,o=>
(YL o c.1 (Ac c.2.1)).bind λp=>
(Dt p c.2.1).bind λu=>
(mkI (Ez (Ac c.2.1) 1) (0:UInt8)).bind λz=>
(Dt u z).bind λv=>
SG l v
def QR:Option (LB×Int):=
(AL c l6).bind λz=>
if(Bg z 0)then
some (([]:LB),z)
else
(PA l6).bind λd=>
(YL [] [82,73,70,70] d).bind λe=>
(Dt e c).bind λi=>
(SG l6 i).bind λj=>
some (j,0)
def IA:Option (LB×Int):=
(Cl z d j i).bind λc=>
if(Bg c 0)then
some (([]:LB),c)
else
(MW z d j).bind λ(e,A)=>
(Jy d i).bind λ(B,C)=>
(QR ([87,65,86,69]:LB) ([(([102,109,116,32]:LB),e,()),(([100,97,116,97]:LB),B,())]:List (LB×LB×Unit))).bind λ(D,E)=>
some (D,E)
abbrev SQ:=Option (LB×LB×LB×Bool)
def IQ:SQ:=
if(Dx A (Ad (Ac c):UInt64))then
some (([]:LB),([]:LB),([]:LB),false)
else
(Br c 0 (GI.toZ A)).bind λz=>
(Ir z).bind λd=>
(Br c (GI.toZ A) (Ac c)).bind λe=>
if(geq (CU A 2) 1)then
if(geq (Ac e) 0)then
some (([]:LB),([]:LB),([]:LB),false)
else
(Am e 0).bind λi=>
if(Bg i 0)then
some (([]:LB),([]:LB),([]:LB),false)
else
(Br e 1 (Ac e)).bind λj=>
some (o7,d,j,true)
else
some (o7,d,e,true)
def mG:=IQ
def mK(j4:LB->UInt64->LB->SQ)(a:LB):SQ:=
(HZ a 4 4).bind λ(f,v)=>
(Br a 0 4).bind λh=>
(Br a 8 (Ac a)).bind λb=>
j4 b f h
def lP:=mK mG
def oJ(j3:LB->SQ)(a:LB):SQ:=
if(Cj (Ac a) 8)then
some (([]:LB),([]:LB),([]:LB),false)
else
(Br a 0 4).bind λp=>
(Sg p).bind λu=>
if(!u)then
some (([]:LB),([]:LB),([]:LB),false)
else
j3 a
def YJ:=oJ lP
abbrev Ns:=Option (LB×(List (LB×LB×Unit))×Int)
def iI:Ns:=
if(Dx (Ad (Ac c):UInt64) (Ae A 8))then
some (([]:LB),([]:List (LB×LB×Unit)),38)
else
some (o7,l6,0)
def QY:=iI
def CK(j10:LB->UInt64->LB-> (List (LB×LB×Unit))->Ns)(bk8:LB-> (List (LB×LB×Unit))->Ns)(a:LB)(b:UInt64)(f h:LB)(g:List (LB×LB×Unit)):Ns:=
if(Dx (Ac h) 0)then
if(geq (Ac g) 20)then
some (([]:LB),([]:List (LB×LB×Unit)),4)
else
(YJ h).bind λ(k,m,n,o)=>
if(!o)then
some (([]:LB),([]:List (LB×LB×Unit)),12)
else
(Dt g ([(k,m,())]:List (LB×LB×Unit))).bind λp=>
bk8 n p
else
j10 a b f g
def Tg:Nat->LB-> (List (LB×LB×Unit))->Ns
|0,_,_=>none
|z+1,d,e=>CK QY (Tg z) c A o7 d e
def nM a b f:=Tg a b f Au
def XM(j8:LB->UInt64->LB->LB-> (List (LB×LB×Unit))->Ns)(a:LB)(b:UInt64)(f:LB):Ns:=
(Br a 12 (GI.toZ (Ae b 8))).bind λu=>
j8 a b f u ([]:List (LB×LB×Unit))
def oF:=XM nM
def YA(j7:LB->UInt64->LB->Ns)(a:LB)(b:UInt64)(f:LB)(v:Bool):Ns:=
if v then
some (([]:LB),([]:List (LB×LB×Unit)),12)
else
if(Dx (Ae b 8) 100000)then
some (([]:LB),([]:List (LB×LB×Unit)),4)
else
if(Dx (Ae b 8) (Ad (Ac a):UInt64))then
some (([]:LB),([]:List (LB×LB×Unit)),24)
else
j7 a b f
def XV:=YA oF
def XZ(j6:LB->UInt64->LB->Bool->Ns)(a:LB):Ns:=
if(Cj (Ac a) 12)then
some (([]:LB),([]:List (LB×LB×Unit)),24)
else
(HZ a 4 4).bind λ(b,aa)=>
(Br a 8 12).bind λf=>
(Br a 0 4).bind λw=>
if(w !=([82,73,70,70]:LB))then
j6 a b f (true||(Cj b 4))
else
(Sg f).bind λy=>
j6 a b f ((!y)||(Cj b 4))
def YP:=XZ XV
abbrev Iq:=Option (Int×Int)
def gK:Iq:=
if(Cj z 0)then
some (0,6)
else
some (z,0)
def RC:=gK
def xN(j16:Int->Iq):Iq:=
j16 (-1:Int)
def iE:=xN RC
def xV(bk9:Int->Iq)(a:List (LB×LB×Unit))(b:LB)(f:Int):Iq:=
bk9 (Ae f 1)
def yT bk9:=xV bk9
def xQ(j16:Int->Iq)(j13:Int->Iq)(a:List (LB×LB×Unit))(b:LB)(f:Int)(g:LB×LB×Unit):Iq:=
if(g.1==b)then
j16 f
else
j13 f
def gD bk9 a b:=xQ RC (yT bk9 a b) a b
def YC(j12:Int-> (LB×LB×Unit)->Iq)(j15:Iq)(a:List (LB×LB×Unit))(b:LB)(f:Int):Iq:=
if(Cj f (Ac a))then
(Am a f).bind λg=>
j12 f g
else
j15
def Wr:Nat->Int->Iq
|0,_=>none
|z+1,c=>YC (gD (Wr z) l6 Brx) iE l6 Brx c
def Ahu a b:=Wr a b Au
def J8(j9:(List (LB×LB×Unit))->LB->Int->Iq)(a:List (LB×LB×Unit))(b:LB):Iq:=
j9 a b 0
def kH:=J8 Ahu
def JR:Option (Int×Int):=
(kH l6 Brx).bind λ(z,c)=>
if(Bg c 0)then
some (0,c)
else
(Br l6 (Ae z 1) (Ac l6)).bind λd=>
(kH d Brx).bind λ(e,i)=>
if(geq i 0)then
some (0,12)
else
some (z,0)
abbrev Om:=Option (Int×Int×Int×Int)
def Mm:Om:=
(Am y9 1).bind λ_=>
(Am y9 1).bind λz=>
(Am y9 5).bind λ_=>
(Am y9 5).bind λd=>
(Am y9 2).bind λ_=>
(Am y9 2).bind λe=>
(Ra (Ad z:Int) (Ad d:Int) (Ad e:Int)).bind λi=>
if(Bg i 0)then
some (0,0,0,12)
else
(Am y9 0).bind λ_=>
(Am y9 0).bind λj=>
(Am y9 8).bind λ_=>
(Am y9 8).bind λA=>
(EW (Ad z:Int) (Ad d:Int) (Ad e:Int) (geq j 65534) A).bind λB=>
(Fp c B).bind λC=>
if(!C)then
some (0,0,0,12)
else
some ((Ad z:Int),(Ad d:Int),(Ad e:Int),0)
def lG:=Mm
def CG(j6:LB->LQ->Om)(Rb:Int->Int->LQ->Om)(b:LB)(g f:Int)(a:LQ):Om:=
if(Cj f 9)then
(Am ([(2:Int),(2:Int),(4:Int),(4:Int),(2:Int),(2:Int),(2:Int),(2:Int),(4:Int)]:LI) f).bind λh=>
if(T5 (Ae g h) (Ac b))then
(HZ b g h).bind λ(w,aa)=>
(Am a f).bind λ_=>
(Mv a f w).bind λy=>
Rb (Ae g h) (Ae f 1) y
else
Rb (Ae g h) (Ae f 1) a
else
j6 b a
def Jv:Nat->Int->Int->LQ->Om
|0,_,_,_=>none
|z+1,d,e,i=>CG lG (Jv z) c d e i
def iS b:=Jv b Au
def OQ(j4:LB->Int->Int->LQ->Om)(b:LB):Om:=
j4 b 0 0 ([(0:UInt64),(0:UInt64),(0:UInt64),(0:UInt64),(0:UInt64),(0:UInt64),(0:UInt64),(0:UInt64),(0:UInt64)]:LQ)
def Tn:=OQ iS
def MS:Option (Int×Int×Int×LX×Int):=
(YP c).bind λ(z,d,e)=>
if(Bg e 0)then
some (0,0,0,([]:LX),e)
else
if(z !=([87,65,86,69]:LB))then
some (0,0,0,([]:LX),12)
else
(JR d ([102,109,116,32]:LB)).bind λ(i,j)=>
(JR d ([100,97,116,97]:LB)).bind λ(A,B)=>
if((geq j 6)||(geq B 6))then
some (0,0,0,([]:LX),6)
else
if(((Bg j 0)||(Bg B 0))||(Dx i A))then
some (0,0,0,([]:LX),12)
else
(Am d i).bind λ_=>
(Am d i).bind λC=>
(Tn C.2.1).bind λ(D,E,F,G)=>
if(Bg G 0)then
some (0,0,0,([]:LX),G)
else
(Am d A).bind λ_=>
(Am d A).bind λI=>
if(geq (Ac I.2.1) 0)then
some (0,0,0,([]:LX),12)
else
(Jg (Bg (Bq (Bi D E) 8) 0)).bind λ_=>
if(Dx (Ha (Ac I.2.1) (Bq (Bi D E) 8)) 0)then
some (0,0,0,([]:LX),12)
else
(Nb E I.2.1).bind λ(J,L)=>
if(Bg L 0)then
some (0,0,0,([]:LX),4)
else
(Cl D E F J).bind λM=>
if(Bg M 0)then
some (0,0,0,([]:LX),4)
else
some (D,E,F,J,0)
abbrev It:=Option (LB×Int)
def B7:It:=
some (e,z)
def bS:=B7
def D3(j6:Int->LB->It)(b:Int)(f:LB):It:=
j6 b f
def zP:=D3 bS
def GK(j6:Int->LB->It)(j5:Int->LB->It)(a:Int)(g:LB)(h k m:Int)(n:LX):It:=
if(Bg a 0)then
j6 a ([]:LB)
else
(Zz h k m n g).bind λ(f,b)=>
j5 b f
def GF:=GK bS zP
def GW(j4:Int->LB->Int->Int->Int->LX->It)(u g:LB):It:=
(MS u).bind λ(h,k,m,n,a)=>
j4 a g h k m n
def Oe:=GW GF
abbrev Lo:=Option (LB×Int)
def X3:Lo:=
some (e,z)
def jU:=X3
def X8(j6:Int->LB->Lo)(b:Int)(f:LB):Lo:=
j6 b f
def X0:=X8 jU
def PH(j6:Int->LB->Lo)(j5:Int->LB->Lo)(a g h k:Int)(m:LX):Lo:=
if(Bg a 0)then
j6 a ([]:LB)
else
(IA g h k m).bind λ(f,b)=>
j5 b f
def QQ:=PH jU X0
def QL(j4:Int->Int->Int->Int->LX->Lo)(p u:LB):Lo:=
(Nr p u).bind λ(g,h,k,m,a)=>
j4 a g h k m
def Tr:=QL QQ
abbrev iC:=Option (Int×Int×Int×Int×Int×Int)
def sS:iC:=
if(c !=([]:LB))then
some (2,z,d,j,(Bq (Ac i) z),0)
else
some (1,z,d,j,(Bq (Ac i) z),0)
def aU:=sS
def IK(j2:LB->Int->Int->Int->LX->iC)(a b f:Int)(g:LX)(h:LB):iC:=
(Cl a b f g).bind λk=>
if(Bg k 0)then
some (0,0,0,0,0,k)
else
if(Dx (Ac h) 64)then
some (0,0,0,0,0,2)
else
(Jg (Bg a 0)).bind λ_=>
(
j2 h a b f g)
def fC:=IK aU
def Tw(a:Int)(b:LX):LI->Int->Option (List LX)
  |[],_=>some []
  |n::l,x=>Option.bind (Br b x (Ae x (Bi n a))) λp=>Option.bind (Tw a b l (Ae x (Bi n a))) λps=>some (p::ps)
def Ts(a f:Int)(t:LX):List LX->List LB->Option (List LB×Int)
  |[],o=>some (o,0)
  |x::xs,o=>Option.bind (Nt a f t x) λy=>
    if(Bg y.2 0)=true then some ([],y.2)
    else Option.bind (Dt o [y.1]) λo'=>Ts a f t xs o'
def bT:Option (List LX):=
  Option.bind (Jg (Bg z 0)) λ_=>Option.bind (AI d (Bq (Ac i) z)) λc=>Option.bind (Jg (decide (Ac c.1<=17179869184))) λ_=>Tw z i c.1 0
def SU:Option (List LB×Int):=
  Option.bind (Cl z d j i) λc=>
    if(Bg c 0)=true then some ([],c)
    else Option.bind (Oa e) λA=>
      if(Bg A.2 0)=true then some ([],A.2)
      else Option.bind (bT z j i) λB=>Ts z d A.1 B []
def gL:Option Int:=
some (Ac c)
def Aa8:Option (LB):=
some c
def uG:=Aa8
def LN:Option (LB):=
if(Cj Bqz (Ac Brs))then
(Am Brs Bqz).bind λz=>
(Dt Brt z).bind λc=>
Bro (Ae Bqz 1) c
else
Brn Brt
def Wa:Nat->Int->LB->Option (LB)
|0,_,_=>none
|z+1,c,d=>LN uG (Wa z) l5 c d
def Acl a:=Wa a Au
def rU(j4:(List LB)->Int->LB->Option (LB))(a:List LB):Option (LB):=
j4 a 0 ([]:LB)
def uP:=rU Acl
abbrev Gc:=Option (LB×Int)
def oS:Gc:=
if(Bg z 0)then
some (([]:LB),z)
else
(Dt ([X,Bq6,Brm]:List LB) l5).bind λc=>
(uP c).bind λd=>
some (d,0)
def pP:=oS
def oT(j14:Int-> (List LB)->LB->LB->LB->Gc)(h:LI)(a:List LB)(b f:LB):Gc:=
(IC h).bind λ(n,k)=>
j14 k a b f n
def Xu:=oT pP
def oO(bk9:Int->LI->Gc)(a:List LB)(b f:LB)(g:Int)(m:LI):Gc:=
bk9 (Ae g 1) m
def VB bk9:=oO bk9
def KW(j11:Int->LI->Gc)(j13:LI-> (List LB)->LB->LB->Gc)(a:List LB)(b f:LB)(g:Int)(h:LI):Gc:=
if(Cj g (Ac a))then
(Am a g).bind λ_=>
(Am a g).bind λae=>
(gL ae).bind λk=>
(Am h g).bind λ_=>
(Mv h g k).bind λm=>
j11 g m
else
j13 h a b f
def Vx:Nat->Int->LI->Gc
|0,_,_=>none
|z+1,c,d=>KW (VB (Vx z) l5 X Bq6) Xu l5 X Bq6 c d
def Ac6 a b f:=Vx a b f Au
def ZB(j9:(List LB)->LB->LB->Int->LI->Gc)(a:List LB)(b f:LB):Gc:=
(mkI (Ac a) (0:Int)).bind λaf=>
(Jg (geq (Ac a) (Ac a))).bind λ_=>
j9 a b f 0 af
def aJ:=ZB Ac6
def ZP(j8:(List LB)->LB->LB->Gc)(p u v:Int)(w:LX)(o:LB):Gc:=
(fC p u v w o).bind λ(y,ag,ah,ai,aj,aa)=>
if(Bg aa 0)then
some (([]:LB),aa)
else
(SU p u v w o).bind λ(a,ab)=>
if(Bg ab 0)then
some (([]:LB),ab)
else
(LD y ag ah ai aj).bind λ(b,ac)=>
if(Bg ac 0)then
some (([]:LB),ac)
else
if(geq y 2)then
(CJ o).bind λ(ak,al)=>
j8 a b ak
else
j8 a b ([]:LB)
def fQ:=ZP aJ
def aF:Option (LB×Int):=
(MS c).bind λ(z,d,i,j,A)=>
if(Bg A 0)then
some (([]:LB),A)
else
(fQ z d i j e).bind λ(B,C)=>
some (B,C)
def qY:Option (Int×Int×Int×Int×Int×Int×Int×Int×Int×Int×LI×Int):=
if(Dx (Ac c) 100000)then
some (0,0,0,0,0,0,0,0,0,0,([]:LI),4)
else
(Ju c).bind λ(z,d)=>
if(Bg d 0)then
some (0,0,0,0,0,0,0,0,0,0,([]:LI),d)
else
(Br c z (Ac c)).bind λe=>
(Nh e).bind λ(i,j,A,B,C,D)=>
if(Bg D 0)then
some (i,j,A,B,C,0,0,0,0,0,([]:LI),D)
else
(Eb i j A B C).bind λ(E,F)=>
if(geq i 2)then
some (i,j,A,B,C,z,(Ae z 22),(Ae (Ae z 22) 8),0,0,E,0)
else
some (i,j,A,B,C,z,(Ae z 22),(Ae z 22),0,0,E,0)
abbrev Ck:=Option (Int×Int×Int×LX×Int)
def qW:Ck:=
(Br c z (Ac c)).bind λe=>
(KE e).bind λ(A,B)=>
if(Bg B 0)then
some (0,0,0,([]:LX),38)
else
some (d,j,I,i,0)
def aM:=qW
def sH(Aqq:Int->Int->LX->Ck)(a:LB)(w:LI)(m f g h o p n b ab ae:Int)(ac:LX)(k:LI)(y aj ak aa:Int)(an ad:LX):Ck:=
if(Bg ak 0)then
some (0,0,0,([]:LX),ak)
else
(Dt ad an).bind λau=>
Aqq (Ae y aj) (Ae aa 1) au
def aI Aqq:=sH Aqq
def LV(j24:Int->Int->Int->Int->LX->LX->Ck)(j26:LB->Int->Int->Int->Int->LX->Ck)(a:LB)(w:LI)(m f g h o p n b ab ae:Int)(ac:LX)(k:LI)(y aa:Int)(ad:LX):Ck:=
if(Cj aa (Ac w))then
(Am w aa).bind λ_=>
(Am w aa).bind λaj=>
if(Cj (Ac a) (Ae y aj))then
some (0,0,0,([]:LX),24)
else
(Am k aa).bind λ_=>
(Br a y (Ae y aj)).bind λav=>
(Am k aa).bind λaw=>
(Kj f g ac aw av).bind λ(an,ak)=>
j24 y aj ak aa an ad
else
j26 a y f g h ad
def Vf:Nat->Int->Int->LX->Ck
|0,_,_,_=>none
|e+1,A,B,C=>LV (aI (Vf e) c E z d j I O Bqy Brg Br9 Bsa Bsb i l9) aM c E z d j I O Bqy Brg Br9 Bsa Bsb i l9 A B C
def sJ a w m f g h o p n b ab ae ac k:=Vf a w m f g h o p n b ab ae ac k Au
def Vp(j21:LB->LI->Int->Int->Int->Int->Int->Int->Int->Int->Int->Int->LX->LI->Int->Int->LX->Ck)(a u:LB)(m f g h o p n b:Int)(k:LI)(ao ab ae:Int)(w:LI):Ck:=
if(Bg ao 0)then
some (0,0,0,([]:LX),ao)
else
(Oa u).bind λ(ac,bc)=>
j21 a w m f g h o p n b ab ae ac k ab 0 ([]:LX)
def Vg:=Vp sJ
def ZL(j20:LB->LB->Int->Int->Int->Int->Int->Int->Int->Int->LI->Int->Int->Int->LI->Ck)(a u:LB)(v:LI)(m f g h o p n b af:Int)(k:LI):Ck:=
j20 a u m f g h o p n b k 0 (Ae (Ae b (Bi 4 (Ac v))) 4) af v
def aB:=ZL Vg
def KJ(j19:LB->LB->LI->Int->Int->Int->Int->Int->Int->Int->Int->Int->LI->Ck)(Bjs:Int->Int->Ck)(v:LI)(a u:LB)(m f g h o p n b:Int)(k:LI)(ag af:Int):Ck:=
if(Cj ag (Ac v))then
(Am v ag).bind λ_=>
(Am v ag).bind λax=>
Bjs (Ae ag 1) (Ae af ax)
else
j19 a u v m f g h o p n b af k
def Ur:Nat->Int->Int->Ck
|0,_,_=>none
|z+1,c,d=>KJ aB (Ur z) E e p8 B F J T U R D Bq5 Bsg c d
def qU v a u m f g h o p n b k:=Ur v a u m f g h o p n b k Au
def JH(j20:LB->LB->Int->Int->Int->Int->Int->Int->Int->Int->LI->Int->Int->Int->LI->Ck)(j17:LI->LB->LB->Int->Int->Int->Int->Int->Int->Int->Int->LI->Int->Int->Ck)(al:Int)(a u:LB)(m f g h o p n b ah ai:Int)(v k:LI):Ck:=
if(Bg al 0)then
j20 a u m f g h o p n b k al ah ai ([]:LI)
else
j17 v a u m f g h o p n b k 0 (Ae (Ae b (Bi 4 (Ac v))) 4)
def YT:=JH Vg qU
def bA(j20:LB->LB->Int->Int->Int->Int->Int->Int->Int->Int->LI->Int->Int->Int->LI->Ck)(j16:Int->LB->LB->Int->Int->Int->Int->Int->Int->Int->Int->Int->Int->LI->LI->Ck)(a u:LB)(m f g h o p n b ah ai:Int)(k:LI):Ck:=
if(Cj (Ac a) b)then
j20 a u m f g h o p n b k 24 ah ai ([]:LI)
else
(Br a b (Ac a)).bind λay=>
(GC ay (Ac k)).bind λ(v,al)=>
j16 al a u m f g h o p n b ah ai v k
def LC:=bA Vg YT
def LA(j15:LB->LB->Int->Int->Int->Int->Int->Int->Int->Int->Int->Int->LI->Ck)(a u:LB)(m f g h o p n b ah ai:Int)(k:LI)(am:Int):Ck:=
if(Bg am 0)then
some (0,0,0,([]:LX),am)
else
j15 a u m f g h o p n b ah ai k
def Vh:=LA LC
def gH(j14:LB->LB->Int->Int->Int->Int->Int->Int->Int->Int->Int->Int->LI->Int->Ck)(a u:LB):Ck:=
if(Dx (Ac u) 64)then
some (0,0,0,([]:LX),2)
else
(qY a).bind λ(m,f,g,h,o,p,n,b,ah,ai,k,ap)=>
if(Bg ap 0)then
some (0,0,0,([]:LX),ap)
else
if((u==([]:LB)) !=(geq m 1))then
j14 a u m f g h o p n b ah ai k 26
else
if(geq m 1)then
j14 a u m f g h o p n b ah ai k 0
else
if(Cj (Ac a) b)then
j14 a u m f g h o p n b ah ai k 24
else
(Br a n b).bind λaz=>
(Pn az u).bind λ(ba,bd)=>
if(!ba)then
j14 a u m f g h o p n b ah ai k 26
else
j14 a u m f g h o p n b ah ai k 0
def Kx:=gH Vh
def iP:Option (LB×Int):=
(Kx c e).bind λ(z,d,i,j,A)=>
if(Bg A 0)then
some (([]:LB),A)
else
(IA z d i j).bind λ(B,C)=>
some (B,C)
def Tj:Option Bool:=
(FX).bind λc=>
(Da z d j i).bind λA=>
if(((((Bg A 0)||(Dx (Ac i) 400))||(Dx (Ac e) 64))||(Dx (Ac p8) 2000))||(!c))then
some c
else
(IA z d j i).bind λ(B,C)=>
(Oe B e).bind λ(D,E)=>
(Tr D e).bind λ(F,G)=>
(Oe p8 e).bind λ(I,J)=>
(aF p8 e).bind λ(L,M)=>
(Tr p8 e).bind λ(N,O)=>
(iP p8 e).bind λ(P,R)=>
some ((((((((c&&(geq C 0))&&(geq E 0))&&(geq G 0))&&(F==B))&&(geq J M))&&(I==L))&&(geq O R))&&(N==P))
def Ll:Option Bool:=
if((((geq z 1)||(geq z 2))&&(Mk d 1))&&(T5 d 6))then
some ((((((geq j 8)||(geq j 16))||(geq j 24))&&(Mk I 1))&&(T5 I 1048576))&&(Mk O 1))
else
some (((false&&(Mk I 1))&&(T5 I 1048576))&&(Mk O 1))
def Zk:Option Int:=
some (H5 1 (Bq (Bi 256 z) 245))
def Rh:Option (LI):=
some E
def Rn:=Rh
def Mf(j6:LI->Option (LI))(Rb:Int->LI->Option (LI))(a f:Int)(b:LI):Option (LI):=
if(Dx f 0)then
(Zk a).bind λg=>
(Dt b ([(Iu f g)]:LI)).bind λh=>
(Zk a).bind λk=>
Rb (Aq f k) h
else
j6 b
def Gl:Nat->Int->LI->Option (LI)
|0,_,_=>none
|c+1,d,e=>Mf Rn (Gl c) z d e
def NI a:=Gl a Au
def NW(j4:Int->Int->LI->Option (LI))(a m:Int):Option (LI):=
j4 a m ([]:LI)
def Fv:=NW NI
def Zq(h a k f b:Int):Option Bool:=
(
(Jg (Bg a 0)).bind λ_=>
(
if(Dx b (Bq 4000 a))then
some true
else
(Fv f b).bind λg=>
some (Dx (Ac g) 1000)))
def Mu:Option Int:=
(Ll z d j I O).bind λc=>
if(!c)then
some 8
else
(Zq z d j I O).bind λe=>
if e then
some 8
else
some 0
def Ey(a f g h k:Int)(b:LB):Option Int:=
if((b==([]:LB)) !=(geq a 1))then
some 26
else
some 0
def MK:Option Int:=
if(Dx z 100000)then
some 8
else
some 0
def LW:=MK
def NY:Option Int:=
(Am Brf y8).bind λz=>
Brb (Ae Brd z) (Ae y8 1)
def OC qm:=NY qm
def Yt:Option Int:=
if(Cj Brz (Ac Br6))then
(Am Br6 Brz).bind λz=>
if(Cj z 5)then
some 8
else
(Am Br6 Brz).bind λc=>
if(Dx c 100000)then
some 8
else
Brb Bsd Brz
else
Bsr Bsd
def Mi:Nat->Int->Int->Option Int
|0,_,_=>none
|z+1,c,d=>Yt (OC (Mi z) E) LW E c d
def OK a:=Mi a Au
def Yi(j6:LI->Int->Int->Option Int)(a:LI):Option Int:=
if((Cj (Ac a) 1)||(Dx (Ac a) 1000))then
some 8
else
j6 a 0 0
def Ji:=Yi OK
def Hm(g h k a b:Int):Option (LI):=
(Fv a b).bind λf=>
some f
def Fx(f a b g h:Int):Option (Int×Int):=
some (a,b)
def WS:Option Int:=
some (Bq (Bi z d) 8)
def TQ:Option Int:=
(Fx d j I O Bqy).bind λ(c,e)=>
(WS c e).bind λi=>
some (Bi z i)
def RX:=TQ
def AJ(j6:Int->Int->Int->Int->Int->Int->Option Int)(Rb:Int->Int->Option Int)(n a b f g h:Int)(k:LI)(m o:Int):Option Int:=
if(Cj o n)then
(Am k o).bind λ_=>
(Am k o).bind λw=>
Rb (Ae m w) (Ae o 1)
else
j6 m a b f g h
def Nj:Nat->Int->Int->Option Int
|0,_,_=>none
|c+1,e,i=>AJ RX (Nj c) z d j I O Bqy l9 e i
def qS n a b f g h k:=Nj n a b f g h k Au
def TD(j4:Int->Int->Int->Int->Int->Int->LI->Int->Int->Option Int)(a b f g h n:Int):Option Int:=
(Hm a b f g h).bind λk=>
j4 n a b f g h k 0 0
def Zo:=TD qS
abbrev Hg:=Option (Int×Int)
def qA:Hg:=
some (z,0)
def qP:=qA
def Ys(j6:Int->Hg)(Rb:Int->Int->Hg)(a:LB)(b f:Int):Hg:=
if(Cj f 4)then
(Am a f).bind λg=>
if(Mk g 128)then
some (0,12)
else
(Am a f).bind λh=>
Rb (Ae (Bi 128 b) (Ad h:Int)) (Ae f 1)
else
j6 b
def Mh:Nat->Int->Int->Hg
|0,_,_=>none
|z+1,d,e=>Ys qP (Mh z) c d e
def NR a:=Mh a Au
def OI(j4:LB->Int->Int->Hg)(a:LB):Hg:=
if(Bg (Ac a) 4)then
some (0,2)
else
j4 a 0 0
def GJ:=OI NR
abbrev Ip:=Option (Int×Int)
def TN:Ip:=
if(Dx z 4000)then
some (0,4)
else
if(Cj (Ac c) z)then
some (0,24)
else
(Am c 5).bind λd=>
if(geq d 16)then
(Br c (Aq z 10) z).bind λe=>
(Br c 3 10).bind λi=>
(Dt ([51,68,73]:LB) i).bind λj=>
if(e !=j)then
some (0,12)
else
some (z,0)
else
some (z,0)
def Zv:=TN
def SH(j6:LB->Int->Ip)(a:LB)(b:Int):Ip:=
(Am a 5).bind λo=>
if(geq o 16)then
j6 a (Ae (Ae 10 b) 10)
else
j6 a (Ae 10 b)
def AE:=SH Zv
def SX(j5:LB->Int->Ip)(a:LB):Ip:=
if(Cj (Ac a) 10)then
some (0,24)
else
(Br a 6 10).bind λp=>
(GJ p).bind λ(b,f)=>
(Am a 3).bind λu=>
if(Cj u 2)then
if true then
if true then
if(true||(Bg f 0))then
some (0,12)
else
j5 a b
else
(Am a 5).bind λv=>
if(Bg v 0)then
(Am a 5).bind λw=>
if(Bg w 16)then
if(true||(Bg f 0))then
some (0,12)
else
j5 a b
else
(Am a 3).bind λy=>
if((Bg y 4)||(Bg f 0))then
some (0,12)
else
j5 a b
else
if(false||(Bg f 0))then
some (0,12)
else
j5 a b
else
(Am a 4).bind λaa=>
if(Bg aa 0)then
if(true||(Bg f 0))then
some (0,12)
else
j5 a b
else
(Am a 5).bind λab=>
if(Bg ab 0)then
(Am a 5).bind λac=>
if(Bg ac 16)then
if(true||(Bg f 0))then
some (0,12)
else
j5 a b
else
(Am a 3).bind λad=>
if((Bg ad 4)||(Bg f 0))then
some (0,12)
else
j5 a b
else
if(false||(Bg f 0))then
some (0,12)
else
j5 a b
else
(Am a 3).bind λae=>
if(Dx ae 4)then
if true then
if(true||(Bg f 0))then
some (0,12)
else
j5 a b
else
(Am a 5).bind λaf=>
if(Bg af 0)then
(Am a 5).bind λag=>
if(Bg ag 16)then
if(true||(Bg f 0))then
some (0,12)
else
j5 a b
else
(Am a 3).bind λah=>
if((Bg ah 4)||(Bg f 0))then
some (0,12)
else
j5 a b
else
if(false||(Bg f 0))then
some (0,12)
else
j5 a b
else
(Am a 4).bind λai=>
if(Bg ai 0)then
if(true||(Bg f 0))then
some (0,12)
else
j5 a b
else
(Am a 5).bind λaj=>
if(Bg aj 0)then
(Am a 5).bind λak=>
if(Bg ak 16)then
if(true||(Bg f 0))then
some (0,12)
else
j5 a b
else
(Am a 3).bind λal=>
if((Bg al 4)||(Bg f 0))then
some (0,12)
else
j5 a b
else
if(false||(Bg f 0))then
some (0,12)
else
j5 a b
def UJ:=SX AE
def SN(j4:LB->Ip)(a:LB):Ip:=
if(Cj (Ac a) 3)then
some (0,6)
else
(Br a 0 3).bind λam=>
if(am !=([73,68,51]:LB))then
some (0,6)
else
j4 a
def JV:=SN UJ
def ZF:Option UInt64:=
some A
def bE:=ZF
def GU:Option UInt64:=
if(Mk y7 0)then
(Am Brj y7).bind λz=>
Bq8 (Ae (Bi 256 o9) (Ad z:UInt64)) (Aq y7 1)
else
Bq7 o9
def Qw:Nat->UInt64->Int->Option UInt64
|0,_,_=>none
|z+1,d,e=>GU bE (Qw z) c d e
def aK a:=Qw a Au
def aG(j4:LB->UInt64->Int->Option UInt64)(a:LB):Option UInt64:=
j4 a 0 (Aq (Ac a) 1)
def Ep:=aG aK
def Za:Option (Int×Int×Bool):=
(Br c 12 16).bind λz=>
(Ep z).bind λd=>
(Br c 16 20).bind λe=>
(Ep e).bind λi=>
if(((Cj d 32)||(Dx d 3032))||(Dx i 1000))then
some (0,0,false)
else
some ((Aq (Ad d:Int) 32),(Ad i:Int),true)
def HN:Option (LB):=
some c
def HA:=HN
def Vv(j6:LB->Option (LB))(Rb:UInt64->Int->LB->Option (LB))(b:Int)(f:UInt64)(g:Int)(a:LB):Option (LB):=
if(Cj g b)then
(Dt a ([(Ad (CU f 256):UInt8)]:LB)).bind λh=>
Rb (Bq f 256) (Ae g 1) h
else
j6 a
def Jr:Nat->UInt64->Int->LB->Option (LB)
|0,_,_,_=>none
|c+1,d,e,i=>Vv HA (Jr c) z d e i
def HL b:=Jr b Au
def HU(j4:Int->UInt64->Int->LB->Option (LB))(k:UInt64)(b:Int):Option (LB):=
j4 b k 0 ([]:LB)
def Fo:=HU HL
def Vl:Option (LB):=
(Fo 2000 4).bind λc=>
(Dt ([(65:UInt8),(80:UInt8),(69:UInt8),(84:UInt8),(65:UInt8),(71:UInt8),(69:UInt8),(88:UInt8)]:LB) c).bind λe=>
(Fo (Ad (Ae z 32):UInt64) 4).bind λi=>
(Dt e i).bind λj=>
(Fo (Ad d:UInt64) 4).bind λB=>
(Dt j B).bind λC=>
(Fo A 4).bind λD=>
(Dt C D).bind λE=>
(mkI (8:Int) (0:UInt8)).bind λF=>
(Dt E F).bind λG=>
some G
def Zh:Option (LB):=
(Vl z d 2684354560).bind λc=>
some c
def Oc:Option (LB):=
if C then
(Vl z d 2147483648).bind λc=>
some c
else
(Vl z d 0).bind λe=>
some e
abbrev Nk:=Option (Int×Int)
def OB:Nk:=
if(Cj (Ac c) (Ae 64 z))then
some (0,24)
else
(Br c (Aq (Ae 64 z) 32) (Ae 64 z)).bind λe=>
(Oc z d true).bind λi=>
if(e !=i)then
some (0,12)
else
some ((Ae 64 z),0)
def OP:=OB
def NT(j4:LB->Int->Int->Nk)(a:LB):Nk:=
if(Cj (Ac a) 32)then
some (0,24)
else
(Br a 0 32).bind λk=>
(Za k).bind λ(b,f,m)=>
if(!m)then
some (0,12)
else
(Br a 0 32).bind λn=>
(Zh b f).bind λo=>
if(n !=o)then
some (0,12)
else
j4 a b f
def OA:=NT OP
def NL(j3:LB->Nk)(a:LB):Nk:=
if(Cj (Ac a) 8)then
some (0,6)
else
(Br a 0 8).bind λp=>
if(p !=([65,80,69,84,65,71,69,88]:LB))then
some (0,6)
else
j3 a
def GD:=NL OA
abbrev Hl:=Option (LI×Int)
def NZ(qm:Int->LI->Hl)(a:LB)(b:Int)(f:LI)(g h:Int):Hl:=
if(geq h 6)then
some (f,0)
else
if(Bg h 0)then
some (([]:LI),h)
else
if(Dx (Ae b g) 4000)then
some (([]:LI),4)
else
(Dt f ([g]:LI)).bind λm=>
qm (Ae b g) m
def Rm qm:=NZ qm
def Yw(j9:Int->LI->Int->Int->Hl)(a:LB)(b:Int)(f:LI):Hl:=
(Br a b (Ac a)).bind λn=>
(JV n).bind λ(o,k)=>
if(geq k 6)then
(Br a b (Ac a)).bind λp=>
(GD p).bind λ(u,v)=>
j9 b f u v
else
j9 b f o k
def Rc:Nat->Int->LI->Hl
|0,_,_=>none
|z+1,d,e=>Yw (Rm (Rc z) c) c d e
def qR a:=Rc a Au
def pU(j6:LB->Int->LI->Hl)(a:LB):Hl:=
j6 a 0 ([]:LI)
def ZN:=pU qR
abbrev Hs:=Option (Int×Int)
def NK:Hs:=
some (d,z)
def OO:=NK
def Yh(j6:Int->Int->Hs)(Rb:Int->Int->Hs)(a:Int)(b:LI)(f g:Int):Hs:=
if(Cj g (Ac b))then
(Am b g).bind λ_=>
(Am b g).bind λh=>
Rb (Ae f h) (Ae g 1)
else
j6 a f
def Ma:Nat->Int->Int->Hs
|0,_,_=>none
|c+1,d,e=>Yh OO (Ma c) z l9 d e
def Yj a b:=Ma a b Au
def NX(j4:Int->LI->Int->Int->Hs)(k:LB):Hs:=
(ZN k).bind λ(b,a)=>
j4 a b 0 0
def My:=NX Yj
def Uj:Option Bool:=
if(Cj (Ac c) (Ac e))then
(Br e 0 (Ac c)).bind λz=>
some (c==z)
else
some false
def TL:Option UInt32:=
if y5 then
some (BH (Bq V 2) 3988292384)
else
some (Bq V 2)
def SK:=TL
def RS(j2:UInt32->Bool->Option UInt32)(a:UInt32)(f:Int):Option UInt32:=
if(geq f 1)then
j2 a (!(geq (CU a 2) 1))
else
j2 a (geq (CU a 2) 1)
def MC:=RS SK
def TY:Option UInt32:=
some V
def UN:=TY
def BC(j6:UInt32->Option UInt32)(Rb:UInt32->UInt8->Int->Option UInt32)(a:UInt32)(b:UInt8)(f:Int):Option UInt32:=
if(Cj f 8)then
(MC a (Ad (CU b 2):Int)).bind λg=>
Rb g (Bq b 2) (Ae f 1)
else
j6 a
def Ng:Nat->UInt32->UInt8->Int->Option UInt32
|0,_,_,_=>none
|q+1,a,b,f=>BC UN (Ng q) a b f
def rO:=Ng Au
def uV(j4:UInt32->UInt8->Int->Option UInt32)(h:UInt32)(k:UInt8):Option UInt32:=
j4 h k 0
def fI:=uV rO
def KN:Option UInt32:=
some V
def MY:=KN
def Wl(j6:UInt32->Option UInt32)(Rb:UInt32->Int->Option UInt32)(a:LB)(b:UInt32)(f:Int):Option UInt32:=
if(Cj f (Ac a))then
(Am a f).bind λg=>
(fI b g).bind λh=>
Rb h (Ae f 1)
else
j6 b
def Lb:Nat->UInt32->Int->Option UInt32
|0,_,_=>none
|z+1,d,e=>Wl MY (Lb z) c d e
def LK a:=Lb a Au
def KH(j4:LB->UInt32->Int->Option UInt32)(k:UInt32)(a:LB):Option UInt32:=
j4 a k 0
def WA:=KH LK
def Xr:Option UInt32:=
(WA 4294967295 c).bind λz=>
some (Aq 4294967295 z)
abbrev Im:=Option (Int×Int×Int×Int×Int×Int)
def TH:Im:=
(Ll (Ad A:Int) (Ad Y:Int) (Ad Bre:Int) (Ad o9:Int) (Ad Brr:Int)).bind λz=>
if(!z)then
some (0,0,0,0,0,12)
else
(Zq (Ad A:Int) (Ad Y:Int) (Ad Bre:Int) (Ad o9:Int) (Ad Brr:Int)).bind λc=>
if c then
some (0,0,0,0,0,4)
else
some ((Ad A:Int),(Ad Y:Int),(Ad Bre:Int),(Ad o9:Int),(Ad Brr:Int),0)
def TU:=TH
def TI(j6:UInt64->UInt64->UInt64->UInt64->UInt64->Im)(a:LB):Im:=
(Br a 4 6).bind λu=>
(Br a 6 8).bind λp=>
(Br a 8 10).bind λo=>
(Br a 10 14).bind λn=>
(Br a 14 18).bind λm=>
(
(Ep u).bind λk=>
(
(Ep p).bind λh=>
(
(Ep o).bind λg=>
(
(Ep n).bind λf=>
(
(Ep m).bind λb=>
(
j6 k h g f b))))))
def UB:=TI TU
def SW(j5:LB->Im)(a:LB):Im:=
if(Cj (Ac a) 22)then
some (0,0,0,0,0,24)
else
(Br a 18 22).bind λy=>
(Br a 0 18).bind λaa=>
(Ep y).bind λab=>
(Xr aa).bind λac=>
if(Bg ab (Ad ac:UInt64))then
some (0,0,0,0,0,22)
else
j5 a
def TX:=SW UB
def SS(j4:LB->Im)(a:LB):Im:=
(Br a 0 (Iu 4 (Ac a))).bind λad=>
(Br ([84,84,65,49]:LB) 0 (Iu 4 (Ac a))).bind λae=>
if(ad !=ae)then
some (0,0,0,0,0,12)
else
j4 a
def Nw:=SS TX
abbrev Wi:=Option (Int×Int×Int×Int×Int×Int×Int)
def HJ:Wi:=
(Nw e).bind λ(c,d,i,j,A,B)=>
if(geq B 24)then
some (0,0,0,0,0,0,(-1:Int))
else
some ((Ae z 22),c,d,i,j,A,B)
def GY:=HJ
def HB(j2:Int->LB->Wi)(f:LB):Wi:=
(My f).bind λ(b,g)=>
if(geq g 24)then
some (0,0,0,0,0,0,(-1:Int))
else
if(Bg g 0)then
some (0,0,0,0,0,0,g)
else
(Br f b (Ac f)).bind λa=>
(Uj a ([73,68,51]:LB)).bind λu=>
if u then
some (0,0,0,0,0,0,(-1:Int))
else
(Uj a ([65,80,69,84,65,71,69,88]:LB)).bind λv=>
if v then
some (0,0,0,0,0,0,(-1:Int))
else
j2 b a
def AX:=HB GY
def UA:Option UInt64:=
if y5 then
some (BH (Bi A 2) 4823603603198064275)
else
some (Bi A 2)
def Zw:=UA
def TC(j2:UInt64->Bool->Option UInt64)(a:UInt64)(f:Int):Option UInt64:=
if(geq f 1)then
j2 a (!(Mk a 9223372036854775808))
else
j2 a (Mk a 9223372036854775808)
def ME:=TC Zw
def UF:Option UInt64:=
some A
def RV:=UF
def BN:Option UInt64:=
if(Dx Bq0 0)then
(Jg (Bg Bq0 0)).bind λ_=>
(ME Bse (Ha (Bq (Ad Brv:Int) Bq0) 2)).bind λz=>
Bq8 z (Bq Bq0 2)
else
Bq7 Bse
def Ni:Nat->UInt64->Int->Option UInt64
|0,_,_=>none
|z+1,c,d=>BN RV (Ni z) Brv c d
def rJ b:=Ni b Au
def rW(j4:UInt8->UInt64->Int->Option UInt64)(h:UInt64)(b:UInt8):Option UInt64:=
j4 b h 128
def dK:=rW rJ
def LJ:Option UInt64:=
some A
def LG:=LJ
def Wu:Option UInt64:=
if(Cj y7 (Ac Brj))then
(Am Brj y7).bind λz=>
(dK o9 z).bind λc=>
Bq8 c (Ae y7 1)
else
Bq7 o9
def La:Nat->UInt64->Int->Option UInt64
|0,_,_=>none
|z+1,d,e=>Wu LG (La z) c d e
def nG a:=La a Au
def lU(j4:LB->UInt64->Int->Option UInt64)(k:UInt64)(a:LB):Option UInt64:=
j4 a k 0
def DK:=lU nG
def eU:Option UInt64:=
(DK 0 c).bind λz=>
some z
def Nn:Option (LB):=
(eU c).bind λz=>
(Fo z 8).bind λd=>
some d
abbrev Fb:=Option (LI×Int)
def TP:Fb:=
(Ji E).bind λz=>
if(Bg z 0)then
some (([]:LI),12)
else
some (E,0)
def AT:=TP
def AM(j8:LI->Fb)(qm:Int->LI->Fb)(b:LB)(a g:Int)(f:LI):Fb:=
if(Cj g a)then
(Br b (Bi 4 g) (Ae (Bi 4 g) 4)).bind λk=>
(Ep k).bind λm=>
(Dt f ([(Ad m:Int)]:LI)).bind λn=>
qm (Ae g 1) n
else
j8 f
def Nd:Nat->Int->LI->Fb
|0,_,_=>none
|d+1,e,i=>AM AT (Nd d) c z e i
def UD b a:=Nd b a Au
def RY(j6:LB->Int->Int->LI->Fb)(b:LB)(a:Int):Fb:=
j6 b a 0 ([]:LI)
def SV:=RY UD
def RZ(j5:LB->Int->Fb)(b:LB)(a:Int):Fb:=
if((Cj a 1)||(Dx a 1000))then
some (([]:LI),2)
else
if(Cj (Ac b) (Ae (Bi 4 a) 4))then
some (([]:LI),24)
else
(Br b (Bi 4 a) (Ae (Bi 4 a) 4)).bind λo=>
(Br b 0 (Bi 4 a)).bind λp=>
(Ep o).bind λu=>
(Xr p).bind λv=>
if(Bg u (Ad v:UInt64))then
some (([]:LI),22)
else
j5 b a
def Ta:=RZ SV
abbrev Mj:=Option (Int×LI×Int)
def ML:Mj:=
if(geq d 24)then
some (0,([]:LI),(-1:Int))
else
some ((Ae (Ae z (Bi 4 (Ac l9))) 4),l9,d)
def LM:=ML
def MX(j4:Int->Int->LI->Mj)(a:LB)(b k m n o f:Int):Mj:=
(Br a f (Ac a)).bind λp=>
(Hm b k m n o).bind λu=>
(Ta p (Ac u)).bind λ(h,g)=>
j4 f g h
def Ea:=MX LM
def Ic(j3:LB->Int->Int->Int->Int->Int->Int->Mj)(a:LB)(b k m n o:Int)(v:LB):Mj:=
if(geq b 2)then
if(Cj (Ac a) 8)then
some (0,([]:LI),(-1:Int))
else
(Br a 0 8).bind λw=>
(Nn v).bind λy=>
if(w !=y)then
some (0,([]:LI),26)
else
j3 a b k m n o 8
else
j3 a b k m n o 0
def Fe:=Ic Ea
def eP:Option (UInt64×Int):=
if(Dx (Ac o7) 100000)then
some (0,4)
else
(DK A o7).bind λz=>
some (z,0)
def kI:Option (UInt64×Int):=
(eP 0 c).bind λ(z,d)=>
some (z,d)
def xJ:Option (LX):=
some i
def xC:=xJ
def bD(qm:UInt64->Int->LX->Option (LX))(b:UInt64)(f:Int)(a:LX)(g:Int32):Option (LX):=
(Am a f).bind λ_=>
(Mv a f g).bind λh=>
qm (Bq b 256) (Ae f 1) h
def GG qm:=bD qm
def FV(j8:UInt64->Int->LX->Int32->Option (LX))(j10:LX->Option (LX))(b:UInt64)(f:Int)(a:LX):Option (LX):=
if(Cj f 8)then
if(Dx (Ad (CU b 256):Int32) 127)then
j8 b f a (Aq (Ad (CU b 256):Int32) 256)
else
j8 b f a (Ad (CU b 256):Int32)
else
j10 a
def Mz:Nat->UInt64->Int->LX->Option (LX)
|0,_,_,_=>none
|q+1,b,f,a=>FV (GG (Mz q)) xC b f a
def zD:=Mz Au
def C3(j6:UInt64->Int->LX->Option (LX))(k:UInt64):Option (LX):=
j6 k 0 (List.replicate 16 (0:Int32))
def pC:=C3 zD
def Nv:Option (LX×Int):=
if(Dx (Ac c) 64)then
some (([(0:Int32),(0:Int32),(0:Int32),(0:Int32),(0:Int32),(0:Int32),(0:Int32),(0:Int32),(0:Int32),(0:Int32),(0:Int32),(0:Int32),(0:Int32),(0:Int32),(0:Int32),(0:Int32)]:LX),2)
else
(kI c).bind λ(z,d)=>
(pC z).bind λe=>
some (e,0)
def DN:Option (LB):=
(Xr c).bind λz=>
(Dt ([]:LB) c).bind λd=>
(Dt d ([(Ad z:UInt8),(Ad (Cw z (GI.toZ (8:UInt64)).toNat):UInt8),(Ad (Cw z (GI.toZ (16:UInt64)).toNat):UInt8),(Ad (Cw z (GI.toZ (24:UInt64)).toNat):UInt8)]:LB)).bind λe=>
some e
def Uh:Option Int:=
if(Cj (Ac c) 5)then
some 24
else
if(Dx (Ac c) 41254)then
some 4
else
(Br c 0 (Aq (Ac c) 4)).bind λz=>
(DN z).bind λd=>
if(d !=c)then
some 22
else
some 0
def Qm:Option (Int×Int×UInt64×UInt64):=
some (10,10,16384,16384)
def qF:Option UInt64:=
some A
def pT:=qF
def Yu:Option UInt64:=
if(Cj y7 Br4)then
Bq8 (Bi o9 2) (Ae y7 1)
else
Bq7 o9
def Ly:Nat->UInt64->Int->Option UInt64
|0,_,_=>none
|c+1,d,e=>Yu pT (Ly c) z d e
def qC b:=Ly b Au
def pR(j4:Int->UInt64->Int->Option UInt64)(b:Int):Option UInt64:=
j4 b 1 0
def Hn:=pR qC
def PQ(a g:Int)(h k:UInt64)(b:UInt32):Option Bool:=
(Hn a).bind λf=>
some (Cj (Ad b:UInt64) f)
def KT(a g:Int)(h k:UInt64)(b:UInt32):Option UInt32:=
(Hn a).bind λf=>
some (Ad (Aq (Ad b:UInt64) f):UInt32)
abbrev EB:=Option (Int×UInt64)
def UH:EB:=
if(Cj z 24)then
(Hn (Ae z 5)).bind λc=>
if(Dx (Aq (Ae A Y) (Bq A 16)) c)then
some ((Ae z 1),(Aq (Ae A Y) (Bq A 16)))
else
some (z,(Aq (Ae A Y) (Bq A 16)))
else
some (z,(Aq (Ae A Y) (Bq A 16)))
def Zy:=UH
def SY(j2:Int->UInt64->UInt64->EB)(b:Int)(a f:UInt64):EB:=
if(Dx b 0)then
(Hn (Ae b 4)).bind λh=>
if(Cj (Aq (Ae a f) (Bq a 16)) h)then
some ((Aq b 1),(Aq (Ae a f) (Bq a 16)))
else
j2 b a f
else
j2 b a f
def Zg:=SY Zy
abbrev Yp:=Option (Int×Int×UInt64×UInt64)
def MA(f:UInt32)(g a:Int)(h b:UInt64)(w:Int)(y:UInt64):Yp:=
(Zg g h (Ad f:UInt64)).bind λ(aa,ab)=>
some (aa,w,ab,y)
def Wp:=MA
def JE(j2:UInt32->Int->Int->UInt64->UInt64->Int->UInt64->Yp)(g a:Int)(h b:UInt64)(f:UInt32):Yp:=
(PQ g a h b f).bind λo=>
if(!o)then
(
(
(KT g a h b f).bind λk=>
(Zg a b (Ad k:UInt64)).bind λ(m,n)=>
j2 f g a h b m n))
else
j2 f g a h b a b
def DD:=JE Wp
abbrev Gn:=Option (Int×Int×UInt64×UInt64)
def nA:Gn:=
some (z,d,A,Y)
def lR:=nA
def LY(j6:Int->Int->UInt64->UInt64->Gn)(Rb:Int->Int->Int->UInt64->UInt64->Gn)(a:Int)(b:LU)(m f g:Int)(h k:UInt64):Gn:=
if(Cj m (Ac b))then
(Am b m).bind λn=>
(DD f g h k n).bind λ(o,p,u,v)=>
Rb (Ae m a) o p u v
else
j6 f g h k
def Pm:Nat->Int->Int->Int->UInt64->UInt64->Gn
|0,_,_,_,_,_=>none
|c+1,d,e,i,j,A=>LY lR (Pm c) z Z d e i j A
def oH a b:=Pm a b Au
def KD(j4:Int->LU->Int->Int->Int->UInt64->UInt64->Gn)(a:Int)(b:LU):Gn:=
(Qm).bind λ(w,y,aa,ab)=>
(Jg (Bg a 0)).bind λ_=>
j4 a b (Ha (Ac b) a) w y aa ab
def Ue:=KD oH
def cD:Option Int:=
some (Ha z 2)
def cQ:=cD
def GH:Option Int:=
if(Cj Bru (Ha Brd 8))then
Brb (Bq y8 2) (Ae Bru 1)
else
Bra y8
def Qz:Nat->Int->Int->Option Int
|0,_,_=>none
|c+1,d,e=>GH cQ (Qz c) z d e
def cE a:=Qz a Au
def cG(j4:Int->Int->Int->Option Int)(g:LB)(k a:Int):Option Int:=
(Am g (Bq a 8)).bind λh=>
j4 a (Ad h:Int) 0
def Ok:=cG cE
abbrev Fu:=Option (LB×Int)
def WG:Fu:=
(Am e (Bq j 8)).bind λ_=>
(Am e (Bq j 8)).bind λc=>
(Am e (Bq j 8)).bind λ_=>
(Mv e (Bq j 8) (Ae c (Ad (Bi z d):UInt8))).bind λi=>
some (i,(Ae j 1))
def DH:=WG
def EE(j8:Int->Int->Int->LB->Fu)(qm:Int->Int->Fu)(b a:Int)(f:LB)(g h:Int):Fu:=
if(Cj h (Ha a 8))then
qm (Bi g 2) (Ae h 1)
else
j8 b g a f
def Pf:Nat->Int->Int->Fu
|0,_,_=>none
|c+1,i,j=>EE DH (Pf c) z d e i j
def WE b a f:=Pf b a f Au
def WU(j6:Int->Int->LB->Int->Int->Fu)(b a:Int)(f:LB):Fu:=
j6 b a f 1 0
def DM:=WU WE
def WJ(j5:Int->Int->LB->Fu)(k:LB)(a b:Int):Fu:=
if(geq (Ha a 8) 0)then
(Dt k ([(0:UInt8)]:LB)).bind λo=>
j5 b a o
else
j5 b a k
def BZ:=WJ DM
abbrev Fz:=Option (LB×Int)
def lD:Fz:=
some (e,z)
def kN:=lD
def Vu(j6:Int->LB->Fz)(Rb:Int->Int->LB->Fz)(f:Int)(g:LB)(h k a:Int)(b:LB):Fz:=
if(Cj k f)then
(Ok g h k).bind λm=>
(BZ b a m).bind λ(n,o)=>
Rb (Ae k 1) o n
else
j6 a b
def Jt:Nat->Int->Int->LB->Fz
|0,_,_,_=>none
|c+1,d,i,j=>Vu kN (Jt c) z e B d i j
def kK f g h:=Jt f g h Au
def lF(j4:Int->LB->Int->Int->Int->LB->Fz)(g:LB)(h p f:Int):Fz:=
j4 f g h p 0 ([]:LB)
def TJ:=lF kK
def qM:Option UInt64:=
some A
def pX:=qM
def Yr:Option UInt64:=
if(Mk y7 0)then
(Ok Brj Bsq (Ae Br4 y7)).bind λz=>
Bq8 (Ae (Bi 2 o9) (Ad z:UInt64)) (Aq y7 1)
else
Bq7 o9
def Lz:Nat->UInt64->Int->Option UInt64
|0,_,_=>none
|c+1,d,i=>Yr pX (Lz c) z e B d i
def NU b f g:=Lz b f g Au
def OD(j4:Int->LB->Int->UInt64->Int->Option UInt64)(f:LB)(g b m:Int):Option UInt64:=
j4 b f g 0 (Aq m 1)
def Xc:=OD NU
abbrev Jj:=Option (Int×Int)
def WX(b a:Int)(g:LB)(f:Int):Jj:=
if(geq a 48)then
some (a,(Ae b a))
else
if(Mk (Ae b a) f)then
some ((-1:Int),0)
else
some (a,(Ae (Ae b a) 1))
def ED:=WX
def DX(j6:Int->Int->LB->Int->Jj)(Rb:Int->Jj)(b:Int)(g:LB)(f a:Int):Jj:=
if((Cj (Ae b a) f)&&(Cj a 48))then
(Ok g f (Ae b a)).bind λh=>
if(geq h 1)then
Rb (Ae a 1)
else
j6 b a g f
else
j6 b a g f
def Ot:Nat->Int->Jj
|0,_=>none
|c+1,d=>DX ED (Ot c) z e B d
def xB b g f:=Ot b g f Au
def xL(j4:Int->LB->Int->Int->Jj)(g:LB)(f b:Int):Jj:=
j4 b g f 0
def jH:=xL xB
def IZ:Option Int:=
(Hn l7).bind λz=>
(Jg (Bg z 0)).bind λ_=>
some (Ad (Iu 48 (Bq (Ad V:UInt64) z)):Int)
abbrev FZ:=Option (UInt32×Int×Int)
def DP:FZ:=
if((Cj d 0)||(Cj (Aq B j) F))then
some (0,0,24)
else
(Xc e B j F).bind λc=>
if(Cj d 48)then
(Hn z).bind λi=>
some ((Ad (Ae (Bi (Ad d:UInt64) i) c):UInt32),(Ae j F),0)
else
(IZ (Ad c:UInt32) z).bind λA=>
if(Cj A d)then
some (0,0,12)
else
some ((Ad c:UInt32),(Ae j F),0)
def DZ:=DP
def WB(j2:Int->Int->Int->LB->Int->Int->FZ)(h:LB)(f n g:Int):FZ:=
if(Mk n f)then
some (0,0,24)
else
(jH h f n).bind λ(a,b)=>
if(geq a 48)then
j2 g a b h f 32
else
j2 g a b h f g
def PY:=WB DZ
def PU(g:LB)(b a f n:Int)(v w:UInt64):Option (UInt32×Int×Int):=
if(Mk a b)then
some (0,0,24)
else
(Ok g b a).bind λo=>
if(geq o 0)then
if(Cj (Aq (Aq b a) 1) f)then
some (0,0,24)
else
(Xc g b (Ae a 1) f).bind λp=>
some ((Ad p:UInt32),(Ae (Ae a 1) f),0)
else
(PY g b (Ae a 1) n).bind λ(h,u,k)=>
if(Bg k 0)then
some (0,0,k)
else
(Hn f).bind λm=>
if(Dx (Ae (Ad h:UInt64) m) 4294967295)then
some (0,0,12)
else
some ((Ad (Ae (Ad h:UInt64) m):UInt32),u,0)
abbrev Cc:=Option (LU×Int)
def qN:Cc:=
some (Z,0)
def pZ:=qN
def Ym(j18:LU->Cc)(Jd:Int->Cc)(a:LB)(b:LU)(m:Int):Cc:=
if(Cj m (Bi 8 (Ac a)))then
(Ok a (Bi 8 (Ac a)) m).bind λn=>
if(Bg n 0)then
some (b,12)
else
Jd (Ae m 1)
else
j18 b
def Md:Nat->Int->Cc
|0,_=>none
|z+1,d=>Ym pZ (Md z) c Z d
def NV a b:=Md a b Au
def NN(j16:LB->LU->Int->Cc)(f:Int)(a:LB)(b:LU):Cc:=
if(Dx (Aq (Bi 8 (Ac a)) f) 7)then
some (b,12)
else
j16 a b f
def Yx:=NN NV
def OE(Aqr:Int->Int->LU->Cc)(g h:Int)(a:LB)(f k:Int)(b:LU)(p u:Int)(v w:UInt64):Cc:=
(TJ a (Bi 8 (Ac a)) f (Iu (Ae f 81) (Bi 8 (Ac a)))).bind λ(y,aa)=>
(PU y aa 0 p u v w).bind λ(ab,ac,o)=>
if(Bg o 0)then
some (b,o)
else
(Dt b ([ab]:LU)).bind λad=>
Aqr (Ae f ac) (Ae k 1) ad
def Mb Aqr:=OE Aqr
def OL(j13:Int->Int->LU->Int->Int->UInt64->UInt64->Cc)(j15:Int->LB->LU->Cc)(g h:Int)(a:LB)(f k:Int)(b:LU):Cc:=
if(Cj k (Bi h g))then
(Qm).bind λ(n,ae,af,ag)=>
if(Mk k g)then
(Ue g b).bind λ(ah,ai,aj,ak)=>
j13 f k b ah ai aj ak
else
j13 f k b n ae af ag
else
j15 f a b
def Gp:Nat->Int->Int->LU->Cc
|0,_,_,_=>none
|c+1,i,j,A=>OL (Mb (Gp c) z d e) Yx z d e i j A
def pW g h a:=Gp g h a Au
def TV(j10:Int->Int->LB->Int->Int->LU->Cc)(g h:Int)(a:LB):Cc:=
j10 g h a 0 0 ([]:LU)
def JB:=TV pW
def C4:Option (Int×Int):=
if(geq z 8)then
some (4,0)
else
if((geq z 16)||(geq z 24))then
some (5,0)
else
some (0,2)
def P0:Option (Int×LX×LX×Int):=
(C4 z).bind λ(c,d)=>
if(Bg d 0)then
some (0,(List.replicate 16 (0:Int32)),(List.replicate 16 (0:Int32)),2)
else
if(geq z 16)then
some (9,i,(List.replicate 16 (0:Int32)),0)
else
some (10,i,(List.replicate 16 (0:Int32)),0)
def iN:Option (Int×Int32×Int×LX×LX×Int):=
(P0 z i).bind λ(c,d,e,j)=>
if(Bg j 0)then
some (0,0,0,(List.replicate 16 (0:Int32)),(List.replicate 16 (0:Int32)),2)
else
some (z,0,c,d,e,0)
def JZ:Option Int32:=
if(geq (CU V 2) 0)then
some (Ad (Bq V 2):Int32)
else
some (Ad (Bq (G4 (Ae (Ad V:Int) 1)) 2):Int32)
def Dv:Option Int32:=
some (Ad (Ad (Ad z:UInt64):UInt32):Int32)
def XC:Option Int32:=
some (Ad z:Int32)
def WC:=XC
def DC(j6:Int->Option Int32)(Rb:Int->Int->Option Int32)(h:Int)(b f:LX)(g a:Int):Option Int32:=
if(Cj a 16)then
(Am b a).bind λ_=>
(Am f a).bind λ_=>
(Am b a).bind λk=>
(Am f a).bind λm=>
(Dv (Bi (Ad k:Int) (Ad m:Int))).bind λn=>
(Dv (Ae g (Ad n:Int))).bind λo=>
Rb (Ad o:Int) (Ae a 1)
else
j6 g
def Oz:Nat->Int->Int->Option Int32
|0,_,_=>none
|c+1,d,e=>DC WC (Oz c) z i M d e
def wW h b f:=Oz h b f Au
def xK(j4:Int->LX->LX->Int->Int->Option Int32)(h:Int)(b f:LX):Option Int32:=
j4 h b f 0 0
def iY:=xK wW
def SB:Option Int32:=
(iY z i M).bind λc=>
(Dv (Ae (Ad c:Int) (Bq o8 2))).bind λd=>
(Jg (Bg o8 0)).bind λ_=>
(Jg (Bg o8 0)).bind λ_=>
if(Cj (Ha (Ad d:Int) o8) 0)then
some (Ad (Aq (Bq (Ad d:Int) o8) 1):Int32)
else
some (Ad (Bq (Ad d:Int) o8):Int32)
def BE:=SB
def SL(j2:Int->LX->LX->Int->Option Int32)(b:Int)(f g:LX):Option Int32:=
if(geq b 9)then
j2 b f g 512
else
j2 b f g 1024
def KK:=SL BE
def MM:Option Int32:=
if(geq z 0)then
some 4
else
if(T5 z 3)then
some 2
else
some 1
def Yz:Option Int32:=
if(Cj G 0)then
some (-1:Int32)
else
if(Dx G 0)then
some 1
else
some 0
abbrev Fy:=Option (Int×LX×LX)
def lI:Fy:=
some (z,i,M)
def lC:=lI
def Uv(j6:Int->LX->LX->Fy)(Rb:Int->LX->Fy)(h:Int32)(g:Int)(b:LX)(a:Int)(f:LX):Fy:=
if(Cj a 16)then
(Am f a).bind λ_=>
(Am b a).bind λ_=>
(Am f a).bind λk=>
(Am b a).bind λm=>
(MM a).bind λn=>
(Yz m).bind λo=>
(Yz h).bind λp=>
(Am f a).bind λ_=>
(Mv f a (Ae k (Bi (Bi n o) p))).bind λu=>
Rb (Ae a 1) u
else
j6 g f b
def Jw:Nat->Int->LX->Fy
|0,_,_=>none
|z+1,c,d=>Uv lC (Jw z) G N p9 c d
def kF h g b:=Jw h g b Au
def jS(j4:Int32->Int->LX->Int->LX->Fy)(g:Int)(v b:LX)(h:Int32):Fy:=
j4 h g b 0 v
def SA:=jS kF
abbrev Gk:=Option (Int×LX×LX)
def KC:Gk:=
(Am q9 0).bind λ_=>
(Mv q9 0 G).bind λz=>
some (N,p9,z)
def IW:=KC
def Xg(j6:Int32->Int->LX->LX->Gk)(Rb:Int->LX->Gk)(b:Int32)(f:Int)(g:LX)(h:Int)(a:LX):Gk:=
if(Dx h 0)then
(Am a (Aq h 1)).bind λ_=>
(Am a (Aq h 1)).bind λm=>
(Am a h).bind λ_=>
(Mv a h m).bind λn=>
Rb (Aq h 1) n
else
j6 b f g a
def Ld:Nat->Int->LX->Gk
|0,_,_=>none
|z+1,c,d=>Xg IW (Ld z) G N p9 c d
def nJ b f g:=Ld b f g Au
def mD(j4:Int32->Int->LX->Int->LX->Gk)(f:Int)(g o:LX)(b:Int32):Gk:=
j4 b f g 15 o
def VY:=mD nJ
def AH:Option (Int32×Int×LX×LX):=
(KK z i M).bind λc=>
(Dv (Ae (Ad G:Int) (Ad c:Int))).bind λd=>
(SA z i M G).bind λ(e,j,A)=>
(VY e j A d).bind λ(B,C,D)=>
some (d,B,C,D)
def JA:Option Int32:=
(Jg (Bg N 0)).bind λ_=>
(Jg (Bg N 0)).bind λ_=>
if(Cj (Ha (Bi (Aq N 1) (Ad G:Int)) N) 0)then
some (Ad (Aq (Bq (Bi (Aq N 1) (Ad G:Int)) N) 1):Int32)
else
some (Ad (Bq (Bi (Aq N 1) (Ad G:Int)) N):Int32)
def Wz:=JA
def MF(j2:Int32->Int->Option Int32)(f:Int)(b:Int32):Option Int32:=
if(geq f 5)then
j2 b 32
else
j2 b 16
def Ui:=MF Wz
def DT(b:Int)(a:Int32)(h:Int)(k m:LX):Option Int:=
if(geq b 8)then
(Ui 4 a).bind λf=>
some (Ad f:Int)
else
(Ui 5 a).bind λg=>
some (Ad g:Int)
def AB:Option (Int32×Int×Int32×Int×LX×LX):=
(AH N p9 q9 Brk).bind λ(c,d,e,i)=>
(DT z G N p9 q9).bind λj=>
(Dv (Ae (Ad c:Int) j)).bind λA=>
some (A,z,A,d,e,i)
def Wq:Option Int:=
if((Cj z 1)||(Dx z 6))then
some 2
else
if(Dx (Ac i) 4000)then
some 4
else
(Jg (Bg z 0)).bind λ_=>
if(Dx (Ha (Ac i) z) 0)then
some 2
else
some 0
def kR:Option (LX):=
some i
def kG:=kR
def Vq(j8:LX->Option (LX))(qm:Int->LX->Option (LX))(a:LX)(f:Int)(b:LX):Option (LX):=
if(Mk f 0)then
(Am b (Ae f 1)).bind λ_=>
(Am a f).bind λk=>
(Am b (Ae f 1)).bind λm=>
(Dv (Aq (Ad m:Int) (Ad k:Int))).bind λn=>
(Am b f).bind λ_=>
(Mv b f n).bind λo=>
qm (Aq f 1) o
else
j8 b
def Js:Nat->Int->LX->Option (LX)
|0,_,_=>none
|z+1,c,d=>Vq kG (Js z) i c d
def iW a:=Js a Au
def IF(j6:LX->Int->LX->Option (LX))(a p:LX):Option (LX):=
j6 a (Aq (Ac a) 2) p
def Uy:=IF iW
def HD(j5:LX->LX->Option (LX))(a:LX):Option (LX):=
(mkI (Ac a) (0:Int32)).bind λh=>
(Jg (geq (Ac a) (Ac a))).bind λ_=>
(Am a (Aq (Ac a) 1)).bind λu=>
(Am h (Aq (Ac a) 1)).bind λ_=>
(Mv h (Aq (Ac a) 1) u).bind λg=>
if(Dx (Ac a) 1)then
(Am a (Aq (Ac a) 1)).bind λv=>
(Am a (Aq (Ac a) 2)).bind λw=>
(Dv (Ae (Ad v:Int) (Bq (Ad w:Int) 2))).bind λy=>
(Am g (Aq (Ac a) 1)).bind λ_=>
(Mv g (Aq (Ac a) 1) y).bind λaa=>
j5 a aa
else
j5 a g
def BA:=HD Uy
abbrev Ih:=Option (LX×Int)
def tV:Ih:=
some (i,0)
def uK:=tV
def UI(j6:LX->Ih)(Rb:Int->LX->Ih)(a:Int)(b:LX)(g:Int)(f:LX):Ih:=
if(Cj g (Ac b))then
(Br b g (Ae g a)).bind λh=>
(BA h).bind λk=>
(Dt f k).bind λm=>
Rb (Ae g a) m
else
j6 f
def Sn:Nat->Int->LX->Ih
|0,_,_=>none
|c+1,d,e=>UI uK (Sn c) z i d e
def tH a b:=Sn a b Au
def SJ(j4:Int->LX->Int->LX->Ih)(a:Int)(b:LX):Ih:=
(Wq a b).bind λn=>
if(Bg n 0)then
(Wq a b).bind λo=>
some (([]:LX),o)
else
j4 a b 0 ([]:LX)
def KB:=SJ tH
def HQ(b f:Int)(w:LX):Option (LX):=
(KB b w).bind λ(aj,ai)=>
some aj
def Uw:=HQ
def HT(Aey:Int->LX->Option (LX))(a:LU)(b f:Int)(h:LX)(g:Int)(m:LX):Option (LX):=
Aey (Ae g 1) m
def HF Aey:=HT Aey
def HH(Aqp:Int->LX->Int->Int32->Int->LX->LX->Option (LX))(a:LU)(g b f:Int)(h:LX)(k:Int)(ah:LX)(y:Int)(aa:Int32)(ab:Int)(ac ad:LX):Option (LX):=
Aqp (Ae k b) ah y aa ab ac ad
def GZ Aqp:=HH Aqp
def HP(j30:Int->LX->Int->Int32->Int->LX->LX->Option (LX))(a:LU)(g b f:Int)(h:LX)(k:Int)(ae:Int32)(m:LX)(n:Int)(o:Int32)(p:Int)(u v:LX)(y:Int)(aa:Int32)(ab:Int)(ac ad:LX):Option (LX):=
(Am m k).bind λ_=>
(Mv m k ae).bind λah=>
j30 k ah y aa ab ac ad
def HV Aqp a g b f h:=HP (GZ Aqp a g b f h) a g b f h
def HO(j29:Int->Int32->LX->Int->Int32->Int->LX->LX->Int->Int32->Int->LX->LX->Option (LX))(j32:Int->LX->Option (LX))(a:LU)(b f:Int)(h:LX)(g k:Int)(m:LX)(n:Int)(o:Int32)(p:Int)(u v:LX):Option (LX):=
if(Cj k (Ac a))then
(Am a k).bind λag=>
(
(JZ ag).bind λaf=>
(
(AB n o p u v af).bind λ(ae,y,aa,ab,ac,ad)=>
j29 k ae m n o p u v y aa ab ac ad))
else
j32 g m
def Ny(Aey:Int->LX->Option (LX))(a:LU)(b f:Int)(h:LX)(g:Int):Nat->Int->LX->Int->Int32->Int->LX->LX->Option (LX)
|0,_,_,_,_,_,_,_=>none
|q+1,k,m,n,o,p,u,v=>HO (HV (Ny Aey a b f h g q) a g b f h) (HF Aey a b f h) a b f h g k m n o p u v
def HS Aey a b f h g:=Ny Aey a b f h g Au
def Ux(j26:Int->Int->LX->Int->Int32->Int->LX->LX->Option (LX))(j34:Int->Int->LX->Option (LX))(a:LU)(b f:Int)(h:LX)(g:Int)(w:LX):Option (LX):=
if(Cj g b)then
(iN f h).bind λ(ak,ai,al,am,an,aq)=>
j26 g g w ak ai al am an
else
j34 b f w
def Hc:Nat->Int->LX->Option (LX)
|0,_,_=>none
|z+1,c,d=>Ux (HS (Hc z) Z Bq3 Bq4 Br0) Uw Z Bq3 Bq4 Br0 c d
def IG a b f h:=Hc a b f h Au
def JT(j18:LU->Int->Int->LX->Int->LX->Option (LX))(b f:Int)(h:LX)(a:LU):Option (LX):=
(mkI (Ac a) (0:Int32)).bind λao=>
(Jg (geq (Ac a) (Ac a))).bind λ_=>
j18 a b f h 0 ao
def Ug:=JT IG
def Uk(g f:Int)(a:LX):Option (LX×Int):=
(Ay f a).bind λb=>
if(Bg b 0)then
some (([]:LX),b)
else
some (a,0)
abbrev Yk:=Option (LX×Int)
def Ie:Yk:=
if(Bg z 0)then
some (([]:LX),z)
else
(
(
(Ug d j i Z).bind λc=>
(Uk d j c).bind λ(e,A)=>
some (e,A)))
def Hx:=Ie
def Pr(j2:Int->Int->Int->LX->LU->Yk)(a b:Int)(g:LX)(p:Int)(k:LB):Yk:=
(Dm a b p).bind λy=>
if(Bg y 0)then
some (([]:LX),2)
else
(Uh k).bind λaa=>
if(Bg aa 0)then
(Uh k).bind λab=>
some (([]:LX),ab)
else
(Br k 0 (Aq (Ac k) 4)).bind λac=>
(JB a p ac).bind λ(h,f)=>
j2 f a b g h
def Dq:=Pr Hx
def DU:Option (LB):=
if(geq z 24)then
(Dt ([(Ad (Ha d 256):UInt8),(Ad (Ha (Bq d 256) 256):UInt8)]:LB) ([(Ad (Bq d 65536):UInt8)]:LB)).bind λc=>
some c
else
some ([(Ad (Ha d 256):UInt8),(Ad (Ha (Bq d 256) 256):UInt8)]:LB)
def Pa:=DU
def WT(j2:Int->Int->Option (LB))(a:Int)(f:Int32):Option (LB):=
if(geq a 8)then
some ([(Ad (Ae (Ad f:Int) 128):UInt8)]:LB)
else
if(Cj (Ad f:Int) 0)then
(Lg a).bind λh=>
j2 a (Ae (Ad f:Int) (Bi 2 h))
else
j2 a (Ad f:Int)
def OU:=WT Pa
abbrev Ho:=Option (LB×Int)
def pY:Ho:=
some (c,0)
def qB:=pY
def Yq(j6:LB->Ho)(Rb:Int->LB->Ho)(b:Int)(a:LX)(g:Int)(f:LB):Ho:=
if(Cj g (Ac a))then
(Am a g).bind λh=>
(OU b h).bind λk=>
(Dt f k).bind λm=>
Rb (Ae g 1) m
else
j6 f
def Me:Nat->Int->LB->Ho
|0,_,_=>none
|c+1,d,e=>Yq qB (Me c) z i d e
def qK b a:=Me b a Au
def OH(j4:Int->LX->Int->LB->Ho)(b:Int)(a:LX):Ho:=
(Ay b a).bind λn=>
if(Bg n 0)then
(Ay b a).bind λo=>
some (([]:LB),o)
else
j4 b a 0 ([]:LB)
def Wm:=OH qK
abbrev Yo:=Option (LB×Int)
def Er(o:LX)(f:Int)(p g:LB)(h k a m n:Int)(u:LI)(b:Int)(v:LB)(w:Bool)(y:Int):Yo:=
if(Bg f 0)then
some (([]:LB),f)
else
(Wm a o).bind λ(ac,ai)=>
some (ac,0)
def Ev:=Er
def Et(j2:LX->Int->LB->LB->Int->Int->Int->Int->Int->LI->Int->LB->Bool->Int->Yo)(p g:LB)(h k a m n:Int)(u:LI)(b:Int)(v:LB)(w:Bool)(y:Int):Yo:=
(Am u b).bind λaa=>
if(Cj (Ac g) aa)then
some (([]:LB),(-1:Int))
else
(Nv p).bind λ(ad,aj)=>
(Br g 0 aa).bind λae=>
(Fx h k a m n).bind λ(af,ag)=>
(Hm h k a m n).bind λab=>
(Am ab b).bind λ_=>
(Am ab b).bind λah=>
(Dq af ag ad ah ae).bind λ(o,f)=>
j2 o f p g h k a m n u b v w y
def Dp:=Et Ev
abbrev Ou:=Option (LB×LB×Int×Int×Int×Int×Int×LI×Int×LB×Bool×Int×Int)
def Bw:Ou:=
if(geq (Ac P) 0)then
(Fe e B F J T U c).bind λ(z,d,i)=>
if(Bg i 0)then
some (c,e,B,F,J,T,U,P,R,L,C,D,i)
else
(Br e z (Ac e)).bind λj=>
some (c,j,B,F,J,T,U,d,R,L,C,D,0)
else
if(geq R (Ac P))then
if(Dx (Ac e) 4000)then
some (c,e,B,F,J,T,U,P,R,L,C,D,38)
else
some (c,e,B,F,J,T,U,P,R,L,C,D,(-1:Int))
else
(Dp c e B F J T U P R L C D).bind λ(A,E)=>
if(Bg E 0)then
some (c,e,B,F,J,T,U,P,R,L,C,D,E)
else
(Dt ([]:LB) L).bind λG=>
(Dt G A).bind λI=>
(
(
(
(Am P R).bind λM=>
(
(Br e M (Ac e)).bind λN=>
some (c,N,B,F,J,T,U,P,(Ae R 1),I,C,D,0)))))
def By:=Bw
def Hi:Ou:=
(Ey B F J T U c).bind λz=>
some (c,e,B,F,J,T,U,P,R,L,C,D,z)
def Hk:=Hi
def Bt(j3:LB->LB->Int->Int->Int->Int->Int->LI->Int->LB->Bool->Int->Ou)(j4:LB->LB->Int->Int->Int->Int->Int->LI->Int->LB->Bool->Int->Ou)(g a:LB)(m n o p u:Int)(b:LI)(f:Int)(v:LB)(h:Bool)(k:Int):Ou:=
if(geq m 0)then
(AX a).bind λ(ac,ae,w,af,ag,y,ai)=>
if(Bg ai 0)then
some (g,a,m,n,o,p,u,b,f,v,h,k,ai)
else
(
(Br a ac (Ac a)).bind λad=>
(
j3 g ad ae w af ag y b f v h k))
else
j4 g a m n o p u b f v h k
def Aj:=Bt Hk By
def Yy:Option Bool:=
(Aj c e B F J T U P R L C D).bind λ(z,d,i,j,A,E,G,I,M,N,O,V,X)=>
some (geq X (-1:Int))
def Cx:=Yy
def Ri(j4:LB->LB->Int->Int->Int->Int->Int->LI->Int->LB->Bool->Int->Option Bool)(o p:LB)(b f g h k:Int)(m:LI)(a:Int)(n:LB)(u:Bool)(v:Int):Option Bool:=
if(geq (Ac m) 0)then
if((Bg a 0)||(Dx (Ac n) 0))then
some false
else
j4 o p b f g h k m a n u v
else
(Ji m).bind λy=>
if(Bg y 0)then
if((true||(Cj a 0))||(Dx a (Ac m)))then
some false
else
(Zo b f g h k a).bind λaa=>
if(Dx (Ac n) aa)then
some false
else
j4 o p b f g h k m a n u v
else
(Hm b f g h k).bind λab=>
if(((Bg (Ac m) (Ac ab))||(Cj a 0))||(Dx a (Ac m)))then
some false
else
(Zo b f g h k a).bind λac=>
if(Dx (Ac n) ac)then
some false
else
j4 o p b f g h k m a n u v
def Rk:=Ri Cx
def Yv(j4:LB->LB->Int->Int->Int->Int->Int->LI->Int->LB->Bool->Int->Option Bool)(j3:LB->LB->Int->Int->Int->Int->Int->LI->Int->LB->Bool->Int->Option Bool)(o p:LB)(b f g h k:Int)(m:LI)(a:Int)(n:LB)(u:Bool)(v:Int):Option Bool:=
if((geq b 0)&&((geq f 0)&&((geq g 0)&&((geq h 0)&&((geq k 0)&&true)))))then
if(((Dx (Ac m) 0)||(Bg a 0))||(Dx (Ac n) 0))then
some false
else
j4 o p b f g h k m a n u v
else
(Mu b f g h k).bind λad=>
if(Bg ad 0)then
some false
else
(Ey b f g h k o).bind λae=>
if(Bg ae 0)then
some false
else
j3 o p b f g h k m a n u v
def Mt:=Yv Cx Rk
def AW:Option Bool:=
some (((((((geq z 4)||(geq z 12))||(geq z 16))||(geq z 22))||(geq z 24))||(geq z 26))||(geq z 38))
def Eg:Option Int:=
if(Dx (Ac c) 64)then
some 8
else
if((geq D 0)&&(!C))then
(Mt c e B F J T U P R L C D).bind λz=>
if(!z)then
some 8
else
some 0
else
if((geq (Ac e) 0)&&(geq (Ac P) 0))then
if((!(((geq B 0)&&((geq F 0)&&((geq J 0)&&((geq T 0)&&((geq U 0)&&true)))))&&(geq R 0)))||(Dx (Ac L) 12000))then
some 8
else
if(Bg D 0)then
if C then
some 8
else
(AW D).bind λd=>
if(!d)then
some 8
else
some 0
else
some 0
else
if((!(false&&(geq R 0)))||(Dx (Ac L) 12000))then
some 8
else
if(Bg D 0)then
if C then
some 8
else
(AW D).bind λi=>
if(!i)then
some 8
else
some 0
else
some 0
abbrev DI:=Option (LB×LB×Int×Int×Int×Int×Int×LI×Int×LB×Bool×Int)
def SM:DI:=
(Dt ([]:LI) l9).bind λe=>
some (c,X,z,d,j,I,O,e,B,Bq6,C,D)
def SR:=SM
def RT(j2:LB->Int->Int->Int->Int->Int->LI->Int->Bool->Int->LB->LB->DI)(f w:LB)(g h k m n:Int)(o:LI)(p:Int)(y:LB)(u:Bool)(v:Int):DI:=
(
(
(
(Dt ([]:LB) w).bind λa=>
(
(Dt ([]:LB) y).bind λb=>
j2 f g h k m n o p u v a b))))
def Zc:=RT SR
def Sr(f g:LB)(h k m n o:Int)(p:LI)(u:Int)(v:LB)(b:Bool)(a:Int):Option Int:=
if(Bg a 0)then
some a
else
if b then
some 36
else
some 0
def fM(a m:LB)(n o p u v:Int)(w:LI)(y:Int)(b:LB)(aa:Bool)(ab:Int):Option (LB×LB×Int×Int×Int×Int×Int×LI×Int×LB×Bool×Int):=
(
(
(Dt ([]:LB) b).bind λf=>
some (a,([]:LB),0,0,0,0,0,([]:LI),0,f,false,0)))
def EC:Option (LB×LB×Int×Int×Int×Int×Int×LI×Int×LB×Bool×Int×Int):=
(fM c e B F J T U P R L C D).bind λ(z,d,i,j,A,E,G,I,M,N,O,V)=>
some (z,d,i,j,A,E,G,I,M,N,O,Bq5,Bq5)
abbrev Pd:=Option (LB×LB×Int×Int×Int×Int×Int×LI×Int×LB×Bool×Int×Int)
def Cp(bk3:LB->LB->Int->Int->Int->Int->Int->LI->Int->LB->Bool->Int->Pd)(a b:LB)(f g h k m:Int)(n:LI)(o:Int)(p:LB)(u:Bool)(v:Int):Pd:=
(Aj a b f g h k m n o p u v).bind λ(bb,bc,bd,be,bf,bg,bh,bi,bj,bk,bl,bm,w)=>
if(geq w (-1:Int))then
(Zc a b f g h k m n o p u v).bind λ(bn,bp,bq,br,bs,bt,bu,bv,bw,bx,bz,da)=>
some (bn,bp,bq,br,bs,bt,bu,bv,bw,bx,bz,da,0)
else
if(Bg w 0)then
(EC a b f g h k m n o p u v w).bind λ(db,dc,dd,de,df,dg,dh,di,dj,dk,dl,dm,dn)=>
some (db,dc,dd,de,df,dg,dh,di,dj,dk,dl,dm,dn)
else
bk3 bb bc bd be bf bg bh bi bj bk bl bm
def Bm:Nat->LB->LB->Int->Int->Int->Int->Int->LI->Int->LB->Bool->Int->Pd
|0,_,_,_,_,_,_,_,_,_,_,_,_=>none
|q+1,a,b,f,g,h,k,m,n,o,p,u,v=>Cp (Bm q) a b f g h k m n o p u v
def sE:=Bm Au
def Sy(j3:LB->LB->Int->Int->Int->Int->Int->LI->Int->LB->Bool->Int->Pd)(al am:LB)(an ao ap aq ar:Int)(au:LI)(av:Int)(aw:LB)(ax:Bool)(ay:Int)(dp:LB):Pd:=
(Eg al am an ao ap aq ar au av aw ax ay).bind λaz=>
if(Bg az 0)then
some (([]:LB),([]:LB),0,0,0,0,0,([]:LI),0,([]:LB),false,0,az)
else
(Zc al am an ao ap aq ar au av aw ax ay).bind λ(y,aa,ab,ac,ad,ae,af,ag,ah,ai,aj,ak)=>
(Sr y aa ab ac ad ae af ag ah ai aj ak).bind λba=>
if(Bg ba 0)then
some (y,aa,ab,ac,ad,ae,af,ag,ah,ai,aj,ak,ba)
else
(Dt aa dp).bind λdq=>
j3 y dq ab ac ad ae af ag ah ai aj ak
def Kq:=Sy sE
abbrev Ii:=Option (Int×Int)
def BM:Ii:=
if(Cj (Ac c) B)then
some (0,24)
else
if(e==p8)then
(Br c (Aq (Ac c) B) (Ae (Aq (Ac c) B) 32)).bind λi=>
(Zh z d).bind λj=>
if(i !=j)then
some (0,12)
else
some (B,0)
else
some (B,0)
def BD:=BM
def AD(j6:LB->Int->Int->LB->LB->Int->Ii)(a:LB)(f g:Int)(b h:LB):Ii:=
if(b==h)then
j6 a f g b h (Ae (Ae 32 f) 32)
else
j6 a f g b h (Ae 32 f)
def AU:=AD BD
def TZ(j5:LB->Int->Int->LB->LB->Ii)(a:LB):Ii:=
(Br a (Aq (Ac a) 32) (Ac a)).bind λb=>
(Za b).bind λ(f,g,n)=>
if(!n)then
some (0,12)
else
(Oc f g true).bind λh=>
(
if(!(b==h))then
(Oc f g false).bind λm=>
if(b !=m)then
some (0,12)
else
j5 a f g b h
else
j5 a f g b h)
def UC:=TZ AU
def RU(j4:LB->Ii)(a:LB):Ii:=
if(Cj (Ac a) 32)then
some (0,6)
else
(Br a (Aq (Ac a) 32) (Ae (Aq (Ac a) 32) 8)).bind λu=>
if(u !=([65,80,69,84,65,71,69,88]:LB))then
some (0,6)
else
j4 a
def JY:=RU UC
abbrev Gs:=Option (Int×Int)
def lY:Gs:=
some (z,0)
def lM:=lY
def NC(j6:Int->Gs)(Rb:LB->Int->Gs)(b:LB)(a:Int):Gs:=
if(Dx (Ac b) 0)then
(JY b).bind λ(g,h)=>
if(Bg h 0)then
some (0,38)
else
(Br b 0 (Aq (Ac b) g)).bind λk=>
Rb k (Ae a 1)
else
j6 a
def Pp:Nat->LB->Int->Gs
|0,_,_=>none
|q+1,b,a=>NC lM (Pp q) b a
def nC:=Pp Au
def JD(j4:LB->Int->Gs)(f:LB):Gs:=
if(Dx (Ac f) 4000)then
some (0,38)
else
j4 f 0
def Ud:=JD nC
def De(p a:LB)(g u v w y:Int)(b:LI)(h:Int)(aa:LB)(ab:Bool)(ac:Int):Option Int:=
if(geq g 0)then
(My a).bind λ(k,f)=>
if(Bg f 0)then
some f
else
(Br a k (Ac a)).bind λm=>
(Nw m).bind λ(ad,ae,af,ag,ah,n)=>
some n
else
if((geq (Ac b) 0)||(Cj h (Ac b)))then
some 24
else
(Ud a).bind λ(ai,o)=>
if(Bg o 0)then
some 38
else
some 0
abbrev gE:=Option (Int×Int×Int×Int×Int×Int×LI×Int)
def sK:gE:=
(Eb z d j I O).bind λ(e,i)=>
if(Bg i 0)then
some (0,0,0,0,0,0,([]:LI),i)
else
(Br c Bqy (Ac c)).bind λA=>
(GC A (Ac e)).bind λ(B,C)=>
if(Bg C 0)then
some (0,0,0,0,0,0,([]:LI),C)
else
some (z,d,j,I,O,(Ae (Ae Bqy (Bi 4 (Ac B))) 4),B,0)
def Qq:=sK
def Uz(j2:LB->Int->Int->Int->Int->Int->Int->gE)(a n:LB):gE:=
if(Dx (Ac n) 64)then
some (0,0,0,0,0,0,([]:LI),2)
else
if(Dx (Ac a) 100000)then
some (0,0,0,0,0,0,([]:LI),4)
else
(Ju a).bind λ(f,w)=>
if(Bg w 0)then
some (0,0,0,0,0,0,([]:LI),w)
else
(Br a f (Ac a)).bind λad=>
(Nh ad).bind λ(b,g,h,k,m,y)=>
if(Bg y 0)then
some (0,0,0,0,0,0,([]:LI),y)
else
if((n==([]:LB)) !=(geq b 1))then
some (0,0,0,0,0,0,([]:LI),26)
else
if(n !=([]:LB))then
if(Cj (Ac a) (Ae (Ae f 22) 8))then
some (0,0,0,0,0,0,([]:LI),24)
else
(Br a (Ae f 22) (Ae (Ae f 22) 8)).bind λae=>
(Pn ae n).bind λ(af,aa)=>
if(Bg aa 0)then
some (0,0,0,0,0,0,([]:LI),aa)
else
if(!af)then
some (0,0,0,0,0,0,([]:LI),26)
else
j2 a b g h k m (Ae (Ae f 22) 8)
else
j2 a b g h k m (Ae f 22)
def Dl:=Uz Qq
abbrev Lw:=Option (Int×Int×Int×Int×Int×Int×LI×Int)
def KA:Lw:=
if(Bg d 0)then
some (0,0,0,0,0,0,([]:LI),d)
else
some (j,I,O,Bqy,Brg,(Ae (Ae z (Bi 4 (Ac l9))) 4),l9,0)
def JK:=KA
def JO(j4:Int->Int->Int->Int->Int->Int->Int->LI->Lw)(a:LB)(b h k f g n:Int):Lw:=
(Br a n (Ac a)).bind λy=>
(Fv f g).bind λaa=>
(Ta y (Ac aa)).bind λ(p,o)=>
j4 n o b h k f g p
def Pk:=JO JK
def Wh(j3:LB->Int->Int->Int->Int->Int->Int->Lw)(a u:LB):Lw:=
if(Dx (Ac a) 100000)then
some (0,0,0,0,0,0,([]:LI),4)
else
(My a).bind λ(m,v)=>
if(Bg v 0)then
some (0,0,0,0,0,0,([]:LI),v)
else
(Br a m (Ac a)).bind λab=>
(Nw ab).bind λ(b,h,k,f,g,w)=>
if(Bg w 0)then
some (0,0,0,0,0,0,([]:LI),w)
else
if((u==([]:LB)) !=(geq b 1))then
some (0,0,0,0,0,0,([]:LI),26)
else
if(geq b 2)then
if(Cj (Aq (Ac a) (Ae m 22)) 8)then
some (0,0,0,0,0,0,([]:LI),24)
else
(Br a (Ae m 22) (Ae (Ae m 22) 8)).bind λac=>
(Nn u).bind λad=>
if(ac !=ad)then
some (0,0,0,0,0,0,([]:LI),26)
else
j3 a b h k f g (Ae (Ae m 22) 8)
else
j3 a b h k f g (Ae m 22)
def Ff:=Wh Pk
def qQ:Option Int:=
some z
def qE:=qQ
def Yl(j6:Int->Option Int)(Rb:Int->Int->Option Int)(b h k m n o f:Int)(g:LI)(a p:Int):Option Int:=
if(Cj p b)then
(Am g p).bind λu=>
Rb (Ae a u) (Ae p 1)
else
j6 a
def Mg:Nat->Int->Int->Option Int
|0,_,_=>none
|c+1,e,i=>Yl qE (Mg c) z d j I O Bqy Brg l9 e i
def pS b h k m n o f g:=Mg b h k m n o f g Au
def qD(j4:Int->Int->Int->Int->Int->Int->Int->LI->Int->Int->Option Int)(h k m n o f:Int)(g:LI)(b:Int):Option Int:=
j4 b h k m n o f g f 0
def YW:=qD pS
abbrev GL:=Option (LB×Int)
def WV(u:LX)(n o g f h k p:Int)(b:LI):GL:=
if(Bg n 0)then
some (([]:LB),n)
else
(Wm f u).bind λ(af,ai)=>
some (af,0)
def WO:=WV
def WM(j2:LX->Int->Int->Int->Int->Int->Int->Int->LI->GL)(v y:LB)(o g f h k p:Int)(b:LI)(a:Int):GL:=
(YW o g f h k p b a).bind λm=>
(Am b a).bind λaa=>
if(Cj (Aq (Ac v) m) aa)then
some (([]:LB),24)
else
(Nv y).bind λ(ab,ag)=>
(Am b a).bind λac=>
(Br v m (Ae m ac)).bind λad=>
(
(Fv h k).bind λw=>
(Am w a).bind λ_=>
(Am w a).bind λae=>
(Dq g f ab ae ad).bind λ(u,n)=>
j2 u n o g f h k p b)
def Vn:=WM WO
def aY:Option (Int×Int×Int×Int×Int×Int×Int):=
if(Dx (Ac c) 100000)then
some (0,0,0,0,0,0,4)
else
(My c).bind λ(z,d)=>
if(Bg d 0)then
some (0,0,0,0,0,0,d)
else
(Br c z (Ac c)).bind λe=>
(Nw e).bind λ(i,j,A,B,C,D)=>
some (z,i,j,A,B,C,D)
def WQ(f:LB)(a g m n o p:Int)(b:LB):Option (Int×Int):=
if((b==([]:LB)) !=(geq g 1))then
some (0,26)
else
if(b==([]:LB))then
some (a,0)
else
if(Cj (Ac f) (Ae a 8))then
some (0,24)
else
(Br f a (Ae a 8)).bind λh=>
(Nn b).bind λk=>
if(h !=k)then
some (0,26)
else
some ((Ae a 8),0)
def GA(a:LB)(b o p u f g:Int):Option (LI×Int):=
(Br a b (Ac a)).bind λh=>
(Fv f g).bind λk=>
(Ta h (Ac k)).bind λ(m,n)=>
some (m,n)
abbrev Fc:=Option (Int×Int×Int×LX×Int)
def NM:Fc:=
(Br c z (Ac c)).bind λe=>
(Ud e).bind λ(A,B)=>
if(Bg B 0)then
some (0,0,0,([]:LX),38)
else
some (d,j,I,i,0)
def OM:=NM
def NP(bk7:Int->Int->LX->Fc)(a:LB)(o f g h n:Int)(b p:LI)(u:LX)(m k:Int)(y:LX)(w:Int)(v:LX):Fc:=
if(Bg w 0)then
some (0,0,0,([]:LX),w)
else
(Dt v y).bind λah=>
(Am b k).bind λ_=>
(Am b k).bind λai=>
bk7 (Ae m ai) (Ae k 1) ah
def ON bk7:=NP bk7
def BJ(j10:Int->Int->LX->Int->LX->Fc)(j12:LB->Int->Int->Int->Int->LX->Fc)(a:LB)(o f g h n:Int)(b p:LI)(u:LX)(m k:Int)(v:LX):Fc:=
if(Cj k (Ac b))then
(Am b k).bind λ_=>
(Am b k).bind λaj=>
if(Cj (Aq (Ac a) m) aj)then
some (0,0,0,([]:LX),24)
else
(Am p k).bind λ_=>
(Am b k).bind λ_=>
(Am p k).bind λak=>
(Am b k).bind λal=>
(Br a m (Ae m al)).bind λam=>
(Dq f g u ak am).bind λ(y,w)=>
j10 m k y w v
else
j12 a m f g h v
def Nl:Nat->Int->Int->LX->Fc
|0,_,_,_=>none
|e+1,i,A,B=>BJ (ON (Nl e) c z d j I O l9 P M) OM c z d j I O l9 P M i A B
def SO a o f g h n b p u:=Nl a o f g h n b p u Au
def SP(j7:LB->Int->Int->Int->Int->Int->LI->LI->LX->Int->Int->LX->Fc)(a aa:LB):Fc:=
if(Dx (Ac aa) 64)then
some (0,0,0,([]:LX),2)
else
(aY a).bind λ(an,o,f,g,h,n,ab)=>
if(Bg ab 0)then
some (0,0,0,([]:LX),ab)
else
(WQ a (Ae an 22) o f g h n aa).bind λ(ac,ad)=>
if(Bg ad 0)then
some (0,0,0,([]:LX),ad)
else
(GA a ac o f g h n).bind λ(b,ae)=>
if(Bg ae 0)then
some (0,0,0,([]:LX),ae)
else
(Fv h n).bind λp=>
(Nv aa).bind λ(u,ap)=>
j7 a o f g h n b p u (Ae ac (Ae (Bi 4 (Ac b)) 4)) 0 ([]:LX)
def Ky:=SP SO
end Go.Pl
