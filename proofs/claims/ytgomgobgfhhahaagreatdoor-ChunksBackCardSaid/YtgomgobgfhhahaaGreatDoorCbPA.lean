/- A part of the proof of a statement of this seat (see the text that ends in Proof): CbPure. No conditions of its own. -/
import Derived.Test.YtgomgobgfhhahaaGreatDoorCbBA
set_option linter.unusedVariables false
namespace Go.Pl
open Go Go.Lv
abbrev LB:=List UInt8
abbrev LI:=List Int
abbrev LX:=List Int32
abbrev LU:=List UInt32
abbrev LQ:=List UInt64
abbrev Nr:=Option (LI×Int)
def Aav(b:LI):Nr:=
some (b,0)
def eY:=Aav
def BP(j6:LI->Nr)(Rt:Int->Int->LI->Nr)(f:Int)(g:UInt64)(h a:Int)(b:LI):Nr:=
if(Cl a f)then
if(geq a (Ao f 1))then
(Dy b ([(Ao (Ad a 1) h)]:LI)).bind λk=>
Rt (Ad a 1) (Ad a 1) k
else
(Lg (Ml (Gc a 64) 0)).bind λ_=>
if(geq (Er (Ck g (GI.toZ (Gc a 64)).toNat) 1) 1)then
(Dy b ([(Ao (Ad a 1) h)]:LI)).bind λm=>
Rt (Ad a 1) (Ad a 1) m
else
Rt h (Ad a 1) b
else
j6 b
def Pn(f:Int)(g:UInt64):Nat->Int->Int->LI->Nr
|0,_,_,_=>none
|q+1,h,a,b=>BP eY (Pn f g q) f g h a b
def PY f g:=Pn f g Au
def OW(j4:Int->UInt64->Int->Int->LI->Nr)(f:Int)(g:UInt64):Nr:=
if((Cl f 0)||(Ef f 100000))then
some (([]:LI),2)
else
j4 f g 0 0 ([]:LI)
def Xi:=OW PY
def Wr(a:Int):Option (Int×Int):=
if((Cl a 1)||(Ef a 1048576))then
some (0,2)
else
some ((tH 1 (Ca (Bg 256 a) 245)),0)
abbrev eA:=Option (Int32×Int32×Int)
def rG(a:Int)(b:Bool):eA:=
if b then
(Lg (Ml (Ao a 1) 0)).bind λ_=>
some ((yP (Dp (1:Int32) (GI.toZ (Ao a 1)).toNat)),(Ao (Dp (1:Int32) (GI.toZ (Ao a 1)).toNat) 1),0)
else
some (0,0,2)
def aD:=rG
def ZX(j2:Int->Bool->eA)(a:Int):eA:=
if(geq a 8)then
j2 a (geq a 8)
else
if(geq a 16)then
j2 a (geq a 16)
else
j2 a (geq a 24)
def Sj:=ZX aD
def Oz(a b:Int):Option Int:=
(Sj b).bind λ(g,h,f)=>
if(((Ba f 0)||(Cl a 1))||(Ef a 6))then
some 2
else
some 0
def DU(a b f:Int)(g:LB):Option (Int×Bool):=
(Wr f).bind λ(h,k)=>
(Oz a b).bind λm=>
some (h,(((geq m 0)&&(geq k 0))&&(gle (Ac g) 64)))
def cI(a b f:Int)(g:LB):Option (Int×Int×Int×LB×LB×LX×(List LB)×LB×Bool×Int×Int):=
(DU a b f g).bind λ(k,h)=>
if(!h)then
some (0,0,0,([]:LB),([]:LB),([]:LX),([]:List LB),([]:LB),false,0,2)
else
some (a,b,f,g,([]:LB),([]:LX),([]:List LB),([]:LB),false,0,0)
def HS(a b:Int):Option Int:=
some (Ca (Bg a b) 8)
def Ag9:Option Int:=
some 0
def qL:=Ag9
def KK(j6:Option Int)(Rt:Int->Option Int)(b f:Int32)(a:LX)(g:Int):Option Int:=
if(Cl g (Ac a))then
(Ap a g).bind λh=>
if((Cl h b)||(Ef h f))then
some 16
else
Rt (Ad g 1)
else
j6
def Un(b f:Int32)(a:LX):Nat->Int->Option Int
|0,_=>none
|q+1,g=>KK qL (Un b f a q) b f a g
def rL b f a:=Un b f a Au
def YT(j4:Int32->Int32->LX->Int->Option Int)(m:Int)(a:LX):Option Int:=
(Sj m).bind λ(b,f,k)=>
if(Ba k 0)then
some k
else
if(Ef (Ac a) 4000)then
some 4
else
j4 b f a 0
def Vp:=YT rL
def Xh(a h k:Int)(m n:LB)(b:LX)(f:List LB)(o:LB)(p:Bool)(u g:Int):Option Int:=
(Lg (Ba a 0)).bind λ_=>
some (Ad (Bg (Ac f) g) (Ca (Ac b) a))
def Wk(a g h:Int)(k m:LB)(n:LX)(o:List LB)(p:LB)(u:Bool)(v b f:Int):Option Bool:=
some ((gle b 1000)&&(gle (Bg f a) 4000))
def tD(w:Bool):Option Bool:=
some (!w)
def VS:=tD
def VY(j24:Bool->Option Bool)(w:Bool):Option Bool:=
j24 w
def DG:=VY VS
def VD(j23:Bool->Option Bool):Option Bool:=
j23 (Ml (-1:Int) (0:Int))
def VI:=VD DG
def VH(Iw:Int->Option Bool)(b:List LB)(f a g:Int):Option Bool:=
Iw (Ad g 1)
def DF Iw:=VH Iw
def DI(j23:Bool->Option Bool)(j20:Int->Option Bool)(b:List LB)(f a g:Int)(y:LB):Option Bool:=
if((Cl (Ac y) 5)||(Ef (Ac y) (Ad (Ca (Ad (Bg (Bg 81 f) a) 7) 8) 4)))then
j23 (Ml g 0)
else
j20 g
def CK Iw b f a:=DI DG (DF Iw b f a) b f a
def Tu(j19:Int->LB->Option Bool)(j22:Option Bool)(b:List LB)(f a g:Int):Option Bool:=
if(Cl g (Ac b))then
(Ap b g).bind λy=>
j19 g y
else
j22
def Ky(b:List LB)(f a:Int):Nat->Int->Option Bool
|0,_=>none
|q+1,g=>Tu (CK (Ky b f a q) b f a) VI b f a g
def Ue b f a:=Ky b f a Au
def Tz(j16:(List LB)->Int->Int->Int->Option Bool)(f a k o:Int)(p m:LB)(h:LX)(b:List LB)(n:LB)(u:Bool)(v:Int):Option Bool:=
j16 b f a 0
def Ua:=Tz Ue
def Ub(j15:Int->Int->Int->Int->LB->LB->LX-> (List LB)->LB->Bool->Int->Option Bool)(f a k o:Int)(p m:LB)(h:LX)(b:List LB)(n:LB)(u:Bool)(v aa:Int):Option Bool:=
(Xh a k o p m h b n u v f).bind λab=>
(Wk a k o p m h b n u v aa ab).bind λac=>
if(!ac)then
some false
else
j15 f a k o p m h b n u v
def Ug:=Ub Ua
def CH(j14:Int->Int->Int->Int->LB->LB->LX-> (List LB)->LB->Bool->Int->Int->Option Bool)(f a k o:Int)(p m:LB)(h:LX)(b:List LB)(n:LB)(u:Bool)(v:Int):Option Bool:=
(Vp k h).bind λad=>
if(Ba ad 0)then
some false
else
if(Ef (Ac h) 0)then
j14 f a k o p m h b n u v (Ad (Ac b) 1)
else
j14 f a k o p m h b n u v (Ac b)
def CV:=CH Ug
def GC(j13:Int->Int->Int->Int->LB->LB->LX-> (List LB)->LB->Bool->Int->Option Bool)(a k o:Int)(p m:LB)(h:LX)(b:List LB)(n:LB)(u:Bool)(v f:Int):Option Bool:=
if(Ef (Ac n) 0)then
if true then
if true then
if(true||(Ef (Ac b) 1000))then
some false
else
j13 f a k o p m h b n u v
else
(Lg (Ba a 0)).bind λ_=>
if((Ml (Ca (Ac h) a) f)||(Ef (Ac b) 1000))then
some false
else
j13 f a k o p m h b n u v
else
(Lg (Ba a 0)).bind λ_=>
if(Ba (Gc (Ac h) a) 0)then
if(true||(Ef (Ac b) 1000))then
some false
else
j13 f a k o p m h b n u v
else
(Lg (Ba a 0)).bind λ_=>
if((Ml (Ca (Ac h) a) f)||(Ef (Ac b) 1000))then
some false
else
j13 f a k o p m h b n u v
else
(HS a k).bind λae=>
if(Ml (Ac m) ae)then
if true then
if(true||(Ef (Ac b) 1000))then
some false
else
j13 f a k o p m h b n u v
else
(Lg (Ba a 0)).bind λ_=>
if((Ml (Ca (Ac h) a) f)||(Ef (Ac b) 1000))then
some false
else
j13 f a k o p m h b n u v
else
(Lg (Ba a 0)).bind λ_=>
if(Ba (Gc (Ac h) a) 0)then
if(true||(Ef (Ac b) 1000))then
some false
else
j13 f a k o p m h b n u v
else
(Lg (Ba a 0)).bind λ_=>
if((Ml (Ca (Ac h) a) f)||(Ef (Ac b) 1000))then
some false
else
j13 f a k o p m h b n u v
def EG:=GC CV
def Td(m n o:Int)(p b:LB)(f:LX)(g:List LB)(h:LB)(k:Bool)(a:Int):Option Int:=
(DU m n o p).bind λ(u,v)=>
if(!v)then
some 8
else
if(Ba a 0)then
if(!(((((geq a 18)||(geq a 24))&&(!k))&&(geq (Ad (Ad (Ac b) (Ac f)) (Ac g)) 0))&&(geq (Ac h) 0)))then
some 8
else
some 0
else
if k then
if(!((geq (Ad (Ad (Ac b) (Ac f)) (Ac g)) 0)&&(gle (Ac h) 100000)))then
some 8
else
some 0
else
(EG m n o p b f g h k a u).bind λw=>
if(!w)then
some 8
else
some 0
def Bl(a:LB):Option (LB):=
(
(Dy ([]:LB) a).bind λb=>
some b)
def Dj(a:LX):Option (LX):=
(
(Dy ([]:LX) a).bind λb=>
some b)
abbrev Ke:=Option (Int×Int×Int×LB×LB×LX×(List LB)×LB×Bool×Int)
def Acu(b f g:Int)(h:LB)(a:List LB)(k:Bool)(m:Int)(u:List LB)(n:LB)(o:LX)(p:LB):Ke:=
some (b,f,g,h,n,o,u,p,k,m)
def mD:=Acu
def EO(j8:Int->Int->Int->LB-> (List LB)->Bool->Int-> (List LB)->LB->LX->LB->Ke)(tP:Int-> (List LB)->Ke)(w a:List LB)(b f g:Int)(h:LB)(k:Bool)(m:Int)(n:LB)(o:LX)(p:LB)(v:Int)(u:List LB):Ke:=
if(Cl v (Ac (VR w a)))then
(Ap u v).bind λ_=>
(Ap u v).bind λy=>
(Bl y).bind λaa=>
(Ap u v).bind λ_=>
(Nx u v aa).bind λab=>
tP (Ad v 1) ab
else
j8 b f g h a k m u n o p
def Ro(w a:List LB)(b f g:Int)(h:LB)(k:Bool)(m:Int)(n:LB)(o:LX)(p:LB):Nat->Int-> (List LB)->Ke
|0,_,_=>none
|q+1,v,u=>EO mD (Ro w a b f g h k m n o p q) w a b f g h k m n o p v u
def mC w a b f g h k m n o p:=Ro w a b f g h k m n o p Au
def VC(j6:(List LB)-> (List LB)->Int->Int->Int->LB->Bool->Int->LB->LX->LB->Int-> (List LB)->Ke)(b f g:Int)(h:LB)(a:List LB)(k:Bool)(m:Int)(n:LB)(o:LX)(p:LB):Ke:=
(mkI (Ac a) ([]:LB)).bind λw=>
(Lg (geq (Ac a) (Ac a))).bind λ_=>
j6 w a b f g h k m n o p 0 (VR w a)
def UC:=VC mC
def TR(j5:Int->Int->Int->LB-> (List LB)->Bool->Int->LB->LX->LB->Ke)(b f g:Int)(h ac:LB)(ad:LX)(a:List LB)(ae:LB)(k:Bool)(m:Int):Ke:=
(Bl ac).bind λn=>
(Dj ad).bind λo=>
(Bl ae).bind λp=>
j5 b f g h a k m n o p
def KO:=TR UC
abbrev UB:=Option (Int×Int×Int×LB×LB×LX×(List LB)×LB×Bool×Int×Int×Int)
def gS(u g h b:Int)(k m:LB)(n:LX)(o:List LB)(p:LB)(f:Bool)(a v:Int):UB:=
(KO g h b k m n o p f a).bind λ(y,aa,ab,ac,ad,ae,af,ag,ah,ai)=>
some (y,aa,ab,ac,ad,ae,af,ag,ah,ai,u,v)
def PR:=gS
def PO(j2:Int->Int->Int->Int->LB->LB->LX-> (List LB)->LB->Bool->Int->Int->UB)(g h b:Int)(k m:LB)(n:LX)(o:List LB)(p:LB)(f:Bool)(a:Int):UB:=
(Td g h b k m n o p f a).bind λw=>
if(Ba w 0)then
some (0,0,0,([]:LB),([]:LB),([]:LX),([]:List LB),([]:LB),false,0,0,w)
else
(Wr b).bind λ(u,aj)=>
if(Ba a 0)then
j2 u g h b k m n o p f a a
else
if f then
j2 u g h b k m n o p f a 36
else
j2 u g h b k m n o p f a aj
def EB:=PO PR
abbrev Df:=Option (LX×Int)
def xA(g:LX):Df:=
some (g,0)
def cV:=xA
def Yq(Iw:Int->LX->Df)(a:Int)(b:LB)(f:Int)(m:LX):Df:=
Iw (Ad f (Ca a 8)) m
def Kn Iw:=Yq Iw
def Yu(j28:Int->LX->Df)(a:Int)(b:LB)(f:Int)(h:Int32)(g:LX):Df:=
(Lg (Ml (Ao 32 a) 0)).bind λ_=>
(Lg (Ml (Ao 32 a) 0)).bind λ_=>
(Dy g ([(Ck (Dp h (GI.toZ (Ao 32 a)).toNat) (GI.toZ (Ao 32 a)).toNat)]:LX)).bind λp=>
j28 f p
def Ym Iw a b:=Yu (Kn Iw a b) a b
def Gp(j27:Int->Int32->LX->Df)(Bnb:Int32->Int->Df)(a:Int)(b:LB)(f:Int)(g:LX)(h:Int32)(k:Int):Df:=
if(Cl k (Ca a 8))then
(Ap b (Ad f k)).bind λn=>
(Lg (Ml (Bg 8 k) 0)).bind λ_=>
Bnb (vM h (Dp (Af n:Int32) (GI.toZ (Bg 8 k)).toNat)) (Ad k 1)
else
j27 f h g
def Fi(Iw:Int->LX->Df)(a:Int)(b:LB)(f:Int)(g:LX):Nat->Int32->Int->Df
|0,_,_=>none
|q+1,h,k=>Gp (Ym Iw a b) (Fi Iw a b f g q) a b f g h k
def Nm Iw a b f g:=Fi Iw a b f g Au
def Gs(j28:Int->LX->Df)(j25:Int->LX->Int32->Int->Df)(j30:LX->Df)(a:Int)(b:LB)(f:Int)(g:LX):Df:=
if(Cl f (Ac b))then
if(geq a 8)then
(Ap b f).bind λn=>
(Dy g ([(Ao (Af n:Int32) 128)]:LX)).bind λu=>
j28 f u
else
j25 f g 0 0
else
j30 g
def En(a:Int)(b:LB):Nat->Int->LX->Df
|0,_,_=>none
|q+1,f,g=>Gs (Kn (En a b q) a b) (Nm (En a b q) a b) cV a b f g
def JB a b:=En a b Au
def OL(j16:Int->LB->Int->LX->Df)(a:Int)(b:LB):Df:=
(Sj a).bind λ(v,w,o)=>
if(Ba o 0)then
some (([]:LX),o)
else
(Lg (Ba (Ca a 8) 0)).bind λ_=>
if(Ba (Gc (Ac b) (Ca a 8)) 0)then
some (([]:LX),12)
else
(Lg (Ba (Ca a 8) 0)).bind λ_=>
if(Ef (Ca (Ac b) (Ca a 8)) 4000)then
some (([]:LX),4)
else
j16 a b 0 ([]:LX)
def QT:=OL JB
abbrev Cr:=Option (UInt64×Int)
def oY(h:UInt64):Cr:=
some (h,0)
def ZA:=oY
def XM(j30:UInt64->Cr)(h b:UInt64)(a:LB)(f:LQ):Cr:=
j30 h
def bC:=XM ZA
def MA(j29:UInt64->UInt64->LB->LQ->Cr)(lS:UInt64->Int->Cr)(a:LB)(b:UInt64)(f:LQ)(h:UInt64)(m:Int):Cr:=
if(Cl m (Ac a))then
(Ap a m).bind λp=>
Option.bind (Ap f (GI.toZ (AI (Af (Ck h (GI.toZ (56:UInt64)).toNat):UInt8) p))) λ_=>
Option.bind (Ap f (GI.toZ (AI (Af (Ck h (GI.toZ (56:UInt64)).toNat):UInt8) p))) λu=>
lS (AI (Dp h (GI.toZ (8:UInt64)).toNat) u) (Ad m 1)
else
j29 h b a f
def Ve(a:LB)(b:UInt64)(f:LQ):Nat->UInt64->Int->Cr
|0,_,_=>none
|q+1,h,m=>MA bC (Ve a b f q) a b f h m
def YF a b f:=Ve a b f Au
def aK(j27:LB->UInt64->LQ->UInt64->Int->Cr)(b:UInt64)(a:LB)(f:LQ):Cr:=
j27 a b f b 0
def IF:=aK YF
def oG(Iw:Int->LQ->Cr)(b:UInt64)(a:LB)(g:Int)(o:LQ):Cr:=
Iw (Ad g 1) o
def YA Iw:=oG Iw
def aY(j24:Int->LQ->Cr)(b:UInt64)(a:LB)(g:Int)(k:UInt64)(f:LQ):Cr:=
(Ap f g).bind λ_=>
(Nx f g k).bind λo=>
j24 g o
def JV Iw b a:=aY (YA Iw b a) b a
def KG(j23:Int->UInt64->LQ->Cr)(Atl:UInt64->Int->Cr)(b:UInt64)(a:LB)(g:Int)(f:LQ)(k:UInt64)(n:Int):Cr:=
if(Cl n 8)then
Atl (AI (Dp k (GI.toZ (1:UInt64)).toNat) (Bg 4823603603198064275 (Ck k (GI.toZ (63:UInt64)).toNat))) (Ad n 1)
else
j23 g k f
def Uu(Iw:Int->LQ->Cr)(b:UInt64)(a:LB)(g:Int)(f:LQ):Nat->UInt64->Int->Cr
|0,_,_=>none
|q+1,k,n=>KG (JV Iw b a) (Uu Iw b a g f q) b a g f k n
def ZQ Iw b a g f:=Uu Iw b a g f Au
def LW(j21:Int->LQ->UInt64->Int->Cr)(j26:UInt64->LB->LQ->Cr)(b:UInt64)(a:LB)(g:Int)(f:LQ):Cr:=
if(Cl g 256)then
j21 g f (Dp (Af g:UInt64) (GI.toZ (56:UInt64)).toNat) 0
else
j26 b a f
def Qe(b:UInt64)(a:LB):Nat->Int->LQ->Cr
|0,_,_=>none
|q+1,g,f=>LW (ZQ (Qe b a q) b a) IF b a g f
def XY b a:=Qe b a Au
def dP(j16:UInt64->LB->Int->LQ->Cr)(b:UInt64)(a:LB):Cr:=
if(Ef (Ac a) 100000)then
some (0,4)
else
j16 b a 0 (List.replicate 256 (0:UInt64))
def lN:=dP XY
def gD(a:LB):Option (UInt64×Int):=
(lN 0 a).bind λ(b,f)=>
some (b,f)
def Ar9(a:LX):Option (LX):=
some a
def Ahu:=Ar9
def lB(j6:LX->Option (LX))(Rt:Int->LX->Option (LX))(f:UInt64)(b:Int)(a:LX):Option (LX):=
if(Cl b 8)then
(Lg (Ml (Bg 8 b) 0)).bind λ_=>
(Ap a b).bind λ_=>
(Nx a b (Af (Af (Ck f (GI.toZ (Bg 8 b)).toNat):Int8):Int32)).bind λg=>
Rt (Ad b 1) g
else
j6 a
def NW(f:UInt64):Nat->Int->LX->Option (LX)
|0,_,_=>none
|q+1,b,a=>lB Ahu (NW f q) f b a
def Age f:=NW f Au
def Agi(j4:UInt64->Int->LX->Option (LX))(f:UInt64):Option (LX):=
j4 f 0 (List.replicate 16 (0:Int32))
def Amy:=Agi Age
def Rr(a:LB):Option (LX×Int):=
if(Ef (Ac a) 64)then
some (([(0:Int32),(0:Int32),(0:Int32),(0:Int32),(0:Int32),(0:Int32),(0:Int32),(0:Int32),(0:Int32),(0:Int32),(0:Int32),(0:Int32),(0:Int32),(0:Int32),(0:Int32),(0:Int32)]:LX),2)
else
(gD a).bind λ(f,b)=>
if(Ba b 0)then
some (([(0:Int32),(0:Int32),(0:Int32),(0:Int32),(0:Int32),(0:Int32),(0:Int32),(0:Int32),(0:Int32),(0:Int32),(0:Int32),(0:Int32),(0:Int32),(0:Int32),(0:Int32),(0:Int32)]:LX),b)
else
(Amy f).bind λg=>
some (g,0)
def QS(a f:Int)(b:LX):Option Int:=
(Oz a f).bind λg=>
if(Ba g 0)then
some g
else
(Vp f b).bind λh=>
if(Ba h 0)then
some h
else
if(geq (Ac b) 0)then
some 2
else
(Lg (Ba a 0)).bind λ_=>
if(Ba (Gc (Ac b) a) 0)then
some 2
else
some 0
def gC(a:Int)(b:LX):Option Int:=
if((Cl a 1)||(Ef a 6))then
some 2
else
if(Ef (Ac b) 4000)then
some 4
else
(Lg (Ba a 0)).bind λ_=>
if(Ba (Gc (Ac b) a) 0)then
some 2
else
some 0
abbrev Lb:=Option (LX×Int)
def Aow(f:LX):Lb:=
some (f,0)
def Abs:=Aow
def nZ(eU:Int->LX->Lb)(b a:Int)(k:LX):Lb:=
eU (Ad a b) k
def cE eU:=nZ eU
def oQ(j20:Int->LX->Lb)(b a:Int)(g:LX):Lb:=
if(Ef (Ao ((Ad a b)-a) 1) 0)then
(Lg (decide (0<= (Ao ((Ad a b)-a) 1)/\ (Ao ((Ad a b)-a) 1)<((Ad a b)-a)))).bind λ_=>
Option.bind (Lg (decide (0<= (Ao (Ao ((Ad a b)-a) 1) 1)/\ (Ao (Ao ((Ad a b)-a) 1) 1)<((Ad a b)-a)))) λ_=>
(Ap g (a+(Ao ((Ad a b)-a) 1))).bind λm=>
(Ap g (a+(Ao (Ao ((Ad a b)-a) 1) 1))).bind λn=>
(Lg (decide (0<= (Ao ((Ad a b)-a) 1)/\ (Ao ((Ad a b)-a) 1)<((Ad a b)-a)))).bind λ_=>
(Nx g (a+(Ao ((Ad a b)-a) 1)) (Ao m (Ca n 2))).bind λo=>
j20 a o
else
j20 a g
def oC eU b:=oQ (cE eU b) b
def cC(j19:Int->LX->Lb)(Bjt:Int->LX->Lb)(b a h:Int)(g:LX):Lb:=
if(Cl h (Ao ((Ad a b)-a) 1))then
(Lg (decide (0<= (Ad h 1)/\ (Ad h 1)<((Ad a b)-a)))).bind λ_=>
(Lg (decide (0<=h/\h<((Ad a b)-a)))).bind λ_=>
(Ap g (a+(Ad h 1))).bind λm=>
(Ap g (a+h)).bind λn=>
(Lg (decide (0<=h/\h<((Ad a b)-a)))).bind λ_=>
(Nx g (a+h) (Ao m n)).bind λo=>
Bjt (Ad h 1) o
else
j19 a g
def HL(eU:Int->LX->Lb)(b a:Int):Nat->Int->LX->Lb
|0,_,_=>none
|q+1,h,g=>cC (oC eU b) (HL eU b a q) b a h g
def Ace eU b a:=HL eU b a Au
def qT(j17:Int->Int->LX->Lb)(j22:LX->Lb)(b a:Int)(f:LX):Lb:=
if(Cl a (Ac f))then
(fG (Ac f) a (Ad a b)).bind λ_=>
j17 a 0 f
else
j22 f
def GN(b:Int):Nat->Int->LX->Lb
|0,_,_=>none
|q+1,a,f=>qT (Ace (GN b q) b) Abs b a f
def oE b:=GN b Au
def vX(j12:Int->Int->LX->Lb)(b:Int)(p:LX):Lb:=
(gC b p).bind λu=>
if(Ba u 0)then
some (([]:LX),u)
else
(Dj p).bind λv=>
j12 b 0 v
def Adh:=vX oE
abbrev vO:=Option (Int×LX×LX×Int)
def Aou(a:Int)(b:LX)(f:Bool):vO:=
if f then
some (10,b,(List.replicate 16 (0:Int32)),0)
else
if(geq a 16)then
some (9,b,(List.replicate 16 (0:Int32)),0)
else
some (0,(List.replicate 16 (0:Int32)),(List.replicate 16 (0:Int32)),2)
def Abq:=Aou
def Acd(j2:Int->LX->Bool->vO)(a:Int)(b:LX):vO:=
if(geq a 8)then
j2 a b (geq a 8)
else
j2 a b (geq a 24)
def yB:=Acd Abq
def Aat(a:Int)(f:LX):Option (Int×Int32×Int×LX×LX×Int):=
(yB a f).bind λ(g,h,k,b)=>
if(Ba b 0)then
some (0,0,0,(List.replicate 16 (0:Int32)),(List.replicate 16 (0:Int32)),b)
else
some (a,0,g,h,k,0)
def Zw(a:Int)(k:Int32)(b:Int)(f m:LX):Option Int:=
(yB a f).bind λ(g,n,o,h)=>
if((Ba h 0)||(Ba g b))then
some 8
else
some 0
def oL(a:Int):Option (Int×Int):=
if(geq a 8)then
some (4,0)
else
if(geq a 16)then
if(geq a 16)then
some (5,0)
else
some (0,2)
else
if(geq a 24)then
some (5,0)
else
some (0,2)
def cD(a:Int)(b:Int32):Option Int32:=
(Lg (Ml a 0)).bind λ_=>
(Lg (Ml a 0)).bind λ_=>
some (Af (Amz (Ao (Dp (Af b:Int) (GI.toZ a).toNat) (Af b:Int)) (GI.toZ a).toNat):Int32)
def AS(b:Int)(f:Int32):Option (Int32×Int):=
(oL b).bind λ(g,a)=>
if(Ba a 0)then
some (0,a)
else
(cD g f).bind λh=>
some (h,0)
def NZ(a:Int)(b f:LX):Option Int:=
if((Ba a 9)&&(Ba a 10))then
some 8
else
some 0
abbrev Wi:=Option (Int32×Int)
def tS(g:Int32)(a:Int)(b f:LX):Wi:=
(Lg (Ml a 0)).bind λ_=>
some ((Ck g (GI.toZ a).toNat),0)
def dV:=tS
def QE(j6:Int32->Int->LX->LX->Wi)(Rt:Int32->Int->Wi)(b:LX)(a:Int)(f:LX)(g:Int32)(h:Int):Wi:=
if(Cl h 16)then
(Ap b h).bind λm=>
(Ap f h).bind λ_=>
(Ap f h).bind λn=>
Rt (Ad g (Bg m n)) (Ad h 1)
else
j6 g a b f
def Xl(b:LX)(a:Int)(f:LX):Nat->Int32->Int->Wi
|0,_,_=>none
|q+1,g,h=>QE dV (Xl b a f q) b a f g h
def eO b a f:=Xl b a f Au
def eK(j4:LX->Int->LX->Int32->Int->Wi)(a:Int)(b f:LX):Wi:=
(NZ a b f).bind λk=>
if(Ba k 0)then
some (0,k)
else
(Lg (Ml (Ao a 1) 0)).bind λ_=>
j4 b a f (Dp (1:Int32) (GI.toZ (Ao a 1)).toNat) 0
def ZC:=eK eO
def fL(a:Int):Option Int32:=
if(geq a 0)then
some 4
else
if(Cl a 4)then
some 2
else
some 1
abbrev Vx:=Option (Int×LX×LX×Int)
def Aig(g:Int)(b f:LX):Vx:=
some (g,b,f,0)
def uF:=Aig
def QU(j6:Int->LX->LX->Vx)(Rt:Int->LX->Vx)(h:Int32)(f:LX)(g a:Int)(b:LX):Vx:=
if(Cl a 16)then
(Ap f a).bind λm=>
if(geq m 0)then
Rt (Ad a 1) b
else
if((Cl m 0)==(Cl h 0))then
(Ap b a).bind λ_=>
(Ap b a).bind λo=>
(fL a).bind λp=>
(Ap b a).bind λ_=>
(Nx b a (Ad o p)).bind λu=>
Rt (Ad a 1) u
else
(Ap b a).bind λ_=>
(Ap b a).bind λv=>
(fL a).bind λw=>
(Ap b a).bind λ_=>
(Nx b a (Ao v w)).bind λy=>
Rt (Ad a 1) y
else
j6 g b f
def Xd(h:Int32)(f:LX)(g:Int):Nat->Int->LX->Vx
|0,_,_=>none
|q+1,a,b=>QU uF (Xd h f g q) h f g a b
def uE h f g:=Xd h f g Au
def dE(j4:Int32->LX->Int->Int->LX->Vx)(g:Int)(k f:LX)(h:Int32):Vx:=
(NZ g k f).bind λn=>
if(Ba n 0)then
some (0,(List.replicate 16 (0:Int32)),(List.replicate 16 (0:Int32)),n)
else
if(geq h 0)then
some (g,k,f,0)
else
j4 h f g 0 k
def lM:=dE uE
abbrev pO:=Option (Int×LX×LX×Int)
def xF(g:Int32)(b:Int)(f a:LX):pO:=
(Ap (Xy a 1 ((16:Int)-(1:Int)) (bE a 0 ((16:Int)-(0:Int)))) 0).bind λ_=>
(Nx (Xy a 1 ((16:Int)-(1:Int)) (bE a 0 ((16:Int)-(0:Int)))) 0 g).bind λk=>
some (b,f,k,0)
def jM:=xF
def WG(j2:Int32->Int->LX->LX->pO)(b:Int)(f a:LX)(g:Int32):pO:=
(NZ b f a).bind λh=>
if(Ba h 0)then
some (0,(List.replicate 16 (0:Int32)),(List.replicate 16 (0:Int32)),h)
else
(
(fG 16 1 16).bind λ_=>
(fG 16 0 16).bind λ_=>
j2 g b f a)
def sT:=WG jM
def ZR(a:Int)(b f:LX)(g h:Int32):Option (Int×LX×LX):=
(lM a b f h).bind λ(k,m,n,v)=>
(sT k m n g).bind λ(o,p,u,w)=>
some (o,p,u)
def bK(b:Int)(f g:LX)(a:Int32):Option (Int32×Int×LX×LX×Int):=
(ZC b f g).bind λ(h,k)=>
if(Ba k 0)then
some (0,0,(List.replicate 16 (0:Int32)),(List.replicate 16 (0:Int32)),k)
else
(ZR b f g a (Ao a h)).bind λ(m,n,o)=>
some ((Ao a h),m,n,o,0)
def Xe(a:Int)(b:Int32)(f:Int)(g h:LX)(k:Int32):Option (Int32×Int×Int32×Int×LX×LX×Int):=
(Zw a b f g h).bind λm=>
if(Ba m 0)then
some (0,0,0,0,(List.replicate 16 (0:Int32)),(List.replicate 16 (0:Int32)),m)
else
(AS a b).bind λ(n,y)=>
(bK f g h (Ao k n)).bind λ(o,p,u,v,w)=>
(
some (o,a,k,p,u,v,w))
def rV(a:Int32):Option UInt32:=
some (AI (Dp (Af a:UInt32) (GI.toZ (1:UInt64)).toNat) (Af (Ck a (GI.toZ (31:UInt64)).toNat):UInt32))
abbrev Dv:=Option (LU×Int)
def wC(k:LU):Dv:=
some (k,0)
def ZK:=wC
def Wg(j12:LU->Dv)(Atm:Int-> (List (Int×Int32×(Int×LX×LX×Unit)×Unit))->LU->Dv)(b:LX)(a f g:Int)(o:List (Int×Int32×(Int×LX×LX×Unit)×Unit))(k:LU):Dv:=
if(Cl g (Ac b))then
(Ap b g).bind λ_=>
(Ap b g).bind λac=>
(Lg (Ba a 0)).bind λ_=>
(Ap o (Gc g a)).bind λ_=>
(Ap o (Gc g a)).bind λp=>
(Xe p.1 p.2.1 p.2.2.1.1 p.2.2.1.2.1 p.2.2.1.2.2.1 ac).bind λ(u,ad,ae,v,af,ag,w)=>
if(Ba w 0)then
some (([]:LU),w)
else
(Nx o (Gc g a) (ad,ae,(v,af,ag,()),())).bind λah=>
(rV u).bind λai=>
(Dy k ([ai]:LU)).bind λaj=>
Atm (Ad g 1) ah aj
else
j12 k
def Mi(b:LX)(a f:Int):Nat->Int-> (List (Int×Int32×(Int×LX×LX×Unit)×Unit))->LU->Dv
|0,_,_,_=>none
|q+1,g,o,k=>Wg ZK (Mi b a f q) b a f g o k
def aP b a f:=Mi b a f Au
def bV(j10:LX->Int->Int->Int-> (List (Int×Int32×(Int×LX×LX×Unit)×Unit))->LU->Dv)(a f:Int)(b:LX)(h:List (Int×Int32×(Int×LX×LX×Unit)×Unit)):Dv:=
j10 b a f 0 h ([]:LU)
def IB:=bV aP
def cA(j9:Int->Int->LX-> (List (Int×Int32×(Int×LX×LX×Unit)×Unit))->Dv)(bk7:Int-> (List (Int×Int32×(Int×LX×LX×Unit)×Unit))->Dv)(a f:Int)(m b:LX)(n:Int)(h:List (Int×Int32×(Int×LX×LX×Unit)×Unit)):Dv:=
if(Cl n 6)then
(Aat f m).bind λ(ak,al,u,am,an,v)=>
(Ap h n).bind λ_=>
(Nx h n (ak,al,(u,am,an,()),())).bind λao=>
bk7 (Ad n 1) ao
else
j9 a f b h
def KJ(a f:Int)(m b:LX):Nat->Int-> (List (Int×Int32×(Int×LX×LX×Unit)×Unit))->Dv
|0,_,_=>none
|q+1,n,h=>cA IB (KJ a f m b q) a f m b n h
def Yw a f m b:=KJ a f m b Au
def JO(j7:Int->Int->LX->LX->Int-> (List (Int×Int32×(Int×LX×LX×Unit)×Unit))->Dv)(a f:Int)(m y:LX):Dv:=
(QS a f y).bind λaa=>
if(Ba aa 0)then
some (([]:LU),aa)
else
(Adh a y).bind λ(b,ab)=>
if(Ba ab 0)then
some (([]:LU),ab)
else
j7 a f m b 0 (List.replicate 6 ((0:Int),(0:Int32),((0:Int),(List.replicate 16 (0:Int32)),(List.replicate 16 (0:Int32)),()),()))
def LV:=JO Yw
def vH:Option (Int×Int×UInt64×UInt64):=
some (10,10,16384,16384)
abbrev Me:=Option ((List (Int×Int×UInt64×UInt64×Unit)))
def wP(a:List (Int×Int×UInt64×UInt64×Unit)):Me:=
some a
def bS:=wP
def cX(j6:(List (Int×Int×UInt64×UInt64×Unit))->Me)(Rt:Int-> (List (Int×Int×UInt64×UInt64×Unit))->Me)(b:Int)(a:List (Int×Int×UInt64×UInt64×Unit)):Me:=
if(Cl b 6)then
(vH).bind λ(f,g,h,k)=>
(Ap a b).bind λ_=>
(Nx a b (f,g,h,k,())).bind λm=>
Rt (Ad b 1) m
else
j6 a
def LH:Nat->Int-> (List (Int×Int×UInt64×UInt64×Unit))->Me
|0,_,_=>none
|q+1,b,a=>cX bS (LH q) b a
def KW:=LH Au
def JT(j4:Int-> (List (Int×Int×UInt64×UInt64×Unit))->Me):Me:=
j4 0 (List.replicate 6 ((0:Int),(0:Int),(0:UInt64),(0:UInt64),()))
def JL:=JT KW
def Km(b:LB)(a:Int):Option Int:=
if(((Cl a 0)||(Ef a 330000))||(Ba (Ac b) (Amz (Ad a 7) (GI.toZ (3:UInt64)).toNat)))then
some 8
else
if(Ef (Er a 7) 0)then
(Ap b (Ao (Ac b) 1)).bind λf=>
(Lg (Ml (Er a 7) 0)).bind λ_=>
if(Ba (Ck f (GI.toZ (Er a 7)).toNat) 0)then
some 8
else
some 0
else
some 0
def tQ(a b:Int)(f g:UInt64):Option Int:=
if(!((geq (Fk (tH a 0) 24) a)&&((geq (Fk (tH b 0) 24) b)&&((geq (Fk f 68719476735) f)&&((geq (Fk g 68719476735) g)&&true)))))then
some 8
else
some 0
def eL:=tQ
def QM(j4:Int->Int->UInt64->UInt64->Option Int)(a b:Int)(f g:UInt64):Option Int:=
(
(
j4 a b f g))
def dI:=QM eL
def QQ(j3:Int->Int->UInt64->UInt64->Option Int)(a b:Int)(f g:UInt64):Option Int:=
(
(
j3 a b f g))
def ZZ:=QQ dI
def OQ(a f:Int)(g h:UInt64)(b:UInt32):Option (Int×UInt32):=
(Lg (Ml a 0)).bind λ_=>
if(geq (Ck b (GI.toZ a).toNat) 0)then
some (0,b)
else
(Lg (Ml a 0)).bind λ_=>
some (1,(Ao b (Dp (1:UInt32) (GI.toZ a).toNat)))
def gA(a:LB)(b:Int):Option (LB×Int):=
(Bl a).bind λf=>
some (f,b)
abbrev Es:=Option (LB×Int×Int)
def xL(f:Int)(o:LB):Es:=
some (o,f,0)
def jL:=xL
def zG(Bdb:UInt64->Int->Int->LB->Es)(b:UInt64)(a:Int)(m:UInt64)(h f:Int)(w:LB):Es:=
(Lg (Ml (Fk h (Ao 8 (Er f 7))) 0)).bind λ_=>
Bdb (Ck m (GI.toZ (Fk h (Ao 8 (Er f 7)))).toNat) (Ao h (Fk h (Ao 8 (Er f 7)))) (Ad f (Fk h (Ao 8 (Er f 7)))) w
def kC Bdb:=zG Bdb
def kJ(j19:UInt64->Int->Int->LB->Es)(b:UInt64)(a:Int)(m:UInt64)(h f:Int)(u:LB):Es:=
(Ap u (Ao (Ac u) 1)).bind λ_=>
(Lg (Ml (Fk h (Ao 8 (Er f 7))) 0)).bind λ_=>
(Lg (Ml (Er f 7) 0)).bind λ_=>
(Ap u (Ao (Ac u) 1)).bind λad=>
(Ap u (Ao (Ac u) 1)).bind λ_=>
Option.bind (Nx u (Ao (Ac u) 1) (vM ad (Dp (Af (Er m (Ao (Dp (1:UInt64) (GI.toZ (Fk h (Ao 8 (Er f 7)))).toNat) 1)):UInt8) (GI.toZ (Er f 7)).toNat))) λw=>
j19 m h f w
def WO Bdb b a:=kJ (kC Bdb b a) b a
def WT(j18:UInt64->Int->Int->LB->Es)(j21:Int->LB->Es)(b:UInt64)(a:Int)(m:UInt64)(h f:Int)(o:LB):Es:=
if(Ef h 0)then
if(geq (Er f 7) 0)then
(Dy o ([(0:UInt8)]:LB)).bind λab=>
j18 m h f ab
else
j18 m h f o
else
j21 f o
def Ry(b:UInt64)(a:Int):Nat->UInt64->Int->Int->LB->Es
|0,_,_,_,_=>none
|q+1,m,h,f,o=>WT (WO (Ry b a q) b a) jL b a m h f o
def yQ b a:=Ry b a Au
def Alx(g:Int)(p:LB):Es:=
some (p,g,0)
def wX:=Alx
def Amd(Bdc:UInt64->Int->Int->LB->Es)(b:UInt64)(a:Int)(n:UInt64)(k g:Int)(y:LB):Es:=
(Lg (Ml (Fk k (Ao 8 (Er g 7))) 0)).bind λ_=>
Bdc (Ck n (GI.toZ (Fk k (Ao 8 (Er g 7)))).toNat) (Ao k (Fk k (Ao 8 (Er g 7)))) (Ad g (Fk k (Ao 8 (Er g 7)))) y
def wZ Bdc:=Amd Bdc
def xK(j26:UInt64->Int->Int->LB->Es)(b:UInt64)(a:Int)(n:UInt64)(k g:Int)(v:LB):Es:=
(Ap v (Ao (Ac v) 1)).bind λ_=>
(Lg (Ml (Fk k (Ao 8 (Er g 7))) 0)).bind λ_=>
(Lg (Ml (Er g 7) 0)).bind λ_=>
(Ap v (Ao (Ac v) 1)).bind λae=>
(Ap v (Ao (Ac v) 1)).bind λ_=>
Option.bind (Nx v (Ao (Ac v) 1) (vM ae (Dp (Af (Er n (Ao (Dp (1:UInt64) (GI.toZ (Fk k (Ao 8 (Er g 7)))).toNat) 1)):UInt8) (GI.toZ (Er g 7)).toNat))) λy=>
j26 n k g y
def xY Bdc b a:=xK (wZ Bdc b a) b a
def xG(j25:UInt64->Int->Int->LB->Es)(j28:Int->LB->Es)(b:UInt64)(a:Int)(n:UInt64)(k g:Int)(p:LB):Es:=
if(Ef k 0)then
if(geq (Er g 7) 0)then
(Dy p ([(0:UInt8)]:LB)).bind λw=>
j25 n k g w
else
j25 n k g p
else
j28 g p
def iX(b:UInt64)(a:Int):Nat->UInt64->Int->Int->LB->Es
|0,_,_,_,_=>none
|q+1,n,k,g,p=>xG (xY (iX b a q) b a) wX b a n k g p
def yL b a:=iX b a Au
def qS(j15:UInt64->Int->UInt64->Int->Int->LB->Es)(j22:UInt64->Int->UInt64->Int->Int->LB->Es)(ac:LB)(aa:Int)(b:UInt64)(a:Int):Es:=
(Km ac aa).bind λaf=>
if(Ba af 0)then
some (([]:LB),0,8)
else
if((Cl a 0)||(Ef a 64))then
some (([]:LB),0,2)
else
if(Cl a 64)then
(Lg (Ml a 0)).bind λ_=>
if(Ba (Ck b (GI.toZ a).toNat) 0)then
some (([]:LB),0,16)
else
if(Ef (Ad aa a) 330000)then
some (([]:LB),0,18)
else
(gA ac aa).bind λ(ag,ah)=>
j15 b a b a ah ag
else
if(Ef (Ad aa a) 330000)then
some (([]:LB),0,18)
else
(gA ac aa).bind λ(ab,ai)=>
j22 b a b a ai ab
def YS:=qS yQ yL
def BN(b:UInt32)(a:Int):Option Bool:=
(Lg (Ml a 0)).bind λ_=>
some (Ml (Ck b (GI.toZ a).toNat) 48)
def lI(a:Int):Option (Int×Int):=
if((Cl a 0)||(Ef a 48))then
some (0,2)
else
some ((Fk (Ad a 1) 48),0)
def cN(b:LB)(f a:Int):Option (LB×Int×Int):=
(Km b f).bind λg=>
if(Ba g 0)then
some (([]:LB),0,g)
else
(lI a).bind λ(k,h)=>
if(Ba h 0)then
some (([]:LB),0,h)
else
(Lg (Ml a 0)).bind λ_=>
(YS b f (Ao (Dp (1:UInt64) (GI.toZ a).toNat) 1) k).bind λ(m,n,o)=>
some (m,n,o)
abbrev kH:=Option (LB×Int×Int)
def eQ(b:LB)(f h:Int)(k:UInt32)(m:Int):kH:=
(cN b f h).bind λ(p,u,n)=>
if(Ba n 0)then
some (([]:LB),0,n)
else
(YS p u (Af k:UInt64) m).bind λ(v,w,y)=>
some (v,w,y)
def QN:=eQ
def dQ(j2:LB->Int->Int->UInt32->Int->kH)(b:LB)(f:Int)(g:UInt32)(a:Int):kH:=
(Km b f).bind λo=>
if(Ba o 0)then
some (([]:LB),0,o)
else
if((Cl a 0)||(Ef a 24))then
some (([]:LB),0,2)
else
(Lg (Ml a 0)).bind λ_=>
(Lg (Ml a 0)).bind λ_=>
(BN g a).bind λaa=>
if aa then
j2 b f 48 g 32
else
j2 b f (Af (Ck g (GI.toZ a).toNat):Int) (Er g (Ao (Dp (1:UInt32) (GI.toZ a).toNat) 1)) a
def jN:=dQ QN
abbrev Kb:=Option (LB×Int×Int×Int×UInt64×UInt64×Int)
def JE(k u n:Int)(a:UInt64)(b:UInt32)(o:UInt64)(m:LB):Kb:=
(
(
some (m,k,u,n,(Ad a (Ao (Af b:UInt64) (Ck a (GI.toZ (4:UInt64)).toNat))),o,0)))
def aT:=JE
def dZ(j10:Int->Int->Int->UInt64->UInt32->UInt64->LB->Kb)(b:UInt32)(k n:Int)(a o:UInt64)(m:LB)(u:Int):Kb:=
j10 k u n a b o m
def dD:=dZ aT
def dY(j9:UInt32->Int->Int->UInt64->UInt64->LB->Int->Kb)(b:UInt32)(f:Int)(a:UInt64)(k:Int)(m:LB)(n:Int)(o:UInt64):Kb:=
if(Ef f 0)then
(Lg (Ml f 0)).bind λ_=>
if(Cl (Ad a (Ao (Af b:UInt64) (Ck a (GI.toZ (4:UInt64)).toNat))) (Dp (16:UInt64) (GI.toZ f).toNat))then
j9 b k n a o m (Ao f 1)
else
if(Cl f 24)then
(Lg (Ml f 0)).bind λ_=>
if(Ef (Ad a (Ao (Af b:UInt64) (Ck a (GI.toZ (4:UInt64)).toNat))) (Dp (32:UInt64) (GI.toZ f).toNat))then
j9 b k n a o m (Ad f 1)
else
j9 b k n a o m f
else
j9 b k n a o m f
else
if(Cl f 24)then
(Lg (Ml f 0)).bind λ_=>
if(Ef (Ad a (Ao (Af b:UInt64) (Ck a (GI.toZ (4:UInt64)).toNat))) (Dp (32:UInt64) (GI.toZ f).toNat))then
j9 b k n a o m (Ad f 1)
else
j9 b k n a o m f
else
j9 b k n a o m f
def DP:=dY dD
def dN(j8:UInt32->Int->UInt64->Int->LB->Int->UInt64->Kb)(b:UInt32)(f h:Int)(a g:UInt64)(y k:Int)(m:LB):Kb:=
if(Ba y 0)then
some (([]:LB),0,0,0,0,0,y)
else
(OQ f h a g b).bind λ(ag,p)=>
if(geq ag 1)then
if(Ef h 0)then
(Lg (Ml h 0)).bind λ_=>
if(Cl (Ad g (Ao (Af p:UInt64) (Ck g (GI.toZ (4:UInt64)).toNat))) (Dp (16:UInt64) (GI.toZ h).toNat))then
j8 b f a k m (Ao h 1) (Ad g (Ao (Af p:UInt64) (Ck g (GI.toZ (4:UInt64)).toNat)))
else
if(Cl h 24)then
(Lg (Ml h 0)).bind λ_=>
if(Ef (Ad g (Ao (Af p:UInt64) (Ck g (GI.toZ (4:UInt64)).toNat))) (Dp (32:UInt64) (GI.toZ h).toNat))then
j8 b f a k m (Ad h 1) (Ad g (Ao (Af p:UInt64) (Ck g (GI.toZ (4:UInt64)).toNat)))
else
j8 b f a k m h (Ad g (Ao (Af p:UInt64) (Ck g (GI.toZ (4:UInt64)).toNat)))
else
j8 b f a k m h (Ad g (Ao (Af p:UInt64) (Ck g (GI.toZ (4:UInt64)).toNat)))
else
if(Cl h 24)then
(Lg (Ml h 0)).bind λ_=>
if(Ef (Ad g (Ao (Af p:UInt64) (Ck g (GI.toZ (4:UInt64)).toNat))) (Dp (32:UInt64) (GI.toZ h).toNat))then
j8 b f a k m (Ad h 1) (Ad g (Ao (Af p:UInt64) (Ck g (GI.toZ (4:UInt64)).toNat)))
else
j8 b f a k m h (Ad g (Ao (Af p:UInt64) (Ck g (GI.toZ (4:UInt64)).toNat)))
else
j8 b f a k m h (Ad g (Ao (Af p:UInt64) (Ck g (GI.toZ (4:UInt64)).toNat)))
else
j8 b f a k m h g
def QV:=dN DP
def dO(j7:UInt32->Int->Int->UInt64->UInt64->Int->Int->LB->Kb)(b:UInt32)(v:LB)(w f h:Int)(a g:UInt64):Kb:=
(OQ f h a g b).bind λ(ad,ae)=>
(YS v w (Af ad:UInt64) 1).bind λ(aa,ab,ac)=>
if((geq ac 0)&&(geq ad 0))then
(YS aa ab (Af ae:UInt64) f).bind λ(ah,ai,aj)=>
j7 b f h a g aj ai ah
else
if(geq ac 0)then
(jN aa ab ae h).bind λ(ak,al,am)=>
j7 b f h a g am al ak
else
j7 b f h a g ac ab aa
def dC:=dO QV
def dT(j6:UInt32->LB->Int->Int->Int->UInt64->UInt64->Kb)(v:LB)(w f h:Int)(a g:UInt64)(b:UInt32):Kb:=
(Km v w).bind λan=>
if(Ba an 0)then
some (([]:LB),0,0,0,0,0,8)
else
(ZZ f h a g).bind λao=>
if(Ba ao 0)then
some (([]:LB),0,0,0,0,0,8)
else
j6 b v w f h a g
def lE:=dT dC
abbrev Cs:=Option (UInt32×Int)
def oD(h:UInt32):Cs:=
some (h,0)
def ZT:=oD
def LJ(j30:UInt32->Cs)(Bnc:UInt32->Int->Cs)(a:LB)(b:LU)(h:UInt32)(m:Int):Cs:=
if(Cl m (Ac a))then
(Ap a m).bind λp=>
(Ap b (GI.toZ (AI (Af h:UInt8) p))).bind λ_=>
(Ap b (GI.toZ (AI (Af h:UInt8) p))).bind λu=>
Bnc (AI (Ck h (GI.toZ (8:UInt64)).toNat) u) (Ad m 1)
else
j30 h
def Uq(a:LB)(b:LU):Nat->UInt32->Int->Cs
|0,_,_=>none
|q+1,h,m=>LJ ZT (Uq a b q) a b h m
def ZB a b:=Uq a b Au
def YQ(j28:LB->LU->UInt32->Int->Cs)(f:UInt32)(a:LB)(b:LU):Cs:=
j28 a b f 0
def ZH:=YQ ZB
def aH(j27:UInt32->LB->LU->Cs)(f:UInt32)(a:LB)(b:LU):Cs:=
j27 f a b
def JW:=aH ZH
def qD(Iw:Int->LU->Cs)(f:UInt32)(a:LB)(g:Int)(o:LU):Cs:=
Iw (Ad g 1) o
def XU Iw:=qD Iw
def bD(j24:Int->LU->Cs)(f:UInt32)(a:LB)(g:Int)(k:UInt32)(b:LU):Cs:=
(Ap b g).bind λ_=>
(Nx b g k).bind λo=>
j24 g o
def KU Iw f a:=bD (XU Iw f a) f a
def LK(j23:Int->UInt32->LU->Cs)(Atl:UInt32->Int->Cs)(f:UInt32)(a:LB)(g:Int)(b:LU)(k:UInt32)(n:Int):Cs:=
if(Cl n 8)then
Atl (AI (Ck k (GI.toZ (1:UInt64)).toNat) (Bg 3988292384 (Er k 1))) (Ad n 1)
else
j23 g k b
def Ul(Iw:Int->LU->Cs)(f:UInt32)(a:LB)(g:Int)(b:LU):Nat->UInt32->Int->Cs
|0,_,_=>none
|q+1,k,n=>LK (KU Iw f a) (Ul Iw f a g b q) f a g b k n
def ZL Iw f a g b:=Ul Iw f a g b Au
def KB(j21:Int->LU->UInt32->Int->Cs)(j26:UInt32->LB->LU->Cs)(f:UInt32)(a:LB)(g:Int)(b:LU):Cs:=
if(Cl g 256)then
j21 g b (Af g:UInt32) 0
else
j26 f a b
def Qi(f:UInt32)(a:LB):Nat->Int->LU->Cs
|0,_,_=>none
|q+1,g,b=>KB (ZL (Qi f a q) f a) JW f a g b
def YD f a:=Qi f a Au
def dW(j16:UInt32->LB->Int->LU->Cs)(f:UInt32)(a:LB):Cs:=
if(Ef (Ac a) 100000)then
some (0,4)
else
j16 f a 0 (List.replicate 256 (0:UInt32))
def kL:=dW YD
def BK(b:LB):Option (UInt32×Int):=
(kL 4294967295 b).bind λ(f,a)=>
if(Ba a 0)then
some (0,a)
else
some ((Agb f),0)
def Adr(b:UInt64)(a:Int):Option Bool:=
if(geq a 8)then
some true
else
(Lg (Ml (Bg 8 a) 0)).bind λ_=>
some (geq (Ck b (GI.toZ (Bg 8 a)).toNat) 0)
abbrev FD:=Option (LB×Int)
def Abk(a:LB):FD:=
some (a,0)
def nY:=Abk
def cU(j6:LB->FD)(Rt:Int->LB->FD)(f:UInt64)(g:LB)(b:Int)(a:LB):FD:=
if(Cl b (Ac g))then
(Lg (Ml (Bg 8 b) 0)).bind λ_=>
(Ap a b).bind λ_=>
(Nx a b (Af (Ck f (GI.toZ (Bg 8 b)).toNat):UInt8)).bind λk=>
Rt (Ad b 1) k
else
j6 a
def HJ(f:UInt64)(g:LB):Nat->Int->LB->FD
|0,_,_=>none
|q+1,b,a=>cU nY (HJ f g q) f g b a
def rE f g:=HJ f g Au
def qA(j4:UInt64->LB->Int->LB->FD)(f:UInt64)(h:Int):FD:=
if((Cl h 1)||(Ef h 8))then
some (([]:LB),2)
else
(Adr f h).bind λm=>
if(!m)then
some (([]:LB),16)
else
(mkI h (0:UInt8)).bind λg=>
(Lg (geq h h)).bind λ_=>
j4 f g 0 g
def DJ:=qA rE
def WS(f:LB):Option (LB):=
some f
def Yn:=WS
def Dq(j16:LB->Option (LB))(rQ:Int->LB->Option (LB))(a:List LB)(g:Int)(f:LB):Option (LB):=
if(Cl g (Ac a))then
(Ap a g).bind λo=>
(Dy f o).bind λp=>
rQ (Ad g 1) p
else
j16 f
def Ct(a:List LB):Nat->Int->LB->Option (LB)
|0,_,_=>none
|q+1,g,f=>Dq Yn (Ct a q) a g f
def Jq a:=Ct a Au
def Jt(j14:(List LB)->Int->LB->Option (LB))(a:List LB)(k:LB):Option (LB):=
j14 a 0 k
def Ev:=Jt Jq
def Js(j13:(List LB)->LB->Option (LB))(b:Int)(a:List LB):Option (LB):=
if(Ef (Ao b (Ao (0:Int) (0:Int))) 0)then
(fG 0 0 0).bind λ_=>
(mkI (Ao b (Ao (0:Int) (0:Int))) (0:UInt8)).bind λu=>
(Dy ([]:LB) u).bind λm=>
(fG (Ac m) 0 0).bind λ_=>
j13 a (bE m 0 ((0:Int)-(0:Int)))
else
j13 a ([]:LB)
def Jr:=Js Ev
def Ju(j12:Int-> (List LB)->Option (LB))(a:List LB)(b:Int):Option (LB):=
if(Cl b 0)then
none
else
j12 b a
def Eu:=Ju Jr
def Dx(j11:(List LB)->Int->Option (LB))(bk9:Int->Int->Option (LB))(a:List LB)(b h:Int):Option (LB):=
if(Cl h (Ac a))then
(Ap a h).bind λn=>
if(Cl (Ad b (Ac n)) 0)then
none
else
bk9 (Ad b (Ac n)) (Ad h 1)
else
j11 a b
def Cy(a:List LB):Nat->Int->Int->Option (LB)
|0,_,_=>none
|q+1,b,h=>Dx Eu (Cy a q) a b h
def Qm a:=Cy a Au
def Qj(j9:(List LB)->Int->Int->Option (LB))(a:List LB):Option (LB):=
j9 a 0 0
def Fe:=Qj Qm
abbrev Bz:=Option (LB×Int)
def ZG(u:Int)(p:LB):Bz:=
(BK p).bind λ(af,ac)=>
if(Ba ac 0)then
some (([]:LB),ac)
else
(DJ (Af af:UInt64) 4).bind λ(m,h)=>
if(Ba h 0)then
some (([]:LB),h)
else
(Fe ([p,m]:List LB)).bind λag=>
some (ag,0)
def FI:=ZG
def aN(lS:Int-> (List (Int×Int×UInt64×UInt64×Unit))->Int->LB->Bz)(a:LU)(b f g:Int)(k:List (Int×Int×UInt64×UInt64×Unit))(n:Int)(v:LB):Bz:=
lS (Ad g 1) k n v
def FW lS:=aN lS
def aI(Ah6:Int->Int->LB->Bz)(h:Int)(a:LU)(g b f:Int)(k:List (Int×Int×UInt64×UInt64×Unit))(m:LB)(o n:Int)(aa:LB):Bz:=
Ah6 (Ad o 1) (Ad n 1) aa
def FT Ah6:=aI Ah6
def FC(j48:Int->Int->LB->Bz)(h:Int)(a:LU)(g b f:Int)(k:List (Int×Int×UInt64×UInt64×Unit))(m:LB)(o n:Int)(y:LB):Bz:=
(Ap m (Ca o 8)).bind λ_=>
(Ap m (Ca o 8)).bind λah=>
(Lg (Ml (Gc o 8) 0)).bind λ_=>
(Ap y (Ca n 8)).bind λ_=>
(Lg (Ml (Gc n 8) 0)).bind λ_=>
(Ap y (Ca n 8)).bind λai=>
(Ap y (Ca n 8)).bind λ_=>
Option.bind (Nx y (Ca n 8) (vM ai (Dp (Er (Ck ah (GI.toZ (Gc o 8)).toNat) 1) (GI.toZ (Gc n 8)).toNat))) λaa=>
j48 o n aa
def Vz Ah6 h a g b f k m:=FC (FT Ah6 h a g b f k m) h a g b f k m
def Wo(j47:Int->Int->LB->Bz)(j50:Int-> (List (Int×Int×UInt64×UInt64×Unit))->Int->LB->Bz)(a:LU)(b f h g:Int)(k:List (Int×Int×UInt64×UInt64×Unit))(m:LB)(o n:Int)(v:LB):Bz:=
if(Cl o h)then
if(geq (Gc n 8) 0)then
(Dy v ([(0:UInt8)]:LB)).bind λaj=>
j47 o n aj
else
j47 o n v
else
j50 g k n v
def Hi(lS:Int-> (List (Int×Int×UInt64×UInt64×Unit))->Int->LB->Bz)(a:LU)(b f h g:Int)(k:List (Int×Int×UInt64×UInt64×Unit))(m:LB):Nat->Int->Int->LB->Bz
|0,_,_,_=>none
|q+1,o,n,v=>Wo (Vz (Hi lS a b f h g k m q) h a g b f k m) (FW lS a b f) a b f h g k m o n v
def YB lS a b f h g k m:=Hi lS a b f h g k m Au
def Vt(j44:Int->Int-> (List (Int×Int×UInt64×UInt64×Unit))->LB->Int->Int->LB->Bz)(j52:Int->LB->Bz)(a:LU)(b f g:Int)(w:List (Int×Int×UInt64×UInt64×Unit))(u:Int)(p:LB):Bz:=
if(Cl g (Ac a))then
(Ap a g).bind λ_=>
(Ap a g).bind λak=>
(Lg (Ba b 0)).bind λ_=>
(Ap w (Gc g b)).bind λ_=>
(Ap w (Gc g b)).bind λab=>
(lE ([]:LB) 0 ab.1 ab.2.1 ab.2.2.1 ab.2.2.2.1 ak).bind λ(m,h,al,am,an,ao,ad)=>
if(Ba ad 0)then
some (([]:LB),ad)
else
(Lg (Ba b 0)).bind λ_=>
(Ap w (Gc g b)).bind λ_=>
(Nx w (Gc g b) (al,am,an,ao,())).bind λk=>
j44 h g k m 0 u p
else
j52 u p
def Jd(a:LU)(b f:Int):Nat->Int-> (List (Int×Int×UInt64×UInt64×Unit))->Int->LB->Bz
|0,_,_,_,_=>none
|q+1,g,w,u,p=>Vt (YB (Jd a b f q) a b f) FI a b f g w u p
def FN a b f:=Jd a b f Au
def LM(j27:LU->Int->Int->Int-> (List (Int×Int×UInt64×UInt64×Unit))->Int->LB->Bz)(b f:Int)(ap aq:LX):Bz:=
(LV b f ap aq).bind λ(a,ae)=>
if(Ba ae 0)then
some (([]:LB),ae)
else
(JL).bind λar=>
j27 a b f 0 ar 0 ([]:LB)
def AP:=LM FN
def Vy(b f g:Int)(h k:LB)(m:LX)(n:List LB)(o:LB)(p:Bool)(u a:Int):Option (Int×Int×Int×LB×LB×LX×(List LB)×LB×Bool×Int×Int):=
some (b,f,g,h,([]:LB),([]:LX),([]:List LB),([]:LB),false,a,a)
abbrev Ch:=Option (Int×Int×Int×LB×LB×LX×(List LB)×LB×Bool×Int×Int)
def iC(a b g:Int)(f:LB)(h:Bool)(k:Int)(y:LB)(w:LX)(v:List LB)(m:LB):Ch:=
some (a,b,g,f,y,w,v,m,h,k,0)
def OU:=iC
def BH(rQ:Int->LB->LX-> (List LB)->Ch)(p:Int)(n:LB)(a b g:Int)(f:LB)(h:Bool)(k o:Int)(m:LB)(u:Int)(ah:LB)(ai:LX)(aj:List LB):Ch:=
rQ (Ad u 1) ah ai aj
def Pm rQ:=BH rQ
def Vh(j24:Int->LB->LX-> (List LB)->Ch)(p:Int)(n:LB)(a b g:Int)(f:LB)(h:Bool)(k o:Int)(m:LB)(u ad:Int)(ae:LB)(af:LX)(ag:List LB):Ch:=
if(Ba ad 0)then
(Vy a b g f ae af ag m h k ad).bind λ(au,av,aw,ax,ay,az,ba,bb,bc,bd,be)=>
some (au,av,aw,ax,ay,az,ba,bb,bc,bd,be)
else
j24 u ae af ag
def Jm rQ p n a b g f h k o m:=Vh (Pm rQ p n a b g f h k o m) p n a b g f h k o m
def gQ(j23:Int->Int->LB->LX-> (List LB)->Ch)(p:Int)(n:LB)(a b g:Int)(f:LB)(h:Bool)(k o:Int)(m:LB)(u:Int)(ab:LX)(v:List LB)(ak:Int):Ch:=
j23 u ak ([]:LB) ab v
def hH rQ p n a b g f h k o m:=gQ (Jm rQ p n a b g f h k o m) p n a b g f h k o m
def ON(j23:Int->Int->LB->LX-> (List LB)->Ch)(p:Int)(n:LB)(a b g:Int)(f:LB)(h:Bool)(k o:Int)(m:LB)(u:Int)(ac:List LB):Ch:=
j23 u 0 ([]:LB) ([]:LX) ac
def PA rQ p n a b g f h k o m:=ON (Jm rQ p n a b g f h k o m) p n a b g f h k o m
def OC(j23:Int->Int->LB->LX-> (List LB)->Ch)(j21:Int->LX-> (List LB)->Int->Ch)(j22:Int-> (List LB)->Ch)(p:Int)(n:LB)(a b g:Int)(f:LB)(h:Bool)(k o:Int)(m:LB)(u:Int)(aa:LB)(w:LX)(v:List LB):Ch:=
(QT b aa).bind λ(bf,al)=>
if(Ba al 0)then
j23 u al aa w v
else
(Dy w bf).bind λab=>
if(Cl (Ac ab) (Bg o a))then
j23 u 0 ([]:LB) ab v
else
(Rr f).bind λ(bg,am)=>
if(Ba am 0)then
j21 u ab v am
else
(AP a b bg ab).bind λ(bh,an)=>
if(Ba an 0)then
j21 u ab v an
else
(Dy v ([bh]:List LB)).bind λac=>
j22 u ac
def OZ rQ p n a b g f h k o m:=OC (Jm rQ p n a b g f h k o m) (hH rQ p n a b g f h k o m) (PA rQ p n a b g f h k o m) p n a b g f h k o m
def BW(j24:Int->LB->LX-> (List LB)->Ch)(j23:Int->Int->LB->LX-> (List LB)->Ch)(j20:Int->LB->LX-> (List LB)->Ch)(j26:Int->Int->Int->LB->Bool->Int->LB->LX-> (List LB)->LB->Ch)(p:Int)(n:LB)(a b g:Int)(f:LB)(h:Bool)(k o:Int)(m:LB)(u:Int)(y:LB)(w:LX)(v:List LB):Ch:=
if(Cl u (Ac n))then
(Ap n u).bind λbi=>
(Dy y ([bi]:LB)).bind λaa=>
if(Cl (Ac aa) p)then
j24 u aa w v
else
(Xh a b g f aa w v m h k o).bind λbj=>
(Wk a b g f aa w v m h k (Ad (Ac v) 1) (Ad bj 1)).bind λbk=>
if(!bk)then
j23 u 18 aa w v
else
j20 u aa w v
else
j26 a b g f h k y w v m
def Jk(p:Int)(n:LB)(a b g:Int)(f:LB)(h:Bool)(k o:Int)(m:LB):Nat->Int->LB->LX-> (List LB)->Ch
|0,_,_,_,_=>none
|q+1,u,y,w,v=>BW (Pm (Jk p n a b g f h k o m q) p n a b g f h k o m) (Jm (Jk p n a b g f h k o m q) p n a b g f h k o m) (OZ (Jk p n a b g f h k o m q) p n a b g f h k o m) OU p n a b g f h k o m u y w v
def PC p n a b g f h k o m:=Jk p n a b g f h k o m Au
def UT(j14:Int->LB->Int->Int->Int->LB->Bool->Int->Int->LB->Int->LB->LX-> (List LB)->Ch)(bl bm bn:Int)(bp bq:LB)(br:LX)(bs:List LB)(bt:LB)(bu:Bool)(bv:Int)(n:LB):Ch:=
(EB bl bm bn bp bq br bs bt bu bv).bind λ(a,b,g,f,ao,ap,aq,m,h,k,o,ar)=>
if(Ba ar 0)then
some (a,b,g,f,ao,ap,aq,m,h,k,ar)
else
(HS a b).bind λp=>
j14 p n a b g f h k o m 0 ao ap aq
def WI:=UT PC
def QL(a:LB):Option (Int×Int):=
if(Ef (Ac a) 64)then
some (0,2)
else
if(geq (Ac a) 0)then
some (1,0)
else
some (2,0)
def NX(b f a g h:Int):Option Bool:=
some (((((((geq b 1)||(geq b 2))&&(Ef f 0))&&(gle f 6))&&(Ef g 0))&&(gle g 1048576))&&(Ef h 0))
def Pf:=NX
def BD(j2:Int->Int->Int->Int->Int->Option Bool)(b f a g h:Int):Option Bool:=
if(geq a 8)then
if(geq a 8)then
j2 b f a g h
else
some false
else
if(geq a 16)then
if(geq a 16)then
j2 b f a g h
else
some false
else
if(geq a 24)then
j2 b f a g h
else
some false
def Tj:=BD Pf
def DW(g b:Int):Option (Int×Int):=
(Wr g).bind λ(a,f)=>
if(Ba f 0)then
some (0,f)
else
if((Cl b 1)||(Ef b 4000))then
some (0,2)
else
(Lg (Ba a 0)).bind λ_=>
if(Ef (Ca (Ao (Ad b a) 1) a) 1000)then
some (0,4)
else
some ((Ca (Ao (Ad b a) 1) a),0)
def QY(k a m f b:Int):Option Bool:=
(Lg (Ba a 0)).bind λ_=>
if(Ef b (Ca 4000 a))then
some false
else
(DW f b).bind λ(g,h)=>
some ((geq h 0)&&(gle g 1000))
def Oo(a b f g h:Int):Option Int:=
(Tj a b f g h).bind λk=>
if(!k)then
some 8
else
(QY a b f g h).bind λm=>
if(!m)then
some 8
else
some 0
abbrev Ps:=Option (LB×Int)
def mS(a:LB):Ps:=
(BK a).bind λ(u,aa)=>
(DJ (Af u:UInt64) 4).bind λ(n,v)=>
(Dy a n).bind λo=>
some (o,0)
def EV:=mS
def EP(j6:LB->Ps)(Rt:Int->LB->Ps)(b f g h k m:Int)(a:LB):Ps:=
if(Cl m 5)then
(Ap ([b,f,g,h,k]:LI) m).bind λw=>
(Ap ([(2:Int),(2:Int),(2:Int),(4:Int),(4:Int)]:LI) m).bind λy=>
(DJ (Af w:UInt64) y).bind λ(n,v)=>
(Dy a n).bind λo=>
Rt (Ad m 1) o
else
j6 a
def Nq(b f g h k:Int):Nat->Int->LB->Ps
|0,_,_=>none
|q+1,m,a=>EP EV (Nq b f g h k q) b f g h k m a
def US b f g h k:=Nq b f g h k Au
def UL(j4:Int->Int->Int->Int->Int->Int->LB->Ps)(b f g h k:Int):Ps:=
(Oo b f g h k).bind λp=>
if(Ba p 0)then
some (([]:LB),p)
else
j4 b f g h k 0 ([(84:UInt8),(84:UInt8),(65:UInt8),(49:UInt8)]:LB)
def WX:=UL US
def Aa1(a:LB):Option (UInt64×Int):=
if(Ef (Ac a) 64)then
some (0,2)
else
(gD a).bind λ(b,f)=>
some (b,0)
def JK(b:LB):Option (LB×Int):=
(Aa1 b).bind λ(f,a)=>
if(Ba a 0)then
some (([]:LB),a)
else
(DJ f 8).bind λ(g,h)=>
some (g,h)
def Aft:Option Int:=
some 0
def qG:=Aft
def KP(j6:Option Int)(Rt:Int->Int->Option Int)(a:LI)(f b:Int):Option Int:=
if(Cl b (Ac a))then
(Ap a b).bind λg=>
if((Cl g 5)||(Ef g f))then
some 8
else
Rt (Ao f g) (Ad b 1)
else
j6
def Uo(a:LI):Nat->Int->Int->Option Int
|0,_,_=>none
|q+1,f,b=>KP qG (Uo a q) a f b
def ZV a:=Uo a Au
def JJ(j4:LI->Int->Int->Option Int)(a:LI):Option Int:=
if((geq (Ac a) 0)||(Ef (Ac a) 1000))then
some 8
else
j4 a 100000 0
def Pa:=JJ ZV
abbrev Iu:=Option (LB×Int)
def Acs(g:LB):Iu:=
some (g,0)
def mQ:=Acs
def UI(j14:LB->Iu)(b:LB):Iu:=
(BK b).bind λ(m,u)=>
(DJ (Af m:UInt64) 4).bind λ(n,v)=>
(Dy b n).bind λg=>
j14 g
def UX:=UI mQ
def mL(bk8:Int->LB->Iu)(a:LI)(f:Int)(h:LB):Iu:=
bk8 (Ad f 1) h
def UK bk8:=mL bk8
def KT(j11:Int->LB->Iu)(j13:LB->Iu)(a:LI)(f:Int)(b:LB):Iu:=
if(Cl f (Ac a))then
(Ap a f).bind λo=>
(DJ (Af o:UInt64) 4).bind λ(p,w)=>
(Dy b p).bind λh=>
j11 f h
else
j13 b
def Vf(a:LI):Nat->Int->LB->Iu
|0,_,_=>none
|q+1,f,b=>KT (UK (Vf a q) a) UX a f b
def oA a:=Vf a Au
def XW(j8:LI->Int->LB->Iu)(a:LI):Iu:=
(Pa a).bind λk=>
if(Ba k 0)then
some (([]:LB),k)
else
j8 a 0 ([]:LB)
def TK:=XW oA
abbrev Kv:=Option (LB×Int)
def EU(f g h:Int)(b k:LB)(m:LX)(a:List LB)(n:LB)(o:Bool)(p:Int)(u:LB)(v:LI):Kv:=
(TK v).bind λ(aa,y)=>
if(Ba y 0)then
some (([]:LB),y)
else
(
(Dy u aa).bind λab=>
(Fe a).bind λac=>
(Dy ab ac).bind λad=>
some (ad,0))
def Wz:=EU
def ER(j8:Int->Int->Int->LB->LB->LX-> (List LB)->LB->Bool->Int->LB->LI->Kv)(tP:Int->LI->Kv)(a:List LB)(f g h:Int)(b k:LB)(m:LX)(n:LB)(o:Bool)(p:Int)(u:LB)(w:Int)(v:LI):Kv:=
if(Cl w (Ac a))then
(Ap a w).bind λai=>
(Dy v ([(Ac ai)]:LI)).bind λaj=>
tP (Ad w 1) aj
else
j8 f g h b k m a n o p u v
def Rq(a:List LB)(f g h:Int)(b k:LB)(m:LX)(n:LB)(o:Bool)(p:Int)(u:LB):Nat->Int->LI->Kv
|0,_,_=>none
|q+1,w,v=>ER Wz (Rq a f g h b k m n o p u q) a f g h b k m n o p u w v
def mA a f g h b k m n o p u:=Rq a f g h b k m n o p u Au
def EF(j6:(List LB)->Int->Int->Int->LB->LB->LX->LB->Bool->Int->LB->Int->LI->Kv)(f g h:Int)(b k:LB)(m:LX)(a:List LB)(n:LB)(o:Bool)(p:Int)(u:LB):Kv:=
j6 a f g h b k m n o p u 0 ([]:LI)
def ES:=EF mA
def UE(j5:Int->Int->Int->LB->LB->LX-> (List LB)->LB->Bool->Int->LB->Kv)(f g h:Int)(b k:LB)(m:LX)(a:List LB)(n:LB)(o:Bool)(p ak:Int):Kv:=
(QL b).bind λ(al,ae)=>
if(Ba ae 0)then
some (([]:LB),ae)
else
(WX al f g h ak).bind λ(af,ag)=>
if(Ba ag 0)then
some (([]:LB),ag)
else
if(b !=([]:LB))then
(JK b).bind λ(am,ah)=>
if(Ba ah 0)then
some (([]:LB),ah)
else
(Dy af am).bind λan=>
j5 f g h b k m a n o p an
else
j5 f g h b k m a n o p af
def WH:=UE ES
abbrev Ph:=Option (Int×Int×Int×LB×LB×LX×(List LB)×LB×Bool×Int×Int)
def LZ(o a b g:Int)(f:LB)(k:Bool)(m:Int)(h n:LB)(v:LX)(w:List LB):Ph:=
(WH a b g f h v w n k m o).bind λ(aj,y)=>
if(Ba y 0)then
(Vy a b g f h v w n k m y).bind λ(ad,ak,al,am,ae,af,an,ao,ap,aq,ar)=>
some (ad,ak,al,am,ae,af,an,ao,ap,aq,ar)
else
some (a,b,g,f,([]:LB),([]:LX),([]:List LB),aj,true,0,0)
def Sg:=LZ
def LD(j4:Int->Int->Int->Int->LB->Bool->Int->LB->LB->LX-> (List LB)->Ph)(o a b g:Int)(f:LB)(k:Bool)(m:Int)(h n:LB)(aa:Int)(ab:LX)(ac:List LB):Ph:=
if(Ba aa 0)then
(Vy a b g f h ab ac n k m aa).bind λ(au,y,ad,av,aw,ax,ae,af,ay,az,ba)=>
some (au,y,ad,av,aw,ax,ae,af,ay,az,ba)
else
j4 o a b g f k m h n ab ac
def IM:=LD Sg
def KM(j3:Int->Int->Int->Int->LB->Bool->Int->LB->LB->Int->LX-> (List LB)->Ph)(j4:Int->Int->Int->Int->LB->Bool->Int->LB->LB->LX-> (List LB)->Ph)(bb bc bd:Int)(be bf:LB)(bg:LX)(bh:List LB)(bi:LB)(bj:Bool)(bk:Int):Ph:=
(EB bb bc bd be bf bg bh bi bj bk).bind λ(a,b,g,f,h,p,u,n,k,m,bl,ag)=>
if(Ba ag 0)then
some (a,b,g,f,h,p,u,n,k,m,ag)
else
(Xh a b g f h p u n k m bl).bind λo=>
if((Ef (Ac h) 0)||(geq o 0))then
(Vy a b g f h p u n k m 24).bind λ(bm,bn,bp,bq,br,bs,bt,bu,bv,bw,bx)=>
some (bm,bn,bp,bq,br,bs,bt,bu,bv,bw,bx)
else
if(Ef (Ac p) 0)then
(Rr f).bind λ(bz,ah)=>
if(Ba ah 0)then
j3 o a b g f k m h n ah p u
else
(AP a b bz p).bind λ(da,ai)=>
if(Ba ai 0)then
j3 o a b g f k m h n ai p u
else
(Dy u ([da]:List LB)).bind λdb=>
j3 o a b g f k m h n 0 ([]:LX) db
else
j4 o a b g f k m h n p u
def IP:=KM IM Sg
def QP(f g h:Int)(k m:LB)(n:LX)(o:List LB)(p:LB)(u:Bool)(v b:Int):Option (Int×Int×Int×LB×LB×LX×(List LB)×LB×Bool×Int×LB×Int):=
(Td f g h k m n o p u v).bind λw=>
if(Ba w 0)then
some (0,0,0,([]:LB),([]:LB),([]:LX),([]:List LB),([]:LB),false,0,([]:LB),w)
else
if(Cl b 0)then
some (0,0,0,([]:LB),([]:LB),([]:LX),([]:List LB),([]:LB),false,0,([]:LB),2)
else
(KO f g h k m n o p u v).bind λ(y,aa,ab,ac,ad,ae,af,a,ag,ah)=>
(Bi a 0 (Fk b (Ac a))).bind λai=>
(Bl ai).bind λaj=>
(Bi a (Fk b (Ac a)) (Ac a)).bind λak=>
some (y,aa,ab,ac,ad,ae,af,ak,ag,ah,aj,0)
abbrev Jb:=Option (LB×Int)
def bU(g h k:Int)(m:LB)(n:Bool)(o:Int)(p:LB)(u:LX)(v:List LB)(w:LB):Jb:=
(IP g h k m p u v w n o).bind λ(ap,aq,y,ar,au,av,aa,ab,aw,ax,al)=>
if(Ba al 0)then
some (([]:LB),al)
else
(QP ap aq y ar au av aa ab aw ax 100000).bind λ(ad,ac,bs,bt,bu,bv,bw,bx,bz,da,ay,az)=>
some (ay,az)
def HW:=bU
def PZ(tP:LB->Int->Int->Int->Int->LB->Bool->Int->LB->LX-> (List LB)->LB->Jb)(a:LI)(f:LB)(ac ae b y af ag:Int)(ah:LB)(ai:Bool)(ad:Int)(aa:LB)(ab:LX)(aj:List LB)(ak:LB):Jb:=
if(Ba ac 0)then
some (([]:LB),ac)
else
(Bi f ae (Ac f)).bind λba=>
tP ba (Ad b 1) y af ag ah ai ad aa ab aj ak
def BB tP:=PZ tP
def BF(j8:LB->Int->Int->Int->Int->Int->Int->LB->Bool->Int->LB->LX-> (List LB)->LB->Jb)(j10:Int->Int->Int->LB->Bool->Int->LB->LX-> (List LB)->LB->Jb)(a:LI)(f:LB)(b g h k:Int)(m:LB)(n:Bool)(o:Int)(p:LB)(u:LX)(v:List LB)(w:LB):Jb:=
if(Cl b (Ac a))then
(Ap a b).bind λ_=>
(Ap a b).bind λae=>
(Bi f 0 ae).bind λbb=>
(WI g h k m p u v w n o bb).bind λ(y,af,ag,ah,aa,ab,aj,ak,ai,ad,ac)=>
j8 f ac ae b y af ag ah ai ad aa ab aj ak
else
j10 g h k m n o p u v w
def Pp(a:LI):Nat->LB->Int->Int->Int->Int->LB->Bool->Int->LB->LX-> (List LB)->LB->Jb
|0,_,_,_,_,_,_,_,_,_,_,_,_=>none
|q+1,f,b,g,h,k,m,n,o,p,u,v,w=>BF (BB (Pp a q) a) HW a f b g h k m n o p u v w
def iP a:=Pp a Au
def PG(j6:LI->LB->Int->Int->Int->Int->LB->Bool->Int->LB->LX-> (List LB)->LB->Jb)(bc bd be:Int)(bf am:LB)(bg:UInt64):Jb:=
(Xi (Ac am) bg).bind λ(a,an)=>
if(Ba an 0)then
some (([]:LB),an)
else
(cI bc bd be bf).bind λ(bh,bi,bj,bk,bl,bm,bn,bp,bq,br,ao)=>
if(Ba ao 0)then
some (([]:LB),ao)
else
j6 a am 0 bh bi bj bk bq br bl bm bn bp
def Xj:=PG iP
def GL(a:LB):Option (LB×LB×Int×Int×Int×Int×Int×LI×Int×LB×Bool×Int×Int):=
if(Ef (Ac a) 64)then
some (([]:LB),([]:LB),0,0,0,0,0,([]:LI),0,([]:LB),false,0,2)
else
some (a,([]:LB),0,0,0,0,0,([]:LI),0,([]:LB),false,0,0)
def Mv(a:LB):Option (LB):=
(
(Dy ([]:LB) a).bind λb=>
some b)
def Hc(a:LI):Option (LI):=
(
(Dy ([]:LI) a).bind λb=>
some b)
def Eo(a b:LB)(f g h k m:Int)(n:LI)(o:Int)(p:LB)(u:Bool)(v:Int):Option (LB×LB×Int×Int×Int×Int×Int×LI×Int×LB×Bool×Int):=
(Mv b).bind λw=>
(Mv p).bind λy=>
(Hc n).bind λaa=>
some (a,w,f,g,h,k,m,aa,o,y,u,v)
def TT(a b:UInt64):Option (UInt64×UInt64):=
some ((Ad (Ad (Bg (Ck a (GI.toZ (32:UInt64)).toNat) (Ck b (GI.toZ (32:UInt64)).toNat)) (Ck (Ad (Bg (Ck a (GI.toZ (32:UInt64)).toNat) (Er b 4294967295)) (Ck (Bg (Er a 4294967295) (Er b 4294967295)) (GI.toZ (32:UInt64)).toNat)) (GI.toZ (32:UInt64)).toNat)) (Ck (Ad (Er (Ad (Bg (Ck a (GI.toZ (32:UInt64)).toNat) (Er b 4294967295)) (Ck (Bg (Er a 4294967295) (Er b 4294967295)) (GI.toZ (32:UInt64)).toNat)) 4294967295) (Bg (Er a 4294967295) (Ck b (GI.toZ (32:UInt64)).toNat))) (GI.toZ (32:UInt64)).toNat)),(Bg a b))
def QF(a b:UInt64):Option (UInt64×UInt64):=
(TT a b).bind λ(f,g)=>
some (f,g)
def Rl(a:LI):Option (LI):=
some a
def Lk:=Rl
def Io(j10:LI->Option (LI))(bk8:Int->LI->Option (LI))(b:Int)(a:LI):Option (LI):=
if(Cl b (Ac a))then
(
(fG (Ac a) b (Ac a)).bind λ_=>
(fG (Ac a) 0 b).bind λ_=>
bk8 (Ad b (XT ((Ac a)-b) (bE a 0 (b-(0:Int))).length)) (Xy a b ((Ac a)-b) (bE a 0 (b-(0:Int)))))
else
j10 a
def Gf:Nat->Int->LI->Option (LI)
|0,_,_=>none
|q+1,b,a=>Io Lk (Gf q) b a
def Sr:=Gf Au
def Tp(j8:Int->LI->Option (LI))(f:LI)(g:UInt64):Option (LI):=
(mkI (Af g:Int) (0:Int)).bind λk=>
(Lg (geq (Af g:Int) (Af g:Int))).bind λ_=>
j8 (XT (Ac k) f.length) (VR k f)
def Tm:=Tp Sr
def Sp(j7:LI->UInt64->Option (LI))(f:LI)(h:Int):Option (LI):=
(QF (Af (Ac f):UInt64) (Af h:UInt64)).bind λ(m,g)=>
if((Ef m 0)||(Ef g 9223372036854775807))then
none
else
j7 f g
def Tq:=Sp Tm
def Tc(j6:LI->Int->Option (LI))(f:LI)(h:Int):Option (LI):=
if(Cl h 0)then
none
else
j6 f h
def Qq:=Tc Tq
def bF(f:LI):Option (LI):=
some f
def BZ:=bF
def Hx(j16:LI->Option (LI))(rQ:Int->LI->Option (LI))(a:List LI)(g:Int)(f:LI):Option (LI):=
if(Cl g (Ac a))then
(Ap a g).bind λo=>
(Dy f o).bind λp=>
rQ (Ad g 1) p
else
j16 f
def Fp(a:List LI):Nat->Int->LI->Option (LI)
|0,_,_=>none
|q+1,g,f=>Hx BZ (Fp a q) a g f
def Rh a:=Fp a Au
def Rm(j14:(List LI)->Int->LI->Option (LI))(a:List LI)(k:LI):Option (LI):=
j14 a 0 k
def Ll:=Rm Rh
def Rc(j13:(List LI)->LI->Option (LI))(b:Int)(a:List LI):Option (LI):=
if(Ef (Ao b (Ao (0:Int) (0:Int))) 0)then
(fG 0 0 0).bind λ_=>
(mkI (Ao b (Ao (0:Int) (0:Int))) (0:Int)).bind λu=>
(Dy ([]:LI) u).bind λm=>
(fG (Ac m) 0 0).bind λ_=>
j13 a (bE m 0 ((0:Int)-(0:Int)))
else
j13 a ([]:LI)
def Rn:=Rc Ll
def Rf(j12:Int-> (List LI)->Option (LI))(a:List LI)(b:Int):Option (LI):=
if(Cl b 0)then
none
else
j12 b a
def Ri:=Rf Rn
def Ir(j11:(List LI)->Int->Option (LI))(bk9:Int->Int->Option (LI))(a:List LI)(b h:Int):Option (LI):=
if(Cl h (Ac a))then
(Ap a h).bind λn=>
if(Cl (Ad b (Ac n)) 0)then
none
else
bk9 (Ad b (Ac n)) (Ad h 1)
else
j11 a b
def Gd(a:List LI):Nat->Int->Int->Option (LI)
|0,_,_=>none
|q+1,b,h=>Ir Ri (Gd a q) a b h
def Tk a:=Gd a Au
def Ti(j9:(List LI)->Int->Int->Option (LI))(a:List LI):Option (LI):=
j9 a 0 0
def Qr:=Ti Tk
def aO(a b:LI):Option (LI):=
(Qr ([a,b]:List LI)).bind λf=>
some f
def cB(a b:Int):Option (LI×Int):=
(DW a b).bind λ(f,g)=>
if(Ba g 0)then
some (([]:LI),g)
else
(Wr a).bind λ(h,n)=>
(Qq ([h]:LI) (Ao f 1)).bind λk=>
(aO k ([(Ao b (Bg (Ao f 1) h))]:LI)).bind λm=>
some (m,0)
def Dk(g h k a b:Int):Option (LI×Int):=
(Oo g h k a b).bind λf=>
if(Ba f 0)then
some (([]:LI),f)
else
(cB a b).bind λ(m,n)=>
some (m,n)
def Qd(a f g h k:Int)(b:LB):Option Int:=
if((b==([]:LB)) !=(geq a 1))then
some 26
else
some 0
def mO(w:Int)(o p:LB)(h b f k m:Int)(g:LI)(a:Int)(n:LB)(u:Bool)(v:Int):Option Bool:=
some (gle (Ac n) w)
def UZ:=mO
def EL(j8:Int->LB->LB->Int->Int->Int->Int->Int->LI->Int->LB->Bool->Int->Option Bool)(tP:Int->Int->Option Bool)(y:LI)(o p:LB)(h b f k m:Int)(g:LI)(a:Int)(n:LB)(u:Bool)(v w aa:Int):Option Bool:=
if(Cl aa (Ac y))then
(Ap y aa).bind λac=>
tP (Ad w (Ca (Bg (Bg ac b) f) 8)) (Ad aa 1)
else
j8 w o p h b f k m g a n u v
def Rs(y:LI)(o p:LB)(h b f k m:Int)(g:LI)(a:Int)(n:LB)(u:Bool)(v:Int):Nat->Int->Int->Option Bool
|0,_,_=>none
|q+1,w,aa=>EL UZ (Rs y o p h b f k m g a n u v q) y o p h b f k m g a n u v w aa
def UW y o p h b f k m g a n u v:=Rs y o p h b f k m g a n u v Au
def TY(j6:LI->LB->LB->Int->Int->Int->Int->Int->LI->Int->LB->Bool->Int->Int->Int->Option Bool)(o p:LB)(h b f k m:Int)(g:LI)(a:Int)(n:LB)(u:Bool)(v:Int)(ab:LI):Option Bool:=
if(geq (Ac g) 0)then
some ((geq a 0)&&(geq (Ac n) 0))
else
(Pa g).bind λad=>
if((((Ba ad 0)||(Ba (Ac g) (Ac ab)))||(Cl a 0))||(Ef a (Ac ab)))then
some false
else
(Bi ab 0 a).bind λy=>
j6 y o p h b f k m g a n u v 0 0
def VA:=TY UW
def VB(j5:LB->LB->Int->Int->Int->Int->Int->LI->Int->LB->Bool->Int->LI->Option Bool)(o p:LB)(h b f k m:Int)(g:LI)(a:Int)(n:LB)(u:Bool)(v:Int):Option Bool:=
if((geq h 0)&&((geq b 0)&&((geq f 0)&&((geq k 0)&&((geq m 0)&&true)))))then
some (((geq (Ac g) 0)&&(geq a 0))&&(geq (Ac n) 0))
else
(Dk h b f k m).bind λ(ab,ae)=>
if(Ba ae 0)then
some false
else
(Qd h b f k m o).bind λaf=>
if(Ba af 0)then
some false
else
j5 o p h b f k m g a n u v ab
def BM:=VB VA
def If(a b:LB):Option Bool:=
some (a==b)
def Nu(b a:LB):Option Bool:=
if(Ml (Ac b) (Ac a))then
(Bi b 0 (Ac a)).bind λf=>
(If f a).bind λg=>
some g
else
some false
abbrev Np:=Option (Int×Int)
def Aa6(b:Int):Np:=
some (b,0)
def hU:=Aa6
def AZ(j6:Int->Np)(Rt:Int->Int->Np)(a:LB)(b f:Int):Np:=
if(Cl f (Ac a))then
(Ap a f).bind λg=>
if(Ef g 127)then
some (0,12)
else
Rt (vM (Dp b (GI.toZ (7:UInt64)).toNat) (Af g:Int)) (Ad f 1)
else
j6 b
def Pq(a:LB):Nat->Int->Int->Np
|0,_,_=>none
|q+1,b,f=>AZ hU (Pq a q) a b f
def OG a:=Pq a Au
def OE(j4:LB->Int->Int->Np)(a:LB):Np:=
if(Ba (Ac a) 4)then
some (0,2)
else
j4 a 0 0
def QJ:=OE OG
abbrev Kj:=Option (Int×Int)
def lX(a:LB)(b:UInt8)(h:Int):Kj:=
if(Ef h 4000)then
some (0,4)
else
if(Cl (Ac a) h)then
some (0,24)
else
if(geq b 16)then
(Bi a (Ao h 10) h).bind λk=>
(Bi k 0 3).bind λu=>
if(u !=([51,68,73]:LB))then
some (0,12)
else
(Bi k 3 (Ac k)).bind λv=>
(Bi a 3 10).bind λw=>
(If v w).bind λy=>
if(!y)then
some (0,12)
else
some (h,0)
else
some (h,0)
def EN:=lX
def UD(j8:LB->UInt8->Int->Kj)(a:LB)(g:Int)(b:UInt8):Kj:=
if(geq b 16)then
j8 a b (Ad (Ad g 10) 10)
else
j8 a b (Ad g 10)
def EZ:=UD EN
def UP(j7:LB->Int->UInt8->Kj)(a:LB)(g:Int)(b:UInt8)(m:Bool):Kj:=
if m then
some (0,12)
else
j7 a g b
def UH:=UP EZ
def TV(j6:LB->Int->UInt8->Bool->Kj)(a:LB)(f b:UInt8):Kj:=
(Bi a 6 10).bind λaa=>
(QJ aa).bind λ(g,ab)=>
if(Ba ab 0)then
if true then
j6 a g b true
else
if(geq b 0)then
j6 a g b (!((Ml f 2)&&(gle f 4)))
else
if(geq b 16)then
j6 a g b (!(geq f 4))
else
j6 a g b (!false)
else
(Ap a 4).bind λac=>
if(Ba ac 0)then
j6 a g b true
else
if(geq b 0)then
j6 a g b (!((Ml f 2)&&(gle f 4)))
else
if(geq b 16)then
j6 a g b (!(geq f 4))
else
j6 a g b (!false)
def UA:=TV UH
def EE(j5:LB->UInt8->UInt8->Kj)(a:LB):Kj:=
(Nu a ([(73:UInt8),(68:UInt8),(51:UInt8)]:LB)).bind λn=>
if(!n)then
some (0,6)
else
if(Cl (Ac a) 10)then
some (0,24)
else
(Ap a 3).bind λf=>
(Ap a 5).bind λb=>
(
(
(
j5 a f b)))
def WV:=EE UA
abbrev GB:=Option (UInt64×Int)
def Ap0(b:UInt64):GB:=
some (b,0)
def Ab1:=Ap0
def cS(j6:UInt64->GB)(Rt:UInt64->Int->GB)(a:LB)(b:UInt64)(f:Int):GB:=
if(Cl f (Ac a))then
(Ap a f).bind λg=>
(Lg (Ml (Bg 8 f) 0)).bind λ_=>
Rt (vM b (Dp (Af g:UInt64) (GI.toZ (Bg 8 f)).toNat)) (Ad f 1)
else
j6 b
def HI(a:LB):Nat->UInt64->Int->GB
|0,_,_=>none
|q+1,b,f=>cS Ab1 (HI a q) a b f
def oI a:=HI a Au
def oS(j4:LB->UInt64->Int->GB)(a:LB):GB:=
if((Cl (Ac a) 1)||(Ef (Ac a) 8))then
some (0,2)
else
j4 a 0 0
def qM:=oS oI
def fX(f:LB)(a b:Int):Option (UInt64×Int):=
if(((Cl b 1)||(Ef b 8))||(Cl a 0))then
some (0,2)
else
if(Ef a (Ao (Ac f) b))then
some (0,24)
else
(Bi f a (Ad a b)).bind λg=>
(qM g).bind λ(h,k)=>
some (h,k)
def Ahd(g:LB):Option (LB):=
some g
def vK:=Ahd
def jQ(j6:LB->Option (LB))(Rt:Int->LB->Option (LB))(a b:Int)(f:UInt64)(h:Int)(g:LB):Option (LB):=
if(Cl h (Ac ([(2000:UInt64),(Af (Ad a 32):UInt64),(Af b:UInt64),f,(0:UInt64),(0:UInt64)]:LQ)))then
(Ap ([(2000:UInt64),(Af (Ad a 32):UInt64),(Af b:UInt64),f,(0:UInt64),(0:UInt64)]:LQ) h).bind λ_=>
(Ap ([(2000:UInt64),(Af (Ad a 32):UInt64),(Af b:UInt64),f,(0:UInt64),(0:UInt64)]:LQ) h).bind λk=>
(DJ k 4).bind λ(m,o)=>
(Dy g m).bind λn=>
Rt (Ad h 1) n
else
j6 g
def FV(a b:Int)(f:UInt64):Nat->Int->LB->Option (LB)
|0,_,_=>none
|q+1,h,g=>jQ vK (FV a b f q) a b f h g
def uV a b f:=FV a b f Au
def vV(j4:Int->Int->UInt64->Int->LB->Option (LB))(a b:Int)(f:UInt64):Option (LB):=
j4 a b f 0 ([(65:UInt8),(80:UInt8),(69:UInt8),(84:UInt8),(65:UInt8),(71:UInt8),(69:UInt8),(88:UInt8)]:LB)
def sK:=vV uV
def XG(b:LB)(g:UInt64):Option (Int×Int×Bool):=
(fX b 12 4).bind λ(a,m)=>
(fX b 16 4).bind λ(f,n)=>
if(((Cl a 32)||(Ef a 3032))||(Ef f 1000))then
some (0,0,false)
else
(sK (Ao (Af a:Int) 32) (Af f:Int) g).bind λh=>
(If b h).bind λk=>
some ((Ao (Af a:Int) 32),(Af f:Int),k)
def rX(a:LB):Option (Int×Int):=
(Nu a ([(65:UInt8),(80:UInt8),(69:UInt8),(84:UInt8),(65:UInt8),(71:UInt8),(69:UInt8),(88:UInt8)]:LB)).bind λf=>
if(!f)then
some (0,6)
else
if(Cl (Ac a) 32)then
some (0,24)
else
(Bi a 0 32).bind λg=>
(XG g 2684354560).bind λ(b,h,k)=>
if(!k)then
some (0,12)
else
if(Cl (Ac a) (Ad b 64))then
some (0,24)
else
(Bi a (Ao (Ad b 64) 32) (Ad b 64)).bind λm=>
(sK b h 2147483648).bind λn=>
(If m n).bind λo=>
if(!o)then
some (0,12)
else
some ((Ad b 64),0)
def Zq(a:LB):Option (Int×Int):=
(WV a).bind λ(f,b)=>
if(Ba b 6)then
some (f,b)
else
(rX a).bind λ(g,h)=>
some (g,h)
def Xg(b:List UInt8):Nat->Int->Option (Int×Int)
  |0,_=>none
  |q+1,x=>Option.bind (Bi b x (Ac b)) λs=>Option.bind (Zq s) λr=>
    if geq r.2 (6:Int)=true then some (x,0)
    else if(geq r.2 (0:Int)&&Ef (Ad x r.1) (4000:Int))=true then some (0,4)
    else if Ba r.2 (0:Int)=true then some (0,r.2)
    else Xg b q (Ad x r.1)
def Ih(b:List UInt8):Option (Int×Int):=Xg b Au 0
def Am(a:Int):Option (Bool×Int):=
some (false,a)
def Hs(b a:LB):Option Bool:=
if(Ml (Ac b) (Ac a))then
(Bi b 0 (Ac a)).bind λf=>
some (f==a)
else
some false
def Kx(a b:LB):Option Bool:=
(Hs a b).bind λf=>
some f
def Acy:Option Bool:=
some false
def mH:=Acy
def Wy(j6:Option Bool)(Rt:Int->Option Bool)(a:LB)(b:Int):Option Bool:=
if(Cl b 2)then
(Ap ([([73,68,51]:LB),([65,80,69,84,65,71,69,88]:LB)]:List LB) b).bind λf=>
if(Cl (Ac a) (Ac f))then
(Kx f a).bind λg=>
if g then
some true
else
Rt (Ad b 1)
else
Rt (Ad b 1)
else
j6
def Le(a:LB):Nat->Int->Option Bool
|0,_=>none
|q+1,b=>Wy mH (Le a q) a b
def UM a:=Le a Au
def TX(j4:LB->Int->Option Bool)(a:LB):Option Bool:=
j4 a 0
def Se:=TX UM
abbrev Te:=Option (Int×Int×Int×Int×Int×Int)
def pH(a:LI):Te:=
(Ap a 0).bind λ_=>
(Ap a 0).bind λh=>
(Ap a 1).bind λ_=>
(Ap a 1).bind λk=>
(Ap a 2).bind λ_=>
(Ap a 2).bind λm=>
(Ap a 3).bind λ_=>
(Ap a 3).bind λn=>
(Ap a 4).bind λ_=>
(Ap a 4).bind λo=>
(Tj h k m n o).bind λp=>
if(!p)then
some (0,0,0,0,0,12)
else
(QY h k m n o).bind λu=>
if(!u)then
some (0,0,0,0,0,4)
else
some (h,k,m,n,o,0)
def KE:=pH
def HZ(j6:LI->Te)(Rt:Int->Int->LI->Te)(b:LB)(g f:Int)(a:LI):Te:=
if(Cl f 5)then
(Ap ([(2:Int),(2:Int),(2:Int),(4:Int),(4:Int)]:LI) f).bind λh=>
(fX b g h).bind λ(v,ae)=>
(Ap a f).bind λ_=>
(Nx a f (Af v:Int)).bind λw=>
Rt (Ad g h) (Ad f 1) w
else
j6 a
def Qk(b:LB):Nat->Int->Int->LI->Te
|0,_,_,_=>none
|q+1,g,f,a=>HZ KE (Qk b q) b g f a
def JH b:=Qk b Au
def aV(j4:LB->Int->Int->LI->Te)(b:LB):Te:=
(Bi b 0 (Fk 4 (Ac b))).bind λy=>
(Kx ([84,84,65,49]:LB) y).bind λaa=>
if(!aa)then
some (0,0,0,0,0,12)
else
if(Cl (Ac b) 22)then
some (0,0,0,0,0,24)
else
(fX b 18 4).bind λ(ab,af)=>
(Bi b 0 18).bind λac=>
(BK ac).bind λ(ad,ag)=>
if(Ba (Af ad:UInt64) ab)then
some (0,0,0,0,0,22)
else
j4 b 4 0 (List.replicate 5 (0:Int))
def Ld:=aV JH
def Om(a f:LB):Option (Bool×Int):=
(JK f).bind λ(b,g)=>
if((Ba g 0)||(Ba (Ac a) (Ac b)))then
some (false,2)
else
(If a b).bind λh=>
some (h,0)
abbrev Wa:=Option (LI×Int)
def uC(a:LI):Wa:=
(Pa a).bind λk=>
if(Ba k 0)then
some (([]:LI),12)
else
some (a,0)
def QG:=uC
def QC(j6:LI->Wa)(Rt:Int->LI->Wa)(b:LB)(f:LI)(g:Int)(a:LI):Wa:=
if(Cl g (Ac f))then
(fX b (Bg 4 g) 4).bind λ(k,u)=>
(Ap a g).bind λ_=>
(Nx a g (Af k:Int)).bind λm=>
Rt (Ad g 1) m
else
j6 a
def Xo(b:LB)(f:LI):Nat->Int->LI->Wa
|0,_,_=>none
|q+1,g,a=>QC QG (Xo b f q) b f g a
def eC b f:=Xo b f Au
def dK(j4:LB->LI->Int->LI->Wa)(b:LB)(h:Int):Wa:=
if((Cl h 1)||(Ef h 1000))then
some (([]:LI),2)
else
if(Cl (Ac b) (Ad (Bg 4 h) 4))then
some (([]:LI),24)
else
(fX b (Bg 4 h) 4).bind λ(n,v)=>
(Bi b 0 (Bg 4 h)).bind λo=>
(BK o).bind λ(p,w)=>
if(Ba (Af p:UInt64) n)then
some (([]:LI),22)
else
(mkI h (0:Int)).bind λf=>
(Lg (geq h h)).bind λ_=>
j4 b f 0 f
def GD:=dK eC
def DV(f a b g h:Int):Option (Int×Int):=
some (a,b)
def MG(a:LB):Option (LB×Int):=
if(Cl (Ac a) 5)then
some (([]:LB),24)
else
if(Ef (Ac a) 41254)then
some (([]:LB),4)
else
(Bi a 0 (Ao (Ac a) 4)).bind λf=>
(BK f).bind λ(g,b)=>
if(Ba b 0)then
some (([]:LB),b)
else
(Bi a (Ao (Ac a) 4) (Ac a)).bind λh=>
(qM h).bind λ(k,m)=>
if((Ba m 0)||(Ba k (Af g:UInt64)))then
some (([]:LB),22)
else
(Bi a 0 (Ao (Ac a) 4)).bind λn=>
some (n,0)
def Amn(a:LB):Option (LB×Int×Int):=
if(Ef (Ac a) 41250)then
some (([]:LB),0,4)
else
(Bl a).bind λb=>
some (b,(Bg 8 (Ac a)),0)
def Aq3(g:UInt64):Option UInt64:=
some g
def Ach:=Aq3
def pE(j6:UInt64->Option UInt64)(Rt:UInt64->Int->Option UInt64)(b f:Int)(h:LB)(k:Int)(g:UInt64)(a:Int):Option UInt64:=
if(Cl a f)then
(Ap h (Amz (Ad b a) (GI.toZ (3:UInt64)).toNat)).bind λm=>
(Lg (Ml (Er (Ad b a) 7) 0)).bind λ_=>
(Lg (Ml (Fk (Ao f a) (Ao 8 (Er (Ad b a) 7))) 0)).bind λ_=>
(Lg (Ml a 0)).bind λ_=>
Rt (vM g (Dp (Af (Er (Ck m (GI.toZ (Er (Ad b a) 7)).toNat) (Ao (Dp (1:UInt8) (GI.toZ (Fk (Ao f a) (Ao 8 (Er (Ad b a) 7)))).toNat) 1)):UInt64) (GI.toZ a).toNat)) (Ad a (Fk (Ao f a) (Ao 8 (Er (Ad b a) 7))))
else
j6 g
def RQ(b f:Int)(h:LB)(k:Int):Nat->UInt64->Int->Option UInt64
|0,_,_=>none
|q+1,g,a=>pE Ach (RQ b f h k q) b f h k g a
def Abp b f h k:=RQ b f h k Au
def Acj(j4:Int->Int->LB->Int->UInt64->Int->Option UInt64)(h:LB)(k b f:Int):Option UInt64:=
j4 b f h k 0 0
def zF:=Acj Abp
abbrev Gn:=Option (LB×Int×Int)
def xW(o:Int)(p:LB):Gn:=
some (p,o,0)
def lJ:=xW
def wO(lS:Int->Int->LB->Gn)(a:Int)(g:LB)(f b h:Int)(u:LB):Gn:=
lS (Ad b 64) h u
def WB lS:=wO lS
def wW(Ah6:UInt64->Int->Int->LB->Gn)(a b:Int)(g:LB)(f:Int)(k n:UInt64)(m h:Int)(w:LB):Gn:=
(Lg (Ml (Fk m (Ao 8 (Er h 7))) 0)).bind λ_=>
Ah6 (Ck n (GI.toZ (Fk m (Ao 8 (Er h 7)))).toNat) (Ao m (Fk m (Ao 8 (Er h 7)))) (Ad h (Fk m (Ao 8 (Er h 7)))) w
def jP Ah6:=wW Ah6
def jS(j48:UInt64->Int->Int->LB->Gn)(a b:Int)(g:LB)(f:Int)(k n:UInt64)(m h:Int)(v:LB):Gn:=
(Ap v (Ao (Ac v) 1)).bind λ_=>
(Lg (Ml (Fk m (Ao 8 (Er h 7))) 0)).bind λ_=>
(Lg (Ml (Er h 7) 0)).bind λ_=>
(Ap v (Ao (Ac v) 1)).bind λaa=>
(Ap v (Ao (Ac v) 1)).bind λ_=>
Option.bind (Nx v (Ao (Ac v) 1) (vM aa (Dp (Af (Er n (Ao (Dp (1:UInt64) (GI.toZ (Fk m (Ao 8 (Er h 7)))).toNat) 1)):UInt8) (GI.toZ (Er h 7)).toNat))) λw=>
j48 n m h w
def WN Ah6 a b g f k:=jS (jP Ah6 a b g f k) a b g f k
def WQ(j47:UInt64->Int->Int->LB->Gn)(j50:Int->Int->LB->Gn)(a:Int)(g:LB)(f b:Int)(k n:UInt64)(m h:Int)(u:LB):Gn:=
if(Ef m 0)then
if(geq (Er h 7) 0)then
(Dy u ([(0:UInt8)]:LB)).bind λab=>
j47 n m h ab
else
j47 n m h u
else
j50 b h u
def Rz(lS:Int->Int->LB->Gn)(a:Int)(g:LB)(f b:Int)(k:UInt64):Nat->UInt64->Int->Int->LB->Gn
|0,_,_,_,_=>none
|q+1,n,m,h,u=>WQ (WN (Rz lS a g f b k q) a b g f k) (WB lS a g f) a g f b k n m h u
def lL lS a g f b k:=Rz lS a g f b k Au
def iY(j44:Int->UInt64->UInt64->Int->Int->LB->Gn)(j52:Int->LB->Gn)(a:Int)(g:LB)(f b o:Int)(p:LB):Gn:=
if(Cl b a)then
(zF g f b (Fk 64 (Ao a b))).bind λk=>
j44 b k k (Fk 64 (Ao a b)) o p
else
j52 o p
def BQ(a:Int)(g:LB)(f:Int):Nat->Int->Int->LB->Gn
|0,_,_,_=>none
|q+1,b,o,p=>iY (lL (BQ a g f q) a g f) lJ a g f b o p
def kX a g f:=BQ a g f Au
def pF(j27:Int->LB->Int->Int->Int->LB->Gn)(g:LB)(f y a:Int):Gn:=
(Km g f).bind λac=>
if(Ba ac 0)then
some (([]:LB),0,8)
else
if(((Cl y 0)||(Ef y a))||(Ef a f))then
some (([]:LB),0,2)
else
j27 a g f y 0 ([]:LB)
def pW:=pF kX
def IX(g:LB)(b f a:Int):Option (UInt64×Int):=
(Km g b).bind λh=>
if(Ba h 0)then
some (0,8)
else
if(((Cl a 0)||(Ef a 64))||(Cl f 0))then
some (0,2)
else
if(Ef f (Ao b a))then
some (0,24)
else
(zF g b f a).bind λk=>
some (k,0)
def Hw(a:UInt64):Option Int:=
if(geq a 0)then
some 64
else
(Ap ([(0:UInt8),(1:UInt8),(56:UInt8),(2:UInt8),(57:UInt8),(49:UInt8),(28:UInt8),(3:UInt8),(61:UInt8),(58:UInt8),(42:UInt8),(50:UInt8),(38:UInt8),(29:UInt8),(17:UInt8),(4:UInt8),(62:UInt8),(47:UInt8),(59:UInt8),(36:UInt8),(45:UInt8),(43:UInt8),(51:UInt8),(22:UInt8),(53:UInt8),(39:UInt8),(33:UInt8),(30:UInt8),(24:UInt8),(18:UInt8),(12:UInt8),(5:UInt8),(63:UInt8),(55:UInt8),(48:UInt8),(27:UInt8),(60:UInt8),(41:UInt8),(37:UInt8),(16:UInt8),(46:UInt8),(35:UInt8),(44:UInt8),(21:UInt8),(52:UInt8),(32:UInt8),(23:UInt8),(11:UInt8),(54:UInt8),(26:UInt8),(40:UInt8),(15:UInt8),(34:UInt8),(20:UInt8),(31:UInt8),(10:UInt8),(25:UInt8),(14:UInt8),(19:UInt8),(9:UInt8),(13:UInt8),(8:UInt8),(7:UInt8),(6:UInt8)]:LB) (GI.toZ (Ck (Bg (Er a (yP a)) 285870213051353865) (GI.toZ (58:UInt64)).toNat))).bind λb=>
some (Af b:Int)
abbrev Kl:=Option (Int×Int×Int)
def Aex:Kl:=
some (0,0,24)
def qJ:=Aex
def tW(j10:Kl):Kl:=
j10
def uK:=tW qJ
def dL(j9:Kl)(f a:Int):Kl:=
if(geq f 48)then
some (f,(Ad 0 (Ad a f)),0)
else
j9
def eD:=dL uK
def dG(j8:Int->Int->Kl)(f b a:Int):Kl:=
if(Cl f (Fk 48 (Ao b a)))then
some (f,(Ad (Ad (0:Int) (1:Int)) (Ad a f)),0)
else
j8 f a
def eP:=dG eD
def dR(j7:Int->Int->Int->Kl)(h:Int)(k:UInt64)(a:Int)(g:LB)(b:Int):Kl:=
if(Ba h 0)then
some (0,0,h)
else
(Hw (Agb k)).bind λf=>
j7 f b a
def eS:=dR eP
def DQ(j6:Int->UInt64->Int->LB->Int->Kl)(g:LB)(b a:Int):Kl:=
(Km g b).bind λm=>
if(Ba m 0)then
some (0,0,m)
else
if(Cl a 0)then
some (0,0,2)
else
if(Ml a b)then
some (0,0,24)
else
(
(
(IX g b a (Fk 48 (Ao b a))).bind λ(k,h)=>
j6 h k a g b))
def PN:=DQ eS
abbrev pK:=Option (UInt32×Int×Int)
def kW(a b f:Int)(g:LB)(h k:Int):pK:=
(IX g h b k).bind λ(m,n)=>
if(Ba n 0)then
some (0,0,n)
else
if(Cl f 48)then
(Lg (Ml a 0)).bind λ_=>
some ((vM (Dp (Af f:UInt32) (GI.toZ a).toNat) (Af m:UInt32)),(Ad b k),0)
else
(BN (Af m:UInt32) a).bind λu=>
if(!u)then
some (0,0,12)
else
some ((Af m:UInt32),(Ad b k),0)
def WY:=kW
def jA(j2:Int->Int->Int->LB->Int->Int->pK)(g:LB)(h v a:Int):pK:=
(Km g h).bind λo=>
if(Ba o 0)then
some (0,0,o)
else
if((Cl a 0)||(Ef a 24))then
some (0,0,2)
else
(PN g h v).bind λ(f,b,p)=>
if(Ba p 0)then
some (0,0,p)
else
if(geq f 48)then
j2 a b f g h 32
else
j2 a b f g h a
def sU:=jA WY
abbrev Mu:=Option (UInt32×Int×Int×Int×UInt64×UInt64×Int)
def uL(f:UInt32)(k w m:Int)(a n:UInt64):Mu:=
some (f,k,w,m,(Ad a (Ao (Af f:UInt64) (Ck a (GI.toZ (4:UInt64)).toNat))),n,0)
def eE:=uL
def jJ(j10:UInt32->Int->Int->Int->UInt64->UInt64->Mu)(f:UInt32)(k m:Int)(a n:UInt64)(w:Int):Mu:=
j10 f k w m a n
def jY:=jJ eE
def kF(j9:UInt32->Int->Int->UInt64->UInt64->Int->Mu)(f:UInt32)(k b:Int)(a:UInt64)(m:Int)(n:UInt64):Mu:=
if(Ef b 0)then
(Lg (Ml b 0)).bind λ_=>
if(Cl (Ad a (Ao (Af f:UInt64) (Ck a (GI.toZ (4:UInt64)).toNat))) (Dp (16:UInt64) (GI.toZ b).toNat))then
j9 f k m a n (Ao b 1)
else
if(Cl b 24)then
(Lg (Ml b 0)).bind λ_=>
if(Ef (Ad a (Ao (Af f:UInt64) (Ck a (GI.toZ (4:UInt64)).toNat))) (Dp (32:UInt64) (GI.toZ b).toNat))then
j9 f k m a n (Ad b 1)
else
j9 f k m a n b
else
j9 f k m a n b
else
if(Cl b 24)then
(Lg (Ml b 0)).bind λ_=>
if(Ef (Ad a (Ao (Af f:UInt64) (Ck a (GI.toZ (4:UInt64)).toNat))) (Dp (32:UInt64) (GI.toZ b).toNat))then
j9 f k m a n (Ad b 1)
else
j9 f k m a n b
else
j9 f k m a n b
def HT:=kF jY
def jG(j8:UInt32->Int->Int->UInt64->Int->UInt64->Mu)(b h:Int)(a g:UInt64)(f:UInt32)(k:Int):Mu:=
(OQ b h a g f).bind λ(ad,o)=>
if(geq ad 1)then
if(Ef h 0)then
(Lg (Ml h 0)).bind λ_=>
if(Cl (Ad g (Ao (Af o:UInt64) (Ck g (GI.toZ (4:UInt64)).toNat))) (Dp (16:UInt64) (GI.toZ h).toNat))then
j8 f k b a (Ao h 1) (Ad g (Ao (Af o:UInt64) (Ck g (GI.toZ (4:UInt64)).toNat)))
else
if(Cl h 24)then
(Lg (Ml h 0)).bind λ_=>
if(Ef (Ad g (Ao (Af o:UInt64) (Ck g (GI.toZ (4:UInt64)).toNat))) (Dp (32:UInt64) (GI.toZ h).toNat))then
j8 f k b a (Ad h 1) (Ad g (Ao (Af o:UInt64) (Ck g (GI.toZ (4:UInt64)).toNat)))
else
j8 f k b a h (Ad g (Ao (Af o:UInt64) (Ck g (GI.toZ (4:UInt64)).toNat)))
else
j8 f k b a h (Ad g (Ao (Af o:UInt64) (Ck g (GI.toZ (4:UInt64)).toNat)))
else
if(Cl h 24)then
(Lg (Ml h 0)).bind λ_=>
if(Ef (Ad g (Ao (Af o:UInt64) (Ck g (GI.toZ (4:UInt64)).toNat))) (Dp (32:UInt64) (GI.toZ h).toNat))then
j8 f k b a (Ad h 1) (Ad g (Ao (Af o:UInt64) (Ck g (GI.toZ (4:UInt64)).toNat)))
else
j8 f k b a h (Ad g (Ao (Af o:UInt64) (Ck g (GI.toZ (4:UInt64)).toNat)))
else
j8 f k b a h (Ad g (Ao (Af o:UInt64) (Ck g (GI.toZ (4:UInt64)).toNat)))
else
j8 f k b a h g
def WK:=jG HT
def jC(j7:Int->Int->UInt64->UInt64->UInt32->Int->Mu)(p:Int)(u:LB)(v b h:Int)(a g:UInt64):Mu:=
(IX u v p 1).bind λ(ae,aa)=>
if(Ba aa 0)then
some (0,0,0,0,0,0,aa)
else
if(geq ae 0)then
(IX u v (Ad p 1) b).bind λ(af,ab)=>
if(Ba ab 0)then
some (0,0,0,0,0,0,ab)
else
j7 b h a g (Af af:UInt32) (Ad (Ad p 1) b)
else
(sU u v (Ad p 1) h).bind λ(y,ag,ac)=>
if(Ba ac 0)then
some (0,0,0,0,0,0,ac)
else
(Lg (Ml b 0)).bind λ_=>
if(Cl (Ad y (Dp (1:UInt32) (GI.toZ b).toNat)) y)then
some (0,0,0,0,0,0,12)
else
j7 b h a g (Ad y (Dp (1:UInt32) (GI.toZ b).toNat)) ag
def jB:=jC WK
def kY(j6:Int->LB->Int->Int->Int->UInt64->UInt64->Mu)(u:LB)(v p b h:Int)(a g:UInt64):Mu:=
(Km u v).bind λah=>
if(Ba ah 0)then
some (0,0,0,0,0,0,8)
else
(ZZ b h a g).bind λai=>
if(Ba ai 0)then
some (0,0,0,0,0,0,8)
else
j6 p u v b h a g
def NU:=kY jB
abbrev Cn:=Option (LU×Int×Int)
def vU(k:Int)(m:LU):Cn:=
some (m,k,0)
def aR:=vU
def bB(Iw:Int->Int-> (List (Int×Int×UInt64×UInt64×Unit))->LU->Cn)(a f:Int)(g:LB)(b k v:Int)(w:UInt32)(h:Int)(ag:List (Int×Int×UInt64×UInt64×Unit))(m:LU):Cn:=
(Dy m ([w]:LU)).bind λak=>
Iw (Ad k v) (Ad h 1) ag ak
def FU Iw:=bB Iw
def Vw(j22:Int->Int->UInt32->Int-> (List (Int×Int×UInt64×UInt64×Unit))->LU->Cn)(a f:Int)(g:LB)(b k h y:Int)(w:UInt32)(v:Int)(n:List (Int×Int×UInt64×UInt64×Unit))(m:LU)(aa ab:Int)(ac ad:UInt64):Cn:=
if(Ba y 0)then
some (([]:LU),0,y)
else
(Lg (Ba a 0)).bind λ_=>
(Ap n (Gc h a)).bind λ_=>
(Nx n (Gc h a) (aa,ab,ac,ad,())).bind λag=>
j22 k v w h ag m
def Wh Iw a f g b:=Vw (FU Iw a f g b) a f g b
def Wq(j21:Int->Int->Int->UInt32->Int-> (List (Int×Int×UInt64×UInt64×Unit))->LU->Int->Int->UInt64->UInt64->Cn)(j24:Int->LU->Cn)(a f:Int)(g:LB)(b k h:Int)(n:List (Int×Int×UInt64×UInt64×Unit))(m:LU):Cn:=
if(Cl h (Bg f a))then
(pW g b k (Fk (Ad k 81) b)).bind λ(ah,ae,af)=>
if(Ba af 0)then
some (([]:LU),0,af)
else
(Lg (Ba a 0)).bind λ_=>
(Ap n (Gc h a)).bind λ_=>
(
(
(Ap n (Gc h a)).bind λp=>
(
(NU ah ae 0 p.1 p.2.1 p.2.2.1 p.2.2.2.1).bind λ(w,v,aa,ab,ac,ad,y)=>
j21 k h y w v n m aa ab ac ad)))
else
j24 k m
def Qa(a f:Int)(g:LB)(b:Int):Nat->Int->Int-> (List (Int×Int×UInt64×UInt64×Unit))->LU->Cn
|0,_,_,_,_=>none
|q+1,k,h,n,m=>Wq (Wh (Qa a f g b q) a f g b) aR a f g b k h n m
def YZ a f g b:=Qa a f g b Au
def aA(j16:Int->Int->LB->Int->Int->Int-> (List (Int×Int×UInt64×UInt64×Unit))->LU->Cn)(a f:Int)(g:LB)(b:Int)(o:List (Int×Int×UInt64×UInt64×Unit)):Cn:=
j16 a f g b 0 0 o ([]:LU)
def FB:=aA YZ
def YX(j15:Int->Int->LB->Int-> (List (Int×Int×UInt64×UInt64×Unit))->Cn)(Bdd:Int-> (List (Int×Int×UInt64×UInt64×Unit))->Cn)(a f:Int)(g:LB)(b u:Int)(o:List (Int×Int×UInt64×UInt64×Unit)):Cn:=
if(Cl u 6)then
(vH).bind λ(al,ae,af,am)=>
(Ap o u).bind λ_=>
(Nx o u (al,ae,af,am,())).bind λan=>
Bdd (Ad u 1) an
else
j15 a f g b o
def FQ(a f:Int)(g:LB)(b:Int):Nat->Int-> (List (Int×Int×UInt64×UInt64×Unit))->Cn
|0,_,_=>none
|q+1,u,o=>YX FB (FQ a f g b q) a f g b u o
def Wm a f g b:=FQ a f g b Au
def IK(j13:Int->Int->LB->Int->Int-> (List (Int×Int×UInt64×UInt64×Unit))->Cn)(a f:Int)(g:LB)(b:Int):Cn:=
j13 a f g b 0 (List.replicate 6 ((0:Int),(0:Int),(0:UInt64),(0:UInt64),()))
def MC:=IK Wm
def BA(a:UInt32):Option Int32:=
some (AI (Af (Ck a (GI.toZ (1:UInt64)).toNat):Int32) (yP (Af (Er a 1):Int32)))
def pP(b:Int)(f g:LX)(a:Int32):Option (Int32×Int×LX×LX×Int):=
(ZC b f g).bind λ(h,k)=>
if(Ba k 0)then
some (0,0,(List.replicate 16 (0:Int32)),(List.replicate 16 (0:Int32)),k)
else
(ZR b f g (Ad a h) a).bind λ(m,n,o)=>
some ((Ad a h),m,n,o,0)
def Nv(a:Int)(b:Int32)(f:Int)(g h:LX)(o:Int32):Option (Int32×Int×Int32×Int×LX×LX×Int):=
(Zw a b f g h).bind λk=>
if(Ba k 0)then
some (0,0,0,0,(List.replicate 16 (0:Int32)),(List.replicate 16 (0:Int32)),k)
else
(AS a b).bind λ(m,y)=>
(pP f g h o).bind λ(n,p,u,v,w)=>
(
some ((Ad n m),a,(Ad n m),p,u,v,w))
abbrev Ia:=Option (LX×Int)
def Amk(f:LX):Ia:=
some (f,0)
def xM:=Amk
def xD(eU:Int->LX->Ia)(b a:Int)(h:LX):Ia:=
eU (Ad a b) h
def lH eU:=xD eU
def WZ(j20:Int->LX->Ia)(Aij:Int->LX->Ia)(b a g:Int)(h:LX):Ia:=
if(Ml g 0)then
(Lg (decide (0<= (Ad g 1)/\ (Ad g 1)<((Ad a b)-a)))).bind λ_=>
(Lg (decide (0<=g/\g<((Ad a b)-a)))).bind λ_=>
(Ap h (a+(Ad g 1))).bind λo=>
(Ap h (a+g)).bind λp=>
(Lg (decide (0<=g/\g<((Ad a b)-a)))).bind λ_=>
(Nx h (a+g) (Ao o p)).bind λu=>
Aij (Ao g 1) u
else
j20 a h
def BS(eU:Int->LX->Ia)(b a:Int):Nat->Int->LX->Ia
|0,_,_=>none
|q+1,g,h=>WZ (lH eU b) (BS eU b a q) b a g h
def jZ eU b a:=BS eU b a Au
def kZ(j18:Int->Int->LX->Ia)(b a:Int)(k:LX):Ia:=
j18 a (Ao (Ao ((Ad a b)-a) 1) 1) k
def WM eU b:=kZ (jZ eU b) b
def jX(j17:Int->LX->Ia)(j22:LX->Ia)(b a:Int)(f:LX):Ia:=
if(Cl a (Ac f))then
(fG (Ac f) a (Ad a b)).bind λ_=>
if(Ef (Ao ((Ad a b)-a) 1) 0)then
(Lg (decide (0<= (Ao ((Ad a b)-a) 1)/\ (Ao ((Ad a b)-a) 1)<((Ad a b)-a)))).bind λ_=>
Option.bind (Lg (decide (0<= (Ao (Ao ((Ad a b)-a) 1) 1)/\ (Ao (Ao ((Ad a b)-a) 1) 1)<((Ad a b)-a)))) λ_=>
(Ap f (a+(Ao ((Ad a b)-a) 1))).bind λv=>
(Ap f (a+(Ao (Ao ((Ad a b)-a) 1) 1))).bind λw=>
(Lg (decide (0<= (Ao ((Ad a b)-a) 1)/\ (Ao ((Ad a b)-a) 1)<((Ad a b)-a)))).bind λ_=>
(Nx f (a+(Ao ((Ad a b)-a) 1)) (Ad v (Ca w 2))).bind λy=>
j17 a y
else
j17 a f
else
j22 f
def Vu(b:Int):Nat->Int->LX->Ia
|0,_,_=>none
|q+1,a,f=>jX (WM (Vu b q) b) xM b a f
def jW b:=Vu b Au
def rN(j12:Int->Int->LX->Ia)(b:Int)(m:LX):Ia:=
(gC b m).bind λn=>
if(Ba n 0)then
some (([]:LX),n)
else
(Dj m).bind λaa=>
j12 b 0 aa
def yZ:=rN jW
abbrev Cx:=Option (LX×Int)
def VM(a b:Int)(k:LX):Cx:=
(yZ a k).bind λ(ah,af)=>
if(Ba af 0)then
some (([]:LX),af)
else
(Vp b ah).bind λae=>
if(Ba ae 0)then
some (([]:LX),ae)
else
some (ah,0)
def Og:=VM
def VO(Bdd:Int-> (List (Int×Int32×(Int×LX×LX×Unit)×Unit))->LX->Cx)(a:Int)(f:LU)(b g:Int)(w:Int32)(u:Int)(h:List (Int×Int32×(Int×LX×LX×Unit)×Unit))(k:LX)(y:Int)(v:Int32)(aa:Int)(ab ac:LX):Cx:=
if(Ba u 0)then
some (([]:LX),u)
else
(Nx h (Gc g a) (y,v,(aa,ab,ac,()),())).bind λai=>
(Dy k ([w]:LX)).bind λaj=>
Bdd (Ad g 1) ai aj
def DB Bdd:=VO Bdd
def Oj(j16:Int->Int32->Int-> (List (Int×Int32×(Int×LX×LX×Unit)×Unit))->LX->Int->Int32->Int->LX->LX->Cx)(j18:Int->Int->LX->Cx)(f:LU)(a b g:Int)(h:List (Int×Int32×(Int×LX×LX×Unit)×Unit))(k:LX):Cx:=
if(Cl g (Ac f))then
(Ap f g).bind λag=>
(Lg (Ba a 0)).bind λ_=>
(Ap h (Gc g a)).bind λ_=>
(
(Ap h (Gc g a)).bind λm=>
(
(BA ag).bind λae=>
(
(Nv m.1 m.2.1 m.2.2.1.1 m.2.2.1.2.1 m.2.2.1.2.2.1 ae).bind λ(w,y,v,aa,ab,ac,u)=>
j16 g w u h k y v aa ab ac)))
else
j18 a b k
def Kz(f:LU)(a b:Int):Nat->Int-> (List (Int×Int32×(Int×LX×LX×Unit)×Unit))->LX->Cx
|0,_,_,_=>none
|q+1,g,h,k=>Oj (DB (Kz f a b q) a f b) Og f a b g h k
def WA f a b:=Kz f a b Au
def VL(j13:LU->Int->Int->Int-> (List (Int×Int32×(Int×LX×LX×Unit)×Unit))->LX->Cx)(f:LU)(a b:Int)(n:List (Int×Int32×(Int×LX×LX×Unit)×Unit)):Cx:=
j13 f a b 0 n ([]:LX)
def CX:=VL WA
def VU(j12:LU->Int->Int-> (List (Int×Int32×(Int×LX×LX×Unit)×Unit))->Cx)(Atm:Int-> (List (Int×Int32×(Int×LX×LX×Unit)×Unit))->Cx)(f:LU)(a b:Int)(o:LX)(p:Int)(n:List (Int×Int32×(Int×LX×LX×Unit)×Unit)):Cx:=
if(Cl p 6)then
(Aat b o).bind λ(ak,af,ae,al,am,v)=>
(Ap n p).bind λ_=>
(Nx n p (ak,af,(ae,al,am,()),())).bind λan=>
Atm (Ad p 1) an
else
j12 f a b n
def CO(f:LU)(a b:Int)(o:LX):Nat->Int-> (List (Int×Int32×(Int×LX×LX×Unit)×Unit))->Cx
|0,_,_=>none
|q+1,p,n=>VU CX (CO f a b o q) f a b o p n
def Ud f a b o:=CO f a b o Au
def FP(j10:LU->Int->Int->LX->Int-> (List (Int×Int32×(Int×LX×LX×Unit)×Unit))->Cx)(a b:Int)(o:LX)(f:LU):Cx:=
j10 f a b o 0 (List.replicate 6 ((0:Int),(0:Int32),((0:Int),(List.replicate 16 (0:Int32)),(List.replicate 16 (0:Int32)),()),()))
def Xa:=FP Ud
def Iq(a h:Int)(u:LX)(f:Int)(v:LB):Option (LX×Int):=
(Oz a h).bind λk=>
if(Ba k 0)then
some (([]:LX),k)
else
if(Cl f 1)then
some (([]:LX),2)
else
(Lg (Ba a 0)).bind λ_=>
if(Ef f (Ca 4000 a))then
some (([]:LX),2)
else
(MG v).bind λ(w,m)=>
if(Ba m 0)then
some (([]:LX),m)
else
(Amn w).bind λ(n,b,o)=>
if(Ba o 0)then
some (([]:LX),o)
else
(MC a f n b).bind λ(y,g,p)=>
if(Ba p 0)then
some (([]:LX),p)
else
if(Ml (Ao b g) 8)then
some (([]:LX),12)
else
(IX n b g (Ao b g)).bind λ(aa,ab)=>
if((Ba ab 0)||(Ba aa 0))then
some (([]:LX),12)
else
(Xa a h u y).bind λ(ac,ad)=>
some (ac,ad)
abbrev Ed:=Option (LB×Int)
def Acz(g:LB):Ed:=
some (g,0)
def mT:=Acz
def mF(Iw:Int->LB->Ed)(b:Int)(a:LX)(f:Int)(h:LB):Ed:=
Iw (Ad f 1) h
def UJ Iw:=mF Iw
def EX(j28:Int->LB->Ed)(Atn:Int->LB->Ed)(b:Int)(a:LX)(k:Int32)(f m:Int)(h:LB):Ed:=
if(Cl m (Ca b 8))then
(Lg (Ml (Bg 8 m) 0)).bind λ_=>
(Dy h ([(Af (Ck k (GI.toZ (Bg 8 m)).toNat):UInt8)]:LB)).bind λp=>
Atn (Ad m 1) p
else
j28 f h
def Lc(Iw:Int->LB->Ed)(b:Int)(a:LX)(k:Int32)(f:Int):Nat->Int->LB->Ed
|0,_,_=>none
|q+1,m,h=>EX (UJ Iw b a) (Lc Iw b a k f q) b a k f m h
def UO Iw b a k f:=Lc Iw b a k f Au
def UY(j26:Int32->Int->Int->LB->Ed)(b:Int)(a:LX)(f:Int)(g:LB)(k:Int32):Ed:=
j26 k f 0 g
def Ny Iw b a:=UY (UO Iw b a) b a
def EI(j25:Int->LB->Int32->Ed)(j30:LB->Ed)(b:Int)(a:LX)(f:Int)(g:LB):Ed:=
if(Cl f (Ac a))then
(Ap a f).bind λn=>
if(geq b 8)then
j25 f g (Ad n 128)
else
j25 f g n
else
j30 g
def Hn(b:Int)(a:LX):Nat->Int->LB->Ed
|0,_,_=>none
|q+1,f,g=>EI (Ny (Hn b a q) b a) mT b a f g
def mU b a:=Hn b a Au
def YW(j16:Int->LX->Int->LB->Ed)(b:Int)(a:LX):Ed:=
(Vp b a).bind λo=>
if(Ba o 0)then
some (([]:LB),o)
else
j16 b a 0 ([]:LB)
def Lf:=YW mU
def DL:Option Int:=
some (-1:Int)
def Pe:=DL
def Fj(j6:Option Int)(Rt:Int->Option Int)(a:LI)(b f:Int):Option Int:=
if(Cl f (Ac a))then
(Ap a f).bind λg=>
if(geq b g)then
some f
else
Rt (Ad f 1)
else
j6
def Ci(a:LI)(b:Int):Nat->Int->Option Int
|0,_=>none
|q+1,f=>Fj Pe (Ci a b q) a b f
def Iv a b:=Ci a b Au
def Im(j4:LI->Int->Int->Option Int)(a:LI)(b:Int):Option Int:=
j4 a b 0
def Kr:=Im Iv
def Is(a:LI)(b:Int):Option Bool:=
(Kr a b).bind λf=>
some (Ml f 0)
def Tg(a:Int):Option Bool:=
(Is ([(4:Int),(12:Int),(16:Int),(22:Int),(24:Int),(26:Int),(38:Int)]:LI) a).bind λb=>
some b
def bL(bi:Bool):Option Int:=
if(!bi)then
some 8
else
some 0
def By:=bL
def JA(j22:Bool->Option Int):Option Int:=
j22 ((true==true)&&((geq (0:Int) (0:Int))&&true))
def Yo:=JA By
def JF(j22:Bool->Option Int)(bj:Bool)(bk:Int):Option Int:=
j22 ((bj==true)&&((geq bk 0)&&true))
def Fh:=JF By
def IC(j13:Bool->Int->Option Int)(g ak:LB)(ae af aa ag ab b:Int)(m:Bool)(n:Int)(f:LI)(h:LB):Option Int:=
(Qd ae af aa ag ab g).bind λdm=>
(Am dm).bind λ(dn,am)=>
j13 dn am
def Yt:=IC Fh
def MJ(j22:Bool->Option Int)(bl:Bool)(bm:Int):Option Int:=
j22 ((bl==true)&&((geq bm 0)&&true))
def Ka:=MJ By
def KH(j25:Bool->Int->Option Int)(g a:LB)(k p o u v b:Int)(m:Bool)(n:Int)(f:LI)(h:LB)(bg:Int):Option Int:=
(Dk k p o u v).bind λ(dp,bh)=>
if(Ba bh 0)then
(Am bh).bind λ(an,bn)=>
j25 an bn
else
(Bi a bg (Ac a)).bind λdq=>
(GD dq (Ac dp)).bind λ(dr,aa)=>
if(geq aa 24)then
j25 true 0
else
if(Ba aa 0)then
(Am aa).bind λ(ds,ab)=>
j25 ds ab
else
(Bi a (Ad (Ad bg (Bg 4 (Ac dr))) 4) (Ac a)).bind λfc=>
j25 false 0
def Kg:=KH Ka
def LY(j25:Bool->Int->Option Int)(j24:LB->LB->Int->Int->Int->Int->Int->Int->Bool->Int->LI->LB->Int->Option Int)(bd:Bool)(bc:Int)(g a:LB)(k p o u v b:Int)(m:Bool)(n:Int)(f:LI)(h:LB):Option Int:=
if(Ba bc 0)then
(Am bc).bind λ(dt,bh)=>
j25 dt bh
else
if(!bd)then
(Am 26).bind λ(an,bn)=>
j25 an bn
else
j24 g a k p o u v b m n f h 8
def JP:=LY Ka Kg
def KC(j15:Bool->Int->LB->LB->Int->Int->Int->Int->Int->Int->Bool->Int->LI->LB->Option Int)(g a:LB)(k p o u v b:Int)(m:Bool)(n:Int)(f:LI)(h:LB):Option Int:=
(Bi a 0 8).bind λdu=>
(Om du g).bind λ(bd,bc)=>
j15 bd bc g a k p o u v b m n f h
def Yr:=KC JP
def LO(j22:Bool->Option Int)(bp:Bool)(bq:Int):Option Int:=
j22 ((bp==true)&&((geq bq 0)&&true))
def Ig:=LO By
def Yp(j28:Bool->Int->Option Int)(w ah:Int)(g a:LB)(k p o u v b:Int)(m:Bool)(n:Int)(ao:LX)(f:LI)(h:LB):Option Int:=
if(Ba ah 0)then
(Am ah).bind λ(br,bs)=>
j28 br bs
else
(Lf o ao).bind λ(bt,be)=>
if(Ba be 0)then
(Am be).bind λ(bu,bv)=>
j28 bu bv
else
(Dy h bt).bind λdv=>
(
(Bi a w (Ac a)).bind λdw=>
j28 false 0)
def MB:=Yp Ig
def IG(j27:Int->Int->LB->LB->Int->Int->Int->Int->Int->Int->Bool->Int->LX->LI->LB->Option Int)(w:Int)(g a:LB)(k p o u v b:Int)(m:Bool)(n:Int)(ap:LX)(ad f:LI)(h:LB):Option Int:=
(Ap ad b).bind λ_=>
(Bi a 0 w).bind λdx=>
(Ap ad b).bind λdy=>
(DV k p o u v).bind λ(dz,bf)=>
(Iq dz bf ap dy dx).bind λ(ao,ah)=>
j27 w ah g a k p o u v b m n ao f h
def Ys:=IG MB
def AY(j13:Bool->Int->Option Int)(j12:LB->LB->Int->Int->Int->Int->Int->Int->Bool->Int->LI->LB->Option Int)(j25:Bool->Int->Option Int)(j23:LB->LB->Int->Int->Int->Int->Int->Int->Bool->Int->LI->LB->Option Int)(j24:LB->LB->Int->Int->Int->Int->Int->Int->Bool->Int->LI->LB->Int->Option Int)(j28:Bool->Int->Option Int)(j26:Int->LB->LB->Int->Int->Int->Int->Int->Int->Bool->Int->LX->LI->LI->LB->Option Int)(j22:Bool->Option Int)(j21:Option Int)(aq ar:LB)(au av aw ax ay:Int)(az:LI)(ai:Int)(aj:LB)(ac:Bool)(y:Int):Option Int:=
if(Ef (Ac aq) 64)then
some 8
else
if((geq y 0)&&(!ac))then
(Eo aq ar au av aw ax ay az ai aj ac y).bind λ(g,a,k,p,o,u,v,f,b,h,m,n)=>
(BM aq ar au av aw ax ay az ai aj ac y).bind λbw=>
if bw then
if(geq k 0)then
(Ih a).bind λ(al,ba)=>
if(geq ba 24)then
j13 true 0
else
if(Ba ba 0)then
(Am ba).bind λ(bx,bz)=>
j13 bx bz
else
(Bi a al (Ac a)).bind λda=>
(Se da).bind λan=>
if an then
j13 true 0
else
(Bi a al (Ac a)).bind λdb=>
(Ld db).bind λ(ae,af,aa,ag,ab,bb)=>
if(geq bb 24)then
j13 true 0
else
if(Ba bb 0)then
(Am bb).bind λ(dc,dd)=>
j13 dc dd
else
(
(Bi a (Ad al 22) (Ac a)).bind λak=>
(
j12 g ak ae af aa ag ab b m n f h))
else
if(geq (Ac f) 0)then
if(geq k 2)then
if(Cl (Ac a) 8)then
j25 true 0
else
j23 g a k p o u v b m n f h
else
j24 g a k p o u v b m n f h 0
else
if(Cl b (Ac f))then
(Ap f b).bind λ_=>
(Ap f b).bind λw=>
if(Cl (Ac a) w)then
j28 true 0
else
(Rr g).bind λ(ap,am)=>
if(Ba am 0)then
(Am am).bind λ(de,df)=>
j28 de df
else
(Dk k p o u v).bind λ(ad,dg)=>
if((Ba dg 0)||(Ml b (Ac ad)))then
(Am 8).bind λ(dh,di)=>
j28 dh di
else
j26 w g a k p o u v b m n ap ad f h
else
if(Ef (Ac a) 4000)then
(Am 38).bind λ(dj,bf)=>
j22 ((dj==true)&&((geq bf 0)&&true))
else
j21
else
j22 false
else
if((geq (Ac ar) 0)&&(geq (Ac az) 0))then
if((((geq au 0)&&((geq av 0)&&((geq aw 0)&&((geq ax 0)&&((geq ay 0)&&true)))))&&(geq ai 0))&&(gle (Ac aj) 12000))then
if(geq y 0)then
j22 true
else
if(!ac)then
(Tg y).bind λdk=>
j22 dk
else
j22 false
else
j22 false
else
if((false&&(geq ai 0))&&(gle (Ac aj) 12000))then
if(geq y 0)then
j22 true
else
if(!ac)then
(Tg y).bind λdl=>
j22 dl
else
j22 false
else
j22 false
def Pd:=AY Fh Yt Ka Yr Kg Ig Ys By Yo
def Th(f g:LB)(h k m n o:Int)(p:LI)(u:Int)(v:LB)(b:Bool)(a:Int):Option (LB×LB×Int×Int×Int×Int×Int×LI×Int×LB×Bool×Int×Int):=
(Pd f g h k m n o p u v b a).bind λw=>
if(Ba w 0)then
some (([]:LB),([]:LB),0,0,0,0,0,([]:LI),0,([]:LB),false,0,w)
else
if(Ba a 0)then
(
(
(Eo f g h k m n o p u v b a).bind λ(y,aa,ab,ac,ad,ae,af,ag,ah,ai,aj,ak)=>
(
some (y,aa,ab,ac,ad,ae,af,ag,ah,ai,aj,ak,a))))
else
if b then
(Eo f g h k m n o p u v b a).bind λ(al,am,an,ao,ap,aq,ar,au,av,aw,ax,ay)=>
some (al,am,an,ao,ap,aq,ar,au,av,aw,ax,ay,36)
else
(Eo f g h k m n o p u v b a).bind λ(az,ba,bb,bc,bd,be,bf,bg,bh,bi,bj,bk)=>
some (az,ba,bb,bc,bd,be,bf,bg,bh,bi,bj,bk,0)
def WR(b g:LB)(h k m n o:Int)(p:LI)(u:Int)(f:LB)(v:Bool)(w a:Int):Option (LB×LB×Int×Int×Int×Int×Int×LI×Int×LB×Bool×Int×Int):=
some (b,([]:LB),0,0,0,0,0,([]:LI),0,f,false,a,a)
abbrev Ax:=Option (LB×LB×Int×Int×Int×Int×Int×LI×Int×LB×Bool×Int×Int)
def NV(XA:LB->Int->Int->Int->Int->Int->Int->LI->LB->Ax)(a:LB)(b:Bool)(f:Int)(ar:LB)(au av aw ax ay az:Int)(bh:Bool)(be:Int)(ba:LI)(bb:LB):Ax:=
if bh then
(Eo a ar au av aw ax ay ba az bb b f).bind λ(fh,fi,fj,bc,bi,ai,fk,fl,fm,fn,fo,aj)=>
some (fh,fi,fj,bc,bi,ai,fk,fl,fm,fn,fo,aj,0)
else
if(Ba be 0)then
(WR a ar au av aw ax ay ba az bb b f be).bind λ(fp,fq,fs,ft,fu,fv,fw,fx,fy,fz,ga,gb,gc)=>
some (fp,fq,fs,ft,fu,fv,fw,fx,fy,fz,ga,gb,gc)
else
XA ar au av aw ax ay az ba bb
def Cp XA:=NV XA
def iG(j71:LB->Int->Int->Int->Int->Int->Int->Bool->Int->LI->LB->Ax)(a:LB)(b:Bool)(f:Int)(g:LB)(m p o u v h:Int)(k:LI)(n:LB):Ax:=
j71 g m p o u v h true 0 k n
def BO XA a b f:=iG (Cp XA a b f) a b f
def gT(j71:LB->Int->Int->Int->Int->Int->Int->Bool->Int->LI->LB->Ax)(a:LB)(b:Bool)(f h:Int)(k:LI)(n:LB)(bj:Bool)(bk:Int)(bl:LB)(bm bn bp bq br:Int):Ax:=
j71 bl bm bn bp bq br h bj bk k n
def Po XA a b f:=gT (Cp XA a b f) a b f
def QA(j62:Int->LI->LB->Bool->Int->LB->Int->Int->Int->Int->Int->Ax)(a:LB)(b:Bool)(f:Int)(af:LB)(ab ac y ad aa h:Int)(k:LI)(n:LB):Ax:=
(Qd ab ac y ad aa a).bind λgd=>
(Am gd).bind λ(ge,ak)=>
j62 h k n ge ak af ab ac y ad aa
def Us XA a b f:=QA (Po XA a b f) a b f
def fP(j71:LB->Int->Int->Int->Int->Int->Int->Bool->Int->LI->LB->Ax)(a:LB)(b:Bool)(f m p o u v h:Int)(n:LB)(bs:Bool)(bt:Int)(bu:LB)(bv:LI):Ax:=
j71 bu m p o u v h bs bt bv n
def Mg XA a b f:=fP (Cp XA a b f) a b f
def PB(j75:Int->Int->Int->Int->Int->Int->LB->Bool->Int->LB->LI->Ax)(a:LB)(b:Bool)(f:Int)(g:LB)(m p o u v h:Int)(k:LI)(n:LB)(bf:Int):Ax:=
(Dk m p o u v).bind λ(gf,bg)=>
if(Ba bg 0)then
(Am bg).bind λ(al,bw)=>
j75 m p o u v h n al bw g k
else
(Bi g bf (Ac g)).bind λgg=>
(GD gg (Ac gf)).bind λ(dw,y)=>
if(geq y 24)then
j75 m p o u v h n true 0 g k
else
if(Ba y 0)then
(Am y).bind λ(gh,aa)=>
j75 m p o u v h n gh aa g k
else
(Bi g (Ad (Ad bf (Bg 4 (Ac dw))) 4) (Ac g)).bind λgi=>
j75 m p o u v h n false 0 gi dw
def Mh XA a b f:=PB (Mg XA a b f) a b f
def OH(j75:Int->Int->Int->Int->Int->Int->LB->Bool->Int->LB->LI->Ax)(j74:LB->Int->Int->Int->Int->Int->Int->LI->LB->Int->Ax)(a:LB)(b:Bool)(f:Int)(bd:Bool)(aq:Int)(g:LB)(m p o u v h:Int)(k:LI)(n:LB):Ax:=
if(Ba aq 0)then
(Am aq).bind λ(gj,bg)=>
j75 m p o u v h n gj bg g k
else
if(!bd)then
(Am 26).bind λ(al,bw)=>
j75 m p o u v h n al bw g k
else
j74 g m p o u v h k n 8
def PU XA a b f:=OH (Mg XA a b f) (Mh XA a b f) a b f
def OS(j64:Bool->Int->LB->Int->Int->Int->Int->Int->Int->LI->LB->Ax)(a:LB)(b:Bool)(f:Int)(g:LB)(m p o u v h:Int)(k:LI)(n:LB):Ax:=
(Bi g 0 8).bind λgk=>
(Om gk a).bind λ(bd,aq)=>
j64 bd aq g m p o u v h k n
def Vc XA a b f:=OS (PU XA a b f) a b f
def gY(j71:LB->Int->Int->Int->Int->Int->Int->Bool->Int->LI->LB->Ax)(a:LB)(b:Bool)(f m p o u v:Int)(k:LI)(bx:Bool)(bz:Int)(da:LB)(db:Int)(dc:LB):Ax:=
j71 da m p o u v db bx bz k dc
def Pj XA a b f:=gY (Cp XA a b f) a b f
def AW(j78:Int->Int->Int->Int->Int->LI->Bool->Int->LB->Int->LB->Ax)(a:LB)(b:Bool)(f w ag:Int)(g:LB)(m p o u v h:Int)(am:LX)(k:LI)(n:LB):Ax:=
if(Ba ag 0)then
(Am ag).bind λ(dd,de)=>
j78 m p o u v k dd de g h n
else
(Lf o am).bind λ(df,aj)=>
if(Ba aj 0)then
(Am aj).bind λ(dg,dh)=>
j78 m p o u v k dg dh g h n
else
(Dy n df).bind λdi=>
(
(Bi g w (Ac g)).bind λdj=>
j78 m p o u v k false 0 dj (Ad h 1) di)
def PT XA a b f:=AW (Pj XA a b f) a b f
def OA(j77:Int->Int->LB->Int->Int->Int->Int->Int->Int->LX->LI->LB->Ax)(a:LB)(b:Bool)(f w:Int)(g:LB)(m p o u v h:Int)(an:LX)(ae k:LI)(n:LB):Ax:=
(Ap ae h).bind λ_=>
(Bi g 0 w).bind λgl=>
(Ap ae h).bind λgm=>
(DV m p o u v).bind λ(bi,ai)=>
(Iq bi ai an gm gl).bind λ(am,ag)=>
j77 w ag g m p o u v h am k n
def Vg XA a b f:=OA (PT XA a b f) a b f
def Jn(j62:Int->LI->LB->Bool->Int->LB->Int->Int->Int->Int->Int->Ax)(j61:LB->Int->Int->Int->Int->Int->Int->LI->LB->Ax)(j75:Int->Int->Int->Int->Int->Int->LB->Bool->Int->LB->LI->Ax)(j73:LB->Int->Int->Int->Int->Int->Int->LI->LB->Ax)(j74:LB->Int->Int->Int->Int->Int->Int->LI->LB->Int->Ax)(j78:Int->Int->Int->Int->Int->LI->Bool->Int->LB->Int->LB->Ax)(j76:Int->LB->Int->Int->Int->Int->Int->Int->LX->LI->LI->LB->Ax)(j71:LB->Int->Int->Int->Int->Int->Int->Bool->Int->LI->LB->Ax)(j70:LB->Int->Int->Int->Int->Int->Int->LI->LB->Ax)(a:LB)(b:Bool)(f:Int)(g:LB)(m p o u v h:Int)(k:LI)(n:LB):Ax:=
if(geq m 0)then
(Ih g).bind λ(ah,ao)=>
if(geq ao 24)then
j62 h k n true 0 g m p o u v
else
if(Ba ao 0)then
(Am ao).bind λ(dk,dl)=>
j62 h k n dk dl g m p o u v
else
(Bi g ah (Ac g)).bind λdm=>
(Se dm).bind λal=>
if al then
j62 h k n true 0 g m p o u v
else
(Bi g ah (Ac g)).bind λdn=>
(Ld dn).bind λ(ab,ac,y,ad,aa,ap)=>
if(geq ap 24)then
j62 h k n true 0 g m p o u v
else
if(Ba ap 0)then
(Am ap).bind λ(dp,dq)=>
j62 h k n dp dq g m p o u v
else
(
(Bi g (Ad ah 22) (Ac g)).bind λaf=>
(
j61 af ab ac y ad aa h k n))
else
if(geq (Ac k) 0)then
if(geq m 2)then
if(Cl (Ac g) 8)then
j75 m p o u v h n true 0 g k
else
j73 g m p o u v h k n
else
j74 g m p o u v h k n 0
else
if(Cl h (Ac k))then
(Ap k h).bind λ_=>
(Ap k h).bind λw=>
if(Cl (Ac g) w)then
j78 m p o u v k true 0 g h n
else
(Rr a).bind λ(an,ak)=>
if(Ba ak 0)then
(Am ak).bind λ(dr,ds)=>
j78 m p o u v k dr ds g h n
else
(Dk m p o u v).bind λ(ae,dt)=>
if((Ba dt 0)||(Ml h (Ac ae)))then
(Am 8).bind λ(du,bc)=>
j78 m p o u v k du bc g h n
else
j76 w g m p o u v h an ae k n
else
if(Ef (Ac g) 4000)then
(Am 38).bind λ(dv,ai)=>
j71 g m p o u v h dv ai k n
else
j70 g m p o u v h k n
def Az(a:LB)(b:Bool)(f:Int):Nat->LB->Int->Int->Int->Int->Int->Int->LI->LB->Ax
|0,_,_,_,_,_,_,_,_,_=>none
|q+1,g,m,p,o,u,v,h,k,n=>Jn (Po (Az a b f q) a b f) (Us (Az a b f q) a b f) (Mg (Az a b f q) a b f) (Vc (Az a b f q) a b f) (Mh (Az a b f q) a b f) (Pj (Az a b f q) a b f) (Vg (Az a b f q) a b f) (Cp (Az a b f q) a b f) (BO (Az a b f q) a b f) a b f g m p o u v h k n
def fK a b f:=Az a b f Au
def Xc(j37:LB->Bool->Int->LB->Int->Int->Int->Int->Int->Int->LI->LB->Ax)(gn go:LB)(gp gq gr gs gt:Int)(gu:LI)(gv:Int)(gw:LB)(gx:Bool)(gy:Int)(gz:LB):Ax:=
(Th gn go gp gq gr gs gt gu gv gw gx gy).bind λ(a,dx,dy,dz,fa,fb,fc,fd,fe,ff,b,f,fg)=>
if(Ba fg 0)then
some (a,dx,dy,dz,fa,fb,fc,fd,fe,ff,b,f,fg)
else
(Dy dx gz).bind λha=>
j37 a b f ha dy dz fa fb fc fe fd ff
def Hr:=Xc fK
abbrev uZ:=Option (Int×Int)
def Acn(a:LB):uZ:=
(Bi a (Ao (Ac a) 32) (Ac a)).bind λg=>
(XG g 0).bind λ(f,y,h)=>
if h then
if(Cl (Ao (Ac a) 32) f)then
some (0,24)
else
some ((Ad f 32),0)
else
(Bi a (Ao (Ac a) 32) (Ac a)).bind λk=>
(XG k 2147483648).bind λ(b,m,n)=>
if(!n)then
some (0,12)
else
if(Cl (Ac a) (Ad b 64))then
some (0,24)
else
(Bi a (Ao (Ac a) (Ad b 64)) (Ad (Ao (Ac a) (Ad b 64)) 32)).bind λo=>
(sK b m 2684354560).bind λp=>
(If o p).bind λu=>
if(!u)then
some (0,12)
else
some ((Ad b 64),0)
def rM:=Acn
def pL(j2:LB->uZ)(a:LB):uZ:=
if(Cl (Ao (Ac a) 32) 0)then
some (0,6)
else
(Bi a (Ao (Ac a) 32) (Ac a)).bind λv=>
(Nu v ([(65:UInt8),(80:UInt8),(69:UInt8),(84:UInt8),(65:UInt8),(71:UInt8),(69:UInt8),(88:UInt8)]:LB)).bind λw=>
if(!w)then
some (0,6)
else
j2 a
def zB:=pL rM
abbrev Hf:=Option (Int×Int)
def zS(a:Int):Hf:=
some (a,0)
def fD:=zS
def fB(bk8:Int->LB->Hf)(a:Int)(g:LB):Hf:=
bk8 (Ad a 1) g
def PM bk8:=fB bk8
def PF(j12:Int->LB->Hf)(a f:Int)(b:LB):Hf:=
if(geq f 0)then
some (0,38)
else
(Bi b 0 (Ao (Ac b) f)).bind λg=>
j12 a g
def OK bk8:=PF (PM bk8)
def UR(j11:Int->Int->LB->Hf)(j14:Int->Hf)(a:Int)(b:LB):Hf:=
if(Ef (Ac b) 0)then
(zB b).bind λ(f,k)=>
j11 a f b
else
j14 a
def Wx:Nat->Int->LB->Hf
|0,_,_=>none
|q+1,a,b=>UR (OK (Wx q)) fD a b
def lY:=Wx Au
def TW(j8:Int->LB->Hf)(h:LB):Hf:=
if(Ef (Ac h) 4000)then
some (0,38)
else
j8 0 h
def KZ:=TW lY
def JX(p a:LB)(g u v w y:Int)(b:LI)(h:Int)(aa:LB)(ab:Bool)(ac:Int):Option Int:=
if(geq g 0)then
(Ih a).bind λ(k,f)=>
if(Ba f 0)then
some f
else
(Bi a k (Ac a)).bind λm=>
(Ld m).bind λ(ad,ae,af,ag,ah,n)=>
some n
else
if((Cl h (Ac b))||(geq (Ac b) 0))then
some 24
else
(KZ a).bind λ(ai,o)=>
some o
def Fz(aa ab:LB)(ac ad ae af ag:Int)(ah:LI)(ai:Int)(aj:LB)(ak:Bool)(al:Int):Option (LB×LB×Int×Int×Int×Int×Int×LI×Int×LB×Bool×Int×Int):=
(Th aa ab ac ad ae af ag ah ai aj ak al).bind λ(a,f,g,h,k,m,n,o,p,b,u,v,w)=>
if(Ba w 0)then
some (a,f,g,h,k,m,n,o,p,b,u,v,w)
else
(JX a f g h k m n o p b u v).bind λy=>
if(Ba y 0)then
(WR a f g h k m n o p b u v y).bind λ(am,an,ao,ap,aq,ar,au,av,aw,ax,ay,az,ba)=>
some (am,an,ao,ap,aq,ar,au,av,aw,ax,ay,az,ba)
else
some (a,([]:LB),0,0,0,0,0,([]:LI),0,b,true,0,0)
abbrev Iy:=Option (LB×Int)
def bZ(g:LB)(h k m n o p:Int)(u:LB)(v:Bool)(w:Int)(y:LB)(aa:LI):Iy:=
(Fz g y h k m n o aa p u v w).bind λ(bj,ap,bk,bl,ac,ad,ae,bm,af,ab,bn,bp,ar)=>
some (ab,ar)
def JN:=bZ
def cT(bk7:LB->Int->LB->Int->Int->Int->Int->Int->Int->LB->Bool->Int->LB->LI->Iy)(a:LI)(b:LB)(ag ah f:Int)(aj:LB)(ac ad ae ak af al:Int)(ai:LB)(am:Bool)(an:Int)(ao:LB)(ab:LI):Iy:=
if(Ba ag 0)then
some (ai,ag)
else
(Bi b ah (Ac b)).bind λau=>
bk7 au (Ad f 1) aj ac ad ae ak af al ai am an ao ab
def JY bk7:=cT bk7
def OT(j10:LB->Int->Int->Int->LB->Int->Int->Int->Int->Int->Int->LB->Bool->Int->LB->LI->Iy)(j12:LB->Int->Int->Int->Int->Int->Int->LB->Bool->Int->LB->LI->Iy)(a:LI)(b:LB)(f:Int)(g:LB)(h k m n o p:Int)(u:LB)(v:Bool)(w:Int)(y:LB)(aa:LI):Iy:=
if(Cl f (Ac a))then
(Ap a f).bind λah=>
(Bi b 0 ah).bind λap=>
(Hr g y h k m n o aa p u v w ap).bind λ(aj,ao,ac,ad,ae,ak,af,ab,al,ai,am,an,ag)=>
j10 b ag ah f aj ac ad ae ak af al ai am an ao ab
else
j12 g h k m n o p u v w y aa
def Vb(a:LI):Nat->LB->Int->LB->Int->Int->Int->Int->Int->Int->LB->Bool->Int->LB->LI->Iy
|0,_,_,_,_,_,_,_,_,_,_,_,_,_,_=>none
|q+1,b,f,g,h,k,m,n,o,p,u,v,w,y,aa=>OT (JY (Vb a q) a) JN a b f g h k m n o p u v w y aa
def iB a:=Vb a Au
def OI(j7:LI->LB->Int->LB->Int->Int->Int->Int->Int->Int->LB->Bool->Int->LB->LI->Iy)(av aw:LB)(a:LI):Iy:=
(GL av).bind λ(ax,ay,az,ba,bb,bc,bd,be,bf,bg,bh,bi,aq)=>
if(Ba aq 0)then
some (([]:LB),aq)
else
j7 a aw 0 ax az ba bb bc bd bf bg bh bi ay be
def QH:=OI iB
def Pc(f a:LB)(g:UInt64):Option (LB×Int):=
(Xi (Ac a) g).bind λ(h,b)=>
if(Ba b 0)then
some (([]:LB),b)
else
(QH f a h).bind λ(k,m)=>
some (k,m)
def dS:Option Bool:=
some true
def DY:=dS
def DM(j6:Option Bool)(Rt:Int->Option Bool)(a b:LI)(f:Int):Option Bool:=
if(Cl f (Ac a))then
(Ap a f).bind λg=>
(Ap b f).bind λh=>
if(Ba g h)then
some false
else
Rt (Ad f 1)
else
j6
def So(a b:LI):Nat->Int->Option Bool
|0,_=>none
|q+1,f=>DM DY (So a b q) a b f
def DX a b:=So a b Au
def EA(j4:LI->LI->Int->Option Bool)(a b:LI):Option Bool:=
if(Ba (Ac a) (Ac b))then
some false
else
j4 a b 0
def NH:=EA DX
def CD(a:Int)(b:UInt64)(f:LI):Option Bool:=
(Xi a b).bind λ(g,h)=>
if(geq h 0)then
(NH g f).bind λk=>
some k
else
some false
def Pz:Option Bool:=
(Xj 1 8 8000 ([]:LB) ([(200:UInt8)]:LB) 0).bind λ(a,b)=>
(Pc ([]:LB) a 18446744073709551615).bind λ(f,g)=>
(CD 7 10 ([(2:Int),(2:Int),(3:Int)]:LI)).bind λh=>
if h then
(CD 130 1 ([(1:Int),(64:Int),(64:Int),(1:Int)]:LI)).bind λk=>
some ((((k&&(geq b 0))&&(geq (Ac a) 36))&&(geq g 0))&&(f==([200]:LB)))
else
some ((((false&&(geq b 0))&&(geq (Ac a) 36))&&(geq g 0))&&(f==([200]:LB)))
def Ks(a:Int):Option (Int×Int):=
if((Cl a 1)||(Ef a 1048576))then
some (0,2)
else
if(geq (Ca (Bg a 256) 245) 0)then
some (1,0)
else
some ((Ca (Bg a 256) 245),0)
def Kw(a:Int):Option Int:=
if(geq a 8)then
some 128
else
if(geq a 16)then
some 32768
else
if(geq a 24)then
some 8388608
else
some 0
def Dz(a b:Int):Option Int:=
if((Cl a 1)||(Ef a 6))then
some 2
else
(Kw b).bind λf=>
if(geq f 0)then
some 2
else
some 0
def He(a b f:Int)(g:LB):Option Int:=
(Ks f).bind λ(m,h)=>
(Dz a b).bind λk=>
if(((Ba k 0)||(Ba h 0))||(Ef (Ac g) 64))then
some 2
else
some 0
def Zj(a:Bool)(h f:LB)(m n o:Int)(v:LB)(w y aa ab ac ad:Int)(k:LB)(ae:Bool)(af:Int)(ag:LB)(ah:LI):Option Bool:=
if((((a&&(geq m 24))&&(geq n 0))&&(geq o 0))&&(Cl (Ac f) (Ac h)))then
(Bi h 0 (Ac f)).bind λbf=>
some ((bf==f)&&(k==f))
else
some (false&&(k==f))
def Px:=Zj
def Ku(j2:Bool->LB->LB->Int->Int->Int->LB->Int->Int->Int->Int->Int->Int->LB->Bool->Int->LB->LI->Option Bool)(ai aj ak:Int)(g p:LB)(al am:UInt64):Option Bool:=
(Pz).bind λa=>
(He ai aj ak g).bind λan=>
if(((Ba an 0)||(Ef (Ac p) 400))||(!a))then
some a
else
(Xj ai aj ak g p al).bind λ(b,u)=>
if(Ba u 0)then
if a then
some ((geq u 24)||(geq u 18))
else
some false
else
(Pc g b am).bind λ(h,ao)=>
if(((Ba ao 0)||(h !=p))||(geq (Ac b) 0))then
some false
else
(Bi b 0 (Ao (Ac b) 1)).bind λap=>
(Pc g ap al).bind λ(f,m)=>
(GL g).bind λ(aq,ar,au,av,aw,ax,ay,az,ba,bb,bc,bd,n)=>
(
(Bi b 0 (Ao (Ac b) 1)).bind λbe=>
(Hr aq ar au av aw ax ay az ba bb bc bd be).bind λ(v,ag,w,y,aa,ab,ac,ah,ad,k,ae,af,o)=>
j2 a h f m n o v w y aa ab ac ad k ae af ag ah)
def Ng:=Ku Px
def La(f g b a h:Int):Option Bool:=
if((((geq f 1)||(geq f 2))&&(Ml g 1))&&(gle g 6))then
some ((((((geq b 8)||(geq b 16))||(geq b 24))&&(Ml a 1))&&(gle a 1048576))&&(Ml h 1))
else
some (((false&&(Ml a 1))&&(gle a 1048576))&&(Ml h 1))
def Ze(a:Int):Option Int:=
some (tH 1 (Ca (Bg 256 a) 245))
def Qs(a:LI):Option (LI):=
some a
def Qp:=Qs
def Lp(j6:LI->Option (LI))(Rt:Int->LI->Option (LI))(b f:Int)(a:LI):Option (LI):=
if(Ef f 0)then
(Ze b).bind λg=>
(Dy a ([(Fk f g)]:LI)).bind λh=>
(Ze b).bind λk=>
Rt (Ao f k) h
else
j6 a
def Gl(b:Int):Nat->Int->LI->Option (LI)
|0,_,_=>none
|q+1,f,a=>Lp Qp (Gl b q) b f a
def NG b:=Gl b Au
def NK(j4:Int->Int->LI->Option (LI))(b m:Int):Option (LI):=
j4 b m ([]:LI)
def Fq:=NK NG
def Yv(h a k f b:Int):Option Bool:=
(
(Lg (Ba a 0)).bind λ_=>
(
if(Ef b (Ca 4000 a))then
some true
else
(Fq f b).bind λg=>
some (Ef (Ac g) 1000)))
def Mj(a b f g h:Int):Option Int:=
(La a b f g h).bind λk=>
if(!k)then
some 8
else
(Yv a b f g h).bind λm=>
if m then
some 8
else
some 0
def Et(a f g h k:Int)(b:LB):Option Int:=
if((b==([]:LB)) !=(geq a 1))then
some 26
else
some 0
def KI(b:Int):Option Int:=
if(Ef b 100000)then
some 8
else
some 0
def KR:=KI
def MQ(tP:Int->Int->Option Int)(a:LI)(b f:Int):Option Int:=
(Ap a f).bind λg=>
tP (Ad b g) (Ad f 1)
def MX tP:=MQ tP
def Xq(j8:Int->Int->Option Int)(j10:Int->Option Int)(a:LI)(b f:Int):Option Int:=
if(Cl f (Ac a))then
(Ap a f).bind λh=>
if(Cl h 5)then
some 8
else
(Ap a f).bind λk=>
if(Ef k 100000)then
some 8
else
j8 b f
else
j10 b
def Ly(a:LI):Nat->Int->Int->Option Int
|0,_,_=>none
|q+1,b,f=>Xq (MX (Ly a q) a) KR a b f
def NO a:=Ly a Au
def Xr(j6:LI->Int->Int->Option Int)(a:LI):Option Int:=
if((Cl (Ac a) 1)||(Ef (Ac a) 1000))then
some 8
else
j6 a 0 0
def Jg:=Xr NO
def Hm(g h k a b:Int):Option (LI):=
(Fq a b).bind λf=>
some f
def Fv(f a b g h:Int):Option (Int×Int):=
some (a,b)
def VP(a b:Int):Option Int:=
some (Ca (Bg a b) 8)
def QZ(k a b f g h:Int):Option Int:=
(Fv a b f g h).bind λ(p,u)=>
(VP p u).bind λv=>
some (Bg k v)
def TO:=QZ
def Zk(j6:Int->Int->Int->Int->Int->Int->Option Int)(Rt:Int->Int->Option Int)(n a b f g h:Int)(m:LI)(k o:Int):Option Int:=
if(Cl o n)then
(Ap m o).bind λ_=>
(Ap m o).bind λw=>
Rt (Ad k w) (Ad o 1)
else
j6 k a b f g h
def My(n a b f g h:Int)(m:LI):Nat->Int->Int->Option Int
|0,_,_=>none
|q+1,k,o=>Zk TO (My n a b f g h m q) n a b f g h m k o
def oF n a b f g h m:=My n a b f g h m Au
def RZ(j4:Int->Int->Int->Int->Int->Int->LI->Int->Int->Option Int)(a b f g h n:Int):Option Int:=
(Hm a b f g h).bind λm=>
j4 n a b f g h m 0 0
def Yy:=RZ oF
abbrev Hb:=Option (Int×Int)
def mY(a:Int):Hb:=
some (a,0)
def nI:=mY
def Xz(j6:Int->Hb)(Rt:Int->Int->Hb)(b:LB)(a f:Int):Hb:=
if(Cl f 4)then
(Ap b f).bind λg=>
if(Ml g 128)then
some (0,12)
else
(Ap b f).bind λh=>
Rt (Ad (Bg 128 a) (Af h:Int)) (Ad f 1)
else
j6 a
def Lu(b:LB):Nat->Int->Int->Hb
|0,_,_=>none
|q+1,a,f=>Xz nI (Lu b q) b a f
def MS b:=Lu b Au
def NA(j4:LB->Int->Int->Hb)(b:LB):Hb:=
if(Ba (Ac b) 4)then
some (0,2)
else
j4 b 0 0
def FO:=NA MS
abbrev Hz:=Option (Int×Int)
def RA(a:LB)(g:Int):Hz:=
if(Ef g 4000)then
some (0,4)
else
if(Cl (Ac a) g)then
some (0,24)
else
(Ap a 5).bind λh=>
if(geq h 16)then
(Bi a (Ao g 10) g).bind λk=>
(Bi a 3 10).bind λm=>
(Dy ([51,68,73]:LB) m).bind λn=>
if(k !=n)then
some (0,12)
else
some (g,0)
else
some (g,0)
def Zv:=RA
def RC(j6:LB->Int->Hz)(a:LB)(b:Int):Hz:=
(Ap a 5).bind λo=>
if(geq o 16)then
j6 a (Ad (Ad 10 b) 10)
else
j6 a (Ad 10 b)
def AR:=RC Zv
def RM(j5:LB->Int->Hz)(a:LB):Hz:=
if(Cl (Ac a) 10)then
some (0,24)
else
(Bi a 6 10).bind λp=>
(FO p).bind λ(b,f)=>
(Ap a 3).bind λu=>
if(Cl u 2)then
if true then
if true then
if(true||(Ba f 0))then
some (0,12)
else
j5 a b
else
(Ap a 5).bind λv=>
if(Ba v 0)then
(Ap a 5).bind λw=>
if(Ba w 16)then
if(true||(Ba f 0))then
some (0,12)
else
j5 a b
else
(Ap a 3).bind λy=>
if((Ba y 4)||(Ba f 0))then
some (0,12)
else
j5 a b
else
if(false||(Ba f 0))then
some (0,12)
else
j5 a b
else
(Ap a 4).bind λaa=>
if(Ba aa 0)then
if(true||(Ba f 0))then
some (0,12)
else
j5 a b
else
(Ap a 5).bind λab=>
if(Ba ab 0)then
(Ap a 5).bind λac=>
if(Ba ac 16)then
if(true||(Ba f 0))then
some (0,12)
else
j5 a b
else
(Ap a 3).bind λad=>
if((Ba ad 4)||(Ba f 0))then
some (0,12)
else
j5 a b
else
if(false||(Ba f 0))then
some (0,12)
else
j5 a b
else
(Ap a 3).bind λae=>
if(Ef ae 4)then
if true then
if(true||(Ba f 0))then
some (0,12)
else
j5 a b
else
(Ap a 5).bind λaf=>
if(Ba af 0)then
(Ap a 5).bind λag=>
if(Ba ag 16)then
if(true||(Ba f 0))then
some (0,12)
else
j5 a b
else
(Ap a 3).bind λah=>
if((Ba ah 4)||(Ba f 0))then
some (0,12)
else
j5 a b
else
if(false||(Ba f 0))then
some (0,12)
else
j5 a b
else
(Ap a 4).bind λai=>
if(Ba ai 0)then
if(true||(Ba f 0))then
some (0,12)
else
j5 a b
else
(Ap a 5).bind λaj=>
if(Ba aj 0)then
(Ap a 5).bind λak=>
if(Ba ak 16)then
if(true||(Ba f 0))then
some (0,12)
else
j5 a b
else
(Ap a 3).bind λal=>
if((Ba al 4)||(Ba f 0))then
some (0,12)
else
j5 a b
else
if(false||(Ba f 0))then
some (0,12)
else
j5 a b
def TN:=RM AR
def SN(j4:LB->Hz)(a:LB):Hz:=
if(Cl (Ac a) 3)then
some (0,6)
else
(Bi a 0 3).bind λam=>
if(am !=([73,68,51]:LB))then
some (0,6)
else
j4 a
def IW:=SN TN
def XK(a:UInt64):Option UInt64:=
some a
def YV:=XK
def FA(j6:UInt64->Option UInt64)(Rt:UInt64->Int->Option UInt64)(b:LB)(a:UInt64)(f:Int):Option UInt64:=
if(Ml f 0)then
(Ap b f).bind λg=>
Rt (Ad (Bg 256 a) (Af g:UInt64)) (Ao f 1)
else
j6 a
def Qh(b:LB):Nat->UInt64->Int->Option UInt64
|0,_,_=>none
|q+1,a,f=>FA YV (Qh b q) b a f
def aG b:=Qh b Au
def aM(j4:LB->UInt64->Int->Option UInt64)(b:LB):Option UInt64:=
j4 b 0 (Ao (Ac b) 1)
def Ei:=aM aG
def Yx(b:LB):Option (Int×Int×Bool):=
(Bi b 12 16).bind λg=>
(Ei g).bind λa=>
(Bi b 16 20).bind λh=>
(Ei h).bind λf=>
if(((Cl a 32)||(Ef a 3032))||(Ef f 1000))then
some (0,0,false)
else
some ((Ao (Af a:Int) 32),(Af f:Int),true)
def GR(a:LB):Option (LB):=
some a
def GX:=GR
def Ut(j6:LB->Option (LB))(Rt:UInt64->Int->LB->Option (LB))(b:Int)(f:UInt64)(g:Int)(a:LB):Option (LB):=
if(Cl g b)then
(Dy a ([(Af (HQ f 256):UInt8)]:LB)).bind λh=>
Rt (Ca f 256) (Ad g 1) h
else
j6 a
def Ji(b:Int):Nat->UInt64->Int->LB->Option (LB)
|0,_,_,_=>none
|q+1,f,g,a=>Ut GX (Ji b q) b f g a
def HC b:=Ji b Au
def GW(j4:Int->UInt64->Int->LB->Option (LB))(k:UInt64)(b:Int):Option (LB):=
j4 b k 0 ([]:LB)
def Fl:=GW HC
def Uj(a b:Int)(f:UInt64):Option (LB):=
(Fl 2000 4).bind λg=>
(Dy ([(65:UInt8),(80:UInt8),(69:UInt8),(84:UInt8),(65:UInt8),(71:UInt8),(69:UInt8),(88:UInt8)]:LB) g).bind λh=>
(Fl (Af (Ad a 32):UInt64) 4).bind λk=>
(Dy h k).bind λm=>
(Fl (Af b:UInt64) 4).bind λn=>
(Dy m n).bind λo=>
(Fl f 4).bind λp=>
(Dy o p).bind λu=>
(mkI (8:Int) (0:UInt8)).bind λv=>
(Dy u v).bind λw=>
some w
def Yl(a b:Int):Option (LB):=
(Uj a b 2684354560).bind λf=>
some f
def Nj(a b:Int)(f:Bool):Option (LB):=
if f then
(Uj a b 2147483648).bind λg=>
some g
else
(Uj a b 0).bind λh=>
some h
abbrev Nb:=Option (Int×Int)
def MW(a:LB)(b f:Int):Nb:=
if(Cl (Ac a) (Ad 64 b))then
some (0,24)
else
(Bi a (Ao (Ad 64 b) 32) (Ad 64 b)).bind λg=>
(Nj b f true).bind λh=>
if(g !=h)then
some (0,12)
else
some ((Ad 64 b),0)
def NJ:=MW
def NB(j4:LB->Int->Int->Nb)(a:LB):Nb:=
if(Cl (Ac a) 32)then
some (0,24)
else
(Bi a 0 32).bind λk=>
(Yx k).bind λ(b,f,m)=>
if(!m)then
some (0,12)
else
(Bi a 0 32).bind λn=>
(Yl b f).bind λo=>
if(n !=o)then
some (0,12)
else
j4 a b f
def MT:=NB NJ
def MU(j3:LB->Nb)(a:LB):Nb:=
if(Cl (Ac a) 8)then
some (0,6)
else
(Bi a 0 8).bind λp=>
if(p !=([65,80,69,84,65,71,69,88]:LB))then
some (0,6)
else
j3 a
def GA:=MU MT
abbrev Hg:=Option (LI×Int)
def MY(tP:Int->LI->Hg)(a:LB)(b:Int)(f:LI)(g h:Int):Hg:=
if(geq h 6)then
some (f,0)
else
if(Ba h 0)then
some (([]:LI),h)
else
if(Ef (Ad b g) 4000)then
some (([]:LI),4)
else
(Dy f ([g]:LI)).bind λm=>
tP (Ad b g) m
def Qv tP:=MY tP
def Yj(j9:Int->LI->Int->Int->Hg)(a:LB)(b:Int)(f:LI):Hg:=
(Bi a b (Ac a)).bind λn=>
(IW n).bind λ(o,k)=>
if(geq k 6)then
(Bi a b (Ac a)).bind λp=>
(GA p).bind λ(u,v)=>
j9 b f u v
else
j9 b f o k
def Qw(a:LB):Nat->Int->LI->Hg
|0,_,_=>none
|q+1,b,f=>Yj (Qv (Qw a q) a) a b f
def nA a:=Qw a Au
def nC(j6:LB->Int->LI->Hg)(a:LB):Hg:=
j6 a 0 ([]:LI)
def aU:=nC nA
abbrev Gz:=Option (Int×Int)
def NM(a b:Int):Gz:=
some (b,a)
def NC:=NM
def Xx(j6:Int->Int->Gz)(Rt:Int->Int->Gz)(a:Int)(f:LI)(b g:Int):Gz:=
if(Cl g (Ac f))then
(Ap f g).bind λ_=>
(Ap f g).bind λh=>
Rt (Ad b h) (Ad g 1)
else
j6 a b
def Ls(a:Int)(f:LI):Nat->Int->Int->Gz
|0,_,_=>none
|q+1,b,g=>Xx NC (Ls a f q) a f b g
def Xu a f:=Ls a f Au
def MP(j4:Int->LI->Int->Int->Gz)(k:LB):Gz:=
(aU k).bind λ(f,a)=>
j4 a f 0 0
def Mk:=MP Xu
def Uh(a b:LB):Option Bool:=
if(Cl (Ac a) (Ac b))then
(Bi b 0 (Ac a)).bind λf=>
some (a==f)
else
some false
def RI(a:UInt32)(b:Bool):Option UInt32:=
if b then
some (AI (Ca a 2) 3988292384)
else
some (Ca a 2)
def SH:=RI
def TD(j2:UInt32->Bool->Option UInt32)(a:UInt32)(f:Int):Option UInt32:=
if(geq f 1)then
j2 a (!(geq (HQ a 2) 1))
else
j2 a (geq (HQ a 2) 1)
def JU:=TD SH
def RH(a:UInt32):Option UInt32:=
some a
def TA:=RH
def AB(j6:UInt32->Option UInt32)(Rt:UInt32->UInt8->Int->Option UInt32)(a:UInt32)(b:UInt8)(f:Int):Option UInt32:=
if(Cl f 8)then
(JU a (Af (HQ b 2):Int)).bind λg=>
Rt g (Ca b 2) (Ad f 1)
else
j6 a
def Na:Nat->UInt32->UInt8->Int->Option UInt32
|0,_,_,_=>none
|q+1,a,b,f=>AB TA (Na q) a b f
def qH:=Na Au
def oZ(j4:UInt32->UInt8->Int->Option UInt32)(h:UInt32)(k:UInt8):Option UInt32:=
j4 h k 0
def bW:=oZ qH
def IU(a:UInt32):Option UInt32:=
some a
def KN:=IU
def Vv(j6:UInt32->Option UInt32)(Rt:UInt32->Int->Option UInt32)(b:LB)(a:UInt32)(f:Int):Option UInt32:=
if(Cl f (Ac b))then
(Ap b f).bind λg=>
(bW a g).bind λh=>
Rt h (Ad f 1)
else
j6 a
def Kk(b:LB):Nat->UInt32->Int->Option UInt32
|0,_,_=>none
|q+1,a,f=>Vv KN (Kk b q) b a f
def HU b:=Kk b Au
def KY(j4:LB->UInt32->Int->Option UInt32)(k:UInt32)(b:LB):Option UInt32:=
j4 b k 0
def VZ:=KY HU
def Xb(a:LB):Option UInt32:=
(VZ 4294967295 a).bind λb=>
some (Ao 4294967295 b)
abbrev Ic:=Option (Int×Int×Int×Int×Int×Int)
def TE(k h g f b:UInt64):Ic:=
(La (Af k:Int) (Af h:Int) (Af g:Int) (Af f:Int) (Af b:Int)).bind λv=>
if(!v)then
some (0,0,0,0,0,12)
else
(Yv (Af k:Int) (Af h:Int) (Af g:Int) (Af f:Int) (Af b:Int)).bind λw=>
if w then
some (0,0,0,0,0,4)
else
some ((Af k:Int),(Af h:Int),(Af g:Int),(Af f:Int),(Af b:Int),0)
def TG:=TE
def RY(j6:UInt64->UInt64->UInt64->UInt64->UInt64->Ic)(a:LB):Ic:=
(Bi a 4 6).bind λu=>
(Bi a 6 8).bind λp=>
(Bi a 8 10).bind λo=>
(Bi a 10 14).bind λn=>
(Bi a 14 18).bind λm=>
(
(Ei u).bind λk=>
(
(Ei p).bind λh=>
(
(Ei o).bind λg=>
(
(Ei n).bind λf=>
(
(Ei m).bind λb=>
(
j6 k h g f b))))))
def RR:=RY TG
def TC(j5:LB->Ic)(a:LB):Ic:=
if(Cl (Ac a) 22)then
some (0,0,0,0,0,24)
else
(Bi a 18 22).bind λy=>
(Bi a 0 18).bind λaa=>
(Ei y).bind λab=>
(Xb aa).bind λac=>
if(Ba ab (Af ac:UInt64))then
some (0,0,0,0,0,22)
else
j5 a
def SY:=TC RR
def RN(j4:LB->Ic)(a:LB):Ic:=
(Bi a 0 (Fk 4 (Ac a))).bind λad=>
(Bi ([84,84,65,49]:LB) 0 (Fk 4 (Ac a))).bind λae=>
if(ad !=ae)then
some (0,0,0,0,0,12)
else
j4 a
def Nk:=RN SY
abbrev Vq:=Option (Int×Int×Int×Int×Int×Int×Int)
def GG(b:Int)(a:LB):Vq:=
(Nk a).bind λ(k,m,n,o,p,h)=>
if(geq h 24)then
some (0,0,0,0,0,0,(-1:Int))
else
some ((Ad b 22),k,m,n,o,p,h)
def GO:=GG
def HE(j2:Int->LB->Vq)(f:LB):Vq:=
(Mk f).bind λ(b,g)=>
if(geq g 24)then
some (0,0,0,0,0,0,(-1:Int))
else
if(Ba g 0)then
some (0,0,0,0,0,0,g)
else
(Bi f b (Ac f)).bind λa=>
(Uh a ([73,68,51]:LB)).bind λu=>
if u then
some (0,0,0,0,0,0,(-1:Int))
else
(Uh a ([65,80,69,84,65,71,69,88]:LB)).bind λv=>
if v then
some (0,0,0,0,0,0,(-1:Int))
else
j2 b a
def AO:=HE GO
def RO(a:UInt64)(b:Bool):Option UInt64:=
if b then
some (AI (Bg a 2) 4823603603198064275)
else
some (Bg a 2)
def AK:=RO
def RL(j2:UInt64->Bool->Option UInt64)(a:UInt64)(f:Int):Option UInt64:=
if(geq f 1)then
j2 a (!(Ml a 9223372036854775808))
else
j2 a (Ml a 9223372036854775808)
def JC:=RL AK
def SM(a:UInt64):Option UInt64:=
some a
def TP:=SM
def Zy(j6:UInt64->Option UInt64)(Rt:UInt64->Int->Option UInt64)(b:UInt8)(a:UInt64)(f:Int):Option UInt64:=
if(Ef f 0)then
(Lg (Ba f 0)).bind λ_=>
(JC a (Gc (Ca (Af b:Int) f) 2)).bind λg=>
Rt g (Ca f 2)
else
j6 a
def Mz(b:UInt8):Nat->UInt64->Int->Option UInt64
|0,_,_=>none
|q+1,a,f=>Zy TP (Mz b q) b a f
def qQ b:=Mz b Au
def qX(j4:UInt8->UInt64->Int->Option UInt64)(h:UInt64)(b:UInt8):Option UInt64:=
j4 b h 128
def bH:=qX qQ
def IQ(a:UInt64):Option UInt64:=
some a
def LG:=IQ
def Ws(j6:UInt64->Option UInt64)(Rt:UInt64->Int->Option UInt64)(b:LB)(a:UInt64)(f:Int):Option UInt64:=
if(Cl f (Ac b))then
(Ap b f).bind λg=>
(bH a g).bind λh=>
Rt h (Ad f 1)
else
j6 a
def Kh(b:LB):Nat->UInt64->Int->Option UInt64
|0,_,_=>none
|q+1,a,f=>Ws LG (Kh b q) b a f
def jU b:=Kh b Au
def kO(j4:LB->UInt64->Int->Option UInt64)(k:UInt64)(b:LB):Option UInt64:=
j4 b k 0
def CF:=kO jU
def cQ(a:LB):Option UInt64:=
(CF 0 a).bind λb=>
some b
def Mx(a:LB):Option (LB):=
(cQ a).bind λb=>
(Fl b 8).bind λf=>
some f
abbrev Fa:=Option (LI×Int)
def RS(f:LI):Fa:=
(Jg f).bind λh=>
if(Ba h 0)then
some (([]:LI),12)
else
some (f,0)
def Zx:=RS
def AU(j8:LI->Fa)(tP:Int->LI->Fa)(b:LB)(a g:Int)(f:LI):Fa:=
if(Cl g a)then
(Bi b (Bg 4 g) (Ad (Bg 4 g) 4)).bind λk=>
(Ei k).bind λm=>
(Dy f ([(Af m:Int)]:LI)).bind λn=>
tP (Ad g 1) n
else
j8 f
def Nf(b:LB)(a:Int):Nat->Int->LI->Fa
|0,_,_=>none
|q+1,g,f=>AU Zx (Nf b a q) b a g f
def SU b a:=Nf b a Au
def SW(j6:LB->Int->Int->LI->Fa)(b:LB)(a:Int):Fa:=
j6 b a 0 ([]:LI)
def TB:=SW SU
def SC(j5:LB->Int->Fa)(b:LB)(a:Int):Fa:=
if((Cl a 1)||(Ef a 1000))then
some (([]:LI),2)
else
if(Cl (Ac b) (Ad (Bg 4 a) 4))then
some (([]:LI),24)
else
(Bi b (Bg 4 a) (Ad (Bg 4 a) 4)).bind λo=>
(Bi b 0 (Bg 4 a)).bind λp=>
(Ei o).bind λu=>
(Xb p).bind λv=>
if(Ba u (Af v:UInt64))then
some (([]:LI),22)
else
j5 b a
def Sa:=SC TB
abbrev Lz:=Option (Int×LI×Int)
def IL(b g:Int)(h:LI):Lz:=
if(geq g 24)then
some (0,([]:LI),(-1:Int))
else
some ((Ad (Ad b (Bg 4 (Ac h))) 4),h,g)
def LC:=IL
def KA(j4:Int->Int->LI->Lz)(a:LB)(f k m n o b:Int):Lz:=
(Bi a b (Ac a)).bind λp=>
(Hm f k m n o).bind λu=>
(Sa p (Ac u)).bind λ(h,g)=>
j4 b g h
def Dr:=KA LC
def Hu(j3:LB->Int->Int->Int->Int->Int->Int->Lz)(a:LB)(f k m n o:Int)(v:LB):Lz:=
if(geq f 2)then
if(Cl (Ac a) 8)then
some (0,([]:LI),(-1:Int))
else
(Bi a 0 8).bind λw=>
(Mx v).bind λy=>
if(w !=y)then
some (0,([]:LI),26)
else
j3 a f k m n o 8
else
j3 a f k m n o 0
def Ey:=Hu Dr
def cK(b:UInt64)(a:LB):Option (UInt64×Int):=
if(Ef (Ac a) 100000)then
some (0,4)
else
(CF b a).bind λf=>
some (f,0)
def gJ(a:LB):Option (UInt64×Int):=
(cK 0 a).bind λ(b,f)=>
some (b,f)
def tI(a:LX):Option (LX):=
some a
def tG:=tI
def YK(tP:UInt64->Int->LX->Option (LX))(b:UInt64)(f:Int)(a:LX)(g:Int32):Option (LX):=
(Ap a f).bind λ_=>
(Nx a f g).bind λh=>
tP (Ca b 256) (Ad f 1) h
def FH tP:=YK tP
def FG(j8:UInt64->Int->LX->Int32->Option (LX))(j10:LX->Option (LX))(b:UInt64)(f:Int)(a:LX):Option (LX):=
if(Cl f 8)then
if(Ef (Af (HQ b 256):Int32) 127)then
j8 b f a (Ao (Af (HQ b 256):Int32) 256)
else
j8 b f a (Af (HQ b 256):Int32)
else
j10 a
def Md:Nat->UInt64->Int->LX->Option (LX)
|0,_,_,_=>none
|q+1,b,f,a=>FG (FH (Md q)) tG b f a
def vF:=Md Au
def uW(j6:UInt64->Int->LX->Option (LX))(k:UInt64):Option (LX):=
j6 k 0 (List.replicate 16 (0:Int32))
def mN:=uW vF
def Ni(a:LB):Option (LX×Int):=
if(Ef (Ac a) 64)then
some (([(0:Int32),(0:Int32),(0:Int32),(0:Int32),(0:Int32),(0:Int32),(0:Int32),(0:Int32),(0:Int32),(0:Int32),(0:Int32),(0:Int32),(0:Int32),(0:Int32),(0:Int32),(0:Int32)]:LX),2)
else
(gJ a).bind λ(b,g)=>
(mN b).bind λf=>
some (f,0)
def Jf(a f b:Int):Option Int:=
(Dz a f).bind λg=>
if((Ba g 0)||(Cl b 1))then
some 2
else
(Lg (Ba a 0)).bind λ_=>
if(Ef b (Ca 4000 a))then
some 2
else
some 0
def DC(b:LB):Option (LB):=
(Xb b).bind λa=>
(Dy ([]:LB) b).bind λf=>
(Dy f ([(Af a:UInt8),(Af (Ck a (GI.toZ (8:UInt64)).toNat):UInt8),(Af (Ck a (GI.toZ (16:UInt64)).toNat):UInt8),(Af (Ck a (GI.toZ (24:UInt64)).toNat):UInt8)]:LB)).bind λg=>
some g
def Uf(a:LB):Option Int:=
if(Cl (Ac a) 5)then
some 24
else
if(Ef (Ac a) 41254)then
some 4
else
(Bi a 0 (Ao (Ac a) 4)).bind λb=>
(DC b).bind λf=>
if(f !=a)then
some 22
else
some 0
def Qb:Option (Int×Int×UInt64×UInt64):=
some (10,10,16384,16384)
def nN(a:UInt64):Option UInt64:=
some a
def nF:=nN
def Xs(j6:UInt64->Option UInt64)(Rt:UInt64->Int->Option UInt64)(b:Int)(a:UInt64)(f:Int):Option UInt64:=
if(Cl f b)then
Rt (Bg a 2) (Ad f 1)
else
j6 a
def Lr(b:Int):Nat->UInt64->Int->Option UInt64
|0,_,_=>none
|q+1,a,f=>Xs nF (Lr b q) b a f
def nG b:=Lr b Au
def nS(j4:Int->UInt64->Int->Option UInt64)(b:Int):Option UInt64:=
j4 b 1 0
def Hj:=nS nG
def NT(a g:Int)(h k:UInt64)(b:UInt32):Option Bool:=
(Hj a).bind λf=>
some (Cl (Af b:UInt64) f)
def JD(a g:Int)(h k:UInt64)(b:UInt32):Option UInt32:=
(Hj a).bind λf=>
some (Af (Ao (Af b:UInt64) f):UInt32)
abbrev DH:=Option (Int×UInt64)
def RT(b:Int)(a f:UInt64):DH:=
if(Cl b 24)then
(Hj (Ad b 5)).bind λg=>
if(Ef (Ao (Ad a f) (Ca a 16)) g)then
some ((Ad b 1),(Ao (Ad a f) (Ca a 16)))
else
some (b,(Ao (Ad a f) (Ca a 16)))
else
some (b,(Ao (Ad a f) (Ca a 16)))
def AH:=RT
def TF(j2:Int->UInt64->UInt64->DH)(b:Int)(a f:UInt64):DH:=
if(Ef b 0)then
(Hj (Ad b 4)).bind λh=>
if(Cl (Ao (Ad a f) (Ca a 16)) h)then
some ((Ao b 1),(Ao (Ad a f) (Ca a 16)))
else
j2 b a f
else
j2 b a f
def Zb:=TF AH
abbrev Yg:=Option (Int×Int×UInt64×UInt64)
def MK(h:UInt32)(f a:Int)(g b:UInt64)(o:Int)(p:UInt64):Yg:=
(Zb f g (Af h:UInt64)).bind λ(aa,ab)=>
some (aa,o,ab,p)
def Wd:=MK
def JI(j2:UInt32->Int->Int->UInt64->UInt64->Int->UInt64->Yg)(f a:Int)(g b:UInt64)(h:UInt32):Yg:=
(NT f a g b h).bind λu=>
if(!u)then
(
(
(JD f a g b h).bind λk=>
(Zb a b (Af k:UInt64)).bind λ(m,n)=>
j2 h f a g b m n))
else
j2 h f a g b a b
def CT:=JI Wd
abbrev Gh:=Option (Int×Int×UInt64×UInt64)
def kM(a b:Int)(f g:UInt64):Gh:=
some (a,b,f,g)
def kN:=kM
def JG(j6:Int->Int->UInt64->UInt64->Gh)(Rt:Int->Int->Int->UInt64->UInt64->Gh)(h:Int)(k:LU)(m a b:Int)(f g:UInt64):Gh:=
if(Cl m (Ac k))then
(Ap k m).bind λn=>
(CT a b f g n).bind λ(o,p,u,v)=>
Rt (Ad m h) o p u v
else
j6 a b f g
def Ou(h:Int)(k:LU):Nat->Int->Int->Int->UInt64->UInt64->Gh
|0,_,_,_,_,_=>none
|q+1,m,a,b,f,g=>JG kN (Ou h k q) h k m a b f g
def kP h k:=Ou h k Au
def HY(j4:Int->LU->Int->Int->Int->UInt64->UInt64->Gh)(h:Int)(k:LU):Gh:=
(Qb).bind λ(w,y,aa,ab)=>
(Lg (Ba h 0)).bind λ_=>
j4 h k (Gc (Ac k) h) w y aa ab
def Tv:=HY kP
def YG(a:Int):Option Int:=
some (Gc a 2)
def ZP:=YG
def FM(j6:Int->Option Int)(Rt:Int->Int->Option Int)(b a f:Int):Option Int:=
if(Cl f (Gc b 8))then
Rt (Ca a 2) (Ad f 1)
else
j6 a
def Qg(b:Int):Nat->Int->Int->Option Int
|0,_,_=>none
|q+1,a,f=>FM ZP (Qg b q) b a f
def YO b:=Qg b Au
def ZW(j4:Int->Int->Int->Option Int)(g:LB)(k b:Int):Option Int:=
(Ap g (Ca b 8)).bind λh=>
j4 b (Af h:Int) 0
def Nt:=ZW YO
abbrev Fs:=Option (LB×Int)
def VE(b g a:Int)(f:LB):Fs:=
(Ap f (Ca a 8)).bind λ_=>
(Ap f (Ca a 8)).bind λm=>
(Ap f (Ca a 8)).bind λ_=>
(Nx f (Ca a 8) (Ad m (Af (Bg b g):UInt8))).bind λn=>
some (n,(Ad a 1))
def CQ:=VE
def CR(j8:Int->Int->Int->LB->Fs)(tP:Int->Int->Fs)(b a:Int)(f:LB)(g h:Int):Fs:=
if(Cl h (Gc a 8))then
tP (Bg g 2) (Ad h 1)
else
j8 b g a f
def Of(b a:Int)(f:LB):Nat->Int->Int->Fs
|0,_,_=>none
|q+1,g,h=>CR CQ (Of b a f q) b a f g h
def VV b a f:=Of b a f Au
def VW(j6:Int->Int->LB->Int->Int->Fs)(b a:Int)(f:LB):Fs:=
j6 b a f 1 0
def CP:=VW VV
def VX(j5:Int->Int->LB->Fs)(k:LB)(a b:Int):Fs:=
if(geq (Gc a 8) 0)then
(Dy k ([(0:UInt8)]:LB)).bind λo=>
j5 b a o
else
j5 b a k
def BT:=VX CP
abbrev Fw:=Option (LB×Int)
def iM(a:Int)(b:LB):Fw:=
some (b,a)
def iA:=iM
def Uw(j6:Int->LB->Fw)(Rt:Int->Int->LB->Fw)(f:Int)(g:LB)(h k a:Int)(b:LB):Fw:=
if(Cl k f)then
(Nt g h k).bind λm=>
(BT b a m).bind λ(n,o)=>
Rt (Ad k 1) o n
else
j6 a b
def Jj(f:Int)(g:LB)(h:Int):Nat->Int->Int->LB->Fw
|0,_,_,_=>none
|q+1,k,a,b=>Uw iA (Jj f g h q) f g h k a b
def fZ f g h:=Jj f g h Au
def fH(j4:Int->LB->Int->Int->Int->LB->Fw)(g:LB)(h p f:Int):Fw:=
j4 f g h p 0 ([]:LB)
def RB:=fH fZ
def nD(a:UInt64):Option UInt64:=
some a
def nK:=nD
def Yh(j6:UInt64->Option UInt64)(Rt:UInt64->Int->Option UInt64)(b:Int)(f:LB)(g:Int)(a:UInt64)(h:Int):Option UInt64:=
if(Ml h 0)then
(Nt f g (Ad b h)).bind λk=>
Rt (Ad (Bg 2 a) (Af k:UInt64)) (Ao h 1)
else
j6 a
def Lo(b:Int)(f:LB)(g:Int):Nat->UInt64->Int->Option UInt64
|0,_,_=>none
|q+1,a,h=>Yh nK (Lo b f g q) b f g a h
def NN b f g:=Lo b f g Au
def ND(j4:Int->LB->Int->UInt64->Int->Option UInt64)(f:LB)(g b m:Int):Option UInt64:=
j4 b f g 0 (Ao m 1)
def Wb:=ND NN
abbrev Jc:=Option (Int×Int)
def VJ(b a:Int)(g:LB)(f:Int):Jc:=
if(geq a 48)then
some (a,(Ad b a))
else
if(Ml (Ad b a) f)then
some ((-1:Int),0)
else
some (a,(Ad (Ad b a) 1))
def DD:=VJ
def CC(j6:Int->Int->LB->Int->Jc)(Rt:Int->Jc)(b:Int)(g:LB)(f a:Int):Jc:=
if((Cl (Ad b a) f)&&(Cl a 48))then
(Nt g f (Ad b a)).bind λh=>
if(geq h 1)then
Rt (Ad a 1)
else
j6 b a g f
else
j6 b a g f
def Oc(b:Int)(g:LB)(f:Int):Nat->Int->Jc
|0,_=>none
|q+1,a=>CC DD (Oc b g f q) b g f a
def tO b g f:=Oc b g f Au
def tK(j4:Int->LB->Int->Int->Jc)(g:LB)(f b:Int):Jc:=
j4 b g f 0
def fA:=tK tO
def LN(b:UInt32)(f:Int):Option Int:=
(Hj f).bind λa=>
(Lg (Ba a 0)).bind λ_=>
some (Af (Fk 48 (Ca (Af b:UInt64) a)):Int)
abbrev FL:=Option (UInt32×Int×Int)
def CJ(g a b:Int)(h:LB)(f k:Int):FL:=
if((Cl a 0)||(Cl (Ao f b) k))then
some (0,0,24)
else
(Wb h f b k).bind λm=>
if(Cl a 48)then
(Hj g).bind λo=>
some ((Af (Ad (Bg (Af a:UInt64) o) m):UInt32),(Ad b k),0)
else
(LN (Af m:UInt32) g).bind λp=>
if(Cl p a)then
some (0,0,12)
else
some ((Af m:UInt32),(Ad b k),0)
def CW:=CJ
def VF(j2:Int->Int->Int->LB->Int->Int->FL)(h:LB)(f n g:Int):FL:=
if(Ml n f)then
some (0,0,24)
else
(fA h f n).bind λ(a,b)=>
if(geq a 48)then
j2 g a b h f 32
else
j2 g a b h f g
def OM:=VF CW
def OB(g:LB)(b a f n:Int)(v w:UInt64):Option (UInt32×Int×Int):=
if(Ml a b)then
some (0,0,24)
else
(Nt g b a).bind λo=>
if(geq o 0)then
if(Cl (Ao (Ao b a) 1) f)then
some (0,0,24)
else
(Wb g b (Ad a 1) f).bind λp=>
some ((Af p:UInt32),(Ad (Ad a 1) f),0)
else
(OM g b (Ad a 1) n).bind λ(h,u,k)=>
if(Ba k 0)then
some (0,0,k)
else
(Hj f).bind λm=>
if(Ef (Ad (Af h:UInt64) m) 4294967295)then
some (0,0,12)
else
some ((Af (Ad (Af h:UInt64) m):UInt32),u,0)
abbrev Cc:=Option (LU×Int)
def nW(b:LU):Cc:=
some (b,0)
def mX:=nW
def Ye(j18:LU->Cc)(Iw:Int->Cc)(a:LB)(b:LU)(m:Int):Cc:=
if(Cl m (Bg 8 (Ac a)))then
(Nt a (Bg 8 (Ac a)) m).bind λn=>
if(Ba n 0)then
some (b,12)
else
Iw (Ad m 1)
else
j18 b
def Lt(a:LB)(b:LU):Nat->Int->Cc
|0,_=>none
|q+1,m=>Ye mX (Lt a b q) a b m
def NI a b:=Lt a b Au
def NS(j16:LB->LU->Int->Cc)(f:Int)(a:LB)(b:LU):Cc:=
if(Ef (Ao (Bg 8 (Ac a)) f) 7)then
some (b,12)
else
j16 a b f
def Yi:=NS NI
def NR(Atm:Int->Int->LU->Cc)(g h:Int)(a:LB)(f k:Int)(b:LU)(o p:Int)(u v:UInt64):Cc:=
(RB a (Bg 8 (Ac a)) f (Fk (Ad f 81) (Bg 8 (Ac a)))).bind λ(y,aa)=>
(OB y aa 0 o p u v).bind λ(ab,ac,w)=>
if(Ba w 0)then
some (b,w)
else
(Dy b ([ab]:LU)).bind λad=>
Atm (Ad f ac) (Ad k 1) ad
def Ma Atm:=NR Atm
def NP(j13:Int->Int->LU->Int->Int->UInt64->UInt64->Cc)(j15:Int->LB->LU->Cc)(g h:Int)(a:LB)(f k:Int)(b:LU):Cc:=
if(Cl k (Bg h g))then
(Qb).bind λ(n,ae,af,ag)=>
if(Ml k g)then
(Tv g b).bind λ(ah,ai,aj,ak)=>
j13 f k b ah ai aj ak
else
j13 f k b n ae af ag
else
j15 f a b
def Gk(g h:Int)(a:LB):Nat->Int->Int->LU->Cc
|0,_,_,_=>none
|q+1,f,k,b=>NP (Ma (Gk g h a q) g h a) Yi g h a f k b
def nO g h a:=Gk g h a Au
def SR(j10:Int->Int->LB->Int->Int->LU->Cc)(g h:Int)(a:LB):Cc:=
j10 g h a 0 0 ([]:LU)
def IZ:=SR nO
def vQ(a:Int):Option (Int×Int):=
if(geq a 8)then
some (4,0)
else
if((geq a 16)||(geq a 24))then
some (5,0)
else
some (0,2)
def Aba(a:Int)(b:LX):Option (Int×LX×LX×Int):=
(vQ a).bind λ(g,f)=>
if(Ba f 0)then
some (0,(List.replicate 16 (0:Int32)),(List.replicate 16 (0:Int32)),2)
else
if(geq a 16)then
some (9,b,(List.replicate 16 (0:Int32)),0)
else
some (10,b,(List.replicate 16 (0:Int32)),0)
def fO(a:Int)(b:LX):Option (Int×Int32×Int×LX×LX×Int):=
(Aba a b).bind λ(f,g,h,k)=>
if(Ba k 0)then
some (0,0,0,(List.replicate 16 (0:Int32)),(List.replicate 16 (0:Int32)),2)
else
some (a,0,f,g,h,0)
def JQ(a:UInt32):Option Int32:=
if(geq (HQ a 2) 0)then
some (Af (Ca a 2):Int32)
else
some (Af (Ca (yP (Ad (Af a:Int) 1)) 2):Int32)
def Dm(a:Int):Option Int32:=
some (Af (Af (Af a:UInt64):UInt32):Int32)
def VN(a:Int):Option Int32:=
some (Af a:Int32)
def VT:=VN
def CM(j6:Int->Option Int32)(Rt:Int->Int->Option Int32)(h:Int)(f g:LX)(a b:Int):Option Int32:=
if(Cl b 16)then
(Ap f b).bind λ_=>
(Ap g b).bind λ_=>
(Ap f b).bind λk=>
(Ap g b).bind λm=>
(Dm (Bg (Af k:Int) (Af m:Int))).bind λn=>
(Dm (Ad a (Af n:Int))).bind λo=>
Rt (Af o:Int) (Ad b 1)
else
j6 a
def Oh(h:Int)(f g:LX):Nat->Int->Int->Option Int32
|0,_,_=>none
|q+1,a,b=>CM VT (Oh h f g q) h f g a b
def tL h f g:=Oh h f g Au
def tJ(j4:Int->LX->LX->Int->Int->Option Int32)(h:Int)(f g:LX):Option Int32:=
j4 h f g 0 0
def fV:=tJ tL
def QX(b:Int)(f g:LX)(a:Int):Option Int32:=
(fV b f g).bind λk=>
(Dm (Ad (Af k:Int) (Ca a 2))).bind λh=>
(Lg (Ba a 0)).bind λ_=>
(Lg (Ba a 0)).bind λ_=>
if(Cl (Gc (Af h:Int) a) 0)then
some (Af (Ao (Ca (Af h:Int) a) 1):Int32)
else
some (Af (Ca (Af h:Int) a):Int32)
def AF:=QX
def SA(j2:Int->LX->LX->Int->Option Int32)(b:Int)(f g:LX):Option Int32:=
if(geq b 9)then
j2 b f g 512
else
j2 b f g 1024
def KQ:=SA AF
def ID(a:Int):Option Int32:=
if(geq a 0)then
some 4
else
if(gle a 3)then
some 2
else
some 1
def Zc(a:Int32):Option Int32:=
if(Cl a 0)then
some (-1:Int32)
else
if(Ef a 0)then
some 1
else
some 0
abbrev Fu:=Option (Int×LX×LX)
def gR(g:Int)(b a:LX):Fu:=
some (g,b,a)
def gO:=gR
def Va(j6:Int->LX->LX->Fu)(Rt:Int->LX->Fu)(h:Int32)(g:Int)(a:LX)(f:Int)(b:LX):Fu:=
if(Cl f 16)then
(Ap b f).bind λ_=>
(Ap a f).bind λ_=>
(Ap b f).bind λk=>
(Ap a f).bind λm=>
(ID f).bind λn=>
(Zc m).bind λo=>
(Zc h).bind λp=>
(Ap b f).bind λ_=>
(Nx b f (Ad k (Bg (Bg n o) p))).bind λu=>
Rt (Ad f 1) u
else
j6 g b a
def Jo(h:Int32)(g:Int)(a:LX):Nat->Int->LX->Fu
|0,_,_=>none
|q+1,f,b=>Va gO (Jo h g a q) h g a f b
def fW h g a:=Jo h g a Au
def gP(j4:Int32->Int->LX->Int->LX->Fu)(g:Int)(v a:LX)(h:Int32):Fu:=
j4 h g a 0 v
def TL:=gP fW
abbrev Gj:=Option (Int×LX×LX)
def JR(b:Int32)(f:Int)(g a:LX):Gj:=
(Ap a 0).bind λ_=>
(Nx a 0 b).bind λk=>
some (f,g,k)
def MH:=JR
def Wj(j6:Int32->Int->LX->LX->Gj)(Rt:Int->LX->Gj)(b:Int32)(f:Int)(g:LX)(h:Int)(a:LX):Gj:=
if(Ef h 0)then
(Ap a (Ao h 1)).bind λ_=>
(Ap a (Ao h 1)).bind λm=>
(Ap a h).bind λ_=>
(Nx a h m).bind λn=>
Rt (Ao h 1) n
else
j6 b f g a
def Kt(b:Int32)(f:Int)(g:LX):Nat->Int->LX->Gj
|0,_,_=>none
|q+1,h,a=>Wj MH (Kt b f g q) b f g h a
def lD b f g:=Kt b f g Au
def kG(j4:Int32->Int->LX->Int->LX->Gj)(f:Int)(g o:LX)(b:Int32):Gj:=
j4 b f g 15 o
def VK:=kG lD
def Zl(a:Int)(b f:LX)(g:Int32):Option (Int32×Int×LX×LX):=
(KQ a b f).bind λk=>
(Dm (Ad (Af g:Int) (Af k:Int))).bind λh=>
(TL a b f g).bind λ(m,n,o)=>
(VK m n o h).bind λ(p,u,v)=>
some (h,p,u,v)
def KS(b:Int32)(a:Int):Option Int32:=
(Lg (Ba a 0)).bind λ_=>
(Lg (Ba a 0)).bind λ_=>
if(Cl (Gc (Bg (Ao a 1) (Af b:Int)) a) 0)then
some (Af (Ao (Ca (Bg (Ao a 1) (Af b:Int)) a) 1):Int32)
else
some (Af (Ca (Bg (Ao a 1) (Af b:Int)) a):Int32)
def We:=KS
def IV(j2:Int32->Int->Option Int32)(f:Int)(b:Int32):Option Int32:=
if(geq f 5)then
j2 b 32
else
j2 b 16
def Uc:=IV We
def DE(b:Int)(a:Int32)(h:Int)(k m:LX):Option Int:=
if(geq b 8)then
(Uc 4 a).bind λf=>
some (Af f:Int)
else
(Uc 5 a).bind λg=>
some (Af g:Int)
def Zh(a:Int)(k:Int32)(b:Int)(f g:LX)(m:Int32):Option (Int32×Int×Int32×Int×LX×LX):=
(Zl b f g m).bind λ(n,o,p,u)=>
(DE a k b f g).bind λv=>
(Dm (Ad (Af n:Int) v)).bind λh=>
some (h,a,h,o,p,u)
def Wc(a:Int)(b:LX):Option Int:=
if((Cl a 1)||(Ef a 6))then
some 2
else
if(Ef (Ac b) 4000)then
some 4
else
(Lg (Ba a 0)).bind λ_=>
if(Ef (Gc (Ac b) a) 0)then
some 2
else
some 0
def gL(b:LX):Option (LX):=
some b
def fY:=gL
def Uz(j8:LX->Option (LX))(tP:Int->LX->Option (LX))(a:LX)(f:Int)(b:LX):Option (LX):=
if(Ml f 0)then
(Ap b (Ad f 1)).bind λ_=>
(Ap a f).bind λm=>
(Ap b (Ad f 1)).bind λn=>
(Dm (Ao (Af n:Int) (Af m:Int))).bind λo=>
(Ap b f).bind λ_=>
(Nx b f o).bind λp=>
tP (Ao f 1) p
else
j8 b
def Jl(a:LX):Nat->Int->LX->Option (LX)
|0,_,_=>none
|q+1,f,b=>Uz fY (Jl a q) a f b
def iH a:=Jl a Au
def HA(j6:LX->Int->LX->Option (LX))(a g:LX):Option (LX):=
j6 a (Ao (Ac a) 2) g
def Vd:=HA iH
def GK(j5:LX->LX->Option (LX))(a:LX):Option (LX):=
(mkI (Ac a) (0:Int32)).bind λk=>
(Lg (geq (Ac a) (Ac a))).bind λ_=>
(Ap a (Ao (Ac a) 1)).bind λu=>
(Ap k (Ao (Ac a) 1)).bind λ_=>
(Nx k (Ao (Ac a) 1) u).bind λh=>
if(Ef (Ac a) 1)then
(Ap a (Ao (Ac a) 1)).bind λv=>
(Ap a (Ao (Ac a) 2)).bind λw=>
(Dm (Ad (Af v:Int) (Ca (Af w:Int) 2))).bind λy=>
(Ap h (Ao (Ac a) 1)).bind λ_=>
(Nx h (Ao (Ac a) 1) y).bind λaa=>
j5 a aa
else
j5 a h
def AV:=GK Vd
abbrev Ie:=Option (LX×Int)
def qF(f:LX):Ie:=
some (f,0)
def qP:=qF
def SF(j6:LX->Ie)(Rt:Int->LX->Ie)(a:Int)(b:LX)(g:Int)(f:LX):Ie:=
if(Cl g (Ac b))then
(Bi b g (Ad g a)).bind λh=>
(AV h).bind λk=>
(Dy f k).bind λm=>
Rt (Ad g a) m
else
j6 f
def Sd(a:Int)(b:LX):Nat->Int->LX->Ie
|0,_,_=>none
|q+1,g,f=>SF qP (Sd a b q) a b g f
def qK a b:=Sd a b Au
def RG(j4:Int->LX->Int->LX->Ie)(a:Int)(b:LX):Ie:=
(Wc a b).bind λn=>
if(Ba n 0)then
(Wc a b).bind λo=>
some (([]:LX),o)
else
j4 a b 0 ([]:LX)
def MI:=RG qK
def GU(a f:Int)(w:LX):Option (LX):=
(MI a w).bind λ(aj,ai)=>
some aj
def Uy:=GU
def HN(Aij:Int->LX->Option (LX))(b:LU)(a f:Int)(g:LX)(h:Int)(m:LX):Option (LX):=
Aij (Ad h 1) m
def HH Aij:=HN Aij
def GM(Atn:Int->LX->Int->Int32->Int->LX->LX->Option (LX))(b:LU)(h a f:Int)(g:LX)(k:Int)(af:LX)(y:Int)(aa:Int32)(ab:Int)(ac ad:LX):Option (LX):=
Atn (Ad k a) af y aa ab ac ad
def HK Atn:=GM Atn
def HF(j30:Int->LX->Int->Int32->Int->LX->LX->Option (LX))(b:LU)(h a f:Int)(g:LX)(k:Int)(ae:Int32)(m:LX)(n:Int)(o:Int32)(p:Int)(u v:LX)(y:Int)(aa:Int32)(ab:Int)(ac ad:LX):Option (LX):=
(Ap m k).bind λ_=>
(Nx m k ae).bind λaf=>
j30 k af y aa ab ac ad
def GV Atn b h a f g:=HF (HK Atn b h a f g) b h a f g
def GZ(j29:Int->Int32->LX->Int->Int32->Int->LX->LX->Int->Int32->Int->LX->LX->Option (LX))(j32:Int->LX->Option (LX))(b:LU)(a f:Int)(g:LX)(h k:Int)(m:LX)(n:Int)(o:Int32)(p:Int)(u v:LX):Option (LX):=
if(Cl k (Ac b))then
(Ap b k).bind λah=>
(
(JQ ah).bind λag=>
(
(Zh n o p u v ag).bind λ(ae,y,aa,ab,ac,ad)=>
j29 k ae m n o p u v y aa ab ac ad))
else
j32 h m
def Nl(Aij:Int->LX->Option (LX))(b:LU)(a f:Int)(g:LX)(h:Int):Nat->Int->LX->Int->Int32->Int->LX->LX->Option (LX)
|0,_,_,_,_,_,_,_=>none
|q+1,k,m,n,o,p,u,v=>GZ (GV (Nl Aij b a f g h q) b h a f g) (HH Aij b a f g) b a f g h k m n o p u v
def GP Aij b a f g h:=Nl Aij b a f g h Au
def Uv(j26:Int->Int->LX->Int->Int32->Int->LX->LX->Option (LX))(j34:Int->Int->LX->Option (LX))(b:LU)(a f:Int)(g:LX)(h:Int)(w:LX):Option (LX):=
if(Cl h a)then
(fO f g).bind λ(ak,ai,al,am,an,aq)=>
j26 h h w ak ai al am an
else
j34 a f w
def Gw(b:LU)(a f:Int)(g:LX):Nat->Int->LX->Option (LX)
|0,_,_=>none
|q+1,h,w=>Uv (GP (Gw b a f g q) b a f g) Uy b a f g h w
def HM b a f g:=Gw b a f g Au
def MF(j18:LU->Int->Int->LX->Int->LX->Option (LX))(a f:Int)(g:LX)(b:LU):Option (LX):=
(mkI (Ac b) (0:Int32)).bind λao=>
(Lg (geq (Ac b) (Ac b))).bind λ_=>
j18 b a f g 0 ao
def Ty:=MF HM
def nV:Option Int:=
some 0
def nH:=nV
def Eb(j6:Option Int)(Rt:Int->Option Int)(a:LX)(b f:Int):Option Int:=
if(Cl f (Ac a))then
(Ap a f).bind λg=>
if(Cl (Af g:Int) (yP b))then
some 16
else
(Ap a f).bind λh=>
if(Ml (Af h:Int) b)then
some 16
else
Rt (Ad f 1)
else
j6
def Bj(a:LX)(b:Int):Nat->Int->Option Int
|0,_=>none
|q+1,f=>Eb nH (Bj a b q) a b f
def nL a b:=Bj a b Au
def Ik(j4:LX->Int->Int->Option Int)(k:Int)(a:LX):Option Int:=
(Kw k).bind λb=>
if(geq b 0)then
some 2
else
if(Ef (Ac a) 4000)then
some 4
else
j4 a b 0
def Bq:=Ik nL
def Tw(g f:Int)(a:LX):Option (LX×Int):=
(Bq f a).bind λb=>
if(Ba b 0)then
some (([]:LX),b)
else
some (a,0)
abbrev Yk:=Option (LX×Int)
def Hv(f a b:Int)(g:LX)(h:LU):Yk:=
if(Ba f 0)then
some (([]:LX),f)
else
(
(
(Ty a b g h).bind λm=>
(Tw a b m).bind λ(n,o)=>
some (n,o)))
def Ht:=Hv
def On(j2:Int->Int->Int->LX->LU->Yk)(a b:Int)(g:LX)(p:Int)(k:LB):Yk:=
(Jf a b p).bind λy=>
if(Ba y 0)then
some (([]:LX),2)
else
(Uf k).bind λaa=>
if(Ba aa 0)then
(Uf k).bind λab=>
some (([]:LX),ab)
else
(Bi k 0 (Ao (Ac k) 4)).bind λac=>
(IZ a p ac).bind λ(h,f)=>
j2 f a b g h
def Dh:=On Ht
def CB(a b:Int):Option (LB):=
if(geq a 24)then
(Dy ([(Af (Gc b 256):UInt8),(Af (Gc (Ca b 256) 256):UInt8)]:LB) ([(Af (Ca b 65536):UInt8)]:LB)).bind λg=>
some g
else
some ([(Af (Gc b 256):UInt8),(Af (Gc (Ca b 256) 256):UInt8)]:LB)
def Oa:=CB
def VG(j2:Int->Int->Option (LB))(a:Int)(f:Int32):Option (LB):=
if(geq a 8)then
some ([(Af (Ad (Af f:Int) 128):UInt8)]:LB)
else
if(Cl (Af f:Int) 0)then
(Kw a).bind λh=>
j2 a (Ad (Af f:Int) (Bg 2 h))
else
j2 a (Af f:Int)
def OX:=VG Oa
abbrev Hh:=Option (LB×Int)
def nM(b:LB):Hh:=
some (b,0)
def nT:=nM
def Ya(j6:LB->Hh)(Rt:Int->LB->Hh)(f:Int)(a:LX)(g:Int)(b:LB):Hh:=
if(Cl g (Ac a))then
(Ap a g).bind λh=>
(OX f h).bind λk=>
(Dy b k).bind λm=>
Rt (Ad g 1) m
else
j6 b
def Lm(f:Int)(a:LX):Nat->Int->LB->Hh
|0,_,_=>none
|q+1,g,b=>Ya nT (Lm f a q) f a g b
def nB f a:=Lm f a Au
def MV(j4:Int->LX->Int->LB->Hh)(f:Int)(a:LX):Hh:=
(Bq f a).bind λn=>
if(Ba n 0)then
(Bq f a).bind λo=>
some (([]:LB),o)
else
j4 f a 0 ([]:LB)
def Wp:=MV nB
abbrev Xv:=Option (LB×Int)
def Ek(o:LX)(f:Int)(p g:LB)(h k a m n:Int)(u:LI)(b:Int)(v:LB)(w:Bool)(y:Int):Xv:=
if(Ba f 0)then
some (([]:LB),f)
else
(Wp a o).bind λ(ac,ai)=>
some (ac,0)
def Ej:=Ek
def El(j2:LX->Int->LB->LB->Int->Int->Int->Int->Int->LI->Int->LB->Bool->Int->Xv)(p g:LB)(h k a m n:Int)(u:LI)(b:Int)(v:LB)(w:Bool)(y:Int):Xv:=
(Ap u b).bind λaa=>
if(Cl (Ac g) aa)then
some (([]:LB),(-1:Int))
else
(Ni p).bind λ(ad,aj)=>
(Bi g 0 aa).bind λae=>
(Fv h k a m n).bind λ(af,ag)=>
(Hm h k a m n).bind λab=>
(Ap ab b).bind λ_=>
(Ap ab b).bind λah=>
(Dh af ag ad ah ae).bind λ(o,f)=>
j2 o f p g h k a m n u b v w y
def Di:=El Ej
abbrev Oe:=Option (LB×LB×Int×Int×Int×Int×Int×LI×Int×LB×Bool×Int×Int)
def Bv(g a:LB)(m o p u v:Int)(b:LI)(f:Int)(n:LB)(h:Bool)(k:Int):Oe:=
if(geq (Ac b) 0)then
(Ey a m o p u v g).bind λ(ag,ak,w)=>
if(Ba w 0)then
some (g,a,m,o,p,u,v,b,f,n,h,k,w)
else
(Bi a ag (Ac a)).bind λal=>
some (g,al,m,o,p,u,v,ak,f,n,h,k,0)
else
if(geq f (Ac b))then
if(Ef (Ac a) 4000)then
some (g,a,m,o,p,u,v,b,f,n,h,k,38)
else
some (g,a,m,o,p,u,v,b,f,n,h,k,(-1:Int))
else
(Di g a m o p u v b f n h k).bind λ(am,y)=>
if(Ba y 0)then
some (g,a,m,o,p,u,v,b,f,n,h,k,y)
else
(Dy ([]:LB) n).bind λan=>
(Dy an am).bind λah=>
(
(
(
(Ap b f).bind λad=>
(
(Bi a ad (Ac a)).bind λae=>
some (g,ae,m,o,p,u,v,b,(Ad f 1),ah,h,k,0)))))
def Bw:=Bv
def Ha(g af:LB)(aa w ab ac y:Int)(b:LI)(f:Int)(n:LB)(h:Bool)(k:Int):Oe:=
(Et aa w ab ac y g).bind λaw=>
some (g,af,aa,w,ab,ac,y,b,f,n,h,k,aw)
def Hk:=Ha
def Bp(j3:LB->LB->Int->Int->Int->Int->Int->LI->Int->LB->Bool->Int->Oe)(j4:LB->LB->Int->Int->Int->Int->Int->LI->Int->LB->Bool->Int->Oe)(g a:LB)(m o p u v:Int)(b:LI)(f:Int)(n:LB)(h:Bool)(k:Int):Oe:=
if(geq m 0)then
(AO a).bind λ(ag,aa,w,ab,ac,y,ai)=>
if(Ba ai 0)then
some (g,a,m,o,p,u,v,b,f,n,h,k,ai)
else
(
(Bi a ag (Ac a)).bind λaf=>
(
j3 g af aa w ab ac y b f n h k))
else
j4 g a m o p u v b f n h k
def Ag:=Bp Hk Bw
def Xt(o p:LB)(b f g h k:Int)(m:LI)(a:Int)(n:LB)(u:Bool)(v:Int):Option Bool:=
(Ag o p b f g h k m a n u v).bind λ(af,ag,ah,ai,aj,ak,al,am,an,ao,ap,aq,w)=>
some (geq w (-1:Int))
def Cu:=Xt
def Qu(j4:LB->LB->Int->Int->Int->Int->Int->LI->Int->LB->Bool->Int->Option Bool)(o p:LB)(b f g h k:Int)(m:LI)(a:Int)(n:LB)(u:Bool)(v:Int):Option Bool:=
if(geq (Ac m) 0)then
if((Ba a 0)||(Ef (Ac n) 0))then
some false
else
j4 o p b f g h k m a n u v
else
(Jg m).bind λy=>
if(Ba y 0)then
if((true||(Cl a 0))||(Ef a (Ac m)))then
some false
else
(Yy b f g h k a).bind λaa=>
if(Ef (Ac n) aa)then
some false
else
j4 o p b f g h k m a n u v
else
(Hm b f g h k).bind λab=>
if(((Ba (Ac m) (Ac ab))||(Cl a 0))||(Ef a (Ac m)))then
some false
else
(Yy b f g h k a).bind λac=>
if(Ef (Ac n) ac)then
some false
else
j4 o p b f g h k m a n u v
def Qx:=Qu Cu
def Yf(j4:LB->LB->Int->Int->Int->Int->Int->LI->Int->LB->Bool->Int->Option Bool)(j3:LB->LB->Int->Int->Int->Int->Int->LI->Int->LB->Bool->Int->Option Bool)(o p:LB)(b f g h k:Int)(m:LI)(a:Int)(n:LB)(u:Bool)(v:Int):Option Bool:=
if((geq b 0)&&((geq f 0)&&((geq g 0)&&((geq h 0)&&((geq k 0)&&true)))))then
if(((Ef (Ac m) 0)||(Ba a 0))||(Ef (Ac n) 0))then
some false
else
j4 o p b f g h k m a n u v
else
(Mj b f g h k).bind λad=>
if(Ba ad 0)then
some false
else
(Et b f g h k o).bind λae=>
if(Ba ae 0)then
some false
else
j3 o p b f g h k m a n u v
def Mm:=Yf Cu Qx
def Zi(a:Int):Option Bool:=
some (((((((geq a 4)||(geq a 12))||(geq a 16))||(geq a 22))||(geq a 24))||(geq a 26))||(geq a 38))
def Ea(h k:LB)(m n o p u:Int)(v:LI)(f:Int)(g:LB)(b:Bool)(a:Int):Option Int:=
if(Ef (Ac h) 64)then
some 8
else
if((geq a 0)&&(!b))then
(Mm h k m n o p u v f g b a).bind λw=>
if(!w)then
some 8
else
some 0
else
if((geq (Ac k) 0)&&(geq (Ac v) 0))then
if((!(((geq m 0)&&((geq n 0)&&((geq o 0)&&((geq p 0)&&((geq u 0)&&true)))))&&(geq f 0)))||(Ef (Ac g) 12000))then
some 8
else
if(Ba a 0)then
if b then
some 8
else
(Zi a).bind λy=>
if(!y)then
some 8
else
some 0
else
some 0
else
if((!(false&&(geq f 0)))||(Ef (Ac g) 12000))then
some 8
else
if(Ba a 0)then
if b then
some 8
else
(Zi a).bind λaa=>
if(!aa)then
some 8
else
some 0
else
some 0
abbrev CN:=Option (LB×LB×Int×Int×Int×Int×Int×LI×Int×LB×Bool×Int)
def SG(f:LB)(g h k m n:Int)(o:LI)(p:Int)(u:Bool)(v:Int)(a b:LB):CN:=
(Dy ([]:LI) o).bind λaf=>
some (f,a,g,h,k,m,n,af,p,b,u,v)
def TM:=SG
def SO(j2:LB->Int->Int->Int->Int->Int->LI->Int->Bool->Int->LB->LB->CN)(f w:LB)(g h k m n:Int)(o:LI)(p:Int)(y:LB)(u:Bool)(v:Int):CN:=
(
(
(
(Dy ([]:LB) w).bind λa=>
(
(Dy ([]:LB) y).bind λb=>
j2 f g h k m n o p u v a b))))
def Za:=SO TM
def Sf(f g:LB)(h k m n o:Int)(p:LI)(u:Int)(v:LB)(b:Bool)(a:Int):Option Int:=
if(Ba a 0)then
some a
else
if b then
some 36
else
some 0
def bT(a m:LB)(n o p u v:Int)(w:LI)(y:Int)(b:LB)(aa:Bool)(ab:Int):Option (LB×LB×Int×Int×Int×Int×Int×LI×Int×LB×Bool×Int):=
(
(
(Dy ([]:LB) b).bind λf=>
some (a,([]:LB),0,0,0,0,0,([]:LI),0,f,false,0)))
def CI(b f:LB)(g h k m n:Int)(o:LI)(p:Int)(u:LB)(v:Bool)(w a:Int):Option (LB×LB×Int×Int×Int×Int×Int×LI×Int×LB×Bool×Int×Int):=
(bT b f g h k m n o p u v w).bind λ(y,aa,ab,ac,ad,ae,af,ag,ah,ai,aj,ak)=>
some (y,aa,ab,ac,ad,ae,af,ag,ah,ai,aj,a,a)
abbrev Oi:=Option (LB×LB×Int×Int×Int×Int×Int×LI×Int×LB×Bool×Int×Int)
def Cq(bk3:LB->LB->Int->Int->Int->Int->Int->LI->Int->LB->Bool->Int->Oi)(a b:LB)(f g h k m:Int)(n:LI)(o:Int)(p:LB)(u:Bool)(v:Int):Oi:=
(Ag a b f g h k m n o p u v).bind λ(bb,bc,bd,be,bf,bg,bh,bi,bj,bk,bl,bm,w)=>
if(geq w (-1:Int))then
(Za a b f g h k m n o p u v).bind λ(bn,bp,bq,br,bs,bt,bu,bv,bw,bx,bz,da)=>
some (bn,bp,bq,br,bs,bt,bu,bv,bw,bx,bz,da,0)
else
if(Ba w 0)then
(CI a b f g h k m n o p u v w).bind λ(db,dc,dd,de,df,dg,dh,di,dj,dk,dl,dm,dn)=>
some (db,dc,dd,de,df,dg,dh,di,dj,dk,dl,dm,dn)
else
bk3 bb bc bd be bf bg bh bi bj bk bl bm
def Bf:Nat->LB->LB->Int->Int->Int->Int->Int->LI->Int->LB->Bool->Int->Oi
|0,_,_,_,_,_,_,_,_,_,_,_,_=>none
|q+1,a,b,f,g,h,k,m,n,o,p,u,v=>Cq (Bf q) a b f g h k m n o p u v
def oV:=Bf Au
def Sk(j3:LB->LB->Int->Int->Int->Int->Int->LI->Int->LB->Bool->Int->Oi)(al am:LB)(an ao ap aq ar:Int)(au:LI)(av:Int)(aw:LB)(ax:Bool)(ay:Int)(dp:LB):Oi:=
(Ea al am an ao ap aq ar au av aw ax ay).bind λaz=>
if(Ba az 0)then
some (([]:LB),([]:LB),0,0,0,0,0,([]:LI),0,([]:LB),false,0,az)
else
(Za al am an ao ap aq ar au av aw ax ay).bind λ(y,aa,ab,ac,ad,ae,af,ag,ah,ai,aj,ak)=>
(Sf y aa ab ac ad ae af ag ah ai aj ak).bind λba=>
if(Ba ba 0)then
some (y,aa,ab,ac,ad,ae,af,ag,ah,ai,aj,ak,ba)
else
(Dy aa dp).bind λdq=>
j3 y dq ab ac ad ae af ag ah ai aj ak
def Jz:=Sk oV
abbrev Hy:=Option (Int×Int)
def Zm(a:LB)(f g:Int)(b h:LB)(k:Int):Hy:=
if(Cl (Ac a) k)then
some (0,24)
else
if(b==h)then
(Bi a (Ao (Ac a) k) (Ad (Ao (Ac a) k) 32)).bind λo=>
(Yl f g).bind λp=>
if(o !=p)then
some (0,12)
else
some (k,0)
else
some (k,0)
def AL:=Zm
def Zz(j6:LB->Int->Int->LB->LB->Int->Hy)(a:LB)(f g:Int)(b h:LB):Hy:=
if(b==h)then
j6 a f g b h (Ad (Ad 32 f) 32)
else
j6 a f g b h (Ad 32 f)
def AM:=Zz AL
def SP(j5:LB->Int->Int->LB->LB->Hy)(a:LB):Hy:=
(Bi a (Ao (Ac a) 32) (Ac a)).bind λb=>
(Yx b).bind λ(f,g,n)=>
if(!n)then
some (0,12)
else
(Nj f g true).bind λh=>
(
if(!(b==h))then
(Nj f g false).bind λm=>
if(b !=m)then
some (0,12)
else
j5 a f g b h
else
j5 a f g b h)
def SI:=SP AM
def TH(j4:LB->Hy)(a:LB):Hy:=
if(Cl (Ac a) 32)then
some (0,6)
else
(Bi a (Ao (Ac a) 32) (Ad (Ao (Ac a) 32) 8)).bind λu=>
if(u !=([65,80,69,84,65,71,69,88]:LB))then
some (0,6)
else
j4 a
def JZ:=TH SI
abbrev Gm:=Option (Int×Int)
def lP(a:Int):Gm:=
some (a,0)
def kT:=lP
def IY(j6:Int->Gm)(Rt:LB->Int->Gm)(b:LB)(a:Int):Gm:=
if(Ef (Ac b) 0)then
(JZ b).bind λ(g,h)=>
if(Ba h 0)then
some (0,38)
else
(Bi b 0 (Ao (Ac b) g)).bind λk=>
Rt k (Ad a 1)
else
j6 a
def Ot:Nat->LB->Int->Gm
|0,_,_=>none
|q+1,b,a=>IY kT (Ot q) b a
def jH:=Ot Au
def JM(j4:LB->Int->Gm)(f:LB):Gm:=
if(Ef (Ac f) 4000)then
some (0,38)
else
j4 f 0
def Tt:=JM jH
def Da(p a:LB)(g u v w y:Int)(b:LI)(h:Int)(aa:LB)(ab:Bool)(ac:Int):Option Int:=
if(geq g 0)then
(Mk a).bind λ(k,f)=>
if(Ba f 0)then
some f
else
(Bi a k (Ac a)).bind λm=>
(Nk m).bind λ(ad,ae,af,ag,ah,n)=>
some n
else
if((geq (Ac b) 0)||(Cl h (Ac b)))then
some 24
else
(Tt a).bind λ(ai,o)=>
if(Ba o 0)then
some 38
else
some 0
abbrev dU:=Option (Int×Int×Int×Int×Int×Int×LI×Int)
def pR(a:LB)(b f g h k n:Int):dU:=
(Dk b f g h k).bind λ(ab,p)=>
if(Ba p 0)then
some (0,0,0,0,0,0,([]:LI),p)
else
(Bi a n (Ac a)).bind λac=>
(GD ac (Ac ab)).bind λ(u,v)=>
if(Ba v 0)then
some (0,0,0,0,0,0,([]:LI),v)
else
some (b,f,g,h,k,(Ad (Ad n (Bg 4 (Ac u))) 4),u,0)
def Qn:=pR
def Ui(j2:LB->Int->Int->Int->Int->Int->Int->dU)(a o:LB):dU:=
if(Ef (Ac o) 64)then
some (0,0,0,0,0,0,([]:LI),2)
else
if(Ef (Ac a) 100000)then
some (0,0,0,0,0,0,([]:LI),4)
else
(Ih a).bind λ(m,w)=>
if(Ba w 0)then
some (0,0,0,0,0,0,([]:LI),w)
else
(Bi a m (Ac a)).bind λad=>
(Ld ad).bind λ(b,f,g,h,k,y)=>
if(Ba y 0)then
some (0,0,0,0,0,0,([]:LI),y)
else
if((o==([]:LB)) !=(geq b 1))then
some (0,0,0,0,0,0,([]:LI),26)
else
if(o !=([]:LB))then
if(Cl (Ac a) (Ad (Ad m 22) 8))then
some (0,0,0,0,0,0,([]:LI),24)
else
(Bi a (Ad m 22) (Ad (Ad m 22) 8)).bind λae=>
(Om ae o).bind λ(af,aa)=>
if(Ba aa 0)then
some (0,0,0,0,0,0,([]:LI),aa)
else
if(!af)then
some (0,0,0,0,0,0,([]:LI),26)
else
j2 a b f g h k (Ad (Ad m 22) 8)
else
j2 a b f g h k (Ad m 22)
def Cw:=Ui Qn
abbrev Lq:=Option (Int×Int×Int×Int×Int×Int×LI×Int)
def LA(m n b h k f g:Int)(o:LI):Lq:=
if(Ba n 0)then
some (0,0,0,0,0,0,([]:LI),n)
else
some (b,h,k,f,g,(Ad (Ad m (Bg 4 (Ac o))) 4),o,0)
def IE:=LA
def HV(j4:Int->Int->Int->Int->Int->Int->Int->LI->Lq)(a:LB)(b h k f g m:Int):Lq:=
(Bi a m (Ac a)).bind λy=>
(Fq f g).bind λaa=>
(Sa y (Ac aa)).bind λ(o,n)=>
j4 m n b h k f g o
def Oq:=HV IE
def Wu(j3:LB->Int->Int->Int->Int->Int->Int->Lq)(a u:LB):Lq:=
if(Ef (Ac a) 100000)then
some (0,0,0,0,0,0,([]:LI),4)
else
(Mk a).bind λ(p,v)=>
if(Ba v 0)then
some (0,0,0,0,0,0,([]:LI),v)
else
(Bi a p (Ac a)).bind λab=>
(Nk ab).bind λ(b,h,k,f,g,w)=>
if(Ba w 0)then
some (0,0,0,0,0,0,([]:LI),w)
else
if((u==([]:LB)) !=(geq b 1))then
some (0,0,0,0,0,0,([]:LI),26)
else
if(geq b 2)then
if(Cl (Ao (Ac a) (Ad p 22)) 8)then
some (0,0,0,0,0,0,([]:LI),24)
else
(Bi a (Ad p 22) (Ad (Ad p 22) 8)).bind λac=>
(Mx u).bind λad=>
if(ac !=ad)then
some (0,0,0,0,0,0,([]:LI),26)
else
j3 a b h k f g (Ad (Ad p 22) 8)
else
j3 a b h k f g (Ad p 22)
def Ez:=Wu Oq
abbrev Iz:=Option (LI×Int)
def wQ(f:LI):Iz:=
some (f,0)
def xC:=wQ
def fU(tP:Int->Int->LI->Iz)(a:LI)(b g h:Int)(k:LI):Iz:=
tP (Ad b 1) (Ad g h) k
def gK tP:=fU tP
def QB(j8:Int->Int->Int->LI->Iz)(j10:LI->Iz)(a:LI)(b g:Int)(f:LI):Iz:=
if(Cl b (Ac a))then
(Ap a b).bind λh=>
(Dy f ([(Ad g h)]:LI)).bind λk=>
j8 b g h k
else
j10 f
def Up(a:LI):Nat->Int->Int->LI->Iz
|0,_,_,_=>none
|q+1,b,g,f=>QB (gK (Up a q) a) xC a b g f
def Abc a:=Up a Au
def gM(j6:LI->Int->Int->LI->Iz)(a:LI):Iz:=
(Pa a).bind λm=>
if(Ba m 0)then
some (([]:LI),m)
else
j6 a 0 0 ([(0:Int)]:LI)
def dF:=gM Abc
abbrev Fy:=Option (LB×Int)
def Acv(a ac:Int):Fy:=
if(Ba ac 0)then
some (([]:LB),ac)
else
if((Cl a 0)||(Ml a 0))then
some (([]:LB),2)
else
none
def Acx:=Acv
def Aal(ad:Int)(ae:LB):Fy:=
some (ae,ad)
def fM:=Aal
def mG(j10:Int->LB->Fy)(w a h b:Int)(aa:LX)(n o p k:Int)(m:LB)(u:LX)(v f g:LI):Fy:=
if(Ba w 0)then
j10 w ([]:LB)
else
(Lf b aa).bind λ(ak,al)=>
j10 al ak
def mB:=mG fM
def lW(j10:Int->LB->Fy)(j9:Int->Int->Int->Int->LX->Int->Int->Int->Int->LB->LX->LI->LI->LI->Fy)(a k ab y:Int)(m:LB)(h b:Int)(u:LX)(n o p:Int)(g v f:LI):Fy:=
if(Ef (Ad k y) (Ac m))then
j10 24 ([]:LB)
else
(Ap g a).bind λ_=>
(Bi m (Ad k ab) (Ad k y)).bind λam=>
(Ap g a).bind λan=>
(Iq h b u an am).bind λ(aa,w)=>
j9 w a h b aa n o p k m u v f g
def mM:=lW fM mB
def mK(j8:Int->Int->Int->Int->LB->Int->Int->LX->Int->Int->Int->LI->LI->LI->Fy)(a:Int)(g:LI)(n h b o p k:Int)(m:LB)(u:LX)(v f:LI):Fy:=
if(Ba (0:Int) (0:Int))then
some (([]:LB),0)
else
if((Cl a 0)||(Ml a (Ac g)))then
some (([]:LB),2)
else
(Ap f a).bind λ_=>
(Ap f (Ad a 1)).bind λ_=>
(Ap f a).bind λab=>
(Ap f (Ad a 1)).bind λy=>
j8 a k ab y m h b u n o p g v f
def EH:=mK mM
def mI(j6:Int->Int->Fy)(j7:Int->LI->Int->Int->Int->Int->Int->Int->LB->LX->LI->LI->Fy)(m af:LB)(a:Int):Fy:=
(Cw m af).bind λ(n,h,b,o,p,k,v,ag)=>
if(Ba ag 0)then
j6 a ag
else
(Dk n h b o p).bind λ(g,ah)=>
if(Ba ah 0)then
j6 a ah
else
(dF v).bind λ(f,ai)=>
if(Ba ai 0)then
j6 a ai
else
(Rr af).bind λ(u,aj)=>
if(Ba aj 0)then
j6 a aj
else
(Ap f (Ac g)).bind λ_=>
(Ap f (Ac g)).bind λao=>
j7 a g n h b o p k m u v f
def WJ:=mI Acx EH
def nU(a:Int):Option Int:=
some a
def nQ:=nU
def Yd(j6:Int->Option Int)(Rt:Int->Int->Option Int)(b h k m n o f:Int)(g:LI)(a p:Int):Option Int:=
if(Cl p b)then
(Ap g p).bind λu=>
Rt (Ad a u) (Ad p 1)
else
j6 a
def Ln(b h k m n o f:Int)(g:LI):Nat->Int->Int->Option Int
|0,_,_=>none
|q+1,a,p=>Yd nQ (Ln b h k m n o f g q) b h k m n o f g a p
def nJ b h k m n o f g:=Ln b h k m n o f g Au
def nP(j4:Int->Int->Int->Int->Int->Int->Int->LI->Int->Int->Option Int)(h k m n o f:Int)(g:LI)(b:Int):Option Int:=
j4 b h k m n o f g f 0
def XN:=nP nJ
abbrev FJ:=Option (LB×Int)
def DA(p:LX)(m n g b h k o:Int)(a:LI):FJ:=
if(Ba m 0)then
some (([]:LB),m)
else
(Wp b p).bind λ(af,ai)=>
some (af,0)
def CY:=DA
def CG(j2:LX->Int->Int->Int->Int->Int->Int->Int->LI->FJ)(v y:LB)(n g b h k o:Int)(a:LI)(f:Int):FJ:=
(XN n g b h k o a f).bind λu=>
(Ap a f).bind λaa=>
if(Cl (Ao (Ac v) u) aa)then
some (([]:LB),24)
else
(Ni y).bind λ(ab,ag)=>
(Ap a f).bind λac=>
(Bi v u (Ad u ac)).bind λad=>
(
(Fq h k).bind λw=>
(Ap w f).bind λ_=>
(Ap w f).bind λae=>
(Dh g b ab ae ad).bind λ(p,m)=>
j2 p m n g b h k o a)
def Mc:=CG CY
def Abx(f:LB):Option (Int×Int×Int×Int×Int×Int×Int×Int×Int×Int×LI×Int):=
if(Ef (Ac f) 100000)then
some (0,0,0,0,0,0,0,0,0,0,([]:LI),4)
else
(Ih f).bind λ(a,n)=>
if(Ba n 0)then
some (0,0,0,0,0,0,0,0,0,0,([]:LI),n)
else
(Bi f a (Ac f)).bind λu=>
(Ld u).bind λ(b,g,h,k,m,o)=>
if(Ba o 0)then
some (b,g,h,k,m,0,0,0,0,0,([]:LI),o)
else
(Dk b g h k m).bind λ(p,v)=>
if(geq b 2)then
some (b,g,h,k,m,a,(Ad a 22),(Ad (Ad a 22) 8),0,0,p,0)
else
some (b,g,h,k,m,a,(Ad a 22),(Ad a 22),0,0,p,0)
abbrev Cj:=Option (Int×Int×Int×LX×Int)
def rJ(a:LB)(aa b f h:Int)(ad:LX):Cj:=
(Bi a aa (Ac a)).bind λaq=>
(KZ aq).bind λ(bb,ar)=>
if(Ba ar 0)then
some (0,0,0,([]:LX),38)
else
some (b,f,h,ad,0)
def rF:=rJ
def qV(Atl:Int->Int->LX->Cj)(a:LB)(w:LI)(m b f h o p n g y ab:Int)(ac:LX)(k:LI)(aa aj ak ae:Int)(am ad:LX):Cj:=
if(Ba ak 0)then
some (0,0,0,([]:LX),ak)
else
(Dy ad am).bind λau=>
Atl (Ad aa aj) (Ad ae 1) au
def oP Atl:=qV Atl
def aS(j24:Int->Int->Int->Int->LX->LX->Cj)(j26:LB->Int->Int->Int->Int->LX->Cj)(a:LB)(w:LI)(m b f h o p n g y ab:Int)(ac:LX)(k:LI)(aa ae:Int)(ad:LX):Cj:=
if(Cl ae (Ac w))then
(Ap w ae).bind λ_=>
(Ap w ae).bind λaj=>
if(Cl (Ac a) (Ad aa aj))then
some (0,0,0,([]:LX),24)
else
(Ap k ae).bind λ_=>
(Bi a aa (Ad aa aj)).bind λav=>
(Ap k ae).bind λaw=>
(Iq b f ac aw av).bind λ(am,ak)=>
j24 aa aj ak ae am ad
else
j26 a aa b f h ad
def Zr(a:LB)(w:LI)(m b f h o p n g y ab:Int)(ac:LX)(k:LI):Nat->Int->Int->LX->Cj
|0,_,_,_=>none
|q+1,aa,ae,ad=>aS (oP (Zr a w m b f h o p n g y ab ac k q) a w m b f h o p n g y ab ac k) rF a w m b f h o p n g y ab ac k aa ae ad
def Afq a w m b f h o p n g y ab ac k:=Zr a w m b f h o p n g y ab ac k Au
def YI(j21:LB->LI->Int->Int->Int->Int->Int->Int->Int->Int->Int->Int->LX->LI->Int->Int->LX->Cj)(a u:LB)(m b f h o p n g:Int)(k:LI)(an y ab:Int)(w:LI):Cj:=
if(Ba an 0)then
some (0,0,0,([]:LX),an)
else
(Rr u).bind λ(ac,bc)=>
j21 a w m b f h o p n g y ab ac k y 0 ([]:LX)
def Um:=YI Afq
def pI(j20:LB->LB->Int->Int->Int->Int->Int->Int->Int->Int->LI->Int->Int->Int->LI->Cj)(a u:LB)(v:LI)(m b f h o p n g af:Int)(k:LI):Cj:=
j20 a u m b f h o p n g k 0 (Ad (Ad g (Bg 4 (Ac v))) 4) af v
def XP:=pI Um
def aJ(j19:LB->LB->LI->Int->Int->Int->Int->Int->Int->Int->Int->Int->LI->Cj)(Bjt:Int->Int->Cj)(v:LI)(a u:LB)(m b f h o p n g:Int)(k:LI)(ag af:Int):Cj:=
if(Cl ag (Ac v))then
(Ap v ag).bind λ_=>
(Ap v ag).bind λax=>
Bjt (Ad ag 1) (Ad af ax)
else
j19 a u v m b f h o p n g af k
def AN(v:LI)(a u:LB)(m b f h o p n g:Int)(k:LI):Nat->Int->Int->Cj
|0,_,_=>none
|q+1,ag,af=>aJ XP (AN v a u m b f h o p n g k q) v a u m b f h o p n g k ag af
def pS v a u m b f h o p n g k:=AN v a u m b f h o p n g k Au
def bA(j20:LB->LB->Int->Int->Int->Int->Int->Int->Int->Int->LI->Int->Int->Int->LI->Cj)(j17:LI->LB->LB->Int->Int->Int->Int->Int->Int->Int->Int->LI->Int->Int->Cj)(al:Int)(a u:LB)(m b f h o p n g ah ai:Int)(v k:LI):Cj:=
if(Ba al 0)then
j20 a u m b f h o p n g k al ah ai ([]:LI)
else
j17 v a u m b f h o p n g k 0 (Ad (Ad g (Bg 4 (Ac v))) 4)
def ZO:=bA Um pS
def rH(j20:LB->LB->Int->Int->Int->Int->Int->Int->Int->Int->LI->Int->Int->Int->LI->Cj)(j16:Int->LB->LB->Int->Int->Int->Int->Int->Int->Int->Int->Int->Int->LI->LI->Cj)(a u:LB)(m b f h o p n g ah ai:Int)(k:LI):Cj:=
if(Cl (Ac a) g)then
j20 a u m b f h o p n g k 24 ah ai ([]:LI)
else
(Bi a g (Ac a)).bind λay=>
(GD ay (Ac k)).bind λ(v,al)=>
j16 al a u m b f h o p n g ah ai v k
def KF:=rH Um ZO
def ZI(j15:LB->LB->Int->Int->Int->Int->Int->Int->Int->Int->Int->Int->LI->Cj)(a u:LB)(m b f h o p n g ah ai:Int)(k:LI)(ao:Int):Cj:=
if(Ba ao 0)then
some (0,0,0,([]:LX),ao)
else
j15 a u m b f h o p n g ah ai k
def AQ:=ZI KF
def uG(j14:LB->LB->Int->Int->Int->Int->Int->Int->Int->Int->Int->Int->LI->Int->Cj)(a u:LB):Cj:=
if(Ef (Ac u) 64)then
some (0,0,0,([]:LX),2)
else
(Abx a).bind λ(m,b,f,h,o,p,n,g,ah,ai,k,ap)=>
if(Ba ap 0)then
some (0,0,0,([]:LX),ap)
else
if((u==([]:LB)) !=(geq m 1))then
j14 a u m b f h o p n g ah ai k 26
else
if(geq m 1)then
j14 a u m b f h o p n g ah ai k 0
else
if(Cl (Ac a) g)then
j14 a u m b f h o p n g ah ai k 24
else
(Bi a n g).bind λaz=>
(Om az u).bind λ(ba,bd)=>
if(!ba)then
j14 a u m b f h o p n g ah ai k 26
else
j14 a u m b f h o p n g ah ai k 0
def Tf:=uG AQ
def aB(a:LB):Option (Int×Int×Int×Int×Int×Int×Int):=
if(Ef (Ac a) 100000)then
some (0,0,0,0,0,0,4)
else
(Mk a).bind λ(b,f)=>
if(Ba f 0)then
some (0,0,0,0,0,0,f)
else
(Bi a b (Ac a)).bind λg=>
(Nk g).bind λ(h,k,m,n,o,p)=>
some (b,h,k,m,n,o,p)
def VQ(f:LB)(a g m n o p:Int)(b:LB):Option (Int×Int):=
if((b==([]:LB)) !=(geq g 1))then
some (0,26)
else
if(b==([]:LB))then
some (a,0)
else
if(Cl (Ac f) (Ad a 8))then
some (0,24)
else
(Bi f a (Ad a 8)).bind λh=>
(Mx b).bind λk=>
if(h !=k)then
some (0,26)
else
some ((Ad a 8),0)
def FF(a:LB)(b o p u f g:Int):Option (LI×Int):=
(Bi a b (Ac a)).bind λh=>
(Fq f g).bind λk=>
(Sa h (Ac k)).bind λ(m,n)=>
some (m,n)
abbrev Ex:=Option (Int×Int×Int×LX×Int)
def MR(a:LB)(n b f g:Int)(v:LX):Ex:=
(Bi a n (Ac a)).bind λaf=>
(Tt af).bind λ(ao,ag)=>
if(Ba ag 0)then
some (0,0,0,([]:LX),38)
else
some (b,f,g,v,0)
def NQ:=MR
def NL(bk7:Int->Int->LX->Ex)(a:LB)(o b f g k:Int)(h p:LI)(u:LX)(n m:Int)(y:LX)(w:Int)(v:LX):Ex:=
if(Ba w 0)then
some (0,0,0,([]:LX),w)
else
(Dy v y).bind λah=>
(Ap h m).bind λ_=>
(Ap h m).bind λai=>
bk7 (Ad n ai) (Ad m 1) ah
def NF bk7:=NL bk7
def Zo(j10:Int->Int->LX->Int->LX->Ex)(j12:LB->Int->Int->Int->Int->LX->Ex)(a:LB)(o b f g k:Int)(h p:LI)(u:LX)(n m:Int)(v:LX):Ex:=
if(Cl m (Ac h))then
(Ap h m).bind λ_=>
(Ap h m).bind λaj=>
if(Cl (Ao (Ac a) n) aj)then
some (0,0,0,([]:LX),24)
else
(Ap p m).bind λ_=>
(Ap h m).bind λ_=>
(Ap p m).bind λak=>
(Ap h m).bind λal=>
(Bi a n (Ad n al)).bind λam=>
(Dh b f u ak am).bind λ(y,w)=>
j10 n m y w v
else
j12 a n b f g v
def Nc(a:LB)(o b f g k:Int)(h p:LI)(u:LX):Nat->Int->Int->LX->Ex
|0,_,_,_=>none
|q+1,n,m,v=>Zo (NF (Nc a o b f g k h p u q) a o b f g k h p u) NQ a o b f g k h p u n m v
def SX a o b f g k h p u:=Nc a o b f g k h p u Au
def RU(j7:LB->Int->Int->Int->Int->Int->LI->LI->LX->Int->Int->LX->Ex)(a aa:LB):Ex:=
if(Ef (Ac aa) 64)then
some (0,0,0,([]:LX),2)
else
(aB a).bind λ(an,o,b,f,g,k,ab)=>
if(Ba ab 0)then
some (0,0,0,([]:LX),ab)
else
(VQ a (Ad an 22) o b f g k aa).bind λ(ac,ad)=>
if(Ba ad 0)then
some (0,0,0,([]:LX),ad)
else
(FF a ac o b f g k).bind λ(h,ae)=>
if(Ba ae 0)then
some (0,0,0,([]:LX),ae)
else
(Fq g k).bind λp=>
(Ni aa).bind λ(u,ap)=>
j7 a o b f g k h p u (Ad ac (Ad (Bg 4 (Ac h)) 4)) 0 ([]:LX)
def Jy:=RU SX
def SJ(a b:LB):Option Int:=
(Tf a b).bind λ(g,h,k,m,f)=>
some f
def Amm(a n:LB)(b:Int):Option UInt8:=
if(Ef (Ac a) 100000)then
some 0
else
(Ih a).bind λ(f,g)=>
if(Ba g 0)then
some 1
else
(Bi a f (Ac a)).bind λh=>
(Ld h).bind λ(k,o,p,u,v,m)=>
if(Ba m 0)then
some 2
else
if(geq b 26)then
if(geq b 26)then
some 3
else
some 4
else
if((geq k 2)&&(Cl (Ao (Ac a) f) 30))then
some 3
else
some 4
abbrev To:=Option (Int×Int)
def pN(k f a b g h:Int):To:=
some ((Ca (Bg (Bg k a) b) 8),0)
def pG:=pN
def YN(j6:Int->Int->Int->Int->Int->Int->To)(Rt:Int->Int->To)(n f a b g h:Int)(m:LI)(k o:Int):To:=
if(Cl o n)then
(Ap m o).bind λ_=>
(Ap m o).bind λp=>
Rt (Ad k p) (Ad o 1)
else
j6 k f a b g h
def Zp(n f a b g h:Int)(m:LI):Nat->Int->Int->To
|0,_,_=>none
|q+1,k,o=>YN pG (Zp n f a b g h m q) n f a b g h m k o
def Ahx n f a b g h m:=Zp n f a b g h m Au
def oT(j4:Int->Int->Int->Int->Int->Int->LI->Int->Int->To)(f a b g h n:Int):To:=
(Dk f a b g h).bind λ(m,u)=>
if((Ba u 0)||(Ef n (Ac m)))then
some (0,8)
else
j4 n f a b g h m 0 0
def pV:=oT Ahx
abbrev Mr:=Option (Int×UInt8×Int×Int×Int)
def YU(b f g h k m n:Int)(a:LI)(w:Int)(y:UInt8)(aa:Int):Mr:=
(pV f g h k m w).bind λ(ac,ad)=>
some (b,y,aa,ac,ad)
def ZS:=YU
def aQ(j8:Int->Int->Int->Int->Int->Int->Int->LI->Int->UInt8->Int->Mr)(tP:Int->Mr)(p o:LB)(a:LI)(b:Int)(u:UInt8)(f g h k m n v:Int):Mr:=
if(Cl v (Ac a))then
if(geq b 0)then
j8 b f g h k m n a (Ac a) u 0
else
(WJ p o v).bind λ(ag,ae)=>
if(Ba ae 0)then
j8 b f g h k m n a v 5 v
else
tP (Ad v 1)
else
j8 b f g h k m n a (Ac a) u 0
def AJ(p o:LB)(a:LI)(b:Int)(u:UInt8)(f g h k m n:Int):Nat->Int->Mr
|0,_=>none
|q+1,v=>aQ ZS (AJ p o a b u f g h k m n q) p o a b u f g h k m n v
def Ag1 p o a b u f g h k m n:=AJ p o a b u f g h k m n Au
def oR(j6:LB->LB->LI->Int->UInt8->Int->Int->Int->Int->Int->Int->Int->Mr)(p o:LB)(b f g h k m n:Int)(a:LI)(u:UInt8):Mr:=
j6 p o a b u f g h k m n 0
def qI:=oR Ag1
def qR(j5:LB->LB->Int->Int->Int->Int->Int->Int->Int->LI->UInt8->Mr)(p o:LB):Mr:=
if(Ef (Ac o) 64)then
some (0,0,0,0,2)
else
(SJ p o).bind λb=>
(Cw p o).bind λ(f,g,h,k,m,n,a,ab)=>
if(Ba ab 0)then
(Amm p o ab).bind λaf=>
some (b,af,0,0,0)
else
if(Ba b 0)then
j5 p o b f g h k m n a 6
else
j5 p o b f g h k m n a 0
def Ab0:=qR qI
end Go.Pl
