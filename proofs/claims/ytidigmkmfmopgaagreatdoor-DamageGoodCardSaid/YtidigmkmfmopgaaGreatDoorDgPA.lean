/- A part of a proof (see the text that ends in Proof). No conditions. -/
import Derived.Test.YtidigmkmfmopgaaGreatDoorDgBA
set_option linter.unusedVariables false
namespace Go.Pl
open Go Go.Lv
abbrev LB:=List UInt8
abbrev LI:=List Int
abbrev LX:=List Int32
abbrev LU:=List UInt32
abbrev LQ:=List UInt64
def NL(a b f:Int)(g:LX):Option (Int×Int):=
some (a,b)
abbrev cY:=Option (Int32×Int32×Int)
def nR(a:Int)(b:Bool):cY:=
if b then
(Md (Nj (Ap a 1) 0)).bind λ_=>
some ((wL (Ei (1:Int32) (GI.toZ (Ap a 1)).toNat)),(Ap (Ei (1:Int32) (GI.toZ (Ap a 1)).toNat) 1),0)
else
some (0,0,2)
def ZO:=nR
def XF(j2:Int->Bool->cY)(a:Int):cY:=
if(geq a 8)then
j2 a (geq a 8)
else
if(geq a 16)then
j2 a (geq a 16)
else
j2 a (geq a 24)
def Wf:=XF ZO
def Ht(a b:Int):Option Int:=
(Wf b).bind λ(g,h,f)=>
if(((Be f 0)||(Cj a 1))||(Ex a 6))then
some 2
else
some 0
def Wr(a:Int):Option (Int×Int):=
if((Cj a 1)||(Ex a 1048576))then
some (0,2)
else
some ((sD 1 (Db (Br 256 a) 245)),0)
def Jz(g b:Int):Option (Int×Int):=
(Wr g).bind λ(a,f)=>
if(Be f 0)then
some (0,f)
else
if((Cj b 1)||(Ex b 4000))then
some (0,2)
else
(Md (Be a 0)).bind λ_=>
if(Ex (Db (Ap (Ad b a) 1) a) 1000)then
some (0,4)
else
some ((Db (Ap (Ad b a) 1) a),0)
def OS(a g f:Int)(h:LX)(b:Int):Option Int:=
(NL a g f h).bind λ(k,m)=>
(Ht k m).bind λn=>
if((Be n 0)||(Cj b 1))then
some 8
else
(Md (Be a 0)).bind λ_=>
if(Ex b (Db 4000 a))then
some 8
else
(Jz f b).bind λ(p,o)=>
if(Be o 0)then
some 8
else
some 0
def Q1:Option Int:=
some 0
def oE:=Q1
def JD(j6:Option Int)(Sj:Int->Option Int)(b f:Int32)(a:LX)(g:Int):Option Int:=
if(Cj g (Ac a))then
(Ao a g).bind λh=>
if((Cj h b)||(Ex h f))then
some 16
else
Sj (Ad g 1)
else
j6
def Vh(b f:Int32)(a:LX):Nat->Int->Option Int
|0,_=>none
|q+1,g=>JD oE (Vh b f a q) b f a g
def nD b f a:=Vh b f a Ax
def ZM(j4:Int32->Int32->LX->Int->Option Int)(m:Int)(a:LX):Option Int:=
(Wf m).bind λ(b,f,k)=>
if(Be k 0)then
some k
else
if(Ex (Ac a) 4000)then
some 4
else
j4 b f a 0
def Zt:=ZM nD
def Fi(a f h:Int)(b:LX):Option Int:=
if(Cj a 1)then
some 8
else
(Md (Be a 0)).bind λ_=>
if(Be (Io (Ac b) a) 0)then
some 8
else
(Md (Be a 0)).bind λ_=>
(OS a f h b (Db (Ac b) a)).bind λg=>
if(Be g 0)then
some g
else
(Zt f b).bind λk=>
if(Be k 0)then
some 8
else
some 0
abbrev cX:=Option (Int×Int×Int×Int×Int×Int)
def pH(h:LB)(a b f:Int)(g:LX):cX:=
if(h !=([]:LB))then
some (2,a,b,f,(Db (Ac g) a),0)
else
some (1,a,b,f,(Db (Ac g) a),0)
def WQ:=pH
def HK(j2:LB->Int->Int->Int->LX->cX)(a b f:Int)(g:LX)(h:LB):cX:=
(Fi a b f g).bind λk=>
if(Be k 0)then
some (0,0,0,0,0,k)
else
if(Ex (Ac h) 64)then
some (0,0,0,0,0,2)
else
(Md (Be a 0)).bind λ_=>
(
j2 h a b f g)
def cG:=HK WQ
abbrev Cs:=Option (UInt64×Int)
def oS(h:UInt64):Cs:=
some (h,0)
def YZ:=oS
def YS(j30:UInt64->Cs)(h b:UInt64)(a:LB)(f:LQ):Cs:=
j30 h
def WK:=YS YZ
def GX(j29:UInt64->UInt64->LB->LQ->Cs)(kR:UInt64->Int->Cs)(a:LB)(b:UInt64)(f:LQ)(h:UInt64)(m:Int):Cs:=
if(Cj m (Ac a))then
(Ao a m).bind λp=>
Option.bind (Ao f (GI.toZ (Zn (Af (Ct h (GI.toZ (56:UInt64)).toNat):UInt8) p))) λ_=>
Option.bind (Ao f (GI.toZ (Zn (Af (Ct h (GI.toZ (56:UInt64)).toNat):UInt8) p))) λu=>
kR (Zn (Ei h (GI.toZ (8:UInt64)).toNat) u) (Ad m 1)
else
j29 h b a f
def Vf(a:LB)(b:UInt64)(f:LQ):Nat->UInt64->Int->Cs
|0,_,_=>none
|q+1,h,m=>GX WK (Vf a b f q) a b f h m
def aG a b f:=Vf a b f Ax
def XM(j27:LB->UInt64->LQ->UInt64->Int->Cs)(b:UInt64)(a:LB)(f:LQ):Cs:=
j27 a b f b 0
def KO:=XM aG
def qN(Qg:Int->LQ->Cs)(b:UInt64)(a:LB)(g:Int)(o:LQ):Cs:=
Qg (Ad g 1) o
def WV Qg:=qN Qg
def YJ(j24:Int->LQ->Cs)(b:UInt64)(a:LB)(g:Int)(k:UInt64)(f:LQ):Cs:=
(Ao f g).bind λ_=>
(Nk f g k).bind λo=>
j24 g o
def JM Qg b a:=YJ (WV Qg b a) b a
def LA(j23:Int->UInt64->LQ->Cs)(Ajb:UInt64->Int->Cs)(b:UInt64)(a:LB)(g:Int)(f:LQ)(k:UInt64)(n:Int):Cs:=
if(Cj n 8)then
Ajb (Zn (Ei k (GI.toZ (1:UInt64)).toNat) (Br 4823603603198064275 (Ct k (GI.toZ (63:UInt64)).toNat))) (Ad n 1)
else
j23 g k f
def Uy(Qg:Int->LQ->Cs)(b:UInt64)(a:LB)(g:Int)(f:LQ):Nat->UInt64->Int->Cs
|0,_,_=>none
|q+1,k,n=>LA (JM Qg b a) (Uy Qg b a g f q) b a g f k n
def XI Qg b a g f:=Uy Qg b a g f Ax
def HE(j21:Int->LQ->UInt64->Int->Cs)(j26:UInt64->LB->LQ->Cs)(b:UInt64)(a:LB)(g:Int)(f:LQ):Cs:=
if(Cj g 256)then
j21 g f (Ei (Af g:UInt64) (GI.toZ (56:UInt64)).toNat) 0
else
j26 b a f
def Qq(b:UInt64)(a:LB):Nat->Int->LQ->Cs
|0,_,_=>none
|q+1,g,f=>HE (XI (Qq b a q) b a) KO b a g f
def ZJ b a:=Qq b a Ax
def dE(j16:UInt64->LB->Int->LQ->Cs)(b:UInt64)(a:LB):Cs:=
if(Ex (Ac a) 100000)then
some (0,4)
else
j16 b a 0 (List.replicate 256 (0:UInt64))
def iE:=dE ZJ
def fY(a:LB):Option (UInt64×Int):=
(iE 0 a).bind λ(b,f)=>
some (b,f)
def Ahh(a:LX):Option (LX):=
some a
def jr:=Ahh
def kJ(j6:LX->Option (LX))(Sj:Int->LX->Option (LX))(f:UInt64)(b:Int)(a:LX):Option (LX):=
if(Cj b 8)then
(Md (Nj (Br 8 b) 0)).bind λ_=>
(Ao a b).bind λ_=>
(Nk a b (Af (Af (Ct f (GI.toZ (Br 8 b)).toNat):Int8):Int32)).bind λg=>
Sj (Ad b 1) g
else
j6 a
def OA(f:UInt64):Nat->Int->LX->Option (LX)
|0,_,_=>none
|q+1,b,a=>kJ jr (OA f q) f b a
def U1 f:=OA f Ax
def S1(j4:UInt64->Int->LX->Option (LX))(f:UInt64):Option (LX):=
j4 f 0 (List.replicate 16 (0:Int32))
def Abg:=S1 U1
def Qe(a:LB):Option (LX×Int):=
if(Ex (Ac a) 64)then
some (([(0:Int32),(0:Int32),(0:Int32),(0:Int32),(0:Int32),(0:Int32),(0:Int32),(0:Int32),(0:Int32),(0:Int32),(0:Int32),(0:Int32),(0:Int32),(0:Int32),(0:Int32),(0:Int32)]:LX),2)
else
(fY a).bind λ(f,b)=>
if(Be b 0)then
some (([(0:Int32),(0:Int32),(0:Int32),(0:Int32),(0:Int32),(0:Int32),(0:Int32),(0:Int32),(0:Int32),(0:Int32),(0:Int32),(0:Int32),(0:Int32),(0:Int32),(0:Int32),(0:Int32)]:LX),b)
else
(Abg f).bind λg=>
some (g,0)
def TS(a b:UInt64):Option (UInt64×UInt64):=
some ((Ad (Ad (Br (Ct a (GI.toZ (32:UInt64)).toNat) (Ct b (GI.toZ (32:UInt64)).toNat)) (Ct (Ad (Br (Ct a (GI.toZ (32:UInt64)).toNat) (Ey b 4294967295)) (Ct (Br (Ey a 4294967295) (Ey b 4294967295)) (GI.toZ (32:UInt64)).toNat)) (GI.toZ (32:UInt64)).toNat)) (Ct (Ad (Ey (Ad (Br (Ct a (GI.toZ (32:UInt64)).toNat) (Ey b 4294967295)) (Ct (Br (Ey a 4294967295) (Ey b 4294967295)) (GI.toZ (32:UInt64)).toNat)) 4294967295) (Br (Ey a 4294967295) (Ct b (GI.toZ (32:UInt64)).toNat))) (GI.toZ (32:UInt64)).toNat)),(Br a b))
def OW(a b:UInt64):Option (UInt64×UInt64):=
(TS a b).bind λ(f,g)=>
some (f,g)
def Sa(a:LI):Option (LI):=
some a
def Lm:=Sa
def Iw(j10:LI->Option (LI))(bk8:Int->LI->Option (LI))(b:Int)(a:LI):Option (LI):=
if(Cj b (Ac a))then
(
(kW (Ac a) b (Ac a)).bind λ_=>
(kW (Ac a) 0 b).bind λ_=>
bk8 (Ad b (XU ((Ac a)-b) (aL a 0 (b-(0:Int))).length)) (Yl a b ((Ac a)-b) (aL a 0 (b-(0:Int)))))
else
j10 a
def Gf:Nat->Int->LI->Option (LI)
|0,_,_=>none
|q+1,b,a=>Iw Lm (Gf q) b a
def Tm:=Gf Ax
def Ty(j8:Int->LI->Option (LI))(f:LI)(g:UInt64):Option (LI):=
(mkI (Af g:Int) (0:Int)).bind λk=>
(Md (geq (Af g:Int) (Af g:Int))).bind λ_=>
j8 (XU (Ac k) f.length) (T8 k f)
def Tl:=Ty Tm
def Tx(j7:LI->UInt64->Option (LI))(f:LI)(h:Int):Option (LI):=
(OW (Af (Ac f):UInt64) (Af h:UInt64)).bind λ(m,g)=>
if((Ex m 0)||(Ex g 9223372036854775807))then
none
else
j7 f g
def Tq:=Tx Tl
def Tw(j6:LI->Int->Option (LI))(f:LI)(h:Int):Option (LI):=
if(Cj h 0)then
none
else
j6 f h
def Rj:=Tw Tq
def aJ(f:LI):Option (LI):=
some f
def BZ:=aJ
def Ie(j16:LI->Option (LI))(Bay:Int->LI->Option (LI))(a:List LI)(g:Int)(f:LI):Option (LI):=
if(Cj g (Ac a))then
(Ao a g).bind λo=>
(Et f o).bind λp=>
Bay (Ad g 1) p
else
j16 f
def Fs(a:List LI):Nat->Int->LI->Option (LI)
|0,_,_=>none
|q+1,g,f=>Ie BZ (Fs a q) a g f
def Rq a:=Fs a Ax
def Sf(j14:(List LI)->Int->LI->Option (LI))(a:List LI)(k:LI):Option (LI):=
j14 a 0 k
def Lo:=Sf Rq
def Rt(j13:(List LI)->LI->Option (LI))(b:Int)(a:List LI):Option (LI):=
if(Ex (Ap b (Ap (0:Int) (0:Int))) 0)then
(kW 0 0 0).bind λ_=>
(mkI (Ap b (Ap (0:Int) (0:Int))) (0:Int)).bind λu=>
(Et ([]:LI) u).bind λm=>
(kW (Ac m) 0 0).bind λ_=>
j13 a (aL m 0 ((0:Int)-(0:Int)))
else
j13 a ([]:LI)
def Rz:=Rt Lo
def Se(j12:Int-> (List LI)->Option (LI))(a:List LI)(b:Int):Option (LI):=
if(Cj b 0)then
none
else
j12 b a
def Sd:=Se Rz
def Iy(j11:(List LI)->Int->Option (LI))(bk9:Int->Int->Option (LI))(a:List LI)(b h:Int):Option (LI):=
if(Cj h (Ac a))then
(Ao a h).bind λn=>
if(Cj (Ad b (Ac n)) 0)then
none
else
bk9 (Ad b (Ac n)) (Ad h 1)
else
j11 a b
def Ge(a:List LI):Nat->Int->Int->Option (LI)
|0,_,_=>none
|q+1,b,h=>Iy Sd (Ge a q) a b h
def Tu a:=Ge a Ax
def Tn(j9:(List LI)->Int->Int->Option (LI))(a:List LI):Option (LI):=
j9 a 0 0
def Rl:=Tn Tu
def YP(a b:LI):Option (LI):=
(Rl ([a,b]:List LI)).bind λf=>
some f
def AT(a b:Int):Option (LI×Int):=
(Jz a b).bind λ(f,g)=>
if(Be g 0)then
some (([]:LI),g)
else
(Wr a).bind λ(h,n)=>
(Rj ([h]:LI) (Ap f 1)).bind λk=>
(YP k ([(Ap b (Br (Ap f 1) h))]:LI)).bind λm=>
some (m,0)
def PG(a f:Int)(b:LX):Option Int:=
(Ht a f).bind λg=>
if(Be g 0)then
some g
else
(Zt f b).bind λh=>
if(Be h 0)then
some h
else
if(geq (Ac b) 0)then
some 2
else
(Md (Be a 0)).bind λ_=>
if(Be (Io (Ac b) a) 0)then
some 2
else
some 0
def gQ(a:Int)(b:LX):Option Int:=
if((Cj a 1)||(Ex a 6))then
some 2
else
if(Ex (Ac b) 4000)then
some 4
else
(Md (Be a 0)).bind λ_=>
if(Be (Io (Ac b) a) 0)then
some 2
else
some 0
def En(a:LX):Option (LX):=
(
(Et ([]:LX) a).bind λb=>
some b)
abbrev Le:=Option (LX×Int)
def Ae9(f:LX):Le:=
some (f,0)
def H8:=Ae9
def oL(eB:Int->LX->Le)(b a:Int)(k:LX):Le:=
eB (Ad a b) k
def bH eB:=oL eB
def qI(j20:Int->LX->Le)(b a:Int)(g:LX):Le:=
if(Ex (Ap ((Ad a b)-a) 1) 0)then
(Md (decide (0<= (Ap ((Ad a b)-a) 1)/\ (Ap ((Ad a b)-a) 1)<((Ad a b)-a)))).bind λ_=>
Option.bind (Md (decide (0<= (Ap (Ap ((Ad a b)-a) 1) 1)/\ (Ap (Ap ((Ad a b)-a) 1) 1)<((Ad a b)-a)))) λ_=>
(Ao g (a+(Ap ((Ad a b)-a) 1))).bind λm=>
(Ao g (a+(Ap (Ap ((Ad a b)-a) 1) 1))).bind λn=>
(Md (decide (0<= (Ap ((Ad a b)-a) 1)/\ (Ap ((Ad a b)-a) 1)<((Ad a b)-a)))).bind λ_=>
(Nk g (a+(Ap ((Ad a b)-a) 1)) (Ap m (Db n 2))).bind λo=>
j20 a o
else
j20 a g
def nY eB b:=qI (bH eB b) b
def aN(j19:Int->LX->Le)(Ba0:Int->LX->Le)(b a h:Int)(g:LX):Le:=
if(Cj h (Ap ((Ad a b)-a) 1))then
(Md (decide (0<= (Ad h 1)/\ (Ad h 1)<((Ad a b)-a)))).bind λ_=>
(Md (decide (0<=h/\h<((Ad a b)-a)))).bind λ_=>
(Ao g (a+(Ad h 1))).bind λm=>
(Ao g (a+h)).bind λn=>
(Md (decide (0<=h/\h<((Ad a b)-a)))).bind λ_=>
(Nk g (a+h) (Ap m n)).bind λo=>
Ba0 (Ad h 1) o
else
j19 a g
def FM(eB:Int->LX->Le)(b a:Int):Nat->Int->LX->Le
|0,_,_=>none
|q+1,h,g=>aN (nY eB b) (FM eB b a q) b a h g
def G8 eB b a:=FM eB b a Ax
def pK(j17:Int->Int->LX->Le)(j22:LX->Le)(b a:Int)(f:LX):Le:=
if(Cj a (Ac f))then
(kW (Ac f) a (Ad a b)).bind λ_=>
j17 a 0 f
else
j22 f
def FV(b:Int):Nat->Int->LX->Le
|0,_,_=>none
|q+1,a,f=>pK (G8 (FV b q) b) H8 b a f
def qQ b:=FV b Ax
def vK(j12:Int->Int->LX->Le)(b:Int)(p:LX):Le:=
(gQ b p).bind λu=>
if(Be u 0)then
some (([]:LX),u)
else
(En p).bind λv=>
j12 b 0 v
def M3:=vK qQ
abbrev vR:=Option (Int×LX×LX×Int)
def Adr(a:Int)(b:LX)(f:Bool):vR:=
if f then
some (10,b,(List.replicate 16 (0:Int32)),0)
else
if(geq a 16)then
some (9,b,(List.replicate 16 (0:Int32)),0)
else
some (0,(List.replicate 16 (0:Int32)),(List.replicate 16 (0:Int32)),2)
def G3:=Adr
def J8(j2:Int->LX->Bool->vR)(a:Int)(b:LX):vR:=
if(geq a 8)then
j2 a b (geq a 8)
else
j2 a b (geq a 24)
def xI:=J8 G3
def B6(a:Int)(f:LX):Option (Int×Int32×Int×LX×LX×Int):=
(xI a f).bind λ(g,h,k,b)=>
if(Be b 0)then
some (0,0,0,(List.replicate 16 (0:Int32)),(List.replicate 16 (0:Int32)),b)
else
some (a,0,g,h,k,0)
def AE(a:Int)(k:Int32)(b:Int)(f m:LX):Option Int:=
(xI a f).bind λ(g,n,o,h)=>
if((Be h 0)||(Be g b))then
some 8
else
some 0
def oD(a:Int):Option (Int×Int):=
if(geq a 8)then
some (4,0)
else
if(geq a 16)then
if(geq a 16)then
some (5,0)
else
some (0,2)
else
if(geq a 24)then
some (5,0)
else
some (0,2)
def aV(a:Int)(b:Int32):Option Int32:=
(Md (Nj a 0)).bind λ_=>
(Md (Nj a 0)).bind λ_=>
some (Af (Aap (Ap (Ei (Af b:Int) (GI.toZ a).toNat) (Af b:Int)) (GI.toZ a).toNat):Int32)
def AD(b:Int)(f:Int32):Option (Int32×Int):=
(oD b).bind λ(g,a)=>
if(Be a 0)then
some (0,a)
else
(aV g f).bind λh=>
some (h,0)
def OE(a:Int)(b f:LX):Option Int:=
if((Be a 9)&&(Be a 10))then
some 8
else
some 0
abbrev Wn:=Option (Int32×Int)
def sZ(g:Int32)(a:Int)(b f:LX):Wn:=
(Md (Nj a 0)).bind λ_=>
some ((Ct g (GI.toZ a).toNat),0)
def dG:=sZ
def PC(j6:Int32->Int->LX->LX->Wn)(Sj:Int32->Int->Wn)(b:LX)(a:Int)(f:LX)(g:Int32)(h:Int):Wn:=
if(Cj h 16)then
(Ao b h).bind λm=>
(Ao f h).bind λ_=>
(Ao f h).bind λn=>
Sj (Ad g (Br m n)) (Ad h 1)
else
j6 g a b f
def Xu(b:LX)(a:Int)(f:LX):Nat->Int32->Int->Wn
|0,_,_=>none
|q+1,g,h=>PC dG (Xu b a f q) b a f g h
def cU b a f:=Xu b a f Ax
def dF(j4:LX->Int->LX->Int32->Int->Wn)(a:Int)(b f:LX):Wn:=
(OE a b f).bind λk=>
if(Be k 0)then
some (0,k)
else
(Md (Nj (Ap a 1) 0)).bind λ_=>
j4 b a f (Ei (1:Int32) (GI.toZ (Ap a 1)).toNat) 0
def WH:=dF cU
def eX(a:Int):Option Int32:=
if(geq a 0)then
some 4
else
if(Cj a 4)then
some 2
else
some 1
abbrev Wy:=Option (Int×LX×LX×Int)
def qb(g:Int)(b f:LX):Wy:=
some (g,b,f,0)
def tE:=qb
def PL(j6:Int->LX->LX->Wy)(Sj:Int->LX->Wy)(h:Int32)(f:LX)(g a:Int)(b:LX):Wy:=
if(Cj a 16)then
(Ao f a).bind λm=>
if(geq m 0)then
Sj (Ad a 1) b
else
if((Cj m 0)==(Cj h 0))then
(Ao b a).bind λ_=>
(Ao b a).bind λo=>
(eX a).bind λp=>
(Ao b a).bind λ_=>
(Nk b a (Ad o p)).bind λu=>
Sj (Ad a 1) u
else
(Ao b a).bind λ_=>
(Ao b a).bind λv=>
(eX a).bind λw=>
(Ao b a).bind λ_=>
(Nk b a (Ap v w)).bind λy=>
Sj (Ad a 1) y
else
j6 g b f
def Xw(h:Int32)(f:LX)(g:Int):Nat->Int->LX->Wy
|0,_,_=>none
|q+1,a,b=>PL tE (Xw h f g q) h f g a b
def sT h f g:=Xw h f g Ax
def dM(j4:Int32->LX->Int->Int->LX->Wy)(g:Int)(k f:LX)(h:Int32):Wy:=
(OE g k f).bind λn=>
if(Be n 0)then
some (0,(List.replicate 16 (0:Int32)),(List.replicate 16 (0:Int32)),n)
else
if(geq h 0)then
some (g,k,f,0)
else
j4 h f g 0 k
def jO:=dM sT
abbrev oY:=Option (Int×LX×LX×Int)
def xG(g:Int32)(b:Int)(f a:LX):oY:=
(Ao (Yl a 1 ((16:Int)-(1:Int)) (aL a 0 ((16:Int)-(0:Int)))) 0).bind λ_=>
(Nk (Yl a 1 ((16:Int)-(1:Int)) (aL a 0 ((16:Int)-(0:Int)))) 0 g).bind λk=>
some (b,f,k,0)
def iY:=xG
def VD(j2:Int32->Int->LX->LX->oY)(b:Int)(f a:LX)(g:Int32):oY:=
(OE b f a).bind λh=>
if(Be h 0)then
some (0,(List.replicate 16 (0:Int32)),(List.replicate 16 (0:Int32)),h)
else
(
(kW 16 1 16).bind λ_=>
(kW 16 0 16).bind λ_=>
j2 g b f a)
def qU:=VD iY
def WG(a:Int)(b f:LX)(g h:Int32):Option (Int×LX×LX):=
(jO a b f h).bind λ(k,m,n,v)=>
(qU k m n g).bind λ(o,p,u,w)=>
some (o,p,u)
def bG(b:Int)(f g:LX)(a:Int32):Option (Int32×Int×LX×LX×Int):=
(WH b f g).bind λ(h,k)=>
if(Be k 0)then
some (0,0,(List.replicate 16 (0:Int32)),(List.replicate 16 (0:Int32)),k)
else
(WG b f g a (Ap a h)).bind λ(m,n,o)=>
some ((Ap a h),m,n,o,0)
def Xz(a:Int)(b:Int32)(f:Int)(g h:LX)(k:Int32):Option (Int32×Int×Int32×Int×LX×LX×Int):=
(AE a b f g h).bind λm=>
if(Be m 0)then
some (0,0,0,0,(List.replicate 16 (0:Int32)),(List.replicate 16 (0:Int32)),m)
else
(AD a b).bind λ(n,y)=>
(bG f g h (Ap k n)).bind λ(o,p,u,v,w)=>
(
some (o,a,k,p,u,v,w))
def rM(a:Int32):Option UInt32:=
some (Zn (Ei (Af a:UInt32) (GI.toZ (1:UInt64)).toNat) (Af (Ct a (GI.toZ (31:UInt64)).toNat):UInt32))
abbrev Dx:=Option (LU×Int)
def vM(k:LU):Dx:=
some (k,0)
def YK:=vM
def Wp(j12:LU->Dx)(Ajc:Int-> (List (Int×Int32×(Int×LX×LX×Unit)×Unit))->LU->Dx)(b:LX)(a f g:Int)(o:List (Int×Int32×(Int×LX×LX×Unit)×Unit))(k:LU):Dx:=
if(Cj g (Ac b))then
(Ao b g).bind λ_=>
(Ao b g).bind λac=>
(Md (Be a 0)).bind λ_=>
(Ao o (Io g a)).bind λ_=>
(Ao o (Io g a)).bind λp=>
(Xz p.1 p.2.1 p.2.2.1.1 p.2.2.1.2.1 p.2.2.1.2.2.1 ac).bind λ(u,ad,ae,v,af,ag,w)=>
if(Be w 0)then
some (([]:LU),w)
else
(Nk o (Io g a) (ad,ae,(v,af,ag,()),())).bind λah=>
(rM u).bind λai=>
(Et k ([ai]:LU)).bind λaj=>
Ajc (Ad g 1) ah aj
else
j12 k
def Mp(b:LX)(a f:Int):Nat->Int-> (List (Int×Int32×(Int×LX×LX×Unit)×Unit))->LU->Dx
|0,_,_,_=>none
|q+1,g,o,k=>Wp YK (Mp b a f q) b a f g o k
def ZF b a f:=Mp b a f Ax
def bS(j10:LX->Int->Int->Int-> (List (Int×Int32×(Int×LX×LX×Unit)×Unit))->LU->Dx)(a f:Int)(b:LX)(h:List (Int×Int32×(Int×LX×LX×Unit)×Unit)):Dx:=
j10 b a f 0 h ([]:LU)
def KI:=bS ZF
def aR(j9:Int->Int->LX-> (List (Int×Int32×(Int×LX×LX×Unit)×Unit))->Dx)(bk7:Int-> (List (Int×Int32×(Int×LX×LX×Unit)×Unit))->Dx)(a f:Int)(m b:LX)(n:Int)(h:List (Int×Int32×(Int×LX×LX×Unit)×Unit)):Dx:=
if(Cj n 6)then
(B6 f m).bind λ(ak,al,u,am,an,v)=>
(Ao h n).bind λ_=>
(Nk h n (ak,al,(u,am,an,()),())).bind λao=>
bk7 (Ad n 1) ao
else
j9 a f b h
def IG(a f:Int)(m b:LX):Nat->Int-> (List (Int×Int32×(Int×LX×LX×Unit)×Unit))->Dx
|0,_,_=>none
|q+1,n,h=>aR KI (IG a f m b q) a f m b n h
def Yw a f m b:=IG a f m b Ax
def KM(j7:Int->Int->LX->LX->Int-> (List (Int×Int32×(Int×LX×LX×Unit)×Unit))->Dx)(a f:Int)(m y:LX):Dx:=
(PG a f y).bind λaa=>
if(Be aa 0)then
some (([]:LU),aa)
else
(M3 a y).bind λ(b,ab)=>
if(Be ab 0)then
some (([]:LU),ab)
else
j7 a f m b 0 (List.replicate 6 ((0:Int),(0:Int32),((0:Int),(List.replicate 16 (0:Int32)),(List.replicate 16 (0:Int32)),()),()))
def KS:=KM Yw
def uA:Option (Int×Int×UInt64×UInt64):=
some (10,10,16384,16384)
abbrev Mk:=Option ((List (Int×Int×UInt64×UInt64×Unit)))
def xR(a:List (Int×Int×UInt64×UInt64×Unit)):Mk:=
some a
def bT:=xR
def aY(j6:(List (Int×Int×UInt64×UInt64×Unit))->Mk)(Sj:Int-> (List (Int×Int×UInt64×UInt64×Unit))->Mk)(b:Int)(a:List (Int×Int×UInt64×UInt64×Unit)):Mk:=
if(Cj b 6)then
(uA).bind λ(f,g,h,k)=>
(Ao a b).bind λ_=>
(Nk a b (f,g,h,k,())).bind λm=>
Sj (Ad b 1) m
else
j6 a
def JE:Nat->Int-> (List (Int×Int×UInt64×UInt64×Unit))->Mk
|0,_,_=>none
|q+1,b,a=>aY bT (JE q) b a
def IX:=JE Ax
def JI(j4:Int-> (List (Int×Int×UInt64×UInt64×Unit))->Mk):Mk:=
j4 0 (List.replicate 6 ((0:Int),(0:Int),(0:UInt64),(0:UInt64),()))
def LD:=JI IX
def Ky(b:LB)(a:Int):Option Int:=
if(((Cj a 0)||(Ex a 330000))||(Be (Ac b) (Aap (Ad a 7) (GI.toZ (3:UInt64)).toNat)))then
some 8
else
if(Ex (Ey a 7) 0)then
(Ao b (Ap (Ac b) 1)).bind λf=>
(Md (Nj (Ey a 7) 0)).bind λ_=>
if(Be (Ct f (GI.toZ (Ey a 7)).toNat) 0)then
some 8
else
some 0
else
some 0
def tG(a b:Int)(f g:UInt64):Option Int:=
if(!((geq (Fj (sD a 0) 24) a)&&((geq (Fj (sD b 0) 24) b)&&((geq (Fj f 68719476735) f)&&((geq (Fj g 68719476735) g)&&true)))))then
some 8
else
some 0
def dT:=tG
def OZ(j4:Int->Int->UInt64->UInt64->Option Int)(a b:Int)(f g:UInt64):Option Int:=
(
(
j4 a b f g))
def dB:=OZ dT
def OX(j3:Int->Int->UInt64->UInt64->Option Int)(a b:Int)(f g:UInt64):Option Int:=
(
(
j3 a b f g))
def WW:=OX dB
def NJ(a f:Int)(g h:UInt64)(b:UInt32):Option (Int×UInt32):=
(Md (Nj a 0)).bind λ_=>
if(geq (Ct b (GI.toZ a).toNat) 0)then
some (0,b)
else
(Md (Nj a 0)).bind λ_=>
some (1,(Ap b (Ei (1:UInt32) (GI.toZ a).toNat)))
def Fv(a:LB):Option (LB):=
(
(Et ([]:LB) a).bind λb=>
some b)
def gI(a:LB)(b:Int):Option (LB×Int):=
(Fv a).bind λf=>
some (f,b)
abbrev Ep:=Option (LB×Int×Int)
def yY(f:Int)(o:LB):Ep:=
some (o,f,0)
def jS:=yY
def wH(At7:UInt64->Int->Int->LB->Ep)(b:UInt64)(a:Int)(m:UInt64)(h f:Int)(w:LB):Ep:=
(Md (Nj (Fj h (Ap 8 (Ey f 7))) 0)).bind λ_=>
At7 (Ct m (GI.toZ (Fj h (Ap 8 (Ey f 7)))).toNat) (Ap h (Fj h (Ap 8 (Ey f 7)))) (Ad f (Fj h (Ap 8 (Ey f 7)))) w
def iT At7:=wH At7
def gZ(j19:UInt64->Int->Int->LB->Ep)(b:UInt64)(a:Int)(m:UInt64)(h f:Int)(u:LB):Ep:=
(Ao u (Ap (Ac u) 1)).bind λ_=>
(Md (Nj (Fj h (Ap 8 (Ey f 7))) 0)).bind λ_=>
(Md (Nj (Ey f 7) 0)).bind λ_=>
(Ao u (Ap (Ac u) 1)).bind λad=>
(Ao u (Ap (Ac u) 1)).bind λ_=>
Option.bind (Nk u (Ap (Ac u) 1) (D0 ad (Ei (Af (Ey m (Ap (Ei (1:UInt64) (GI.toZ (Fj h (Ap 8 (Ey f 7)))).toNat) 1)):UInt8) (GI.toZ (Ey f 7)).toNat))) λw=>
j19 m h f w
def VJ At7 b a:=gZ (iT At7 b a) b a
def VM(j18:UInt64->Int->Int->LB->Ep)(j21:Int->LB->Ep)(b:UInt64)(a:Int)(m:UInt64)(h f:Int)(o:LB):Ep:=
if(Ex h 0)then
if(geq (Ey f 7) 0)then
(Et o ([(0:UInt8)]:LB)).bind λab=>
j18 m h f ab
else
j18 m h f o
else
j21 f o
def Sk(b:UInt64)(a:Int):Nat->UInt64->Int->Int->LB->Ep
|0,_,_,_,_=>none
|q+1,m,h,f,o=>VM (VJ (Sk b a q) b a) jS b a m h f o
def yW b a:=Sk b a Ax
def Aar(g:Int)(p:LB):Ep:=
some (p,g,0)
def yC:=Aar
def Abx(At8:UInt64->Int->Int->LB->Ep)(b:UInt64)(a:Int)(n:UInt64)(k g:Int)(y:LB):Ep:=
(Md (Nj (Fj k (Ap 8 (Ey g 7))) 0)).bind λ_=>
At8 (Ct n (GI.toZ (Fj k (Ap 8 (Ey g 7)))).toNat) (Ap k (Fj k (Ap 8 (Ey g 7)))) (Ad g (Fj k (Ap 8 (Ey g 7)))) y
def xC At8:=Abx At8
def wW(j26:UInt64->Int->Int->LB->Ep)(b:UInt64)(a:Int)(n:UInt64)(k g:Int)(v:LB):Ep:=
(Ao v (Ap (Ac v) 1)).bind λ_=>
(Md (Nj (Fj k (Ap 8 (Ey g 7))) 0)).bind λ_=>
(Md (Nj (Ey g 7) 0)).bind λ_=>
(Ao v (Ap (Ac v) 1)).bind λae=>
(Ao v (Ap (Ac v) 1)).bind λ_=>
Option.bind (Nk v (Ap (Ac v) 1) (D0 ae (Ei (Af (Ey n (Ap (Ei (1:UInt64) (GI.toZ (Fj k (Ap 8 (Ey g 7)))).toNat) 1)):UInt8) (GI.toZ (Ey g 7)).toNat))) λy=>
j26 n k g y
def xZ At8 b a:=wW (xC At8 b a) b a
def yV(j25:UInt64->Int->Int->LB->Ep)(j28:Int->LB->Ep)(b:UInt64)(a:Int)(n:UInt64)(k g:Int)(p:LB):Ep:=
if(Ex k 0)then
if(geq (Ey g 7) 0)then
(Et p ([(0:UInt8)]:LB)).bind λw=>
j25 n k g w
else
j25 n k g p
else
j28 g p
def iQ(b:UInt64)(a:Int):Nat->UInt64->Int->Int->LB->Ep
|0,_,_,_,_=>none
|q+1,n,k,g,p=>yV (xZ (iQ b a q) b a) yC b a n k g p
def yB b a:=iQ b a Ax
def pZ(j15:UInt64->Int->UInt64->Int->Int->LB->Ep)(j22:UInt64->Int->UInt64->Int->Int->LB->Ep)(ac:LB)(aa:Int)(b:UInt64)(a:Int):Ep:=
(Ky ac aa).bind λaf=>
if(Be af 0)then
some (([]:LB),0,8)
else
if((Cj a 0)||(Ex a 64))then
some (([]:LB),0,2)
else
if(Cj a 64)then
(Md (Nj a 0)).bind λ_=>
if(Be (Ct b (GI.toZ a).toNat) 0)then
some (([]:LB),0,16)
else
if(Ex (Ad aa a) 330000)then
some (([]:LB),0,18)
else
(gI ac aa).bind λ(ag,ah)=>
j15 b a b a ah ag
else
if(Ex (Ad aa a) 330000)then
some (([]:LB),0,18)
else
(gI ac aa).bind λ(ab,ai)=>
j22 b a b a ai ab
def XH:=pZ yW yB
def BY(b:UInt32)(a:Int):Option Bool:=
(Md (Nj a 0)).bind λ_=>
some (Nj (Ct b (GI.toZ a).toNat) 48)
def jI(a:Int):Option (Int×Int):=
if((Cj a 0)||(Ex a 48))then
some (0,2)
else
some ((Fj (Ad a 1) 48),0)
def bP(b:LB)(f a:Int):Option (LB×Int×Int):=
(Ky b f).bind λg=>
if(Be g 0)then
some (([]:LB),0,g)
else
(jI a).bind λ(k,h)=>
if(Be h 0)then
some (([]:LB),0,h)
else
(Md (Nj a 0)).bind λ_=>
(XH b f (Ap (Ei (1:UInt64) (GI.toZ a).toNat) 1) k).bind λ(m,n,o)=>
some (m,n,o)
abbrev hH:=Option (LB×Int×Int)
def cT(b:LB)(f h:Int)(k:UInt32)(m:Int):hH:=
(bP b f h).bind λ(p,u,n)=>
if(Be n 0)then
some (([]:LB),0,n)
else
(XH p u (Af k:UInt64) m).bind λ(v,w,y)=>
some (v,w,y)
def PN:=cT
def cM(j2:LB->Int->Int->UInt32->Int->hH)(b:LB)(f:Int)(g:UInt32)(a:Int):hH:=
(Ky b f).bind λo=>
if(Be o 0)then
some (([]:LB),0,o)
else
if((Cj a 0)||(Ex a 24))then
some (([]:LB),0,2)
else
(Md (Nj a 0)).bind λ_=>
(Md (Nj a 0)).bind λ_=>
(BY g a).bind λaa=>
if aa then
j2 b f 48 g 32
else
j2 b f (Af (Ct g (GI.toZ a).toNat):Int) (Ey g (Ap (Ei (1:UInt32) (GI.toZ a).toNat) 1)) a
def jL:=cM PN
abbrev Ks:=Option (LB×Int×Int×Int×UInt64×UInt64×Int)
def HV(k u n:Int)(a:UInt64)(b:UInt32)(o:UInt64)(m:LB):Ks:=
(
(
some (m,k,u,n,(Ad a (Ap (Af b:UInt64) (Ct a (GI.toZ (4:UInt64)).toNat))),o,0)))
def WR:=HV
def cW(j10:Int->Int->Int->UInt64->UInt32->UInt64->LB->Ks)(b:UInt32)(k n:Int)(a o:UInt64)(m:LB)(u:Int):Ks:=
j10 k u n a b o m
def dU:=cW WR
def cR(j9:UInt32->Int->Int->UInt64->UInt64->LB->Int->Ks)(b:UInt32)(f:Int)(a:UInt64)(k:Int)(m:LB)(n:Int)(o:UInt64):Ks:=
if(Ex f 0)then
(Md (Nj f 0)).bind λ_=>
if(Cj (Ad a (Ap (Af b:UInt64) (Ct a (GI.toZ (4:UInt64)).toNat))) (Ei (16:UInt64) (GI.toZ f).toNat))then
j9 b k n a o m (Ap f 1)
else
if(Cj f 24)then
(Md (Nj f 0)).bind λ_=>
if(Ex (Ad a (Ap (Af b:UInt64) (Ct a (GI.toZ (4:UInt64)).toNat))) (Ei (32:UInt64) (GI.toZ f).toNat))then
j9 b k n a o m (Ad f 1)
else
j9 b k n a o m f
else
j9 b k n a o m f
else
if(Cj f 24)then
(Md (Nj f 0)).bind λ_=>
if(Ex (Ad a (Ap (Af b:UInt64) (Ct a (GI.toZ (4:UInt64)).toNat))) (Ei (32:UInt64) (GI.toZ f).toNat))then
j9 b k n a o m (Ad f 1)
else
j9 b k n a o m f
else
j9 b k n a o m f
def DH:=cR dU
def dZ(j8:UInt32->Int->UInt64->Int->LB->Int->UInt64->Ks)(b:UInt32)(f h:Int)(a g:UInt64)(y k:Int)(m:LB):Ks:=
if(Be y 0)then
some (([]:LB),0,0,0,0,0,y)
else
(NJ f h a g b).bind λ(ag,p)=>
if(geq ag 1)then
if(Ex h 0)then
(Md (Nj h 0)).bind λ_=>
if(Cj (Ad g (Ap (Af p:UInt64) (Ct g (GI.toZ (4:UInt64)).toNat))) (Ei (16:UInt64) (GI.toZ h).toNat))then
j8 b f a k m (Ap h 1) (Ad g (Ap (Af p:UInt64) (Ct g (GI.toZ (4:UInt64)).toNat)))
else
if(Cj h 24)then
(Md (Nj h 0)).bind λ_=>
if(Ex (Ad g (Ap (Af p:UInt64) (Ct g (GI.toZ (4:UInt64)).toNat))) (Ei (32:UInt64) (GI.toZ h).toNat))then
j8 b f a k m (Ad h 1) (Ad g (Ap (Af p:UInt64) (Ct g (GI.toZ (4:UInt64)).toNat)))
else
j8 b f a k m h (Ad g (Ap (Af p:UInt64) (Ct g (GI.toZ (4:UInt64)).toNat)))
else
j8 b f a k m h (Ad g (Ap (Af p:UInt64) (Ct g (GI.toZ (4:UInt64)).toNat)))
else
if(Cj h 24)then
(Md (Nj h 0)).bind λ_=>
if(Ex (Ad g (Ap (Af p:UInt64) (Ct g (GI.toZ (4:UInt64)).toNat))) (Ei (32:UInt64) (GI.toZ h).toNat))then
j8 b f a k m (Ad h 1) (Ad g (Ap (Af p:UInt64) (Ct g (GI.toZ (4:UInt64)).toNat)))
else
j8 b f a k m h (Ad g (Ap (Af p:UInt64) (Ct g (GI.toZ (4:UInt64)).toNat)))
else
j8 b f a k m h (Ad g (Ap (Af p:UInt64) (Ct g (GI.toZ (4:UInt64)).toNat)))
else
j8 b f a k m h g
def OY:=dZ DH
def dN(j7:UInt32->Int->Int->UInt64->UInt64->Int->Int->LB->Ks)(b:UInt32)(v:LB)(w f h:Int)(a g:UInt64):Ks:=
(NJ f h a g b).bind λ(ad,ae)=>
(XH v w (Af ad:UInt64) 1).bind λ(aa,ab,ac)=>
if((geq ac 0)&&(geq ad 0))then
(XH aa ab (Af ae:UInt64) f).bind λ(ah,ai,aj)=>
j7 b f h a g aj ai ah
else
if(geq ac 0)then
(jL aa ab ae h).bind λ(ak,al,am)=>
j7 b f h a g am al ak
else
j7 b f h a g ac ab aa
def cS:=dN OY
def dO(j6:UInt32->LB->Int->Int->Int->UInt64->UInt64->Ks)(v:LB)(w f h:Int)(a g:UInt64)(b:UInt32):Ks:=
(Ky v w).bind λan=>
if(Be an 0)then
some (([]:LB),0,0,0,0,0,8)
else
(WW f h a g).bind λao=>
if(Be ao 0)then
some (([]:LB),0,0,0,0,0,8)
else
j6 b v w f h a g
def kF:=dO cS
abbrev Cr:=Option (UInt32×Int)
def nK(h:UInt32):Cr:=
some (h,0)
def ZE:=nK
def JO(j30:UInt32->Cr)(Ber:UInt32->Int->Cr)(a:LB)(b:LU)(h:UInt32)(m:Int):Cr:=
if(Cj m (Ac a))then
(Ao a m).bind λp=>
(Ao b (GI.toZ (Zn (Af h:UInt8) p))).bind λ_=>
(Ao b (GI.toZ (Zn (Af h:UInt8) p))).bind λu=>
Ber (Zn (Ct h (GI.toZ (8:UInt64)).toNat) u) (Ad m 1)
else
j30 h
def Vp(a:LB)(b:LU):Nat->UInt32->Int->Cr
|0,_,_=>none
|q+1,h,m=>JO ZE (Vp a b q) a b h m
def YB a b:=Vp a b Ax
def YM(j28:LB->LU->UInt32->Int->Cr)(f:UInt32)(a:LB)(b:LU):Cr:=
j28 a b f 0
def XX:=YM YB
def ZT(j27:UInt32->LB->LU->Cr)(f:UInt32)(a:LB)(b:LU):Cr:=
j27 f a b
def IP:=ZT XX
def nU(Qg:Int->LU->Cr)(f:UInt32)(a:LB)(g:Int)(o:LU):Cr:=
Qg (Ad g 1) o
def XT Qg:=nU Qg
def ZV(j24:Int->LU->Cr)(f:UInt32)(a:LB)(g:Int)(k:UInt32)(b:LU):Cr:=
(Ao b g).bind λ_=>
(Nk b g k).bind λo=>
j24 g o
def KZ Qg f a:=ZV (XT Qg f a) f a
def KL(j23:Int->UInt32->LU->Cr)(Ajb:UInt32->Int->Cr)(f:UInt32)(a:LB)(g:Int)(b:LU)(k:UInt32)(n:Int):Cr:=
if(Cj n 8)then
Ajb (Zn (Ct k (GI.toZ (1:UInt64)).toNat) (Br 3988292384 (Ey k 1))) (Ad n 1)
else
j23 g k b
def Uv(Qg:Int->LU->Cr)(f:UInt32)(a:LB)(g:Int)(b:LU):Nat->UInt32->Int->Cr
|0,_,_=>none
|q+1,k,n=>KL (KZ Qg f a) (Uv Qg f a g b q) f a g b k n
def YN Qg f a g b:=Uv Qg f a g b Ax
def JG(j21:Int->LU->UInt32->Int->Cr)(j26:UInt32->LB->LU->Cr)(f:UInt32)(a:LB)(g:Int)(b:LU):Cr:=
if(Cj g 256)then
j21 g b (Af g:UInt32) 0
else
j26 f a b
def Ql(f:UInt32)(a:LB):Nat->Int->LU->Cr
|0,_,_=>none
|q+1,g,b=>JG (YN (Ql f a q) f a) IP f a g b
def ZC f a:=Ql f a Ax
def dS(j16:UInt32->LB->Int->LU->Cr)(f:UInt32)(a:LB):Cr:=
if(Ex (Ac a) 100000)then
some (0,4)
else
j16 f a 0 (List.replicate 256 (0:UInt32))
def jD:=dS ZC
def BR(b:LB):Option (UInt32×Int):=
(jD 4294967295 b).bind λ(f,a)=>
if(Be a 0)then
some (0,a)
else
some ((jh f),0)
def L7(b:UInt64)(a:Int):Option Bool:=
if(geq a 8)then
some true
else
(Md (Nj (Br 8 a) 0)).bind λ_=>
some (geq (Ct b (GI.toZ (Br 8 a)).toNat) 0)
abbrev FA:=Option (LB×Int)
def G4(a:LB):FA:=
some (a,0)
def nN:=G4
def bL(j6:LB->FA)(Sj:Int->LB->FA)(f:UInt64)(g:LB)(b:Int)(a:LB):FA:=
if(Cj b (Ac g))then
(Md (Nj (Br 8 b) 0)).bind λ_=>
(Ao a b).bind λ_=>
(Nk a b (Af (Ct f (GI.toZ (Br 8 b)).toNat):UInt8)).bind λk=>
Sj (Ad b 1) k
else
j6 a
def FP(f:UInt64)(g:LB):Nat->Int->LB->FA
|0,_,_=>none
|q+1,b,a=>bL nN (FP f g q) f g b a
def nV f g:=FP f g Ax
def qG(j4:UInt64->LB->Int->LB->FA)(f:UInt64)(h:Int):FA:=
if((Cj h 1)||(Ex h 8))then
some (([]:LB),2)
else
(L7 f h).bind λm=>
if(!m)then
some (([]:LB),16)
else
(mkI h (0:UInt8)).bind λg=>
(Md (geq h h)).bind λ_=>
j4 f g 0 g
def DE:=qG nV
def VP(f:LB):Option (LB):=
some f
def Zc:=VP
def Gw(j16:LB->Option (LB))(Bay:Int->LB->Option (LB))(a:List LB)(g:Int)(f:LB):Option (LB):=
if(Cj g (Ac a))then
(Ao a g).bind λo=>
(Et f o).bind λp=>
Bay (Ad g 1) p
else
j16 f
def Eu(a:List LB):Nat->Int->LB->Option (LB)
|0,_,_=>none
|q+1,g,f=>Gw Zc (Eu a q) a g f
def Oy a:=Eu a Ax
def Pc(j14:(List LB)->Int->LB->Option (LB))(a:List LB)(k:LB):Option (LB):=
j14 a 0 k
def Jw:=Pc Oy
def Pm(j13:(List LB)->LB->Option (LB))(b:Int)(a:List LB):Option (LB):=
if(Ex (Ap b (Ap (0:Int) (0:Int))) 0)then
(kW 0 0 0).bind λ_=>
(mkI (Ap b (Ap (0:Int) (0:Int))) (0:UInt8)).bind λu=>
(Et ([]:LB) u).bind λm=>
(kW (Ac m) 0 0).bind λ_=>
j13 a (aL m 0 ((0:Int)-(0:Int)))
else
j13 a ([]:LB)
def Oz:=Pm Jw
def Pq(j12:Int-> (List LB)->Option (LB))(a:List LB)(b:Int):Option (LB):=
if(Cj b 0)then
none
else
j12 b a
def Pa:=Pq Oz
def Hq(j11:(List LB)->Int->Option (LB))(bk9:Int->Int->Option (LB))(a:List LB)(b h:Int):Option (LB):=
if(Cj h (Ac a))then
(Ao a h).bind λn=>
if(Cj (Ad b (Ac n)) 0)then
none
else
bk9 (Ad b (Ac n)) (Ad h 1)
else
j11 a b
def Fg(a:List LB):Nat->Int->Int->Option (LB)
|0,_,_=>none
|q+1,b,h=>Hq Pa (Fg a q) a b h
def Qj a:=Fg a Ax
def Qk(j9:(List LB)->Int->Int->Option (LB))(a:List LB):Option (LB):=
j9 a 0 0
def Nn:=Qk Qj
abbrev Cc:=Option (LB×Int)
def YY(u:Int)(p:LB):Cc:=
(BR p).bind λ(af,ac)=>
if(Be ac 0)then
some (([]:LB),ac)
else
(DE (Af af:UInt64) 4).bind λ(m,h)=>
if(Be h 0)then
some (([]:LB),h)
else
(Nn ([p,m]:List LB)).bind λag=>
some (ag,0)
def FC:=YY
def WU(kR:Int-> (List (Int×Int×UInt64×UInt64×Unit))->Int->LB->Cc)(a:LU)(b f g:Int)(k:List (Int×Int×UInt64×UInt64×Unit))(n:Int)(v:LB):Cc:=
kR (Ad g 1) k n v
def EE kR:=WU kR
def ZD(oo:Int->Int->LB->Cc)(h:Int)(a:LU)(g b f:Int)(k:List (Int×Int×UInt64×UInt64×Unit))(m:LB)(o n:Int)(aa:LB):Cc:=
oo (Ad o 1) (Ad n 1) aa
def EI oo:=ZD oo
def EN(j48:Int->Int->LB->Cc)(h:Int)(a:LU)(g b f:Int)(k:List (Int×Int×UInt64×UInt64×Unit))(m:LB)(o n:Int)(y:LB):Cc:=
(Ao m (Db o 8)).bind λ_=>
(Ao m (Db o 8)).bind λah=>
(Md (Nj (Io o 8) 0)).bind λ_=>
(Ao y (Db n 8)).bind λ_=>
(Md (Nj (Io n 8) 0)).bind λ_=>
(Ao y (Db n 8)).bind λai=>
(Ao y (Db n 8)).bind λ_=>
Option.bind (Nk y (Db n 8) (D0 ai (Ei (Ey (Ct ah (GI.toZ (Io o 8)).toNat) 1) (GI.toZ (Io n 8)).toNat))) λaa=>
j48 o n aa
def Wg oo h a g b f k m:=EN (EI oo h a g b f k m) h a g b f k m
def Wk(j47:Int->Int->LB->Cc)(j50:Int-> (List (Int×Int×UInt64×UInt64×Unit))->Int->LB->Cc)(a:LU)(b f h g:Int)(k:List (Int×Int×UInt64×UInt64×Unit))(m:LB)(o n:Int)(v:LB):Cc:=
if(Cj o h)then
if(geq (Io n 8) 0)then
(Et v ([(0:UInt8)]:LB)).bind λaj=>
j47 o n aj
else
j47 o n v
else
j50 g k n v
def Hm(kR:Int-> (List (Int×Int×UInt64×UInt64×Unit))->Int->LB->Cc)(a:LU)(b f h g:Int)(k:List (Int×Int×UInt64×UInt64×Unit))(m:LB):Nat->Int->Int->LB->Cc
|0,_,_,_=>none
|q+1,o,n,v=>Wk (Wg (Hm kR a b f h g k m q) h a g b f k m) (EE kR a b f) a b f h g k m o n v
def YC kR a b f h g k m:=Hm kR a b f h g k m Ax
def Wi(j44:Int->Int-> (List (Int×Int×UInt64×UInt64×Unit))->LB->Int->Int->LB->Cc)(j52:Int->LB->Cc)(a:LU)(b f g:Int)(w:List (Int×Int×UInt64×UInt64×Unit))(u:Int)(p:LB):Cc:=
if(Cj g (Ac a))then
(Ao a g).bind λ_=>
(Ao a g).bind λak=>
(Md (Be b 0)).bind λ_=>
(Ao w (Io g b)).bind λ_=>
(Ao w (Io g b)).bind λab=>
(kF ([]:LB) 0 ab.1 ab.2.1 ab.2.2.1 ab.2.2.2.1 ak).bind λ(m,h,al,am,an,ao,ad)=>
if(Be ad 0)then
some (([]:LB),ad)
else
(Md (Be b 0)).bind λ_=>
(Ao w (Io g b)).bind λ_=>
(Nk w (Io g b) (al,am,an,ao,())).bind λk=>
j44 h g k m 0 u p
else
j52 u p
def Jm(a:LU)(b f:Int):Nat->Int-> (List (Int×Int×UInt64×UInt64×Unit))->Int->LB->Cc
|0,_,_,_,_=>none
|q+1,g,w,u,p=>Wi (YC (Jm a b f q) a b f) FC a b f g w u p
def ES a b f:=Jm a b f Ax
def JK(j27:LU->Int->Int->Int-> (List (Int×Int×UInt64×UInt64×Unit))->Int->LB->Cc)(b f:Int)(ap aq:LX):Cc:=
(KS b f ap aq).bind λ(a,ae)=>
if(Be ae 0)then
some (([]:LB),ae)
else
(LD).bind λar=>
j27 a b f 0 ar 0 ([]:LB)
def Vy:=JK ES
def To(a:Int)(b:LX):LI->Int->Option (List LX)
  |[],_=>some []
  |n::l,x=>Option.bind (Bm b x (Ad x (Br n a))) λp=>Option.bind (To a b l (Ad x (Br n a))) λps=>some (p::ps)
def Ts(a f:Int)(t:LX):List LX->List LB->Option (List LB×Int)
  |[],o=>some (o,0)
  |x::xs,o=>Option.bind (Vy a f t x) λy=>
    if(Be y.2 0)=true then some ([],y.2)
    else Option.bind (Et o [y.1]) λo'=>Ts a f t xs o'
def XN(a h:Int)(b:LX):Option (List LX):=
  Option.bind (Md (Be a 0)) λ_=>Option.bind (AT h (Db (Ac b) a)) λl=>Option.bind (Md (decide (Ac l.1<=17179869184))) λ_=>To a b l.1 0
def PU(a f h:Int)(b:LX)(p:LB):Option (List LB×Int):=
  Option.bind (Fi a f h b) λe=>
    if(Be e 0)=true then some ([],e)
    else Option.bind (Qe p) λt=>
      if(Be t.2 0)=true then some ([],t.2)
      else Option.bind (XN a h b) λxs=>Ts a f t.1 xs []
def NM(b f a g h:Int):Option Bool:=
some (((((((geq b 1)||(geq b 2))&&(Ex f 0))&&(oz f 6))&&(Ex g 0))&&(oz g 1048576))&&(Ex h 0))
def Pz:=NM
def BH(j2:Int->Int->Int->Int->Int->Option Bool)(b f a g h:Int):Option Bool:=
if(geq a 8)then
if(geq a 8)then
j2 b f a g h
else
some false
else
if(geq a 16)then
if(geq a 16)then
j2 b f a g h
else
some false
else
if(geq a 24)then
j2 b f a g h
else
some false
def Tv:=BH Pz
def PW(k a m f b:Int):Option Bool:=
(Md (Be a 0)).bind λ_=>
if(Ex b (Db 4000 a))then
some false
else
(Jz f b).bind λ(g,h)=>
some ((geq h 0)&&(oz g 1000))
def Pf(a b f g h:Int):Option Int:=
(Tv a b f g h).bind λk=>
if(!k)then
some 8
else
(PW a b f g h).bind λm=>
if(!m)then
some 8
else
some 0
abbrev Qt:=Option (LB×Int)
def lR(a:LB):Qt:=
(BR a).bind λ(u,aa)=>
(DE (Af u:UInt64) 4).bind λ(n,v)=>
(Et a n).bind λo=>
some (o,0)
def ED:=lR
def DT(j6:LB->Qt)(Sj:Int->LB->Qt)(b f g h k m:Int)(a:LB):Qt:=
if(Cj m 5)then
(Ao ([b,f,g,h,k]:LI) m).bind λw=>
(Ao ([(2:Int),(2:Int),(2:Int),(4:Int),(4:Int)]:LI) m).bind λy=>
(DE (Af w:UInt64) y).bind λ(n,v)=>
(Et a n).bind λo=>
Sj (Ad m 1) o
else
j6 a
def Nz(b f g h k:Int):Nat->Int->LB->Qt
|0,_,_=>none
|q+1,m,a=>DT ED (Nz b f g h k q) b f g h k m a
def SR b f g h k:=Nz b f g h k Ax
def TZ(j4:Int->Int->Int->Int->Int->Int->LB->Qt)(b f g h k:Int):Qt:=
(Pf b f g h k).bind λp=>
if(Be p 0)then
some (([]:LB),p)
else
j4 b f g h k 0 ([(84:UInt8),(84:UInt8),(65:UInt8),(49:UInt8)]:LB)
def VK:=TZ SR
def zG(a:LB):Option (UInt64×Int):=
if(Ex (Ac a) 64)then
some (0,2)
else
(fY a).bind λ(b,f)=>
some (b,0)
def JP(b:LB):Option (LB×Int):=
(zG b).bind λ(f,a)=>
if(Be a 0)then
some (([]:LB),a)
else
(DE f 8).bind λ(g,h)=>
some (g,h)
def Z5:Option Int:=
some 0
def pI:=Z5
def JX(j6:Option Int)(Sj:Int->Int->Option Int)(a:LI)(f b:Int):Option Int:=
if(Cj b (Ac a))then
(Ao a b).bind λg=>
if((Cj g 5)||(Ex g f))then
some 8
else
Sj (Ap f g) (Ad b 1)
else
j6
def Vs(a:LI):Nat->Int->Int->Option Int
|0,_,_=>none
|q+1,f,b=>JX pI (Vs a q) a f b
def XA a:=Vs a Ax
def JJ(j4:LI->Int->Int->Option Int)(a:LI):Option Int:=
if((geq (Ac a) 0)||(Ex (Ac a) 1000))then
some 8
else
j4 a 100000 0
def Pr:=JJ XA
abbrev Jd:=Option (LB×Int)
def K0(g:LB):Jd:=
some (g,0)
def kV:=K0
def TE(j14:LB->Jd)(b:LB):Jd:=
(BR b).bind λ(m,u)=>
(DE (Af m:UInt64) 4).bind λ(n,v)=>
(Et b n).bind λg=>
j14 g
def TP:=TE kV
def lL(bk8:Int->LB->Jd)(a:LI)(f:Int)(h:LB):Jd:=
bk8 (Ad f 1) h
def TW bk8:=lL bk8
def HW(j11:Int->LB->Jd)(j13:LB->Jd)(a:LI)(f:Int)(b:LB):Jd:=
if(Cj f (Ac a))then
(Ao a f).bind λo=>
(DE (Af o:UInt64) 4).bind λ(p,w)=>
(Et b p).bind λh=>
j11 f h
else
j13 b
def Vo(a:LI):Nat->Int->LB->Jd
|0,_,_=>none
|q+1,f,b=>HW (TW (Vo a q) a) TP a f b
def pD a:=Vo a Ax
def aE(j8:LI->Int->LB->Jd)(a:LI):Jd:=
(Pr a).bind λk=>
if(Be k 0)then
some (([]:LB),k)
else
j8 a 0 ([]:LB)
def aP:=aE pD
def dI(a:LB):Option Int:=
some (Ac a)
def U8(a:LB):Option (LB):=
some a
def oP:=U8
def IC(j6:LB->Option (LB))(Sj:Int->LB->Option (LB))(b:List LB)(f:Int)(a:LB):Option (LB):=
if(Cj f (Ac b))then
(Ao b f).bind λg=>
(Et a g).bind λh=>
Sj (Ad f 1) h
else
j6 a
def Ut(b:List LB):Nat->Int->LB->Option (LB)
|0,_,_=>none
|q+1,f,a=>IC oP (Ut b q) b f a
def nS b:=Ut b Ax
def qO(j4:(List LB)->Int->LB->Option (LB))(b:List LB):Option (LB):=
j4 b 0 ([]:LB)
def nI:=qO nS
abbrev Gc:=Option (LB×Int)
def lZ(k:Int)(a:List LB)(b f n:LB):Gc:=
if(Be k 0)then
some (([]:LB),k)
else
(Et ([b,f,n]:List LB) a).bind λm=>
(nI m).bind λad=>
some (ad,0)
def TA:=lZ
def TH(j14:Int-> (List LB)->LB->LB->LB->Gc)(h:LI)(a:List LB)(b f:LB):Gc:=
(aP h).bind λ(n,k)=>
j14 k a b f n
def Xl:=TH TA
def lB(bk9:Int->LI->Gc)(a:List LB)(b f:LB)(g:Int)(m:LI):Gc:=
bk9 (Ad g 1) m
def TK bk9:=lB bk9
def IE(j11:Int->LI->Gc)(j13:LI-> (List LB)->LB->LB->Gc)(a:List LB)(b f:LB)(g:Int)(h:LI):Gc:=
if(Cj g (Ac a))then
(Ao a g).bind λ_=>
(Ao a g).bind λae=>
(dI ae).bind λk=>
(Ao h g).bind λ_=>
(Nk h g k).bind λm=>
j11 g m
else
j13 h a b f
def Vg(a:List LB)(b f:LB):Nat->Int->LI->Gc
|0,_,_=>none
|q+1,g,h=>IE (TK (Vg a b f q) a b f) Xl a b f g h
def qB a b f:=Vg a b f Ax
def YI(j9:(List LB)->LB->LB->Int->LI->Gc)(a:List LB)(b f:LB):Gc:=
(mkI (Ac a) (0:Int)).bind λaf=>
(Md (geq (Ac a) (Ac a))).bind λ_=>
j9 a b f 0 af
def KJ:=YI qB
def XS(j8:(List LB)->LB->LB->Gc)(p u v:Int)(w:LX)(o:LB):Gc:=
(cG p u v w o).bind λ(y,ag,ah,ai,aj,aa)=>
if(Be aa 0)then
some (([]:LB),aa)
else
(PU p u v w o).bind λ(a,ab)=>
if(Be ab 0)then
some (([]:LB),ab)
else
(VK y ag ah ai aj).bind λ(b,ac)=>
if(Be ac 0)then
some (([]:LB),ac)
else
if(geq y 2)then
(JP o).bind λ(ak,al)=>
j8 a b ak
else
j8 a b ([]:LB)
def SL:=XS KJ
def ZI:Option (LB×Bool):=
(SL 1 8 1 ([(1:Int32),(2:Int32)]:LX) ([]:LB)).bind λ(a,b)=>
some (a,((geq b 0)&&(geq (Ac a) 46)))
def Iq(a b:LB):Option Bool:=
some (a==b)
def Nv(b a:LB):Option Bool:=
if(Nj (Ac b) (Ac a))then
(Bm b 0 (Ac a)).bind λf=>
(Iq f a).bind λg=>
some g
else
some false
abbrev Nu:=Option (Int×Int)
def zJ(b:Int):Nu:=
some (b,0)
def gO:=zJ
def BJ(j6:Int->Nu)(Sj:Int->Int->Nu)(a:LB)(b f:Int):Nu:=
if(Cj f (Ac a))then
(Ao a f).bind λg=>
if(Ex g 127)then
some (0,12)
else
Sj (D0 (Ei b (GI.toZ (7:UInt64)).toNat) (Af g:Int)) (Ad f 1)
else
j6 b
def Py(a:LB):Nat->Int->Int->Nu
|0,_,_=>none
|q+1,b,f=>BJ gO (Py a q) a b f
def NZ a:=Py a Ax
def OP(j4:LB->Int->Int->Nu)(a:LB):Nu:=
if(Be (Ac a) 4)then
some (0,2)
else
j4 a 0 0
def PM:=OP NZ
abbrev Kq:=Option (Int×Int)
def kY(a:LB)(b:UInt8)(h:Int):Kq:=
if(Ex h 4000)then
some (0,4)
else
if(Cj (Ac a) h)then
some (0,24)
else
if(geq b 16)then
(Bm a (Ap h 10) h).bind λk=>
(Bm k 0 3).bind λu=>
if(u !=([51,68,73]:LB))then
some (0,12)
else
(Bm k 3 (Ac k)).bind λv=>
(Bm a 3 10).bind λw=>
(Iq v w).bind λy=>
if(!y)then
some (0,12)
else
some (h,0)
else
some (h,0)
def DV:=kY
def SO(j8:LB->UInt8->Int->Kq)(a:LB)(g:Int)(b:UInt8):Kq:=
if(geq b 16)then
j8 a b (Ad (Ad g 10) 10)
else
j8 a b (Ad g 10)
def DZ:=SO DV
def SP(j7:LB->Int->UInt8->Kq)(a:LB)(g:Int)(b:UInt8)(m:Bool):Kq:=
if m then
some (0,12)
else
j7 a g b
def SZ:=SP DZ
def TF(j6:LB->Int->UInt8->Bool->Kq)(a:LB)(f b:UInt8):Kq:=
(Bm a 6 10).bind λaa=>
(PM aa).bind λ(g,ab)=>
if(Be ab 0)then
if true then
j6 a g b true
else
if(geq b 0)then
j6 a g b (!((Nj f 2)&&(oz f 4)))
else
if(geq b 16)then
j6 a g b (!(geq f 4))
else
j6 a g b (!false)
else
(Ao a 4).bind λac=>
if(Be ac 0)then
j6 a g b true
else
if(geq b 0)then
j6 a g b (!((Nj f 2)&&(oz f 4)))
else
if(geq b 16)then
j6 a g b (!(geq f 4))
else
j6 a g b (!false)
def SQ:=TF SZ
def EA(j5:LB->UInt8->UInt8->Kq)(a:LB):Kq:=
(Nv a ([(73:UInt8),(68:UInt8),(51:UInt8)]:LB)).bind λn=>
if(!n)then
some (0,6)
else
if(Cj (Ac a) 10)then
some (0,24)
else
(Ao a 3).bind λf=>
(Ao a 5).bind λb=>
(
(
(
j5 a f b)))
def VF:=EA SQ
abbrev EK:=Option (UInt64×Int)
def Ac5(b:UInt64):EK:=
some (b,0)
def J7:=Ac5
def cI(j6:UInt64->EK)(Sj:UInt64->Int->EK)(a:LB)(b:UInt64)(f:Int):EK:=
if(Cj f (Ac a))then
(Ao a f).bind λg=>
(Md (Nj (Br 8 f) 0)).bind λ_=>
Sj (D0 b (Ei (Af g:UInt64) (GI.toZ (Br 8 f)).toNat)) (Ad f 1)
else
j6 b
def FW(a:LB):Nat->UInt64->Int->EK
|0,_,_=>none
|q+1,b,f=>cI J7 (FW a q) a b f
def nX a:=FW a Ax
def oT(j4:LB->UInt64->Int->EK)(a:LB):EK:=
if((Cj (Ac a) 1)||(Ex (Ac a) 8))then
some (0,2)
else
j4 a 0 0
def nO:=oT nX
def eJ(f:LB)(a b:Int):Option (UInt64×Int):=
if(((Cj b 1)||(Ex b 8))||(Cj a 0))then
some (0,2)
else
if(Ex a (Ap (Ac f) b))then
some (0,24)
else
(Bm f a (Ad a b)).bind λg=>
(nO g).bind λ(h,k)=>
some (h,k)
def X1(g:LB):Option (LB):=
some g
def tU:=X1
def iB(j6:LB->Option (LB))(Sj:Int->LB->Option (LB))(a b:Int)(f:UInt64)(h:Int)(g:LB):Option (LB):=
if(Cj h (Ac ([(2000:UInt64),(Af (Ad a 32):UInt64),(Af b:UInt64),f,(0:UInt64),(0:UInt64)]:LQ)))then
(Ao ([(2000:UInt64),(Af (Ad a 32):UInt64),(Af b:UInt64),f,(0:UInt64),(0:UInt64)]:LQ) h).bind λ_=>
(Ao ([(2000:UInt64),(Af (Ad a 32):UInt64),(Af b:UInt64),f,(0:UInt64),(0:UInt64)]:LQ) h).bind λk=>
(DE k 4).bind λ(m,o)=>
(Et g m).bind λn=>
Sj (Ad h 1) n
else
j6 g
def FE(a b:Int)(f:UInt64):Nat->Int->LB->Option (LB)
|0,_,_=>none
|q+1,h,g=>iB tU (FE a b f q) a b f h g
def uF a b f:=FE a b f Ax
def uT(j4:Int->Int->UInt64->Int->LB->Option (LB))(a b:Int)(f:UInt64):Option (LB):=
j4 a b f 0 ([(65:UInt8),(80:UInt8),(69:UInt8),(84:UInt8),(65:UInt8),(71:UInt8),(69:UInt8),(88:UInt8)]:LB)
def qZ:=uT uF
def VV(b:LB)(g:UInt64):Option (Int×Int×Bool):=
(eJ b 12 4).bind λ(a,m)=>
(eJ b 16 4).bind λ(f,n)=>
if(((Cj a 32)||(Ex a 3032))||(Ex f 1000))then
some (0,0,false)
else
(qZ (Ap (Af a:Int) 32) (Af f:Int) g).bind λh=>
(Iq b h).bind λk=>
some ((Ap (Af a:Int) 32),(Af f:Int),k)
def rY(a:LB):Option (Int×Int):=
(Nv a ([(65:UInt8),(80:UInt8),(69:UInt8),(84:UInt8),(65:UInt8),(71:UInt8),(69:UInt8),(88:UInt8)]:LB)).bind λf=>
if(!f)then
some (0,6)
else
if(Cj (Ac a) 32)then
some (0,24)
else
(Bm a 0 32).bind λg=>
(VV g 2684354560).bind λ(b,h,k)=>
if(!k)then
some (0,12)
else
if(Cj (Ac a) (Ad b 64))then
some (0,24)
else
(Bm a (Ap (Ad b 64) 32) (Ad b 64)).bind λm=>
(qZ b h 2147483648).bind λn=>
(Iq m n).bind λo=>
if(!o)then
some (0,12)
else
some ((Ad b 64),0)
def Zs(a:LB):Option (Int×Int):=
(VF a).bind λ(f,b)=>
if(Be b 6)then
some (f,b)
else
(rY a).bind λ(g,h)=>
some (g,h)
def Ya(b:List UInt8):Nat->Int->Option (Int×Int)
  |0,_=>none
  |q+1,x=>Option.bind (Bm b x (Ac b)) λs=>Option.bind (Zs s) λr=>
    if geq r.2 (6:Int)=true then some (x,0)
    else if(geq r.2 (0:Int)&&Ex (Ad x r.1) (4000:Int))=true then some (0,4)
    else if Be r.2 (0:Int)=true then some (0,r.2)
    else Ya b q (Ad x r.1)
def Ir(b:List UInt8):Option (Int×Int):=Ya b Ax 0
def Ib(b a:LB):Option Bool:=
if(Nj (Ac b) (Ac a))then
(Bm b 0 (Ac a)).bind λf=>
some (f==a)
else
some false
def Kk(a b:LB):Option Bool:=
(Ib a b).bind λf=>
some f
abbrev Tr:=Option (Int×Int×Int×Int×Int×Int)
def mZ(a:LI):Tr:=
(Ao a 0).bind λ_=>
(Ao a 0).bind λh=>
(Ao a 1).bind λ_=>
(Ao a 1).bind λk=>
(Ao a 2).bind λ_=>
(Ao a 2).bind λm=>
(Ao a 3).bind λ_=>
(Ao a 3).bind λn=>
(Ao a 4).bind λ_=>
(Ao a 4).bind λo=>
(Tv h k m n o).bind λp=>
if(!p)then
some (0,0,0,0,0,12)
else
(PW h k m n o).bind λu=>
if(!u)then
some (0,0,0,0,0,4)
else
some (h,k,m,n,o,0)
def IF:=mZ
def IY(j6:LI->Tr)(Sj:Int->Int->LI->Tr)(b:LB)(g f:Int)(a:LI):Tr:=
if(Cj f 5)then
(Ao ([(2:Int),(2:Int),(2:Int),(4:Int),(4:Int)]:LI) f).bind λh=>
(eJ b g h).bind λ(v,ae)=>
(Ao a f).bind λ_=>
(Nk a f (Af v:Int)).bind λw=>
Sj (Ad g h) (Ad f 1) w
else
j6 a
def Qy(b:LB):Nat->Int->Int->LI->Tr
|0,_,_,_=>none
|q+1,g,f,a=>IY IF (Qy b q) b g f a
def HS b:=Qy b Ax
def ZN(j4:LB->Int->Int->LI->Tr)(b:LB):Tr:=
(Bm b 0 (Fj 4 (Ac b))).bind λy=>
(Kk ([84,84,65,49]:LB) y).bind λaa=>
if(!aa)then
some (0,0,0,0,0,12)
else
if(Cj (Ac b) 22)then
some (0,0,0,0,0,24)
else
(eJ b 18 4).bind λ(ab,af)=>
(Bm b 0 18).bind λac=>
(BR ac).bind λ(ad,ag)=>
if(Be (Af ad:UInt64) ab)then
some (0,0,0,0,0,22)
else
j4 b 4 0 (List.replicate 5 (0:Int))
def Lk:=ZN HS
def Dl(g h k a b:Int):Option (LI×Int):=
(Pf g h k a b).bind λf=>
if(Be f 0)then
some (([]:LI),f)
else
(AT a b).bind λ(m,n)=>
some (m,n)
def aT(f:LB):Option (Int×Int×Int×Int×Int×Int×Int×Int×Int×Int×LI×Int):=
if(Ex (Ac f) 100000)then
some (0,0,0,0,0,0,0,0,0,0,([]:LI),4)
else
(Ir f).bind λ(a,n)=>
if(Be n 0)then
some (0,0,0,0,0,0,0,0,0,0,([]:LI),n)
else
(Bm f a (Ac f)).bind λu=>
(Lk u).bind λ(b,g,h,k,m,o)=>
if(Be o 0)then
some (b,g,h,k,m,0,0,0,0,0,([]:LI),o)
else
(Dl b g h k m).bind λ(p,v)=>
if(geq b 2)then
some (b,g,h,k,m,a,(Ad a 22),(Ad (Ad a 22) 8),0,0,p,0)
else
some (b,g,h,k,m,a,(Ad a 22),(Ad a 22),0,0,p,0)
def Pg(a f:LB):Option (Bool×Int):=
(JP f).bind λ(b,g)=>
if((Be g 0)||(Be (Ac a) (Ac b)))then
some (false,2)
else
(Iq a b).bind λh=>
some (h,0)
abbrev Wz:=Option (LI×Int)
def sW(a:LI):Wz:=
(Pr a).bind λk=>
if(Be k 0)then
some (([]:LI),12)
else
some (a,0)
def PF:=sW
def PJ(j6:LI->Wz)(Sj:Int->LI->Wz)(b:LB)(f:LI)(g:Int)(a:LI):Wz:=
if(Cj g (Ac f))then
(eJ b (Br 4 g) 4).bind λ(k,u)=>
(Ao a g).bind λ_=>
(Nk a g (Af k:Int)).bind λm=>
Sj (Ad g 1) m
else
j6 a
def Xy(b:LB)(f:LI):Nat->Int->LI->Wz
|0,_,_=>none
|q+1,g,a=>PJ PF (Xy b f q) b f g a
def cN b f:=Xy b f Ax
def cV(j4:LB->LI->Int->LI->Wz)(b:LB)(h:Int):Wz:=
if((Cj h 1)||(Ex h 1000))then
some (([]:LI),2)
else
if(Cj (Ac b) (Ad (Br 4 h) 4))then
some (([]:LI),24)
else
(eJ b (Br 4 h) 4).bind λ(n,v)=>
(Bm b 0 (Br 4 h)).bind λo=>
(BR o).bind λ(p,w)=>
if(Be (Af p:UInt64) n)then
some (([]:LI),22)
else
(mkI h (0:Int)).bind λf=>
(Md (geq h h)).bind λ_=>
j4 b f 0 f
def AM:=cV cN
def KT(a:LB):Option (LB×Int):=
if(Cj (Ac a) 5)then
some (([]:LB),24)
else
if(Ex (Ac a) 41254)then
some (([]:LB),4)
else
(Bm a 0 (Ap (Ac a) 4)).bind λf=>
(BR f).bind λ(g,b)=>
if(Be b 0)then
some (([]:LB),b)
else
(Bm a (Ap (Ac a) 4) (Ac a)).bind λh=>
(nO h).bind λ(k,m)=>
if((Be m 0)||(Be k (Af g:UInt64)))then
some (([]:LB),22)
else
(Bm a 0 (Ap (Ac a) 4)).bind λn=>
some (n,0)
def Abi(a:LB):Option (LB×Int×Int):=
if(Ex (Ac a) 41250)then
some (([]:LB),0,4)
else
(Fv a).bind λb=>
some (b,(Br 8 (Ac a)),0)
def Aed(g:UInt64):Option UInt64:=
some g
def J9:=Aed
def nJ(j6:UInt64->Option UInt64)(Sj:UInt64->Int->Option UInt64)(b f:Int)(h:LB)(k:Int)(g:UInt64)(a:Int):Option UInt64:=
if(Cj a f)then
(Ao h (Aap (Ad b a) (GI.toZ (3:UInt64)).toNat)).bind λm=>
(Md (Nj (Ey (Ad b a) 7) 0)).bind λ_=>
(Md (Nj (Fj (Ap f a) (Ap 8 (Ey (Ad b a) 7))) 0)).bind λ_=>
(Md (Nj a 0)).bind λ_=>
Sj (D0 g (Ei (Af (Ey (Ct m (GI.toZ (Ey (Ad b a) 7)).toNat) (Ap (Ei (1:UInt8) (GI.toZ (Fj (Ap f a) (Ap 8 (Ey (Ad b a) 7)))).toNat) 1)):UInt64) (GI.toZ a).toNat)) (Ad a (Fj (Ap f a) (Ap 8 (Ey (Ad b a) 7))))
else
j6 g
def RX(b f:Int)(h:LB)(k:Int):Nat->UInt64->Int->Option UInt64
|0,_,_=>none
|q+1,g,a=>nJ J9 (RX b f h k q) b f h k g a
def E5 b f h k:=RX b f h k Ax
def H2(j4:Int->Int->LB->Int->UInt64->Int->Option UInt64)(h:LB)(k b f:Int):Option UInt64:=
j4 b f h k 0 0
def yG:=H2 E5
abbrev Gn:=Option (LB×Int×Int)
def xD(o:Int)(p:LB):Gn:=
some (p,o,0)
def jW:=xD
def xA(kR:Int->Int->LB->Gn)(a:Int)(g:LB)(f b h:Int)(u:LB):Gn:=
kR (Ad b 64) h u
def UZ kR:=xA kR
def yJ(oo:UInt64->Int->Int->LB->Gn)(a b:Int)(g:LB)(f:Int)(k n:UInt64)(m h:Int)(w:LB):Gn:=
(Md (Nj (Fj m (Ap 8 (Ey h 7))) 0)).bind λ_=>
oo (Ct n (GI.toZ (Fj m (Ap 8 (Ey h 7)))).toNat) (Ap m (Fj m (Ap 8 (Ey h 7)))) (Ad h (Fj m (Ap 8 (Ey h 7)))) w
def jV oo:=yJ oo
def kA(j48:UInt64->Int->Int->LB->Gn)(a b:Int)(g:LB)(f:Int)(k n:UInt64)(m h:Int)(v:LB):Gn:=
(Ao v (Ap (Ac v) 1)).bind λ_=>
(Md (Nj (Fj m (Ap 8 (Ey h 7))) 0)).bind λ_=>
(Md (Nj (Ey h 7) 0)).bind λ_=>
(Ao v (Ap (Ac v) 1)).bind λaa=>
(Ao v (Ap (Ac v) 1)).bind λ_=>
Option.bind (Nk v (Ap (Ac v) 1) (D0 aa (Ei (Af (Ey n (Ap (Ei (1:UInt64) (GI.toZ (Fj m (Ap 8 (Ey h 7)))).toNat) 1)):UInt8) (GI.toZ (Ey h 7)).toNat))) λw=>
j48 n m h w
def UY oo a b g f k:=kA (jV oo a b g f k) a b g f k
def VC(j47:UInt64->Int->Int->LB->Gn)(j50:Int->Int->LB->Gn)(a:Int)(g:LB)(f b:Int)(k n:UInt64)(m h:Int)(u:LB):Gn:=
if(Ex m 0)then
if(geq (Ey h 7) 0)then
(Et u ([(0:UInt8)]:LB)).bind λab=>
j47 n m h ab
else
j47 n m h u
else
j50 b h u
def Td(kR:Int->Int->LB->Gn)(a:Int)(g:LB)(f b:Int)(k:UInt64):Nat->UInt64->Int->Int->LB->Gn
|0,_,_,_,_=>none
|q+1,n,m,h,u=>VC (UY (Td kR a g f b k q) a b g f k) (UZ kR a g f) a g f b k n m h u
def jM kR a g f b k:=Td kR a g f b k Ax
def kG(j44:Int->UInt64->UInt64->Int->Int->LB->Gn)(j52:Int->LB->Gn)(a:Int)(g:LB)(f b o:Int)(p:LB):Gn:=
if(Cj b a)then
(yG g f b (Fj 64 (Ap a b))).bind λk=>
j44 b k k (Fj 64 (Ap a b)) o p
else
j52 o p
def BT(a:Int)(g:LB)(f:Int):Nat->Int->Int->LB->Gn
|0,_,_,_=>none
|q+1,b,o,p=>kG (jM (BT a g f q) a g f) jW a g f b o p
def iM a g f:=BT a g f Ax
def qL(j27:Int->LB->Int->Int->Int->LB->Gn)(g:LB)(f y a:Int):Gn:=
(Ky g f).bind λac=>
if(Be ac 0)then
some (([]:LB),0,8)
else
if(((Cj y 0)||(Ex y a))||(Ex a f))then
some (([]:LB),0,2)
else
j27 a g f y 0 ([]:LB)
def nB:=qL iM
def KG(g:LB)(b f a:Int):Option (UInt64×Int):=
(Ky g b).bind λh=>
if(Be h 0)then
some (0,8)
else
if(((Cj a 0)||(Ex a 64))||(Cj f 0))then
some (0,2)
else
if(Ex f (Ap b a))then
some (0,24)
else
(yG g b f a).bind λk=>
some (k,0)
def Ic(a:UInt64):Option Int:=
if(geq a 0)then
some 64
else
(Ao ([(0:UInt8),(1:UInt8),(56:UInt8),(2:UInt8),(57:UInt8),(49:UInt8),(28:UInt8),(3:UInt8),(61:UInt8),(58:UInt8),(42:UInt8),(50:UInt8),(38:UInt8),(29:UInt8),(17:UInt8),(4:UInt8),(62:UInt8),(47:UInt8),(59:UInt8),(36:UInt8),(45:UInt8),(43:UInt8),(51:UInt8),(22:UInt8),(53:UInt8),(39:UInt8),(33:UInt8),(30:UInt8),(24:UInt8),(18:UInt8),(12:UInt8),(5:UInt8),(63:UInt8),(55:UInt8),(48:UInt8),(27:UInt8),(60:UInt8),(41:UInt8),(37:UInt8),(16:UInt8),(46:UInt8),(35:UInt8),(44:UInt8),(21:UInt8),(52:UInt8),(32:UInt8),(23:UInt8),(11:UInt8),(54:UInt8),(26:UInt8),(40:UInt8),(15:UInt8),(34:UInt8),(20:UInt8),(31:UInt8),(10:UInt8),(25:UInt8),(14:UInt8),(19:UInt8),(9:UInt8),(13:UInt8),(8:UInt8),(7:UInt8),(6:UInt8)]:LB) (GI.toZ (Ct (Br (Ey a (wL a)) 285870213051353865) (GI.toZ (58:UInt64)).toNat))).bind λb=>
some (Af b:Int)
abbrev Kh:=Option (Int×Int×Int)
def P6:Kh:=
some (0,0,24)
def nG:=P6
def sX(j10:Kh):Kh:=
j10
def tF:=sX nG
def dW(j9:Kh)(f a:Int):Kh:=
if(geq f 48)then
some (f,(Ad 0 (Ad a f)),0)
else
j9
def dX:=dW tF
def dC(j8:Int->Int->Kh)(f b a:Int):Kh:=
if(Cj f (Fj 48 (Ap b a)))then
some (f,(Ad (Ad (0:Int) (1:Int)) (Ad a f)),0)
else
j8 f a
def dR:=dC dX
def cL(j7:Int->Int->Int->Kh)(h:Int)(k:UInt64)(a:Int)(g:LB)(b:Int):Kh:=
if(Be h 0)then
some (0,0,h)
else
(Ic (jh k)).bind λf=>
j7 f b a
def cQ:=cL dR
def DL(j6:Int->UInt64->Int->LB->Int->Kh)(g:LB)(b a:Int):Kh:=
(Ky g b).bind λm=>
if(Be m 0)then
some (0,0,m)
else
if(Cj a 0)then
some (0,0,2)
else
if(Nj a b)then
some (0,0,24)
else
(
(
(KG g b a (Fj 48 (Ap b a))).bind λ(k,h)=>
j6 h k a g b))
def NU:=DL cQ
abbrev pT:=Option (UInt32×Int×Int)
def iC(a b f:Int)(g:LB)(h k:Int):pT:=
(KG g h b k).bind λ(m,n)=>
if(Be n 0)then
some (0,0,n)
else
if(Cj f 48)then
(Md (Nj a 0)).bind λ_=>
some ((D0 (Ei (Af f:UInt32) (GI.toZ a).toNat) (Af m:UInt32)),(Ad b k),0)
else
(BY (Af m:UInt32) a).bind λu=>
if(!u)then
some (0,0,12)
else
some ((Af m:UInt32),(Ad b k),0)
def VE:=iC
def jH(j2:Int->Int->Int->LB->Int->Int->pT)(g:LB)(h v a:Int):pT:=
(Ky g h).bind λo=>
if(Be o 0)then
some (0,0,o)
else
if((Cj a 0)||(Ex a 24))then
some (0,0,2)
else
(NU g h v).bind λ(f,b,p)=>
if(Be p 0)then
some (0,0,p)
else
if(geq f 48)then
j2 a b f g h 32
else
j2 a b f g h a
def rF:=jH VE
abbrev Ni:=Option (UInt32×Int×Int×Int×UInt64×UInt64×Int)
def tQ(f:UInt32)(k w m:Int)(a n:UInt64):Ni:=
some (f,k,w,m,(Ad a (Ap (Af f:UInt64) (Ct a (GI.toZ (4:UInt64)).toNat))),n,0)
def dV:=tQ
def kM(j10:UInt32->Int->Int->Int->UInt64->UInt64->Ni)(f:UInt32)(k m:Int)(a n:UInt64)(w:Int):Ni:=
j10 f k w m a n
def iL:=kM dV
def kD(j9:UInt32->Int->Int->UInt64->UInt64->Int->Ni)(f:UInt32)(k b:Int)(a:UInt64)(m:Int)(n:UInt64):Ni:=
if(Ex b 0)then
(Md (Nj b 0)).bind λ_=>
if(Cj (Ad a (Ap (Af f:UInt64) (Ct a (GI.toZ (4:UInt64)).toNat))) (Ei (16:UInt64) (GI.toZ b).toNat))then
j9 f k m a n (Ap b 1)
else
if(Cj b 24)then
(Md (Nj b 0)).bind λ_=>
if(Ex (Ad a (Ap (Af f:UInt64) (Ct a (GI.toZ (4:UInt64)).toNat))) (Ei (32:UInt64) (GI.toZ b).toNat))then
j9 f k m a n (Ad b 1)
else
j9 f k m a n b
else
j9 f k m a n b
else
if(Cj b 24)then
(Md (Nj b 0)).bind λ_=>
if(Ex (Ad a (Ap (Af f:UInt64) (Ct a (GI.toZ (4:UInt64)).toNat))) (Ei (32:UInt64) (GI.toZ b).toNat))then
j9 f k m a n (Ad b 1)
else
j9 f k m a n b
else
j9 f k m a n b
def JT:=kD iL
def iZ(j8:UInt32->Int->Int->UInt64->Int->UInt64->Ni)(b h:Int)(a g:UInt64)(f:UInt32)(k:Int):Ni:=
(NJ b h a g f).bind λ(ad,o)=>
if(geq ad 1)then
if(Ex h 0)then
(Md (Nj h 0)).bind λ_=>
if(Cj (Ad g (Ap (Af o:UInt64) (Ct g (GI.toZ (4:UInt64)).toNat))) (Ei (16:UInt64) (GI.toZ h).toNat))then
j8 f k b a (Ap h 1) (Ad g (Ap (Af o:UInt64) (Ct g (GI.toZ (4:UInt64)).toNat)))
else
if(Cj h 24)then
(Md (Nj h 0)).bind λ_=>
if(Ex (Ad g (Ap (Af o:UInt64) (Ct g (GI.toZ (4:UInt64)).toNat))) (Ei (32:UInt64) (GI.toZ h).toNat))then
j8 f k b a (Ad h 1) (Ad g (Ap (Af o:UInt64) (Ct g (GI.toZ (4:UInt64)).toNat)))
else
j8 f k b a h (Ad g (Ap (Af o:UInt64) (Ct g (GI.toZ (4:UInt64)).toNat)))
else
j8 f k b a h (Ad g (Ap (Af o:UInt64) (Ct g (GI.toZ (4:UInt64)).toNat)))
else
if(Cj h 24)then
(Md (Nj h 0)).bind λ_=>
if(Ex (Ad g (Ap (Af o:UInt64) (Ct g (GI.toZ (4:UInt64)).toNat))) (Ei (32:UInt64) (GI.toZ h).toNat))then
j8 f k b a (Ad h 1) (Ad g (Ap (Af o:UInt64) (Ct g (GI.toZ (4:UInt64)).toNat)))
else
j8 f k b a h (Ad g (Ap (Af o:UInt64) (Ct g (GI.toZ (4:UInt64)).toNat)))
else
j8 f k b a h (Ad g (Ap (Af o:UInt64) (Ct g (GI.toZ (4:UInt64)).toNat)))
else
j8 f k b a h g
def VH:=iZ JT
def jZ(j7:Int->Int->UInt64->UInt64->UInt32->Int->Ni)(p:Int)(u:LB)(v b h:Int)(a g:UInt64):Ni:=
(KG u v p 1).bind λ(ae,aa)=>
if(Be aa 0)then
some (0,0,0,0,0,0,aa)
else
if(geq ae 0)then
(KG u v (Ad p 1) b).bind λ(af,ab)=>
if(Be ab 0)then
some (0,0,0,0,0,0,ab)
else
j7 b h a g (Af af:UInt32) (Ad (Ad p 1) b)
else
(rF u v (Ad p 1) h).bind λ(y,ag,ac)=>
if(Be ac 0)then
some (0,0,0,0,0,0,ac)
else
(Md (Nj b 0)).bind λ_=>
if(Cj (Ad y (Ei (1:UInt32) (GI.toZ b).toNat)) y)then
some (0,0,0,0,0,0,12)
else
j7 b h a g (Ad y (Ei (1:UInt32) (GI.toZ b).toNat)) ag
def iD:=jZ VH
def jX(j6:Int->LB->Int->Int->Int->UInt64->UInt64->Ni)(u:LB)(v p b h:Int)(a g:UInt64):Ni:=
(Ky u v).bind λah=>
if(Be ah 0)then
some (0,0,0,0,0,0,8)
else
(WW b h a g).bind λai=>
if(Be ai 0)then
some (0,0,0,0,0,0,8)
else
j6 p u v b h a g
def OI:=jX iD
abbrev Cn:=Option (LU×Int×Int)
def tY(k:Int)(m:LU):Cn:=
some (m,k,0)
def XZ:=tY
def WI(Qg:Int->Int-> (List (Int×Int×UInt64×UInt64×Unit))->LU->Cn)(a f:Int)(g:LB)(b k v:Int)(w:UInt32)(h:Int)(ag:List (Int×Int×UInt64×UInt64×Unit))(m:LU):Cn:=
(Et m ([w]:LU)).bind λak=>
Qg (Ad k v) (Ad h 1) ag ak
def EG Qg:=WI Qg
def Ws(j22:Int->Int->UInt32->Int-> (List (Int×Int×UInt64×UInt64×Unit))->LU->Cn)(a f:Int)(g:LB)(b k h y:Int)(w:UInt32)(v:Int)(n:List (Int×Int×UInt64×UInt64×Unit))(m:LU)(aa ab:Int)(ac ad:UInt64):Cn:=
if(Be y 0)then
some (([]:LU),0,y)
else
(Md (Be a 0)).bind λ_=>
(Ao n (Io h a)).bind λ_=>
(Nk n (Io h a) (aa,ab,ac,ad,())).bind λag=>
j22 k v w h ag m
def Wo Qg a f g b:=Ws (EG Qg a f g b) a f g b
def Xa(j21:Int->Int->Int->UInt32->Int-> (List (Int×Int×UInt64×UInt64×Unit))->LU->Int->Int->UInt64->UInt64->Cn)(j24:Int->LU->Cn)(a f:Int)(g:LB)(b k h:Int)(n:List (Int×Int×UInt64×UInt64×Unit))(m:LU):Cn:=
if(Cj h (Br f a))then
(nB g b k (Fj (Ad k 81) b)).bind λ(ah,ae,af)=>
if(Be af 0)then
some (([]:LU),0,af)
else
(Md (Be a 0)).bind λ_=>
(Ao n (Io h a)).bind λ_=>
(
(
(Ao n (Io h a)).bind λp=>
(
(OI ah ae 0 p.1 p.2.1 p.2.2.1 p.2.2.2.1).bind λ(w,v,aa,ab,ac,ad,y)=>
j21 k h y w v n m aa ab ac ad)))
else
j24 k m
def Qz(a f:Int)(g:LB)(b:Int):Nat->Int->Int-> (List (Int×Int×UInt64×UInt64×Unit))->LU->Cn
|0,_,_,_,_=>none
|q+1,k,h,n,m=>Xa (Wo (Qz a f g b q) a f g b) XZ a f g b k h n m
def XL a f g b:=Qz a f g b Ax
def YA(j16:Int->Int->LB->Int->Int->Int-> (List (Int×Int×UInt64×UInt64×Unit))->LU->Cn)(a f:Int)(g:LB)(b:Int)(o:List (Int×Int×UInt64×UInt64×Unit)):Cn:=
j16 a f g b 0 0 o ([]:LU)
def EX:=YA XL
def ZP(j15:Int->Int->LB->Int-> (List (Int×Int×UInt64×UInt64×Unit))->Cn)(At9:Int-> (List (Int×Int×UInt64×UInt64×Unit))->Cn)(a f:Int)(g:LB)(b u:Int)(o:List (Int×Int×UInt64×UInt64×Unit)):Cn:=
if(Cj u 6)then
(uA).bind λ(al,ae,af,am)=>
(Ao o u).bind λ_=>
(Nk o u (al,ae,af,am,())).bind λan=>
At9 (Ad u 1) an
else
j15 a f g b o
def ER(a f:Int)(g:LB)(b:Int):Nat->Int-> (List (Int×Int×UInt64×UInt64×Unit))->Cn
|0,_,_=>none
|q+1,u,o=>ZP EX (ER a f g b q) a f g b u o
def Xh a f g b:=ER a f g b Ax
def HN(j13:Int->Int->LB->Int->Int-> (List (Int×Int×UInt64×UInt64×Unit))->Cn)(a f:Int)(g:LB)(b:Int):Cn:=
j13 a f g b 0 (List.replicate 6 ((0:Int),(0:Int),(0:UInt64),(0:UInt64),()))
def IQ:=HN Xh
def BD(a:UInt32):Option Int32:=
some (Zn (Af (Ct a (GI.toZ (1:UInt64)).toNat):Int32) (wL (Af (Ey a 1):Int32)))
def oM(b:Int)(f g:LX)(a:Int32):Option (Int32×Int×LX×LX×Int):=
(WH b f g).bind λ(h,k)=>
if(Be k 0)then
some (0,0,(List.replicate 16 (0:Int32)),(List.replicate 16 (0:Int32)),k)
else
(WG b f g (Ad a h) a).bind λ(m,n,o)=>
some ((Ad a h),m,n,o,0)
def Oc(a:Int)(b:Int32)(f:Int)(g h:LX)(o:Int32):Option (Int32×Int×Int32×Int×LX×LX×Int):=
(AE a b f g h).bind λk=>
if(Be k 0)then
some (0,0,0,0,(List.replicate 16 (0:Int32)),(List.replicate 16 (0:Int32)),k)
else
(AD a b).bind λ(m,y)=>
(oM f g h o).bind λ(n,p,u,v,w)=>
(
some ((Ad n m),a,(Ad n m),p,u,v,w))
abbrev Im:=Option (LX×Int)
def Acb(f:LX):Im:=
some (f,0)
def wD:=Acb
def xL(eB:Int->LX->Im)(b a:Int)(h:LX):Im:=
eB (Ad a b) h
def iJ eB:=xL eB
def VN(j20:Int->LX->Im)(qf:Int->LX->Im)(b a g:Int)(h:LX):Im:=
if(Nj g 0)then
(Md (decide (0<= (Ad g 1)/\ (Ad g 1)<((Ad a b)-a)))).bind λ_=>
(Md (decide (0<=g/\g<((Ad a b)-a)))).bind λ_=>
(Ao h (a+(Ad g 1))).bind λo=>
(Ao h (a+g)).bind λp=>
(Md (decide (0<=g/\g<((Ad a b)-a)))).bind λ_=>
(Nk h (a+g) (Ap o p)).bind λu=>
qf (Ap g 1) u
else
j20 a h
def BE(eB:Int->LX->Im)(b a:Int):Nat->Int->LX->Im
|0,_,_=>none
|q+1,g,h=>VN (iJ eB b) (BE eB b a q) b a g h
def iI eB b a:=BE eB b a Ax
def iN(j18:Int->Int->LX->Im)(b a:Int)(k:LX):Im:=
j18 a (Ap (Ap ((Ad a b)-a) 1) 1) k
def VA eB b:=iN (iI eB b) b
def kH(j17:Int->LX->Im)(j22:LX->Im)(b a:Int)(f:LX):Im:=
if(Cj a (Ac f))then
(kW (Ac f) a (Ad a b)).bind λ_=>
if(Ex (Ap ((Ad a b)-a) 1) 0)then
(Md (decide (0<= (Ap ((Ad a b)-a) 1)/\ (Ap ((Ad a b)-a) 1)<((Ad a b)-a)))).bind λ_=>
Option.bind (Md (decide (0<= (Ap (Ap ((Ad a b)-a) 1) 1)/\ (Ap (Ap ((Ad a b)-a) 1) 1)<((Ad a b)-a)))) λ_=>
(Ao f (a+(Ap ((Ad a b)-a) 1))).bind λv=>
(Ao f (a+(Ap (Ap ((Ad a b)-a) 1) 1))).bind λw=>
(Md (decide (0<= (Ap ((Ad a b)-a) 1)/\ (Ap ((Ad a b)-a) 1)<((Ad a b)-a)))).bind λ_=>
(Nk f (a+(Ap ((Ad a b)-a) 1)) (Ad v (Db w 2))).bind λy=>
j17 a y
else
j17 a f
else
j22 f
def Wm(b:Int):Nat->Int->LX->Im
|0,_,_=>none
|q+1,a,f=>kH (VA (Wm b q) b) wD b a f
def iU b:=Wm b Ax
def qM(j12:Int->Int->LX->Im)(b:Int)(m:LX):Im:=
(gQ b m).bind λn=>
if(Be n 0)then
some (([]:LX),n)
else
(En m).bind λaa=>
j12 b 0 aa
def wZ:=qM iU
abbrev Cw:=Option (LX×Int)
def UF(a b:Int)(k:LX):Cw:=
(wZ a k).bind λ(ah,af)=>
if(Be af 0)then
some (([]:LX),af)
else
(Zt b ah).bind λae=>
if(Be ae 0)then
some (([]:LX),ae)
else
some (ah,0)
def Oq:=UF
def UR(At9:Int-> (List (Int×Int32×(Int×LX×LX×Unit)×Unit))->LX->Cw)(a:Int)(f:LU)(b g:Int)(w:Int32)(u:Int)(h:List (Int×Int32×(Int×LX×LX×Unit)×Unit))(k:LX)(y:Int)(v:Int32)(aa:Int)(ab ac:LX):Cw:=
if(Be u 0)then
some (([]:LX),u)
else
(Nk h (Io g a) (y,v,(aa,ab,ac,()),())).bind λai=>
(Et k ([w]:LX)).bind λaj=>
At9 (Ad g 1) ai aj
def CY At9:=UR At9
def Oj(j16:Int->Int32->Int-> (List (Int×Int32×(Int×LX×LX×Unit)×Unit))->LX->Int->Int32->Int->LX->LX->Cw)(j18:Int->Int->LX->Cw)(f:LU)(a b g:Int)(h:List (Int×Int32×(Int×LX×LX×Unit)×Unit))(k:LX):Cw:=
if(Cj g (Ac f))then
(Ao f g).bind λag=>
(Md (Be a 0)).bind λ_=>
(Ao h (Io g a)).bind λ_=>
(
(Ao h (Io g a)).bind λm=>
(
(BD ag).bind λae=>
(
(Oc m.1 m.2.1 m.2.2.1.1 m.2.2.1.2.1 m.2.2.1.2.2.1 ae).bind λ(w,y,v,aa,ab,ac,u)=>
j16 g w u h k y v aa ab ac)))
else
j18 a b k
def Lc(f:LU)(a b:Int):Nat->Int-> (List (Int×Int32×(Int×LX×LX×Unit)×Unit))->LX->Cw
|0,_,_,_=>none
|q+1,g,h,k=>Oj (CY (Lc f a b q) a f b) Oq f a b g h k
def UH f a b:=Lc f a b Ax
def UU(j13:LU->Int->Int->Int-> (List (Int×Int32×(Int×LX×LX×Unit)×Unit))->LX->Cw)(f:LU)(a b:Int)(n:List (Int×Int32×(Int×LX×LX×Unit)×Unit)):Cw:=
j13 f a b 0 n ([]:LX)
def CG:=UU UH
def UG(j12:LU->Int->Int-> (List (Int×Int32×(Int×LX×LX×Unit)×Unit))->Cw)(Ajc:Int-> (List (Int×Int32×(Int×LX×LX×Unit)×Unit))->Cw)(f:LU)(a b:Int)(o:LX)(p:Int)(n:List (Int×Int32×(Int×LX×LX×Unit)×Unit)):Cw:=
if(Cj p 6)then
(B6 b o).bind λ(ak,af,ae,al,am,v)=>
(Ao n p).bind λ_=>
(Nk n p (ak,af,(ae,al,am,()),())).bind λan=>
Ajc (Ad p 1) an
else
j12 f a b n
def CT(f:LU)(a b:Int)(o:LX):Nat->Int-> (List (Int×Int32×(Int×LX×LX×Unit)×Unit))->Cw
|0,_,_=>none
|q+1,p,n=>UG CG (CT f a b o q) f a b o p n
def Uk f a b o:=CT f a b o Ax
def EU(j10:LU->Int->Int->LX->Int-> (List (Int×Int32×(Int×LX×LX×Unit)×Unit))->Cw)(a b:Int)(o:LX)(f:LU):Cw:=
j10 f a b o 0 (List.replicate 6 ((0:Int),(0:Int32),((0:Int),(List.replicate 16 (0:Int32)),(List.replicate 16 (0:Int32)),()),()))
def Xn:=EU Uk
def Hi(a h:Int)(u:LX)(f:Int)(v:LB):Option (LX×Int):=
(Ht a h).bind λk=>
if(Be k 0)then
some (([]:LX),k)
else
if(Cj f 1)then
some (([]:LX),2)
else
(Md (Be a 0)).bind λ_=>
if(Ex f (Db 4000 a))then
some (([]:LX),2)
else
(KT v).bind λ(w,m)=>
if(Be m 0)then
some (([]:LX),m)
else
(Abi w).bind λ(n,b,o)=>
if(Be o 0)then
some (([]:LX),o)
else
(IQ a f n b).bind λ(y,g,p)=>
if(Be p 0)then
some (([]:LX),p)
else
if(Nj (Ap b g) 8)then
some (([]:LX),12)
else
(KG n b g (Ap b g)).bind λ(aa,ab)=>
if((Be ab 0)||(Be aa 0))then
some (([]:LX),12)
else
(Xn a h u y).bind λ(ac,ad)=>
some (ac,ad)
abbrev uM:=Option (Int×Int)
def H9(a:LB):uM:=
(Bm a (Ap (Ac a) 32) (Ac a)).bind λg=>
(VV g 0).bind λ(f,y,h)=>
if h then
if(Cj (Ap (Ac a) 32) f)then
some (0,24)
else
some ((Ad f 32),0)
else
(Bm a (Ap (Ac a) 32) (Ac a)).bind λk=>
(VV k 2147483648).bind λ(b,m,n)=>
if(!n)then
some (0,12)
else
if(Cj (Ac a) (Ad b 64))then
some (0,24)
else
(Bm a (Ap (Ac a) (Ad b 64)) (Ad (Ap (Ac a) (Ad b 64)) 32)).bind λo=>
(qZ b m 2684354560).bind λp=>
(Iq o p).bind λu=>
if(!u)then
some (0,12)
else
some ((Ad b 64),0)
def pX:=H9
def pO(j2:LB->uM)(a:LB):uM:=
if(Cj (Ap (Ac a) 32) 0)then
some (0,6)
else
(Bm a (Ap (Ac a) 32) (Ac a)).bind λv=>
(Nv v ([(65:UInt8),(80:UInt8),(69:UInt8),(84:UInt8),(65:UInt8),(71:UInt8),(69:UInt8),(88:UInt8)]:LB)).bind λw=>
if(!w)then
some (0,6)
else
j2 a
def yT:=pO pX
abbrev Hg:=Option (Int×Int)
def zU(a:Int):Hg:=
some (a,0)
def gP:=zU
def fG(bk8:Int->LB->Hg)(a:Int)(g:LB):Hg:=
bk8 (Ad a 1) g
def OV bk8:=fG bk8
def OR(j12:Int->LB->Hg)(a f:Int)(b:LB):Hg:=
if(geq f 0)then
some (0,38)
else
(Bm b 0 (Ap (Ac b) f)).bind λg=>
j12 a g
def OL bk8:=OR (OV bk8)
def SW(j11:Int->Int->LB->Hg)(j14:Int->Hg)(a:Int)(b:LB):Hg:=
if(Ex (Ac b) 0)then
(yT b).bind λ(f,k)=>
j11 a f b
else
j14 a
def Xj:Nat->Int->LB->Hg
|0,_,_=>none
|q+1,a,b=>SW (OL (Xj q)) gP a b
def lJ:=Xj Ax
def SS(j8:Int->LB->Hg)(h:LB):Hg:=
if(Ex (Ac h) 4000)then
some (0,38)
else
j8 0 h
def HH:=SS lJ
abbrev Ck:=Option (Int×Int×Int×LX×Int)
def nP(a:LB)(aa b f h:Int)(ad:LX):Ck:=
(Bm a aa (Ac a)).bind λaq=>
(HH aq).bind λ(bb,ar)=>
if(Be ar 0)then
some (0,0,0,([]:LX),38)
else
some (b,f,h,ad,0)
def ZX:=nP
def oU(Ajb:Int->Int->LX->Ck)(a:LB)(w:LI)(m b f h o p n g y ab:Int)(ac:LX)(k:LI)(aa aj ak ae:Int)(am ad:LX):Ck:=
if(Be ak 0)then
some (0,0,0,([]:LX),ak)
else
(Et ad am).bind λau=>
Ajb (Ad aa aj) (Ad ae 1) au
def XQ Ajb:=oU Ajb
def KR(j24:Int->Int->Int->Int->LX->LX->Ck)(j26:LB->Int->Int->Int->Int->LX->Ck)(a:LB)(w:LI)(m b f h o p n g y ab:Int)(ac:LX)(k:LI)(aa ae:Int)(ad:LX):Ck:=
if(Cj ae (Ac w))then
(Ao w ae).bind λ_=>
(Ao w ae).bind λaj=>
if(Cj (Ac a) (Ad aa aj))then
some (0,0,0,([]:LX),24)
else
(Ao k ae).bind λ_=>
(Bm a aa (Ad aa aj)).bind λav=>
(Ao k ae).bind λaw=>
(Hi b f ac aw av).bind λ(am,ak)=>
j24 aa aj ak ae am ad
else
j26 a aa b f h ad
def Vw(a:LB)(w:LI)(m b f h o p n g y ab:Int)(ac:LX)(k:LI):Nat->Int->Int->LX->Ck
|0,_,_,_=>none
|q+1,aa,ae,ad=>KR (XQ (Vw a w m b f h o p n g y ab ac k q) a w m b f h o p n g y ab ac k) ZX a w m b f h o p n g y ab ac k aa ae ad
def oZ a w m b f h o p n g y ab ac k:=Vw a w m b f h o p n g y ab ac k Ax
def HY(j21:LB->LI->Int->Int->Int->Int->Int->Int->Int->Int->Int->Int->LX->LI->Int->Int->LX->Ck)(a u:LB)(m b f h o p n g:Int)(k:LI)(an y ab:Int)(w:LI):Ck:=
if(Be an 0)then
some (0,0,0,([]:LX),an)
else
(Qe u).bind λ(ac,bc)=>
j21 a w m b f h o p n g y ab ac k y 0 ([]:LX)
def Qo:=HY oZ
def XD(j20:LB->LB->Int->Int->Int->Int->Int->Int->Int->Int->LI->Int->Int->Int->LI->Ck)(a u:LB)(v:LI)(m b f h o p n g af:Int)(k:LI):Ck:=
j20 a u m b f h o p n g k 0 (Ad (Ad g (Br 4 (Ac v))) 4) af v
def GW:=XD Qo
def IW(j19:LB->LB->LI->Int->Int->Int->Int->Int->Int->Int->Int->Int->LI->Ck)(Ba0:Int->Int->Ck)(v:LI)(a u:LB)(m b f h o p n g:Int)(k:LI)(ag af:Int):Ck:=
if(Cj ag (Ac v))then
(Ao v ag).bind λ_=>
(Ao v ag).bind λax=>
Ba0 (Ad ag 1) (Ad af ax)
else
j19 a u v m b f h o p n g af k
def Vm(v:LI)(a u:LB)(m b f h o p n g:Int)(k:LI):Nat->Int->Int->Ck
|0,_,_=>none
|q+1,ag,af=>IW GW (Vm v a u m b f h o p n g k q) v a u m b f h o p n g k ag af
def YQ v a u m b f h o p n g k:=Vm v a u m b f h o p n g k Ax
def GY(j20:LB->LB->Int->Int->Int->Int->Int->Int->Int->Int->LI->Int->Int->Int->LI->Ck)(j17:LI->LB->LB->Int->Int->Int->Int->Int->Int->Int->Int->LI->Int->Int->Ck)(al:Int)(a u:LB)(m b f h o p n g ah ai:Int)(v k:LI):Ck:=
if(Be al 0)then
j20 a u m b f h o p n g k al ah ai ([]:LI)
else
j17 v a u m b f h o p n g k 0 (Ad (Ad g (Br 4 (Ac v))) 4)
def KN:=GY Qo YQ
def ZG(j20:LB->LB->Int->Int->Int->Int->Int->Int->Int->Int->LI->Int->Int->Int->LI->Ck)(j16:Int->LB->LB->Int->Int->Int->Int->Int->Int->Int->Int->Int->Int->LI->LI->Ck)(a u:LB)(m b f h o p n g ah ai:Int)(k:LI):Ck:=
if(Cj (Ac a) g)then
j20 a u m b f h o p n g k 24 ah ai ([]:LI)
else
(Bm a g (Ac a)).bind λay=>
(AM ay (Ac k)).bind λ(v,al)=>
j16 al a u m b f h o p n g ah ai v k
def AL:=ZG Qo KN
def HU(j15:LB->LB->Int->Int->Int->Int->Int->Int->Int->Int->Int->Int->LI->Ck)(a u:LB)(m b f h o p n g ah ai:Int)(k:LI)(ao:Int):Ck:=
if(Be ao 0)then
some (0,0,0,([]:LX),ao)
else
j15 a u m b f h o p n g ah ai k
def Ur:=HU AL
def dJ(j14:LB->LB->Int->Int->Int->Int->Int->Int->Int->Int->Int->Int->LI->Int->Ck)(a u:LB):Ck:=
if(Ex (Ac u) 64)then
some (0,0,0,([]:LX),2)
else
(aT a).bind λ(m,b,f,h,o,p,n,g,ah,ai,k,ap)=>
if(Be ap 0)then
some (0,0,0,([]:LX),ap)
else
if((u==([]:LB)) !=(geq m 1))then
j14 a u m b f h o p n g ah ai k 26
else
if(geq m 1)then
j14 a u m b f h o p n g ah ai k 0
else
if(Cj (Ac a) g)then
j14 a u m b f h o p n g ah ai k 24
else
(Bm a n g).bind λaz=>
(Pg az u).bind λ(ba,bd)=>
if(!ba)then
j14 a u m b f h o p n g ah ai k 26
else
j14 a u m b f h o p n g ah ai k 0
def Ra:=dJ Ur
def Pw(a b:LB):Option Int:=
(Ra a b).bind λ(g,h,k,m,f)=>
some f
abbrev Er:=Option (Int×Int×Int×Int×Int×Int)
def K9(a:LB)(k m n o p f g b aa y:Int)(h:LI):Er:=
if(Cj (Ac a) y)then
some (0,0,0,0,0,24)
else
some (f,g,b,aa,y,0)
def kZ:=K9
def lQ(j12:LB->Int->Int->Int->Int->Int->Int->Int->Int->Int->Int->LI->Er)(a:LB)(k m n o p f g b:Int)(h:LI)(ae aa y:Int):Er:=
if(Be ae 0)then
some (0,0,0,0,0,ae)
else
j12 a k m n o p f g b aa y h
def DX:=lQ kZ
def lI(j11:LB->Int->Int->Int->Int->Int->Int->Int->Int->LI->Int->Int->Int->Er)(a:LB)(u:LI)(k m n o p f g b v:Int)(h:LI):Er:=
j11 a k m n o p f g b h 0 (Ad (Ad b (Br 4 (Ac u))) 4) v
def lH:=lI DX
def qK(j10:LB->LI->Int->Int->Int->Int->Int->Int->Int->Int->Int->LI->Er)(bk8:Int->Int->Er)(u:LI)(a:LB)(k m n o p f g b:Int)(h:LI)(w v:Int):Er:=
if(Cj w (Ac u))then
(Ao u w).bind λ_=>
(Ao u w).bind λag=>
bk8 (Ad w 1) (Ad v ag)
else
j10 a u k m n o p f g b v h
def XY(u:LI)(a:LB)(k m n o p f g b:Int)(h:LI):Nat->Int->Int->Er
|0,_,_=>none
|q+1,w,v=>qK lH (XY u a k m n o p f g b h q) u a k m n o p f g b h w v
def nL u a k m n o p f g b h:=XY u a k m n o p f g b h Ax
def pG(j11:LB->Int->Int->Int->Int->Int->Int->Int->Int->LI->Int->Int->Int->Er)(j8:LI->LB->Int->Int->Int->Int->Int->Int->Int->Int->LI->Int->Int->Er)(ab:Int)(a:LB)(k m n o p f g b ac ad:Int)(u h:LI):Er:=
if(Be ab 0)then
j11 a k m n o p f g b h ab ac ad
else
j8 u a k m n o p f g b h 0 (Ad (Ad b (Br 4 (Ac u))) 4)
def oC:=pG DX nL
def nT(j11:LB->Int->Int->Int->Int->Int->Int->Int->Int->LI->Int->Int->Int->Er)(j7:Int->LB->Int->Int->Int->Int->Int->Int->Int->Int->Int->Int->LI->LI->Er)(a:LB):Er:=
(aT a).bind λ(k,m,n,o,p,f,g,b,ac,ad,h,af)=>
if(Be af 0)then
some (0,0,0,0,0,af)
else
if(Cj (Ac a) b)then
j11 a k m n o p f g b h 24 ac ad
else
(Bm a b (Ac a)).bind λah=>
(AM ah (Ac h)).bind λ(u,ab)=>
j7 ab a k m n o p f g b ac ad u h
def J5:=nT DX oC
abbrev dY:=Option (Int×Int×Int×Int×Int×Int×LI×Int)
def pB(a:LB)(b f g h k n:Int):dY:=
(Dl b f g h k).bind λ(ab,p)=>
if(Be p 0)then
some (0,0,0,0,0,0,([]:LI),p)
else
(Bm a n (Ac a)).bind λac=>
(AM ac (Ac ab)).bind λ(u,v)=>
if(Be v 0)then
some (0,0,0,0,0,0,([]:LI),v)
else
some (b,f,g,h,k,(Ad (Ad n (Br 4 (Ac u))) 4),u,0)
def Ja:=pB
def Hk(j2:LB->Int->Int->Int->Int->Int->Int->dY)(a o:LB):dY:=
if(Ex (Ac o) 64)then
some (0,0,0,0,0,0,([]:LI),2)
else
if(Ex (Ac a) 100000)then
some (0,0,0,0,0,0,([]:LI),4)
else
(Ir a).bind λ(m,w)=>
if(Be w 0)then
some (0,0,0,0,0,0,([]:LI),w)
else
(Bm a m (Ac a)).bind λad=>
(Lk ad).bind λ(b,f,g,h,k,y)=>
if(Be y 0)then
some (0,0,0,0,0,0,([]:LI),y)
else
if((o==([]:LB)) !=(geq b 1))then
some (0,0,0,0,0,0,([]:LI),26)
else
if(o !=([]:LB))then
if(Cj (Ac a) (Ad (Ad m 22) 8))then
some (0,0,0,0,0,0,([]:LI),24)
else
(Bm a (Ad m 22) (Ad (Ad m 22) 8)).bind λae=>
(Pg ae o).bind λ(af,aa)=>
if(Be aa 0)then
some (0,0,0,0,0,0,([]:LI),aa)
else
if(!af)then
some (0,0,0,0,0,0,([]:LI),26)
else
j2 a b f g h k (Ad (Ad m 22) 8)
else
j2 a b f g h k (Ad m 22)
def Ba:=Hk Ja
abbrev Tt:=Option (Int×Int)
def nC(k f a b g h:Int):Tt:=
some ((Db (Br (Br k a) b) 8),0)
def ZL:=nC
def LH(j6:Int->Int->Int->Int->Int->Int->Tt)(Sj:Int->Int->Tt)(n f a b g h:Int)(m:LI)(k o:Int):Tt:=
if(Cj o n)then
(Ao m o).bind λ_=>
(Ao m o).bind λp=>
Sj (Ad k p) (Ad o 1)
else
j6 k f a b g h
def Vq(n f a b g h:Int)(m:LI):Nat->Int->Int->Tt
|0,_,_=>none
|q+1,k,o=>LH ZL (Vq n f a b g h m q) n f a b g h m k o
def oX n f a b g h m:=Vq n f a b g h m Ax
def XP(j4:Int->Int->Int->Int->Int->Int->LI->Int->Int->Tt)(f a b g h n:Int):Tt:=
(Dl f a b g h).bind λ(m,u)=>
if((Be u 0)||(Ex n (Ac m)))then
some (0,8)
else
j4 n f a b g h m 0 0
def RK:=XP oX
abbrev Qw:=Option (Int×UInt8×Int×Int×Int)
def K3:Qw:=
some (0,6,0,0,0)
def lF:=K3
def kU(j6:Qw)(Sj:Int->Int->Qw)(a:Int)(b:LI)(g h k m n o p f:Int):Qw:=
if(Cj f (Ac b))then
(Ao b f).bind λ_=>
(Ao b f).bind λv=>
if(Cj a (Ad p v))then
(RK g h k m n f).bind λ(ad,ae)=>
some (0,5,f,ad,ae)
else
Sj (Ad p v) (Ad f 1)
else
j6
def SN(a:Int)(b:LI)(g h k m n o:Int):Nat->Int->Int->Qw
|0,_,_=>none
|q+1,p,f=>kU lF (SN a b g h k m n o q) a b g h k m n o p f
def lC a b g h k m n o:=SN a b g h k m n o Ax
def lO(j4:Int->LI->Int->Int->Int->Int->Int->Int->Int->Int->Qw)(u w:LB)(a:Int):Qw:=
(Pw u w).bind λy=>
if(Be y 0)then
some (0,0,0,0,y)
else
if((Cj a 0)||(Nj a (Ac u)))then
some (0,0,0,0,2)
else
(J5 u).bind λ(af,ag,ah,aa,ai,ab)=>
if(Be ab 0)then
some (0,0,0,0,ab)
else
(Ba u w).bind λ(g,h,k,m,n,o,b,ac)=>
if(Be ac 0)then
some (0,0,0,0,ac)
else
if(Cj a af)then
some (0,1,0,0,0)
else
if(Cj a ag)then
some (0,2,0,0,0)
else
if(Cj a ah)then
some (0,3,0,0,0)
else
if(Cj a aa)then
some (0,4,0,0,0)
else
j4 a b g h k m n o aa 0
def wQ:=lO lC
def Is(a:LB):Option (LB):=
(
(Et ([]:LB) a).bind λb=>
some b)
def PO(f:LB)(a:Int)(g:UInt8):Option (LB×Int):=
if(((Cj a 0)||(Nj a (Ac f)))||(geq g 0))then
some (([]:LB),2)
else
(Is f).bind λb=>
(Ao b a).bind λ_=>
(Ao b a).bind λh=>
(Ao b a).bind λ_=>
(Nk b a (Zn h g)).bind λk=>
some (k,0)
def Ec(a n:LB)(b:Int):Option UInt8:=
if(Ex (Ac a) 100000)then
some 0
else
(Ir a).bind λ(f,g)=>
if(Be g 0)then
some 1
else
(Bm a f (Ac a)).bind λh=>
(Lk h).bind λ(k,o,p,u,v,m)=>
if(Be m 0)then
some 2
else
if(geq b 26)then
if(geq b 26)then
some 3
else
some 4
else
if((geq k 2)&&(Cj (Ap (Ac a) f) 30))then
some 3
else
some 4
abbrev Jf:=Option (LI×Int)
def yA(f:LI):Jf:=
some (f,0)
def bD:=yA
def eT(L6:Int->Int->LI->Jf)(a:LI)(b g h:Int)(k:LI):Jf:=
L6 (Ad b 1) (Ad g h) k
def NS L6:=eT L6
def BW(j8:Int->Int->Int->LI->Jf)(j10:LI->Jf)(a:LI)(b g:Int)(f:LI):Jf:=
if(Cj b (Ac a))then
(Ao a b).bind λh=>
(Et f ([(Ad g h)]:LI)).bind λk=>
j8 b g h k
else
j10 f
def Qb(a:LI):Nat->Int->Int->LI->Jf
|0,_,_,_=>none
|q+1,b,g,f=>BW (NS (Qb a q) a) bD a b g f
def gS a:=Qb a Ax
def OG(j6:LI->Int->Int->LI->Jf)(a:LI):Jf:=
(Pr a).bind λm=>
if(Be m 0)then
some (([]:LI),m)
else
j6 a 0 0 ([(0:Int)]:LI)
def PK:=OG gS
abbrev Ed:=Option (LB×Int)
def K7(g:LB):Ed:=
some (g,0)
def lV:=K7
def lP(Qg:Int->LB->Ed)(b:Int)(a:LX)(f:Int)(h:LB):Ed:=
Qg (Ad f 1) h
def TU Qg:=lP Qg
def DU(j28:Int->LB->Ed)(Ajd:Int->LB->Ed)(b:Int)(a:LX)(k:Int32)(f m:Int)(h:LB):Ed:=
if(Cj m (Db b 8))then
(Md (Nj (Br 8 m) 0)).bind λ_=>
(Et h ([(Af (Ct k (GI.toZ (Br 8 m)).toNat):UInt8)]:LB)).bind λp=>
Ajd (Ad m 1) p
else
j28 f h
def Li(Qg:Int->LB->Ed)(b:Int)(a:LX)(k:Int32)(f:Int):Nat->Int->LB->Ed
|0,_,_=>none
|q+1,m,h=>DU (TU Qg b a) (Li Qg b a k f q) b a k f m h
def TC Qg b a k f:=Li Qg b a k f Ax
def TJ(j26:Int32->Int->Int->LB->Ed)(b:Int)(a:LX)(f:Int)(g:LB)(k:Int32):Ed:=
j26 k f 0 g
def Nw Qg b a:=TJ (TC Qg b a) b a
def DY(j25:Int->LB->Int32->Ed)(j30:LB->Ed)(b:Int)(a:LX)(f:Int)(g:LB):Ed:=
if(Cj f (Ac a))then
(Ao a f).bind λn=>
if(geq b 8)then
j25 f g (Ad n 128)
else
j25 f g n
else
j30 g
def Hr(b:Int)(a:LX):Nat->Int->LB->Ed
|0,_,_=>none
|q+1,f,g=>DY (Nw (Hr b a q) b a) lV b a f g
def lG b a:=Hr b a Ax
def ZA(j16:Int->LX->Int->LB->Ed)(b:Int)(a:LX):Ed:=
(Zt b a).bind λo=>
if(Be o 0)then
some (([]:LB),o)
else
j16 b a 0 ([]:LB)
def Jq:=ZA lG
abbrev Fz:=Option (LB×Int)
def K8(a ac:Int):Fz:=
if(Be ac 0)then
some (([]:LB),ac)
else
if((Cj a 0)||(Nj a 0))then
some (([]:LB),2)
else
none
def lE:=K8
def zQ(ad:Int)(ae:LB):Fz:=
some (ae,ad)
def NP:=zQ
def SY(j10:Int->LB->Fz)(w a h b:Int)(aa:LX)(n o p k:Int)(m:LB)(u:LX)(v f g:LI):Fz:=
if(Be w 0)then
j10 w ([]:LB)
else
(Jq b aa).bind λ(ak,al)=>
j10 al ak
def UA:=SY NP
def TR(j10:Int->LB->Fz)(j9:Int->Int->Int->Int->LX->Int->Int->Int->Int->LB->LX->LI->LI->LI->Fz)(a k ab y:Int)(m:LB)(h b:Int)(u:LX)(n o p:Int)(g v f:LI):Fz:=
if(Ex (Ad k y) (Ac m))then
j10 24 ([]:LB)
else
(Ao g a).bind λ_=>
(Bm m (Ad k ab) (Ad k y)).bind λam=>
(Ao g a).bind λan=>
(Hi h b u an am).bind λ(aa,w)=>
j9 w a h b aa n o p k m u v f g
def TI:=TR NP UA
def TG(j8:Int->Int->Int->Int->LB->Int->Int->LX->Int->Int->Int->LI->LI->LI->Fz)(a:Int)(g:LI)(n h b o p k:Int)(m:LB)(u:LX)(v f:LI):Fz:=
if(Be (0:Int) (0:Int))then
some (([]:LB),0)
else
if((Cj a 0)||(Nj a (Ac g)))then
some (([]:LB),2)
else
(Ao f a).bind λ_=>
(Ao f (Ad a 1)).bind λ_=>
(Ao f a).bind λab=>
(Ao f (Ad a 1)).bind λy=>
j8 a k ab y m h b u n o p g v f
def Xk:=TG TI
def TN(j6:Int->Int->Fz)(j7:Int->LI->Int->Int->Int->Int->Int->Int->LB->LX->LI->LI->Fz)(m af:LB)(a:Int):Fz:=
(Ba m af).bind λ(n,h,b,o,p,k,v,ag)=>
if(Be ag 0)then
j6 a ag
else
(Dl n h b o p).bind λ(g,ah)=>
if(Be ah 0)then
j6 a ah
else
(PK v).bind λ(f,ai)=>
if(Be ai 0)then
j6 a ai
else
(Qe af).bind λ(u,aj)=>
if(Be aj 0)then
j6 a aj
else
(Ao f (Ac g)).bind λ_=>
(Ao f (Ac g)).bind λao=>
j7 a g n h b o p k m u v f
def HD:=TN lE Xk
abbrev Mx:=Option (Int×UInt8×Int×Int×Int)
def WN(b f g h k m n:Int)(a:LI)(w:Int)(y:UInt8)(aa:Int):Mx:=
(RK f g h k m w).bind λ(ac,ad)=>
some (b,y,aa,ac,ad)
def IK:=WN
def HQ(j8:Int->Int->Int->Int->Int->Int->Int->LI->Int->UInt8->Int->Mx)(L6:Int->Mx)(p o:LB)(a:LI)(b:Int)(u:UInt8)(f g h k m n v:Int):Mx:=
if(Cj v (Ac a))then
if(geq b 0)then
j8 b f g h k m n a (Ac a) u 0
else
(HD p o v).bind λ(ag,ae)=>
if(Be ae 0)then
j8 b f g h k m n a v 5 v
else
L6 (Ad v 1)
else
j8 b f g h k m n a (Ac a) u 0
def Vt(p o:LB)(a:LI)(b:Int)(u:UInt8)(f g h k m n:Int):Nat->Int->Mx
|0,_=>none
|q+1,v=>HQ IK (Vt p o a b u f g h k m n q) p o a b u f g h k m n v
def nW p o a b u f g h k m n:=Vt p o a b u f g h k m n Ax
def ZY(j6:LB->LB->LI->Int->UInt8->Int->Int->Int->Int->Int->Int->Int->Mx)(p o:LB)(b f g h k m n:Int)(a:LI)(u:UInt8):Mx:=
j6 p o a b u f g h k m n 0
def WM:=ZY nW
def IV(j5:LB->LB->Int->Int->Int->Int->Int->Int->Int->LI->UInt8->Mx)(p o:LB):Mx:=
if(Ex (Ac o) 64)then
some (0,0,0,0,2)
else
(Pw p o).bind λb=>
(Ba p o).bind λ(f,g,h,k,m,n,a,ab)=>
if(Be ab 0)then
(Ec p o ab).bind λaf=>
some (b,af,0,0,0)
else
if(Be b 0)then
j5 p o b f g h k m n a 6
else
j5 p o b f g h k m n a 0
def Sr:=IV WM
def Gi(a:LB)(b k:Int)(f:UInt8)(g h m:Int):Option Bool:=
(wQ a ([]:LB) b).bind λ(n,o,p,u,v)=>
(PO a b 64).bind λ(w,y)=>
(Sr w ([]:LB)).bind λ(aa,ab,ac,ad,ae)=>
if((((Be v 0)||(Be y 0))||(Be ae 0))||(!((geq n k)&&((geq o f)&&((geq p g)&&((geq u h)&&true))))))then
some false
else
some ((geq aa m)&&((geq ab f)&&((geq ac g)&&((geq ad h)&&true))))
def Wq:Option Bool:=
(ZI).bind λ(a,b)=>
if b then
(Gi a 5 0 2 0 0 22).bind λf=>
if f then
(Gi a 25 0 4 0 0 22).bind λg=>
if g then
(Gi a 41 0 5 1 1 22).bind λh=>
some h
else
some false
else
if false then
(Gi a 41 0 5 1 1 22).bind λk=>
some k
else
some false
else
if false then
(Gi a 25 0 4 0 0 22).bind λm=>
if m then
(Gi a 41 0 5 1 1 22).bind λn=>
some n
else
some false
else
if false then
(Gi a 41 0 5 1 1 22).bind λo=>
some o
else
some false
def Jn(a b f:Int)(g:LX):Option (Int×Int):=
some (a,b)
def Kf(a:Int):Option Int:=
if(geq a 8)then
some 128
else
if(geq a 16)then
some 32768
else
if(geq a 24)then
some 8388608
else
some 0
def Di(a b:Int):Option Int:=
if((Cj a 1)||(Ex a 6))then
some 2
else
(Kf b).bind λf=>
if(geq f 0)then
some 2
else
some 0
def mP:Option Int:=
some 0
def MN:=mP
def Cu(j6:Option Int)(Sj:Int->Option Int)(a:LX)(b f:Int):Option Int:=
if(Cj f (Ac a))then
(Ao a f).bind λg=>
if(Cj (Af g:Int) (wL b))then
some 16
else
(Ao a f).bind λh=>
if(Nj (Af h:Int) b)then
some 16
else
Sj (Ad f 1)
else
j6
def Az(a:LX)(b:Int):Nat->Int->Option Int
|0,_=>none
|q+1,f=>Cu MN (Az a b q) a b f
def MA a b:=Az a b Ax
def Dq(j4:LX->Int->Int->Option Int)(k:Int)(a:LX):Option Int:=
(Kf k).bind λb=>
if(geq b 0)then
some 2
else
if(Ex (Ac a) 4000)then
some 4
else
j4 a b 0
def Ay:=Dq MA
def Cx(b f:Int)(a:LX):Option Int:=
(Di b f).bind λg=>
if(Be g 0)then
some 2
else
(Ay f a).bind λh=>
if(Be h 0)then
(Ay f a).bind λk=>
some k
else
if(Cj (Ac a) 1)then
some 2
else
(Md (Be b 0)).bind λ_=>
if(Ex (Io (Ac a) b) 0)then
some 2
else
some 0
def Dh(a f b:Int):Option Int:=
(Di a f).bind λg=>
if((Be g 0)||(Cj b 1))then
some 2
else
(Md (Be a 0)).bind λ_=>
if(Ex b (Db 4000 a))then
some 2
else
some 0
def Te(a:Int):Option (Int×Int):=
if((Cj a 1)||(Ex a 1048576))then
some (0,2)
else
if(geq (Db (Br a 256) 245) 0)then
some (1,0)
else
some ((Db (Br a 256) 245),0)
abbrev Jj:=Option (LI×Int)
def UL(a:LI):Jj:=
if(Ex (Ac a) 1000)then
some (([]:LI),4)
else
some (a,0)
def CJ:=UL
def Ul(j6:LI->Jj)(Sj:Int->LI->Jj)(b f:Int)(a:LI):Jj:=
if(Ex f 0)then
(Et a ([(Fj f b)]:LI)).bind λh=>
Sj (Ap f (Fj f b)) h
else
j6 a
def Ld(b:Int):Nat->Int->LI->Jj
|0,_,_=>none
|q+1,f,a=>Ul CJ (Ld b q) b f a
def CA b:=Ld b Ax
def Uo(j4:Int->Int->LI->Jj)(k g:Int):Jj:=
(Te k).bind λ(b,m)=>
if(((Be m 0)||(Cj g 1))||(Ex g 4000))then
some (([]:LI),2)
else
j4 b g ([]:LI)
def BK:=Uo CA
def Me(a b:Int):Option (Int×Int):=
(BK a b).bind λ(f,g)=>
some ((Ac f),g)
def LJ(f g a:Int)(h:LX)(b:Int):Option Bool:=
(Jn f g a h).bind λ(k,m)=>
(Dh k m b).bind λn=>
if(Be n 0)then
some false
else
(Me a b).bind λ(p,o)=>
some (geq o 0)
def Dr(a f g:Int)(b:LX):Option Int:=
(Jn a f g b).bind λ(h,k)=>
(Cx h k b).bind λm=>
if(Be m 0)then
some 8
else
(Md (Be a 0)).bind λ_=>
(LJ a f g b (Db (Ac b) a)).bind λn=>
if(!n)then
some 8
else
some 0
def aU(a:LB):Option (LB×LB×Int×Int×Int×Int×Int×LI×Int×LB×Bool×Int×Int):=
if(Ex (Ac a) 64)then
some (([]:LB),([]:LB),0,0,0,0,0,([]:LI),0,([]:LB),false,0,2)
else
some (a,([]:LB),0,0,0,0,0,([]:LI),0,([]:LB),false,0,0)
def Hn(a:LI):Option (LI):=
(
(Et ([]:LI) a).bind λb=>
some b)
def Ek(a b:LB)(f g h k m:Int)(n:LI)(o:Int)(p:LB)(u:Bool)(v:Int):Option (LB×LB×Int×Int×Int×Int×Int×LI×Int×LB×Bool×Int):=
(Is b).bind λw=>
(Is p).bind λy=>
(Hn n).bind λaa=>
some (a,w,f,g,h,k,m,aa,o,y,u,v)
def Qs(a f g h k:Int)(b:LB):Option Int:=
if((b==([]:LB)) !=(geq a 1))then
some 26
else
some 0
def lY(w:Int)(o p:LB)(h b f k m:Int)(g:LI)(a:Int)(n:LB)(u:Bool)(v:Int):Option Bool:=
some (oz (Ac n) w)
def UB:=lY
def EB(j8:Int->LB->LB->Int->Int->Int->Int->Int->LI->Int->LB->Bool->Int->Option Bool)(L6:Int->Int->Option Bool)(y:LI)(o p:LB)(h b f k m:Int)(g:LI)(a:Int)(n:LB)(u:Bool)(v w aa:Int):Option Bool:=
if(Cj aa (Ac y))then
(Ao y aa).bind λac=>
L6 (Ad w (Db (Br (Br ac b) f) 8)) (Ad aa 1)
else
j8 w o p h b f k m g a n u v
def Sg(y:LI)(o p:LB)(h b f k m:Int)(g:LI)(a:Int)(n:LB)(u:Bool)(v:Int):Nat->Int->Int->Option Bool
|0,_,_=>none
|q+1,w,aa=>EB UB (Sg y o p h b f k m g a n u v q) y o p h b f k m g a n u v w aa
def SU y o p h b f k m g a n u v:=Sg y o p h b f k m g a n u v Ax
def SX(j6:LI->LB->LB->Int->Int->Int->Int->Int->LI->Int->LB->Bool->Int->Int->Int->Option Bool)(o p:LB)(h b f k m:Int)(g:LI)(a:Int)(n:LB)(u:Bool)(v:Int)(ab:LI):Option Bool:=
if(geq (Ac g) 0)then
some ((geq a 0)&&(geq (Ac n) 0))
else
(Pr g).bind λad=>
if((((Be ad 0)||(Be (Ac g) (Ac ab)))||(Cj a 0))||(Ex a (Ac ab)))then
some false
else
(Bm ab 0 a).bind λy=>
j6 y o p h b f k m g a n u v 0 0
def TB:=SX SU
def TM(j5:LB->LB->Int->Int->Int->Int->Int->LI->Int->LB->Bool->Int->LI->Option Bool)(o p:LB)(h b f k m:Int)(g:LI)(a:Int)(n:LB)(u:Bool)(v:Int):Option Bool:=
if((geq h 0)&&((geq b 0)&&((geq f 0)&&((geq k 0)&&((geq m 0)&&true)))))then
some (((geq (Ac g) 0)&&(geq a 0))&&(geq (Ac n) 0))
else
(Dl h b f k m).bind λ(ab,ae)=>
if(Be ae 0)then
some false
else
(Qs h b f k m o).bind λaf=>
if(Be af 0)then
some false
else
j5 o p h b f k m g a n u v ab
def BO:=TM TB
def Al(a:Int):Option (Bool×Int):=
some (false,a)
def K6:Option Bool:=
some false
def lU:=K6
def Xr(j6:Option Bool)(Sj:Int->Option Bool)(a:LB)(b:Int):Option Bool:=
if(Cj b 2)then
(Ao ([([73,68,51]:LB),([65,80,69,84,65,71,69,88]:LB)]:List LB) b).bind λf=>
if(Cj (Ac a) (Ac f))then
(Kk f a).bind λg=>
if g then
some true
else
Sj (Ad b 1)
else
Sj (Ad b 1)
else
j6
def Lh(a:LB):Nat->Int->Option Bool
|0,_=>none
|q+1,b=>Xr lU (Lh a q) a b
def TT a:=Lh a Ax
def TO(j4:LB->Int->Option Bool)(a:LB):Option Bool:=
j4 a 0
def Tc:=TO TT
def DG(f a b g h:Int):Option (Int×Int):=
some (a,b)
def DO:Option Int:=
some (-1:Int)
def Ps:=DO
def Fl(j6:Option Int)(Sj:Int->Option Int)(a:LI)(b f:Int):Option Int:=
if(Cj f (Ac a))then
(Ao a f).bind λg=>
if(geq b g)then
some f
else
Sj (Ad f 1)
else
j6
def Ch(a:LI)(b:Int):Nat->Int->Option Int
|0,_=>none
|q+1,f=>Fl Ps (Ch a b q) a b f
def Jc a b:=Ch a b Ax
def Jb(j4:LI->Int->Int->Option Int)(a:LI)(b:Int):Option Int:=
j4 a b 0
def Ka:=Jb Jc
def Iv(a:LI)(b:Int):Option Bool:=
(Ka a b).bind λf=>
some (Nj f 0)
def Tp(a:Int):Option Bool:=
(Iv ([(4:Int),(12:Int),(16:Int),(22:Int),(24:Int),(26:Int),(38:Int)]:LI) a).bind λb=>
some b
def bO(bi:Bool):Option Int:=
if(!bi)then
some 8
else
some 0
def Cb:=bO
def HG(j22:Bool->Option Int):Option Int:=
j22 ((true==true)&&((geq (0:Int) (0:Int))&&true))
def Zf:=HG Cb
def HM(j22:Bool->Option Int)(bj:Bool)(bk:Int):Option Int:=
j22 ((bj==true)&&((geq bk 0)&&true))
def Fo:=HM Cb
def KQ(j13:Bool->Int->Option Int)(g ak:LB)(ae af aa ag ab b:Int)(m:Bool)(n:Int)(f:LI)(h:LB):Option Int:=
(Qs ae af aa ag ab g).bind λdm=>
(Al dm).bind λ(dn,am)=>
j13 dn am
def Zb:=KQ Fo
def KP(j22:Bool->Option Int)(bl:Bool)(bm:Int):Option Int:=
j22 ((bl==true)&&((geq bm 0)&&true))
def Kl:=KP Cb
def HO(j25:Bool->Int->Option Int)(g a:LB)(k p o u v b:Int)(m:Bool)(n:Int)(f:LI)(h:LB)(bg:Int):Option Int:=
(Dl k p o u v).bind λ(dp,bh)=>
if(Be bh 0)then
(Al bh).bind λ(an,bn)=>
j25 an bn
else
(Bm a bg (Ac a)).bind λdq=>
(AM dq (Ac dp)).bind λ(dr,aa)=>
if(geq aa 24)then
j25 true 0
else
if(Be aa 0)then
(Al aa).bind λ(ds,ab)=>
j25 ds ab
else
(Bm a (Ad (Ad bg (Br 4 (Ac dr))) 4) (Ac a)).bind λfc=>
j25 false 0
def Ku:=HO Kl
def LM(j25:Bool->Int->Option Int)(j24:LB->LB->Int->Int->Int->Int->Int->Int->Bool->Int->LI->LB->Int->Option Int)(bd:Bool)(bc:Int)(g a:LB)(k p o u v b:Int)(m:Bool)(n:Int)(f:LI)(h:LB):Option Int:=
if(Be bc 0)then
(Al bc).bind λ(dt,bh)=>
j25 dt bh
else
if(!bd)then
(Al 26).bind λ(an,bn)=>
j25 an bn
else
j24 g a k p o u v b m n f h 8
def JR:=LM Kl Ku
def JF(j15:Bool->Int->LB->LB->Int->Int->Int->Int->Int->Int->Bool->Int->LI->LB->Option Int)(g a:LB)(k p o u v b:Int)(m:Bool)(n:Int)(f:LI)(h:LB):Option Int:=
(Bm a 0 8).bind λdu=>
(Pg du g).bind λ(bd,bc)=>
j15 bd bc g a k p o u v b m n f h
def Zk:=JF JR
def JQ(j22:Bool->Option Int)(bp:Bool)(bq:Int):Option Int:=
j22 ((bp==true)&&((geq bq 0)&&true))
def It:=JQ Cb
def Zd(j28:Bool->Int->Option Int)(w ah:Int)(g a:LB)(k p o u v b:Int)(m:Bool)(n:Int)(ao:LX)(f:LI)(h:LB):Option Int:=
if(Be ah 0)then
(Al ah).bind λ(br,bs)=>
j28 br bs
else
(Jq o ao).bind λ(bt,be)=>
if(Be be 0)then
(Al be).bind λ(bu,bv)=>
j28 bu bv
else
(Et h bt).bind λdv=>
(
(Bm a w (Ac a)).bind λdw=>
j28 false 0)
def HB:=Zd It
def HF(j27:Int->Int->LB->LB->Int->Int->Int->Int->Int->Int->Bool->Int->LX->LI->LB->Option Int)(w:Int)(g a:LB)(k p o u v b:Int)(m:Bool)(n:Int)(ap:LX)(ad f:LI)(h:LB):Option Int:=
(Ao ad b).bind λ_=>
(Bm a 0 w).bind λdx=>
(Ao ad b).bind λdy=>
(DG k p o u v).bind λ(dz,bf)=>
(Hi dz bf ap dy dx).bind λ(ao,ah)=>
j27 w ah g a k p o u v b m n ao f h
def Yy:=HF HB
def BQ(j13:Bool->Int->Option Int)(j12:LB->LB->Int->Int->Int->Int->Int->Int->Bool->Int->LI->LB->Option Int)(j25:Bool->Int->Option Int)(j23:LB->LB->Int->Int->Int->Int->Int->Int->Bool->Int->LI->LB->Option Int)(j24:LB->LB->Int->Int->Int->Int->Int->Int->Bool->Int->LI->LB->Int->Option Int)(j28:Bool->Int->Option Int)(j26:Int->LB->LB->Int->Int->Int->Int->Int->Int->Bool->Int->LX->LI->LI->LB->Option Int)(j22:Bool->Option Int)(j21:Option Int)(aq ar:LB)(au av aw ax ay:Int)(az:LI)(ai:Int)(aj:LB)(ac:Bool)(y:Int):Option Int:=
if(Ex (Ac aq) 64)then
some 8
else
if((geq y 0)&&(!ac))then
(Ek aq ar au av aw ax ay az ai aj ac y).bind λ(g,a,k,p,o,u,v,f,b,h,m,n)=>
(BO aq ar au av aw ax ay az ai aj ac y).bind λbw=>
if bw then
if(geq k 0)then
(Ir a).bind λ(al,ba)=>
if(geq ba 24)then
j13 true 0
else
if(Be ba 0)then
(Al ba).bind λ(bx,bz)=>
j13 bx bz
else
(Bm a al (Ac a)).bind λda=>
(Tc da).bind λan=>
if an then
j13 true 0
else
(Bm a al (Ac a)).bind λdb=>
(Lk db).bind λ(ae,af,aa,ag,ab,bb)=>
if(geq bb 24)then
j13 true 0
else
if(Be bb 0)then
(Al bb).bind λ(dc,dd)=>
j13 dc dd
else
(
(Bm a (Ad al 22) (Ac a)).bind λak=>
(
j12 g ak ae af aa ag ab b m n f h))
else
if(geq (Ac f) 0)then
if(geq k 2)then
if(Cj (Ac a) 8)then
j25 true 0
else
j23 g a k p o u v b m n f h
else
j24 g a k p o u v b m n f h 0
else
if(Cj b (Ac f))then
(Ao f b).bind λ_=>
(Ao f b).bind λw=>
if(Cj (Ac a) w)then
j28 true 0
else
(Qe g).bind λ(ap,am)=>
if(Be am 0)then
(Al am).bind λ(de,df)=>
j28 de df
else
(Dl k p o u v).bind λ(ad,dg)=>
if((Be dg 0)||(Nj b (Ac ad)))then
(Al 8).bind λ(dh,di)=>
j28 dh di
else
j26 w g a k p o u v b m n ap ad f h
else
if(Ex (Ac a) 4000)then
(Al 38).bind λ(dj,bf)=>
j22 ((dj==true)&&((geq bf 0)&&true))
else
j21
else
j22 false
else
if((geq (Ac ar) 0)&&(geq (Ac az) 0))then
if((((geq au 0)&&((geq av 0)&&((geq aw 0)&&((geq ax 0)&&((geq ay 0)&&true)))))&&(geq ai 0))&&(oz (Ac aj) 12000))then
if(geq y 0)then
j22 true
else
if(!ac)then
(Tp y).bind λdk=>
j22 dk
else
j22 false
else
j22 false
else
if((false&&(geq ai 0))&&(oz (Ac aj) 12000))then
if(geq y 0)then
j22 true
else
if(!ac)then
(Tp y).bind λdl=>
j22 dl
else
j22 false
else
j22 false
def Pu:=BQ Fo Zb Kl Zk Ku It Yy Cb Zf
def Tj(f g:LB)(h k m n o:Int)(p:LI)(u:Int)(v:LB)(b:Bool)(a:Int):Option (LB×LB×Int×Int×Int×Int×Int×LI×Int×LB×Bool×Int×Int):=
(Pu f g h k m n o p u v b a).bind λw=>
if(Be w 0)then
some (([]:LB),([]:LB),0,0,0,0,0,([]:LI),0,([]:LB),false,0,w)
else
if(Be a 0)then
(
(
(Ek f g h k m n o p u v b a).bind λ(y,aa,ab,ac,ad,ae,af,ag,ah,ai,aj,ak)=>
(
some (y,aa,ab,ac,ad,ae,af,ag,ah,ai,aj,ak,a))))
else
if b then
(Ek f g h k m n o p u v b a).bind λ(al,am,an,ao,ap,aq,ar,au,av,aw,ax,ay)=>
some (al,am,an,ao,ap,aq,ar,au,av,aw,ax,ay,36)
else
(Ek f g h k m n o p u v b a).bind λ(az,ba,bb,bc,bd,be,bf,bg,bh,bi,bj,bk)=>
some (az,ba,bb,bc,bd,be,bf,bg,bh,bi,bj,bk,0)
def VI(b g:LB)(h k m n o:Int)(p:LI)(u:Int)(f:LB)(v:Bool)(w a:Int):Option (LB×LB×Int×Int×Int×Int×Int×LI×Int×LB×Bool×Int×Int):=
some (b,([]:LB),0,0,0,0,0,([]:LI),0,f,false,a,a)
abbrev Au:=Option (LB×LB×Int×Int×Int×Int×Int×LI×Int×LB×Bool×Int×Int)
def OJ(VR:LB->Int->Int->Int->Int->Int->Int->LI->LB->Au)(a:LB)(b:Bool)(f:Int)(ar:LB)(au av aw ax ay az:Int)(bh:Bool)(be:Int)(ba:LI)(bb:LB):Au:=
if bh then
(Ek a ar au av aw ax ay ba az bb b f).bind λ(fh,fi,fj,bc,bi,ai,fk,fl,fm,fn,fo,aj)=>
some (fh,fi,fj,bc,bi,ai,fk,fl,fm,fn,fo,aj,0)
else
if(Be be 0)then
(VI a ar au av aw ax ay ba az bb b f be).bind λ(fp,fq,fs,ft,fu,fv,fw,fx,fy,fz,ga,gb,gc)=>
some (fp,fq,fs,ft,fu,fv,fw,fx,fy,fz,ga,gb,gc)
else
VR ar au av aw ax ay az ba bb
def Cq VR:=OJ VR
def gH(j71:LB->Int->Int->Int->Int->Int->Int->Bool->Int->LI->LB->Au)(a:LB)(b:Bool)(f:Int)(g:LB)(m p o u v h:Int)(k:LI)(n:LB):Au:=
j71 g m p o u v h true 0 k n
def BP VR a b f:=gH (Cq VR a b f) a b f
def fR(j71:LB->Int->Int->Int->Int->Int->Int->Bool->Int->LI->LB->Au)(a:LB)(b:Bool)(f h:Int)(k:LI)(n:LB)(bj:Bool)(bk:Int)(bl:LB)(bm bn bp bq br:Int):Au:=
j71 bl bm bn bp bq br h bj bk k n
def Px VR a b f:=fR (Cq VR a b f) a b f
def OD(j62:Int->LI->LB->Bool->Int->LB->Int->Int->Int->Int->Int->Au)(a:LB)(b:Bool)(f:Int)(af:LB)(ab ac y ad aa h:Int)(k:LI)(n:LB):Au:=
(Qs ab ac y ad aa a).bind λgd=>
(Al gd).bind λ(ge,ak)=>
j62 h k n ge ak af ab ac y ad aa
def Wa VR a b f:=OD (Px VR a b f) a b f
def eL(j71:LB->Int->Int->Int->Int->Int->Int->Bool->Int->LI->LB->Au)(a:LB)(b:Bool)(f m p o u v h:Int)(n:LB)(bs:Bool)(bt:Int)(bu:LB)(bv:LI):Au:=
j71 bu m p o u v h bs bt bv n
def Mg VR a b f:=eL (Cq VR a b f) a b f
def OH(j75:Int->Int->Int->Int->Int->Int->LB->Bool->Int->LB->LI->Au)(a:LB)(b:Bool)(f:Int)(g:LB)(m p o u v h:Int)(k:LI)(n:LB)(bf:Int):Au:=
(Dl m p o u v).bind λ(gf,bg)=>
if(Be bg 0)then
(Al bg).bind λ(al,bw)=>
j75 m p o u v h n al bw g k
else
(Bm g bf (Ac g)).bind λgg=>
(AM gg (Ac gf)).bind λ(dw,y)=>
if(geq y 24)then
j75 m p o u v h n true 0 g k
else
if(Be y 0)then
(Al y).bind λ(gh,aa)=>
j75 m p o u v h n gh aa g k
else
(Bm g (Ad (Ad bf (Br 4 (Ac dw))) 4) (Ac g)).bind λgi=>
j75 m p o u v h n false 0 gi dw
def Ml VR a b f:=OH (Mg VR a b f) a b f
def NT(j75:Int->Int->Int->Int->Int->Int->LB->Bool->Int->LB->LI->Au)(j74:LB->Int->Int->Int->Int->Int->Int->LI->LB->Int->Au)(a:LB)(b:Bool)(f:Int)(bd:Bool)(aq:Int)(g:LB)(m p o u v h:Int)(k:LI)(n:LB):Au:=
if(Be aq 0)then
(Al aq).bind λ(gj,bg)=>
j75 m p o u v h n gj bg g k
else
if(!bd)then
(Al 26).bind λ(al,bw)=>
j75 m p o u v h n al bw g k
else
j74 g m p o u v h k n 8
def NG VR a b f:=NT (Mg VR a b f) (Ml VR a b f) a b f
def OT(j64:Bool->Int->LB->Int->Int->Int->Int->Int->Int->LI->LB->Au)(a:LB)(b:Bool)(f:Int)(g:LB)(m p o u v h:Int)(k:LI)(n:LB):Au:=
(Bm g 0 8).bind λgk=>
(Pg gk a).bind λ(bd,aq)=>
j64 bd aq g m p o u v h k n
def Vr VR a b f:=OT (NG VR a b f) a b f
def fA(j71:LB->Int->Int->Int->Int->Int->Int->Bool->Int->LI->LB->Au)(a:LB)(b:Bool)(f m p o u v:Int)(k:LI)(bx:Bool)(bz:Int)(da:LB)(db:Int)(dc:LB):Au:=
j71 da m p o u v db bx bz k dc
def Qc VR a b f:=fA (Cq VR a b f) a b f
def BU(j78:Int->Int->Int->Int->Int->LI->Bool->Int->LB->Int->LB->Au)(a:LB)(b:Bool)(f w ag:Int)(g:LB)(m p o u v h:Int)(am:LX)(k:LI)(n:LB):Au:=
if(Be ag 0)then
(Al ag).bind λ(dd,de)=>
j78 m p o u v k dd de g h n
else
(Jq o am).bind λ(df,aj)=>
if(Be aj 0)then
(Al aj).bind λ(dg,dh)=>
j78 m p o u v k dg dh g h n
else
(Et n df).bind λdi=>
(
(Bm g w (Ac g)).bind λdj=>
j78 m p o u v k false 0 dj (Ad h 1) di)
def NN VR a b f:=BU (Qc VR a b f) a b f
def NR(j77:Int->Int->LB->Int->Int->Int->Int->Int->Int->LX->LI->LB->Au)(a:LB)(b:Bool)(f w:Int)(g:LB)(m p o u v h:Int)(an:LX)(ae k:LI)(n:LB):Au:=
(Ao ae h).bind λ_=>
(Bm g 0 w).bind λgl=>
(Ao ae h).bind λgm=>
(DG m p o u v).bind λ(bi,ai)=>
(Hi bi ai an gm gl).bind λ(am,ag)=>
j77 w ag g m p o u v h am k n
def Ux VR a b f:=NR (NN VR a b f) a b f
def Jp(j62:Int->LI->LB->Bool->Int->LB->Int->Int->Int->Int->Int->Au)(j61:LB->Int->Int->Int->Int->Int->Int->LI->LB->Au)(j75:Int->Int->Int->Int->Int->Int->LB->Bool->Int->LB->LI->Au)(j73:LB->Int->Int->Int->Int->Int->Int->LI->LB->Au)(j74:LB->Int->Int->Int->Int->Int->Int->LI->LB->Int->Au)(j78:Int->Int->Int->Int->Int->LI->Bool->Int->LB->Int->LB->Au)(j76:Int->LB->Int->Int->Int->Int->Int->Int->LX->LI->LI->LB->Au)(j71:LB->Int->Int->Int->Int->Int->Int->Bool->Int->LI->LB->Au)(j70:LB->Int->Int->Int->Int->Int->Int->LI->LB->Au)(a:LB)(b:Bool)(f:Int)(g:LB)(m p o u v h:Int)(k:LI)(n:LB):Au:=
if(geq m 0)then
(Ir g).bind λ(ah,ao)=>
if(geq ao 24)then
j62 h k n true 0 g m p o u v
else
if(Be ao 0)then
(Al ao).bind λ(dk,dl)=>
j62 h k n dk dl g m p o u v
else
(Bm g ah (Ac g)).bind λdm=>
(Tc dm).bind λal=>
if al then
j62 h k n true 0 g m p o u v
else
(Bm g ah (Ac g)).bind λdn=>
(Lk dn).bind λ(ab,ac,y,ad,aa,ap)=>
if(geq ap 24)then
j62 h k n true 0 g m p o u v
else
if(Be ap 0)then
(Al ap).bind λ(dp,dq)=>
j62 h k n dp dq g m p o u v
else
(
(Bm g (Ad ah 22) (Ac g)).bind λaf=>
(
j61 af ab ac y ad aa h k n))
else
if(geq (Ac k) 0)then
if(geq m 2)then
if(Cj (Ac g) 8)then
j75 m p o u v h n true 0 g k
else
j73 g m p o u v h k n
else
j74 g m p o u v h k n 0
else
if(Cj h (Ac k))then
(Ao k h).bind λ_=>
(Ao k h).bind λw=>
if(Cj (Ac g) w)then
j78 m p o u v k true 0 g h n
else
(Qe a).bind λ(an,ak)=>
if(Be ak 0)then
(Al ak).bind λ(dr,ds)=>
j78 m p o u v k dr ds g h n
else
(Dl m p o u v).bind λ(ae,dt)=>
if((Be dt 0)||(Nj h (Ac ae)))then
(Al 8).bind λ(du,bc)=>
j78 m p o u v k du bc g h n
else
j76 w g m p o u v h an ae k n
else
if(Ex (Ac g) 4000)then
(Al 38).bind λ(dv,ai)=>
j71 g m p o u v h dv ai k n
else
j70 g m p o u v h k n
def Bd(a:LB)(b:Bool)(f:Int):Nat->LB->Int->Int->Int->Int->Int->Int->LI->LB->Au
|0,_,_,_,_,_,_,_,_,_=>none
|q+1,g,m,p,o,u,v,h,k,n=>Jp (Px (Bd a b f q) a b f) (Wa (Bd a b f q) a b f) (Mg (Bd a b f q) a b f) (Vr (Bd a b f q) a b f) (Ml (Bd a b f q) a b f) (Qc (Bd a b f q) a b f) (Ux (Bd a b f q) a b f) (Cq (Bd a b f q) a b f) (BP (Bd a b f q) a b f) a b f g m p o u v h k n
def fZ a b f:=Bd a b f Ax
def Xq(j37:LB->Bool->Int->LB->Int->Int->Int->Int->Int->Int->LI->LB->Au)(gn go:LB)(gp gq gr gs gt:Int)(gu:LI)(gv:Int)(gw:LB)(gx:Bool)(gy:Int)(gz:LB):Au:=
(Tj gn go gp gq gr gs gt gu gv gw gx gy).bind λ(a,dx,dy,dz,fa,fb,fc,fd,fe,ff,b,f,fg)=>
if(Be fg 0)then
some (a,dx,dy,dz,fa,fb,fc,fd,fe,ff,b,f,fg)
else
(Et dx gz).bind λha=>
j37 a b f ha dy dz fa fb fc fe fd ff
def Ki:=Xq fZ
def II(p a:LB)(g u v w y:Int)(b:LI)(h:Int)(aa:LB)(ab:Bool)(ac:Int):Option Int:=
if(geq g 0)then
(Ir a).bind λ(k,f)=>
if(Be f 0)then
some f
else
(Bm a k (Ac a)).bind λm=>
(Lk m).bind λ(ad,ae,af,ag,ah,n)=>
some n
else
if((Cj h (Ac b))||(geq (Ac b) 0))then
some 24
else
(HH a).bind λ(ai,o)=>
some o
def Gb(aa ab:LB)(ac ad ae af ag:Int)(ah:LI)(ai:Int)(aj:LB)(ak:Bool)(al:Int):Option (LB×LB×Int×Int×Int×Int×Int×LI×Int×LB×Bool×Int×Int):=
(Tj aa ab ac ad ae af ag ah ai aj ak al).bind λ(a,f,g,h,k,m,n,o,p,b,u,v,w)=>
if(Be w 0)then
some (a,f,g,h,k,m,n,o,p,b,u,v,w)
else
(II a f g h k m n o p b u v).bind λy=>
if(Be y 0)then
(VI a f g h k m n o p b u v y).bind λ(am,an,ao,ap,aq,ar,au,av,aw,ax,ay,az,ba)=>
some (am,an,ao,ap,aq,ar,au,av,aw,ax,ay,az,ba)
else
some (a,([]:LB),0,0,0,0,0,([]:LI),0,b,true,0,0)
def Kx(f:LB)(a:Bool)(b k:LB):Option Bool:=
(Sr k f).bind λ(n,bf,bg,g,u)=>
(aU f).bind λ(v,w,y,aa,ab,ac,ad,ae,af,ag,ah,ai,aj)=>
(Ki v w y aa ab ac ad ae af ag ah ai k).bind λ(ak,al,am,an,ao,ap,aq,ar,au,av,aw,ax,bh)=>
(Gb ak al am an ao ap aq ar au av aw ax).bind λ(bi,bj,bk,bl,bm,bn,bp,bq,br,m,bs,bt,ay)=>
if((((((Be u 0)||(Be aj 0))||(Be n ay))||(geq n 0))||(Cj g 0))||(Ex g (Ac b)))then
some false
else
(
(
if a then
(Bm b 0 g).bind λh=>
some (m==h)
else
some false))
def Ff:=Kx
def Qp(j2:LB->Bool->LB->LB->Option Bool)(bb az bc:Int)(o:LX)(f:LB)(p:Int)(bd:UInt8):Option Bool:=
(Wq).bind λa=>
(Dr bb az bc o).bind λbu=>
if((((Be bu 0)||(Ex (Ac o) 400))||(Ex (Ac f) 64))||(!a))then
some a
else
(SL bb az bc o f).bind λ(ba,bv)=>
(Jq az o).bind λ(b,bw)=>
if((Be bv 0)||(Be bw 0))then
some false
else
if((Cj p 0)||(Nj p (Ac ba)))then
some a
else
(Bm ba 0 p).bind λbx=>
if(Be bd 0)then
(PO ba p bd).bind λ(bz,da)=>
if(Be da 0)then
some false
else
j2 f a b bz
else
j2 f a b bx
def Nm:=Qp Ff
def Lb(f g b a h:Int):Option Bool:=
if((((geq f 1)||(geq f 2))&&(Nj g 1))&&(oz g 6))then
some ((((((geq b 8)||(geq b 16))||(geq b 24))&&(Nj a 1))&&(oz a 1048576))&&(Nj h 1))
else
some (((false&&(Nj a 1))&&(oz a 1048576))&&(Nj h 1))
def Zj(a:Int):Option Int:=
some (sD 1 (Db (Br 256 a) 245))
def Rm(a:LI):Option (LI):=
some a
def Rf:=Rm
def Lt(j6:LI->Option (LI))(Sj:Int->LI->Option (LI))(b f:Int)(a:LI):Option (LI):=
if(Ex f 0)then
(Zj b).bind λg=>
(Et a ([(Fj f g)]:LI)).bind λh=>
(Zj b).bind λk=>
Sj (Ap f k) h
else
j6 a
def Gl(b:Int):Nat->Int->LI->Option (LI)
|0,_,_=>none
|q+1,f,a=>Lt Rf (Gl b q) b f a
def MI b:=Gl b Ax
def MJ(j4:Int->Int->LI->Option (LI))(b m:Int):Option (LI):=
j4 b m ([]:LI)
def Fu:=MJ MI
def Zg(h a k f b:Int):Option Bool:=
(
(Md (Be a 0)).bind λ_=>
(
if(Ex b (Db 4000 a))then
some true
else
(Fu f b).bind λg=>
some (Ex (Ac g) 1000)))
def Mh(a b f g h:Int):Option Int:=
(Lb a b f g h).bind λk=>
if(!k)then
some 8
else
(Zg a b f g h).bind λm=>
if m then
some 8
else
some 0
def Es(a f g h k:Int)(b:LB):Option Int:=
if((b==([]:LB)) !=(geq a 1))then
some 26
else
some 0
def GZ(b:Int):Option Int:=
if(Ex b 100000)then
some 8
else
some 0
def JB:=GZ
def MK(L6:Int->Int->Option Int)(a:LI)(b f:Int):Option Int:=
(Ao a f).bind λg=>
L6 (Ad b g) (Ad f 1)
def MR L6:=MK L6
def Yq(j8:Int->Int->Option Int)(j10:Int->Option Int)(a:LI)(b f:Int):Option Int:=
if(Cj f (Ac a))then
(Ao a f).bind λh=>
if(Cj h 5)then
some 8
else
(Ao a f).bind λk=>
if(Ex k 100000)then
some 8
else
j8 b f
else
j10 b
def Ma(a:LI):Nat->Int->Int->Option Int
|0,_,_=>none
|q+1,b,f=>Yq (MR (Ma a q) a) JB a b f
def MM a:=Ma a Ax
def Yk(j6:LI->Int->Int->Option Int)(a:LI):Option Int:=
if((Cj (Ac a) 1)||(Ex (Ac a) 1000))then
some 8
else
j6 a 0 0
def Jl:=Yk MM
def Hf(g h k a b:Int):Option (LI):=
(Fu a b).bind λf=>
some f
def Fy(f a b g h:Int):Option (Int×Int):=
some (a,b)
def UN(a b:Int):Option Int:=
some (Db (Br a b) 8)
def QA(k a b f g h:Int):Option Int:=
(Fy a b f g h).bind λ(p,u)=>
(UN p u).bind λv=>
some (Br k v)
def SG:=QA
def AV(j6:Int->Int->Int->Int->Int->Int->Option Int)(Sj:Int->Int->Option Int)(n a b f g h:Int)(m:LI)(k o:Int):Option Int:=
if(Cj o n)then
(Ao m o).bind λ_=>
(Ao m o).bind λw=>
Sj (Ad k w) (Ad o 1)
else
j6 k a b f g h
def My(n a b f g h:Int)(m:LI):Nat->Int->Int->Option Int
|0,_,_=>none
|q+1,k,o=>AV SG (My n a b f g h m q) n a b f g h m k o
def oB n a b f g h m:=My n a b f g h m Ax
def QT(j4:Int->Int->Int->Int->Int->Int->LI->Int->Int->Option Int)(a b f g h n:Int):Option Int:=
(Hf a b f g h).bind λm=>
j4 n a b f g h m 0 0
def Ze:=QT oB
abbrev Hh:=Option (Int×Int)
def mN(a:Int):Hh:=
some (a,0)
def mA:=mN
def Yr(j6:Int->Hh)(Sj:Int->Int->Hh)(b:LB)(a f:Int):Hh:=
if(Cj f 4)then
(Ao b f).bind λg=>
if(Nj g 128)then
some (0,12)
else
(Ao b f).bind λh=>
Sj (Ad (Br 128 a) (Af h:Int)) (Ad f 1)
else
j6 a
def Lu(b:LB):Nat->Int->Int->Hh
|0,_,_=>none
|q+1,a,f=>Yr mA (Lu b q) b a f
def LW b:=Lu b Ax
def MC(j4:LB->Int->Int->Hh)(b:LB):Hh:=
if(Be (Ac b) 4)then
some (0,2)
else
j4 b 0 0
def FF:=MC LW
abbrev Ih:=Option (Int×Int)
def QM(a:LB)(g:Int):Ih:=
if(Ex g 4000)then
some (0,4)
else
if(Cj (Ac a) g)then
some (0,24)
else
(Ao a 5).bind λh=>
if(geq h 16)then
(Bm a (Ap g 10) g).bind λk=>
(Bm a 3 10).bind λm=>
(Et ([51,68,73]:LB) m).bind λn=>
if(k !=n)then
some (0,12)
else
some (g,0)
else
some (g,0)
def Zu:=QM
def QI(j6:LB->Int->Ih)(a:LB)(b:Int):Ih:=
(Ao a 5).bind λo=>
if(geq o 16)then
j6 a (Ad (Ad 10 b) 10)
else
j6 a (Ad 10 b)
def Zy:=QI Zu
def QJ(j5:LB->Int->Ih)(a:LB):Ih:=
if(Cj (Ac a) 10)then
some (0,24)
else
(Bm a 6 10).bind λp=>
(FF p).bind λ(b,f)=>
(Ao a 3).bind λu=>
if(Cj u 2)then
if true then
if true then
if(true||(Be f 0))then
some (0,12)
else
j5 a b
else
(Ao a 5).bind λv=>
if(Be v 0)then
(Ao a 5).bind λw=>
if(Be w 16)then
if(true||(Be f 0))then
some (0,12)
else
j5 a b
else
(Ao a 3).bind λy=>
if((Be y 4)||(Be f 0))then
some (0,12)
else
j5 a b
else
if(false||(Be f 0))then
some (0,12)
else
j5 a b
else
(Ao a 4).bind λaa=>
if(Be aa 0)then
if(true||(Be f 0))then
some (0,12)
else
j5 a b
else
(Ao a 5).bind λab=>
if(Be ab 0)then
(Ao a 5).bind λac=>
if(Be ac 16)then
if(true||(Be f 0))then
some (0,12)
else
j5 a b
else
(Ao a 3).bind λad=>
if((Be ad 4)||(Be f 0))then
some (0,12)
else
j5 a b
else
if(false||(Be f 0))then
some (0,12)
else
j5 a b
else
(Ao a 3).bind λae=>
if(Ex ae 4)then
if true then
if(true||(Be f 0))then
some (0,12)
else
j5 a b
else
(Ao a 5).bind λaf=>
if(Be af 0)then
(Ao a 5).bind λag=>
if(Be ag 16)then
if(true||(Be f 0))then
some (0,12)
else
j5 a b
else
(Ao a 3).bind λah=>
if((Be ah 4)||(Be f 0))then
some (0,12)
else
j5 a b
else
if(false||(Be f 0))then
some (0,12)
else
j5 a b
else
(Ao a 4).bind λai=>
if(Be ai 0)then
if(true||(Be f 0))then
some (0,12)
else
j5 a b
else
(Ao a 5).bind λaj=>
if(Be aj 0)then
(Ao a 5).bind λak=>
if(Be ak 16)then
if(true||(Be f 0))then
some (0,12)
else
j5 a b
else
(Ao a 3).bind λal=>
if((Be al 4)||(Be f 0))then
some (0,12)
else
j5 a b
else
if(false||(Be f 0))then
some (0,12)
else
j5 a b
def RS:=QJ Zy
def RO(j4:LB->Ih)(a:LB):Ih:=
if(Cj (Ac a) 3)then
some (0,6)
else
(Bm a 0 3).bind λam=>
if(am !=([73,68,51]:LB))then
some (0,6)
else
j4 a
def KW:=RO RS
def WA(a:UInt64):Option UInt64:=
some a
def WE:=WA
def EY(j6:UInt64->Option UInt64)(Sj:UInt64->Int->Option UInt64)(b:LB)(a:UInt64)(f:Int):Option UInt64:=
if(Nj f 0)then
(Ao b f).bind λg=>
Sj (Ad (Br 256 a) (Af g:UInt64)) (Ap f 1)
else
j6 a
def Qn(b:LB):Nat->UInt64->Int->Option UInt64
|0,_,_=>none
|q+1,a,f=>EY WE (Qn b q) b a f
def aC b:=Qn b Ax
def YT(j4:LB->UInt64->Int->Option UInt64)(b:LB):Option UInt64:=
j4 b 0 (Ap (Ac b) 1)
def Eh:=YT aC
def Yv(b:LB):Option (Int×Int×Bool):=
(Bm b 12 16).bind λg=>
(Eh g).bind λa=>
(Bm b 16 20).bind λh=>
(Eh h).bind λf=>
if(((Cj a 32)||(Ex a 3032))||(Ex f 1000))then
some (0,0,false)
else
some ((Ap (Af a:Int) 32),(Af f:Int),true)
def GN(a:LB):Option (LB):=
some a
def GC:=GN
def Vn(j6:LB->Option (LB))(Sj:UInt64->Int->LB->Option (LB))(b:Int)(f:UInt64)(g:Int)(a:LB):Option (LB):=
if(Cj g b)then
(Et a ([(Af (GR f 256):UInt8)]:LB)).bind λh=>
Sj (Db f 256) (Ad g 1) h
else
j6 a
def Jt(b:Int):Nat->UInt64->Int->LB->Option (LB)
|0,_,_,_=>none
|q+1,f,g,a=>Vn GC (Jt b q) b f g a
def FH b:=Jt b Ax
def FZ(j4:Int->UInt64->Int->LB->Option (LB))(k:UInt64)(b:Int):Option (LB):=
j4 b k 0 ([]:LB)
def Fq:=FZ FH
def Vv(a b:Int)(f:UInt64):Option (LB):=
(Fq 2000 4).bind λg=>
(Et ([(65:UInt8),(80:UInt8),(69:UInt8),(84:UInt8),(65:UInt8),(71:UInt8),(69:UInt8),(88:UInt8)]:LB) g).bind λh=>
(Fq (Af (Ad a 32):UInt64) 4).bind λk=>
(Et h k).bind λm=>
(Fq (Af b:UInt64) 4).bind λn=>
(Et m n).bind λo=>
(Fq f 4).bind λp=>
(Et o p).bind λu=>
(mkI (8:Int) (0:UInt8)).bind λv=>
(Et u v).bind λw=>
some w
def Zl(a b:Int):Option (LB):=
(Vv a b 2684354560).bind λf=>
some f
def Ns(a b:Int)(f:Bool):Option (LB):=
if f then
(Vv a b 2147483648).bind λg=>
some g
else
(Vv a b 0).bind λh=>
some h
abbrev Mz:=Option (Int×Int)
def ML(a:LB)(b f:Int):Mz:=
if(Cj (Ac a) (Ad 64 b))then
some (0,24)
else
(Bm a (Ap (Ad 64 b) 32) (Ad 64 b)).bind λg=>
(Ns b f true).bind λh=>
if(g !=h)then
some (0,12)
else
some ((Ad 64 b),0)
def NA:=ML
def MX(j4:LB->Int->Int->Mz)(a:LB):Mz:=
if(Cj (Ac a) 32)then
some (0,24)
else
(Bm a 0 32).bind λk=>
(Yv k).bind λ(b,f,m)=>
if(!m)then
some (0,12)
else
(Bm a 0 32).bind λn=>
(Zl b f).bind λo=>
if(n !=o)then
some (0,12)
else
j4 a b f
def MT:=MX NA
def MH(j3:LB->Mz)(a:LB):Mz:=
if(Cj (Ac a) 8)then
some (0,6)
else
(Bm a 0 8).bind λp=>
if(p !=([65,80,69,84,65,71,69,88]:LB))then
some (0,6)
else
j3 a
def EL:=MH MT
abbrev Ho:=Option (LI×Int)
def MP(L6:Int->LI->Ho)(a:LB)(b:Int)(f:LI)(g h:Int):Ho:=
if(geq h 6)then
some (f,0)
else
if(Be h 0)then
some (([]:LI),h)
else
if(Ex (Ad b g) 4000)then
some (([]:LI),4)
else
(Et f ([g]:LI)).bind λm=>
L6 (Ad b g) m
def Rg L6:=MP L6
def Yf(j9:Int->LI->Int->Int->Ho)(a:LB)(b:Int)(f:LI):Ho:=
(Bm a b (Ac a)).bind λn=>
(KW n).bind λ(o,k)=>
if(geq k 6)then
(Bm a b (Ac a)).bind λp=>
(EL p).bind λ(u,v)=>
j9 b f u v
else
j9 b f o k
def Ri(a:LB):Nat->Int->LI->Ho
|0,_,_=>none
|q+1,b,f=>Yf (Rg (Ri a q) a) a b f
def mG a:=Ri a Ax
def mH(j6:LB->Int->LI->Ho)(a:LB):Ho:=
j6 a 0 ([]:LI)
def WJ:=mH mG
abbrev Hc:=Option (Int×Int)
def MG(a b:Int):Hc:=
some (b,a)
def MW:=MG
def Yp(j6:Int->Int->Hc)(Sj:Int->Int->Hc)(a:Int)(f:LI)(b g:Int):Hc:=
if(Cj g (Ac f))then
(Ao f g).bind λ_=>
(Ao f g).bind λh=>
Sj (Ad b h) (Ad g 1)
else
j6 a b
def Lr(a:Int)(f:LI):Nat->Int->Int->Hc
|0,_,_=>none
|q+1,b,g=>Yp MW (Lr a f q) a f b g
def Yd a f:=Lr a f Ax
def MF(j4:Int->LI->Int->Int->Hc)(k:LB):Hc:=
(WJ k).bind λ(f,a)=>
j4 a f 0 0
def Jo:=MF Yd
def Uc(a b:LB):Option Bool:=
if(Cj (Ac a) (Ac b))then
(Bm b 0 (Ac a)).bind λf=>
some (a==f)
else
some false
def RZ(a:UInt32)(b:Bool):Option UInt32:=
if b then
some (Zn (Db a 2) 3988292384)
else
some (Db a 2)
def QS:=RZ
def RQ(j2:UInt32->Bool->Option UInt32)(a:UInt32)(f:Int):Option UInt32:=
if(geq f 1)then
j2 a (!(geq (GR a 2) 1))
else
j2 a (geq (GR a 2) 1)
def IM:=RQ QS
def RV(a:UInt32):Option UInt32:=
some a
def RY:=RV
def AO(j6:UInt32->Option UInt32)(Sj:UInt32->UInt8->Int->Option UInt32)(a:UInt32)(b:UInt8)(f:Int):Option UInt32:=
if(Cj f 8)then
(IM a (Af (GR b 2):Int)).bind λg=>
Sj g (Db b 2) (Ad f 1)
else
j6 a
def Nh:Nat->UInt32->UInt8->Int->Option UInt32
|0,_,_,_=>none
|q+1,a,b,f=>AO RY (Nh q) a b f
def nZ:=Nh Ax
def oO(j4:UInt32->UInt8->Int->Option UInt32)(h:UInt32)(k:UInt8):Option UInt32:=
j4 h k 0
def bQ:=oO nZ
def KU(a:UInt32):Option UInt32:=
some a
def KD:=KU
def Xf(j6:UInt32->Option UInt32)(Sj:UInt32->Int->Option UInt32)(b:LB)(a:UInt32)(f:Int):Option UInt32:=
if(Cj f (Ac b))then
(Ao b f).bind λg=>
(bQ a g).bind λh=>
Sj h (Ad f 1)
else
j6 a
def La(b:LB):Nat->UInt32->Int->Option UInt32
|0,_,_=>none
|q+1,a,f=>Xf KD (La b q) b a f
def KA b:=La b Ax
def JL(j4:LB->UInt32->Int->Option UInt32)(k:UInt32)(b:LB):Option UInt32:=
j4 b k 0
def UM:=JL KA
def Xo(a:LB):Option UInt32:=
(UM 4294967295 a).bind λb=>
some (Ap 4294967295 b)
abbrev Ip:=Option (Int×Int×Int×Int×Int×Int)
def PQ(k h g f b:UInt64):Ip:=
(Lb (Af k:Int) (Af h:Int) (Af g:Int) (Af f:Int) (Af b:Int)).bind λv=>
if(!v)then
some (0,0,0,0,0,12)
else
(Zg (Af k:Int) (Af h:Int) (Af g:Int) (Af f:Int) (Af b:Int)).bind λw=>
if w then
some (0,0,0,0,0,4)
else
some ((Af k:Int),(Af h:Int),(Af g:Int),(Af f:Int),(Af b:Int),0)
def QO:=PQ
def PR(j6:UInt64->UInt64->UInt64->UInt64->UInt64->Ip)(a:LB):Ip:=
(Bm a 4 6).bind λu=>
(Bm a 6 8).bind λp=>
(Bm a 8 10).bind λo=>
(Bm a 10 14).bind λn=>
(Bm a 14 18).bind λm=>
(
(Eh u).bind λk=>
(
(Eh p).bind λh=>
(
(Eh o).bind λg=>
(
(Eh n).bind λf=>
(
(Eh m).bind λb=>
(
j6 k h g f b))))))
def QD:=PR QO
def QX(j5:LB->Ip)(a:LB):Ip:=
if(Cj (Ac a) 22)then
some (0,0,0,0,0,24)
else
(Bm a 18 22).bind λy=>
(Bm a 0 18).bind λaa=>
(Eh y).bind λab=>
(Xo aa).bind λac=>
if(Be ab (Af ac:UInt64))then
some (0,0,0,0,0,22)
else
j5 a
def RT:=QX QD
def PT(j4:LB->Ip)(a:LB):Ip:=
(Bm a 0 (Fj 4 (Ac a))).bind λad=>
(Bm ([84,84,65,49]:LB) 0 (Fj 4 (Ac a))).bind λae=>
if(ad !=ae)then
some (0,0,0,0,0,12)
else
j4 a
def Kn:=PT RT
abbrev Xb:=Option (Int×Int×Int×Int×Int×Int×Int)
def GG(b:Int)(a:LB):Xb:=
(Kn a).bind λ(k,m,n,o,p,h)=>
if(geq h 24)then
some (0,0,0,0,0,0,(-1:Int))
else
some ((Ad b 22),k,m,n,o,p,h)
def GB:=GG
def FL(j2:Int->LB->Xb)(f:LB):Xb:=
(Jo f).bind λ(b,g)=>
if(geq g 24)then
some (0,0,0,0,0,0,(-1:Int))
else
if(Be g 0)then
some (0,0,0,0,0,0,g)
else
(Bm f b (Ac f)).bind λa=>
(Uc a ([73,68,51]:LB)).bind λu=>
if u then
some (0,0,0,0,0,0,(-1:Int))
else
(Uc a ([65,80,69,84,65,71,69,88]:LB)).bind λv=>
if v then
some (0,0,0,0,0,0,(-1:Int))
else
j2 b a
def AJ:=FL GB
def SH(a:UInt64)(b:Bool):Option UInt64:=
if b then
some (Zn (Br a 2) 4823603603198064275)
else
some (Br a 2)
def AY:=SH
def SF(j2:UInt64->Bool->Option UInt64)(a:UInt64)(f:Int):Option UInt64:=
if(geq f 1)then
j2 a (!(Nj a 9223372036854775808))
else
j2 a (Nj a 9223372036854775808)
def KC:=SF AY
def RC(a:UInt64):Option UInt64:=
some a
def QV:=RC
def Zr(j6:UInt64->Option UInt64)(Sj:UInt64->Int->Option UInt64)(b:UInt8)(a:UInt64)(f:Int):Option UInt64:=
if(Ex f 0)then
(Md (Be f 0)).bind λ_=>
(KC a (Io (Db (Af b:Int) f) 2)).bind λg=>
Sj g (Db f 2)
else
j6 a
def Nc(b:UInt8):Nat->UInt64->Int->Option UInt64
|0,_,_=>none
|q+1,a,f=>Zr QV (Nc b q) b a f
def pM b:=Nc b Ax
def qE(j4:UInt8->UInt64->Int->Option UInt64)(h:UInt64)(b:UInt8):Option UInt64:=
j4 b h 128
def cC:=qE pM
def HX(a:UInt64):Option UInt64:=
some a
def JH:=HX
def Wj(j6:UInt64->Option UInt64)(Sj:UInt64->Int->Option UInt64)(b:LB)(a:UInt64)(f:Int):Option UInt64:=
if(Cj f (Ac b))then
(Ao b f).bind λg=>
(cC a g).bind λh=>
Sj h (Ad f 1)
else
j6 a
def Ko(b:LB):Nat->UInt64->Int->Option UInt64
|0,_,_=>none
|q+1,a,f=>Wj JH (Ko b q) b a f
def jA b:=Ko b Ax
def gV(j4:LB->UInt64->Int->Option UInt64)(k:UInt64)(b:LB):Option UInt64:=
j4 b k 0
def DA:=gV jA
def bN(a:LB):Option UInt64:=
(DA 0 a).bind λb=>
some b
def Nf(a:LB):Option (LB):=
(bN a).bind λb=>
(Fq b 8).bind λf=>
some f
abbrev Ez:=Option (LI×Int)
def SC(f:LI):Ez:=
(Jl f).bind λh=>
if(Be h 0)then
some (([]:LI),12)
else
some (f,0)
def AX:=SC
def AR(j8:LI->Ez)(L6:Int->LI->Ez)(b:LB)(a g:Int)(f:LI):Ez:=
if(Cj g a)then
(Bm b (Br 4 g) (Ad (Br 4 g) 4)).bind λk=>
(Eh k).bind λm=>
(Et f ([(Af m:Int)]:LI)).bind λn=>
L6 (Ad g 1) n
else
j8 f
def Nb(b:LB)(a:Int):Nat->Int->LI->Ez
|0,_,_=>none
|q+1,g,f=>AR AX (Nb b a q) b a g f
def RU b a:=Nb b a Ax
def PX(j6:LB->Int->Int->LI->Ez)(b:LB)(a:Int):Ez:=
j6 b a 0 ([]:LI)
def RB:=PX RU
def QF(j5:LB->Int->Ez)(b:LB)(a:Int):Ez:=
if((Cj a 1)||(Ex a 1000))then
some (([]:LI),2)
else
if(Cj (Ac b) (Ad (Br 4 a) 4))then
some (([]:LI),24)
else
(Bm b (Br 4 a) (Ad (Br 4 a) 4)).bind λo=>
(Bm b 0 (Br 4 a)).bind λp=>
(Eh o).bind λu=>
(Xo p).bind λv=>
if(Be u (Af v:UInt64))then
some (([]:LI),22)
else
j5 b a
def Ta:=QF RB
abbrev Lz:=Option (Int×LI×Int)
def HJ(b g:Int)(h:LI):Lz:=
if(geq g 24)then
some (0,([]:LI),(-1:Int))
else
some ((Ad (Ad b (Br 4 (Ac h))) 4),h,g)
def LN:=HJ
def ID(j4:Int->Int->LI->Lz)(a:LB)(f k m n o b:Int):Lz:=
(Bm a b (Ac a)).bind λp=>
(Hf f k m n o).bind λu=>
(Ta p (Ac u)).bind λ(h,g)=>
j4 b g h
def Du:=ID LN
def Ia(j3:LB->Int->Int->Int->Int->Int->Int->Lz)(a:LB)(f k m n o:Int)(v:LB):Lz:=
if(geq f 2)then
if(Cj (Ac a) 8)then
some (0,([]:LI),(-1:Int))
else
(Bm a 0 8).bind λw=>
(Nf v).bind λy=>
if(w !=y)then
some (0,([]:LI),26)
else
j3 a f k m n o 8
else
j3 a f k m n o 0
def Fc:=Ia Du
def bX(b:UInt64)(a:LB):Option (UInt64×Int):=
if(Ex (Ac a) 100000)then
some (0,4)
else
(DA b a).bind λf=>
some (f,0)
def gJ(a:LB):Option (UInt64×Int):=
(bX 0 a).bind λ(b,f)=>
some (b,f)
def sG(a:LX):Option (LX):=
some a
def sL:=sG
def ZH(L6:UInt64->Int->LX->Option (LX))(b:UInt64)(f:Int)(a:LX)(g:Int32):Option (LX):=
(Ao a f).bind λ_=>
(Nk a f g).bind λh=>
L6 (Db b 256) (Ad f 1) h
def EZ L6:=ZH L6
def EP(j8:UInt64->Int->LX->Int32->Option (LX))(j10:LX->Option (LX))(b:UInt64)(f:Int)(a:LX):Option (LX):=
if(Cj f 8)then
if(Ex (Af (GR b 256):Int32) 127)then
j8 b f a (Ap (Af (GR b 256):Int32) 256)
else
j8 b f a (Af (GR b 256):Int32)
else
j10 a
def Mq:Nat->UInt64->Int->LX->Option (LX)
|0,_,_,_=>none
|q+1,b,f,a=>EP (EZ (Mq q)) sL b f a
def uV:=Mq Ax
def vW(j6:UInt64->Int->LX->Option (LX))(k:UInt64):Option (LX):=
j6 k 0 (List.replicate 16 (0:Int32))
def lN:=vW uV
def Nr(a:LB):Option (LX×Int):=
if(Ex (Ac a) 64)then
some (([(0:Int32),(0:Int32),(0:Int32),(0:Int32),(0:Int32),(0:Int32),(0:Int32),(0:Int32),(0:Int32),(0:Int32),(0:Int32),(0:Int32),(0:Int32),(0:Int32),(0:Int32),(0:Int32)]:LX),2)
else
(gJ a).bind λ(b,g)=>
(lN b).bind λf=>
some (f,0)
def CP(b:LB):Option (LB):=
(Xo b).bind λa=>
(Et ([]:LB) b).bind λf=>
(Et f ([(Af a:UInt8),(Af (Ct a (GI.toZ (8:UInt64)).toNat):UInt8),(Af (Ct a (GI.toZ (16:UInt64)).toNat):UInt8),(Af (Ct a (GI.toZ (24:UInt64)).toNat):UInt8)]:LB)).bind λg=>
some g
def Um(a:LB):Option Int:=
if(Cj (Ac a) 5)then
some 24
else
if(Ex (Ac a) 41254)then
some 4
else
(Bm a 0 (Ap (Ac a) 4)).bind λb=>
(CP b).bind λf=>
if(f !=a)then
some 22
else
some 0
def Qr:Option (Int×Int×UInt64×UInt64):=
some (10,10,16384,16384)
def mQ(a:UInt64):Option UInt64:=
some a
def mX:=mQ
def Yo(j6:UInt64->Option UInt64)(Sj:UInt64->Int->Option UInt64)(b:Int)(a:UInt64)(f:Int):Option UInt64:=
if(Cj f b)then
Sj (Br a 2) (Ad f 1)
else
j6 a
def Lq(b:Int):Nat->UInt64->Int->Option UInt64
|0,_,_=>none
|q+1,a,f=>Yo mX (Lq b q) b a f
def mL b:=Lq b Ax
def mU(j4:Int->UInt64->Int->Option UInt64)(b:Int):Option UInt64:=
j4 b 1 0
def Hp:=mU mL
def NV(a g:Int)(h k:UInt64)(b:UInt32):Option Bool:=
(Hp a).bind λf=>
some (Cj (Af b:UInt64) f)
def HT(a g:Int)(h k:UInt64)(b:UInt32):Option UInt32:=
(Hp a).bind λf=>
some (Af (Ap (Af b:UInt64) f):UInt32)
abbrev CX:=Option (Int×UInt64)
def SK(b:Int)(a f:UInt64):CX:=
if(Cj b 24)then
(Hp (Ad b 5)).bind λg=>
if(Ex (Ap (Ad a f) (Db a 16)) g)then
some ((Ad b 1),(Ap (Ad a f) (Db a 16)))
else
some (b,(Ap (Ad a f) (Db a 16)))
else
some (b,(Ap (Ad a f) (Db a 16)))
def AQ:=SK
def SE(j2:Int->UInt64->UInt64->CX)(b:Int)(a f:UInt64):CX:=
if(Ex b 0)then
(Hp (Ad b 4)).bind λh=>
if(Cj (Ap (Ad a f) (Db a 16)) h)then
some ((Ap b 1),(Ap (Ad a f) (Db a 16)))
else
j2 b a f
else
j2 b a f
def Zi:=SE AQ
abbrev Yt:=Option (Int×Int×UInt64×UInt64)
def HC(h:UInt32)(f a:Int)(g b:UInt64)(o:Int)(p:UInt64):Yt:=
(Zi f g (Af h:UInt64)).bind λ(aa,ab)=>
some (aa,o,ab,p)
def Wh:=HC
def KV(j2:UInt32->Int->Int->UInt64->UInt64->Int->UInt64->Yt)(f a:Int)(g b:UInt64)(h:UInt32):Yt:=
(NV f a g b h).bind λu=>
if(!u)then
(
(
(HT f a g b h).bind λk=>
(Zi a b (Af k:UInt64)).bind λ(m,n)=>
j2 h f a g b m n))
else
j2 h f a g b a b
def CZ:=KV Wh
abbrev Gm:=Option (Int×Int×UInt64×UInt64)
def kN(a b:Int)(f g:UInt64):Gm:=
some (a,b,f,g)
def iP:=kN
def LG(j6:Int->Int->UInt64->UInt64->Gm)(Sj:Int->Int->Int->UInt64->UInt64->Gm)(h:Int)(k:LU)(m a b:Int)(f g:UInt64):Gm:=
if(Cj m (Ac k))then
(Ao k m).bind λn=>
(CZ a b f g n).bind λ(o,p,u,v)=>
Sj (Ad m h) o p u v
else
j6 a b f g
def Pn(h:Int)(k:LU):Nat->Int->Int->Int->UInt64->UInt64->Gm
|0,_,_,_,_,_=>none
|q+1,m,a,b,f,g=>LG iP (Pn h k q) h k m a b f g
def kB h k:=Pn h k Ax
def JU(j4:Int->LU->Int->Int->Int->UInt64->UInt64->Gm)(h:Int)(k:LU):Gm:=
(Qr).bind λ(w,y,aa,ab)=>
(Md (Be h 0)).bind λ_=>
j4 h k (Io (Ac k) h) w y aa ab
def Un:=JU kB
def aI(a:Int):Option Int:=
some (Io a 2)
def ZQ:=aI
def EV(j6:Int->Option Int)(Sj:Int->Int->Option Int)(b a f:Int):Option Int:=
if(Cj f (Io b 8))then
Sj (Db a 2) (Ad f 1)
else
j6 a
def Qm(b:Int):Nat->Int->Int->Option Int
|0,_,_=>none
|q+1,a,f=>EV ZQ (Qm b q) b a f
def WC b:=Qm b Ax
def ZU(j4:Int->Int->Int->Option Int)(g:LB)(k b:Int):Option Int:=
(Ao g (Db b 8)).bind λh=>
j4 b (Af h:Int) 0
def Ny:=ZU WC
abbrev Fw:=Option (LB×Int)
def UJ(b g a:Int)(f:LB):Fw:=
(Ao f (Db a 8)).bind λ_=>
(Ao f (Db a 8)).bind λm=>
(Ao f (Db a 8)).bind λ_=>
(Nk f (Db a 8) (Ad m (Af (Br b g):UInt8))).bind λn=>
some (n,(Ad a 1))
def DC:=UJ
def CQ(j8:Int->Int->Int->LB->Fw)(L6:Int->Int->Fw)(b a:Int)(f:LB)(g h:Int):Fw:=
if(Cj h (Io a 8))then
L6 (Br g 2) (Ad h 1)
else
j8 b g a f
def Ou(b a:Int)(f:LB):Nat->Int->Int->Fw
|0,_,_=>none
|q+1,g,h=>CQ DC (Ou b a f q) b a f g h
def UP b a f:=Ou b a f Ax
def UK(j6:Int->Int->LB->Int->Int->Fw)(b a:Int)(f:LB):Fw:=
j6 b a f 1 0
def CK:=UK UP
def UT(j5:Int->Int->LB->Fw)(k:LB)(a b:Int):Fw:=
if(geq (Io a 8) 0)then
(Et k ([(0:UInt8)]:LB)).bind λo=>
j5 b a o
else
j5 b a k
def BM:=UT CK
abbrev Ft:=Option (LB×Int)
def gT(a:Int)(b:LB):Ft:=
some (b,a)
def fQ:=gT
def Us(j6:Int->LB->Ft)(Sj:Int->Int->LB->Ft)(f:Int)(g:LB)(h k a:Int)(b:LB):Ft:=
if(Cj k f)then
(Ny g h k).bind λm=>
(BM b a m).bind λ(n,o)=>
Sj (Ad k 1) o n
else
j6 a b
def Jr(f:Int)(g:LB)(h:Int):Nat->Int->Int->LB->Ft
|0,_,_,_=>none
|q+1,k,a,b=>Us fQ (Jr f g h q) f g h k a b
def gG f g h:=Jr f g h Ax
def fS(j4:Int->LB->Int->Int->Int->LB->Ft)(g:LB)(h p f:Int):Ft:=
j4 f g h p 0 ([]:LB)
def SA:=fS gG
def mT(a:UInt64):Option UInt64:=
some a
def mE:=mT
def Yc(j6:UInt64->Option UInt64)(Sj:UInt64->Int->Option UInt64)(b:Int)(f:LB)(g:Int)(a:UInt64)(h:Int):Option UInt64:=
if(Nj h 0)then
(Ny f g (Ad b h)).bind λk=>
Sj (Ad (Br 2 a) (Af k:UInt64)) (Ap h 1)
else
j6 a
def Mc(b:Int)(f:LB)(g:Int):Nat->UInt64->Int->Option UInt64
|0,_,_=>none
|q+1,a,h=>Yc mE (Mc b f g q) b f g a h
def ME b f g:=Mc b f g Ax
def MY(j4:Int->LB->Int->UInt64->Int->Option UInt64)(f:LB)(g b m:Int):Option UInt64:=
j4 b f g 0 (Ap m 1)
def Wv:=MY ME
abbrev Jk:=Option (Int×Int)
def UC(b a:Int)(g:LB)(f:Int):Jk:=
if(geq a 48)then
some (a,(Ad b a))
else
if(Nj (Ad b a) f)then
some ((-1:Int),0)
else
some (a,(Ad (Ad b a) 1))
def CN:=UC
def DB(j6:Int->Int->LB->Int->Jk)(Sj:Int->Jk)(b:Int)(g:LB)(f a:Int):Jk:=
if((Cj (Ad b a) f)&&(Cj a 48))then
(Ny g f (Ad b a)).bind λh=>
if(geq h 1)then
Sj (Ad a 1)
else
j6 b a g f
else
j6 b a g f
def Ok(b:Int)(g:LB)(f:Int):Nat->Int->Jk
|0,_=>none
|q+1,a=>DB CN (Ok b g f q) b g f a
def sM b g f:=Ok b g f Ax
def sK(j4:Int->LB->Int->Int->Jk)(g:LB)(f b:Int):Jk:=
j4 b g f 0
def fU:=sK sM
def IB(b:UInt32)(f:Int):Option Int:=
(Hp f).bind λa=>
(Md (Be a 0)).bind λ_=>
some (Af (Fj 48 (Db (Af b:UInt64) a)):Int)
abbrev EF:=Option (UInt32×Int×Int)
def CC(g a b:Int)(h:LB)(f k:Int):EF:=
if((Cj a 0)||(Cj (Ap f b) k))then
some (0,0,24)
else
(Wv h f b k).bind λm=>
if(Cj a 48)then
(Hp g).bind λo=>
some ((Af (Ad (Br (Af a:UInt64) o) m):UInt32),(Ad b k),0)
else
(IB (Af m:UInt32) g).bind λp=>
if(Cj p a)then
some (0,0,12)
else
some ((Af m:UInt32),(Ad b k),0)
def CH:=CC
def UQ(j2:Int->Int->Int->LB->Int->Int->EF)(h:LB)(f n g:Int):EF:=
if(Nj n f)then
some (0,0,24)
else
(fU h f n).bind λ(a,b)=>
if(geq a 48)then
j2 g a b h f 32
else
j2 g a b h f g
def OK:=UQ CH
def NI(g:LB)(b a f n:Int)(v w:UInt64):Option (UInt32×Int×Int):=
if(Nj a b)then
some (0,0,24)
else
(Ny g b a).bind λo=>
if(geq o 0)then
if(Cj (Ap (Ap b a) 1) f)then
some (0,0,24)
else
(Wv g b (Ad a 1) f).bind λp=>
some ((Af p:UInt32),(Ad (Ad a 1) f),0)
else
(OK g b (Ad a 1) n).bind λ(h,u,k)=>
if(Be k 0)then
some (0,0,k)
else
(Hp f).bind λm=>
if(Ex (Ad (Af h:UInt64) m) 4294967295)then
some (0,0,12)
else
some ((Af (Ad (Af h:UInt64) m):UInt32),u,0)
abbrev Cf:=Option (LU×Int)
def mD(b:LU):Cf:=
some (b,0)
def mR:=mD
def Ym(j18:LU->Cf)(Qg:Int->Cf)(a:LB)(b:LU)(m:Int):Cf:=
if(Cj m (Br 8 (Ac a)))then
(Ny a (Br 8 (Ac a)) m).bind λn=>
if(Be n 0)then
some (b,12)
else
Qg (Ad m 1)
else
j18 b
def Ly(a:LB)(b:LU):Nat->Int->Cf
|0,_=>none
|q+1,m=>Ym mR (Ly a b q) a b m
def LZ a b:=Ly a b Ax
def LV(j16:LB->LU->Int->Cf)(f:Int)(a:LB)(b:LU):Cf:=
if(Ex (Ap (Br 8 (Ac a)) f) 7)then
some (b,12)
else
j16 a b f
def Ye:=LV LZ
def MQ(Ajc:Int->Int->LU->Cf)(g h:Int)(a:LB)(f k:Int)(b:LU)(o p:Int)(u v:UInt64):Cf:=
(SA a (Br 8 (Ac a)) f (Fj (Ad f 81) (Br 8 (Ac a)))).bind λ(y,aa)=>
(NI y aa 0 o p u v).bind λ(ab,ac,w)=>
if(Be w 0)then
some (b,w)
else
(Et b ([ab]:LU)).bind λad=>
Ajc (Ad f ac) (Ad k 1) ad
def Ls Ajc:=MQ Ajc
def LY(j13:Int->Int->LU->Int->Int->UInt64->UInt64->Cf)(j15:Int->LB->LU->Cf)(g h:Int)(a:LB)(f k:Int)(b:LU):Cf:=
if(Cj k (Br h g))then
(Qr).bind λ(n,ae,af,ag)=>
if(Nj k g)then
(Un g b).bind λ(ah,ai,aj,ak)=>
j13 f k b ah ai aj ak
else
j13 f k b n ae af ag
else
j15 f a b
def Gq(g h:Int)(a:LB):Nat->Int->Int->LU->Cf
|0,_,_,_=>none
|q+1,f,k,b=>LY (Ls (Gq g h a q) g h a) Ye g h a f k b
def mI g h a:=Gq g h a Ax
def RH(j10:Int->Int->LB->Int->Int->LU->Cf)(g h:Int)(a:LB):Cf:=
j10 g h a 0 0 ([]:LU)
def IU:=RH mI
def uD(a:Int):Option (Int×Int):=
if(geq a 8)then
some (4,0)
else
if((geq a 16)||(geq a 24))then
some (5,0)
else
some (0,2)
def zK(a:Int)(b:LX):Option (Int×LX×LX×Int):=
(uD a).bind λ(g,f)=>
if(Be f 0)then
some (0,(List.replicate 16 (0:Int32)),(List.replicate 16 (0:Int32)),2)
else
if(geq a 16)then
some (9,b,(List.replicate 16 (0:Int32)),0)
else
some (10,b,(List.replicate 16 (0:Int32)),0)
def eU(a:Int)(b:LX):Option (Int×Int32×Int×LX×LX×Int):=
(zK a b).bind λ(f,g,h,k)=>
if(Be k 0)then
some (0,0,0,(List.replicate 16 (0:Int32)),(List.replicate 16 (0:Int32)),2)
else
some (a,0,f,g,h,0)
def JC(a:UInt32):Option Int32:=
if(geq (GR a 2) 0)then
some (Af (Db a 2):Int32)
else
some (Af (Db (wL (Ad (Af a:Int) 1)) 2):Int32)
def Dp(a:Int):Option Int32:=
some (Af (Af (Af a:UInt64):UInt32):Int32)
def UI(a:Int):Option Int32:=
some (Af a:Int32)
def UE:=UI
def CO(j6:Int->Option Int32)(Sj:Int->Int->Option Int32)(h:Int)(f g:LX)(a b:Int):Option Int32:=
if(Cj b 16)then
(Ao f b).bind λ_=>
(Ao g b).bind λ_=>
(Ao f b).bind λk=>
(Ao g b).bind λm=>
(Dp (Br (Af k:Int) (Af m:Int))).bind λn=>
(Dp (Ad a (Af n:Int))).bind λo=>
Sj (Af o:Int) (Ad b 1)
else
j6 a
def Ot(h:Int)(f g:LX):Nat->Int->Int->Option Int32
|0,_,_=>none
|q+1,a,b=>CO UE (Ot h f g q) h f g a b
def sF h f g:=Ot h f g Ax
def sQ(j4:Int->LX->LX->Int->Int->Option Int32)(h:Int)(f g:LX):Option Int32:=
j4 h f g 0 0
def fP:=sQ sF
def RA(b:Int)(f g:LX)(a:Int):Option Int32:=
(fP b f g).bind λk=>
(Dp (Ad (Af k:Int) (Db a 2))).bind λh=>
(Md (Be a 0)).bind λ_=>
(Md (Be a 0)).bind λ_=>
if(Cj (Io (Af h:Int) a) 0)then
some (Af (Ap (Db (Af h:Int) a) 1):Int32)
else
some (Af (Db (Af h:Int) a):Int32)
def BA:=RA
def QG(j2:Int->LX->LX->Int->Option Int32)(b:Int)(f g:LX):Option Int32:=
if(geq b 9)then
j2 b f g 512
else
j2 b f g 1024
def JY:=QG BA
def LK(a:Int):Option Int32:=
if(geq a 0)then
some 4
else
if(oz a 3)then
some 2
else
some 1
def Yx(a:Int32):Option Int32:=
if(Cj a 0)then
some (-1:Int32)
else
if(Ex a 0)then
some 1
else
some 0
abbrev Fx:=Option (Int×LX×LX)
def fX(g:Int)(b a:LX):Fx:=
some (g,b,a)
def eG:=fX
def Up(j6:Int->LX->LX->Fx)(Sj:Int->LX->Fx)(h:Int32)(g:Int)(a:LX)(f:Int)(b:LX):Fx:=
if(Cj f 16)then
(Ao b f).bind λ_=>
(Ao a f).bind λ_=>
(Ao b f).bind λk=>
(Ao a f).bind λm=>
(LK f).bind λn=>
(Yx m).bind λo=>
(Yx h).bind λp=>
(Ao b f).bind λ_=>
(Nk b f (Ad k (Br (Br n o) p))).bind λu=>
Sj (Ad f 1) u
else
j6 g b a
def Jv(h:Int32)(g:Int)(a:LX):Nat->Int->LX->Fx
|0,_,_=>none
|q+1,f,b=>Up eG (Jv h g a q) h g a f b
def fJ h g a:=Jv h g a Ax
def fC(j4:Int32->Int->LX->Int->LX->Fx)(g:Int)(v a:LX)(h:Int32):Fx:=
j4 h g a 0 v
def QZ:=fC fJ
abbrev Gp:=Option (Int×LX×LX)
def KB(b:Int32)(f:Int)(g a:LX):Gp:=
(Ao a 0).bind λ_=>
(Nk a 0 b).bind λk=>
some (f,g,k)
def JV:=KB
def Xg(j6:Int32->Int->LX->LX->Gp)(Sj:Int->LX->Gp)(b:Int32)(f:Int)(g:LX)(h:Int)(a:LX):Gp:=
if(Ex h 0)then
(Ao a (Ap h 1)).bind λ_=>
(Ao a (Ap h 1)).bind λm=>
(Ao a h).bind λ_=>
(Nk a h m).bind λn=>
Sj (Ap h 1) n
else
j6 b f g a
def Kw(b:Int32)(f:Int)(g:LX):Nat->Int->LX->Gp
|0,_,_=>none
|q+1,h,a=>Xg JV (Kw b f g q) b f g h a
def jQ b f g:=Kw b f g Ax
def iF(j4:Int32->Int->LX->Int->LX->Gp)(f:Int)(g o:LX)(b:Int32):Gp:=
j4 b f g 15 o
def UX:=iF jQ
def AN(a:Int)(b f:LX)(g:Int32):Option (Int32×Int×LX×LX):=
(JY a b f).bind λk=>
(Dp (Ad (Af g:Int) (Af k:Int))).bind λh=>
(QZ a b f g).bind λ(m,n,o)=>
(UX m n o h).bind λ(p,u,v)=>
some (h,p,u,v)
def KF(b:Int32)(a:Int):Option Int32:=
(Md (Be a 0)).bind λ_=>
(Md (Be a 0)).bind λ_=>
if(Cj (Io (Br (Ap a 1) (Af b:Int)) a) 0)then
some (Af (Ap (Db (Br (Ap a 1) (Af b:Int)) a) 1):Int32)
else
some (Af (Db (Br (Ap a 1) (Af b:Int)) a):Int32)
def Wu:=KF
def KE(j2:Int32->Int->Option Int32)(f:Int)(b:Int32):Option Int32:=
if(geq f 5)then
j2 b 32
else
j2 b 16
def Ud:=KE Wu
def CI(b:Int)(a:Int32)(h:Int)(k m:LX):Option Int:=
if(geq b 8)then
(Ud 4 a).bind λf=>
some (Af f:Int)
else
(Ud 5 a).bind λg=>
some (Af g:Int)
def AI(a:Int)(k:Int32)(b:Int)(f g:LX)(m:Int32):Option (Int32×Int×Int32×Int×LX×LX):=
(AN b f g m).bind λ(n,o,p,u)=>
(CI a k b f g).bind λv=>
(Dp (Ad (Af n:Int) v)).bind λh=>
some (h,a,h,o,p,u)
def Xc(a:Int)(b:LX):Option Int:=
if((Cj a 1)||(Ex a 6))then
some 2
else
if(Ex (Ac b) 4000)then
some 4
else
(Md (Be a 0)).bind λ_=>
if(Ex (Io (Ac b) a) 0)then
some 2
else
some 0
def eZ(b:LX):Option (LX):=
some b
def fD:=eZ
def Vz(j8:LX->Option (LX))(L6:Int->LX->Option (LX))(a:LX)(f:Int)(b:LX):Option (LX):=
if(Nj f 0)then
(Ao b (Ad f 1)).bind λ_=>
(Ao a f).bind λm=>
(Ao b (Ad f 1)).bind λn=>
(Dp (Ap (Af n:Int) (Af m:Int))).bind λo=>
(Ao b f).bind λ_=>
(Nk b f o).bind λp=>
L6 (Ap f 1) p
else
j8 b
def Js(a:LX):Nat->Int->LX->Option (LX)
|0,_,_=>none
|q+1,f,b=>Vz fD (Js a q) a f b
def fK a:=Js a Ax
def GP(j6:LX->Int->LX->Option (LX))(a g:LX):Option (LX):=
j6 a (Ap (Ac a) 2) g
def Vj:=GP fK
def GL(j5:LX->LX->Option (LX))(a:LX):Option (LX):=
(mkI (Ac a) (0:Int32)).bind λk=>
(Md (geq (Ac a) (Ac a))).bind λ_=>
(Ao a (Ap (Ac a) 1)).bind λu=>
(Ao k (Ap (Ac a) 1)).bind λ_=>
(Nk k (Ap (Ac a) 1) u).bind λh=>
if(Ex (Ac a) 1)then
(Ao a (Ap (Ac a) 1)).bind λv=>
(Ao a (Ap (Ac a) 2)).bind λw=>
(Dp (Ad (Af v:Int) (Db (Af w:Int) 2))).bind λy=>
(Ao h (Ap (Ac a) 1)).bind λ_=>
(Nk h (Ap (Ac a) 1) y).bind λaa=>
j5 a aa
else
j5 a h
def AF:=GL Vj
abbrev Il:=Option (LX×Int)
def oV(f:LX):Il:=
some (f,0)
def oN:=oV
def SI(j6:LX->Il)(Sj:Int->LX->Il)(a:Int)(b:LX)(g:Int)(f:LX):Il:=
if(Cj g (Ac b))then
(Bm b g (Ad g a)).bind λh=>
(AF h).bind λk=>
(Et f k).bind λm=>
Sj (Ad g a) m
else
j6 f
def Sn(a:Int)(b:LX):Nat->Int->LX->Il
|0,_,_=>none
|q+1,g,f=>SI oN (Sn a b q) a b g f
def nM a b:=Sn a b Ax
def QH(j4:Int->LX->Int->LX->Il)(a:Int)(b:LX):Il:=
(Xc a b).bind λn=>
if(Be n 0)then
(Xc a b).bind λo=>
some (([]:LX),o)
else
j4 a b 0 ([]:LX)
def IH:=QH nM
def FQ(a f:Int)(w:LX):Option (LX):=
(IH a w).bind λ(aj,ai)=>
some aj
def Vl:=FQ
def FN(qf:Int->LX->Option (LX))(b:LU)(a f:Int)(g:LX)(h:Int)(m:LX):Option (LX):=
qf (Ad h 1) m
def GF qf:=FN qf
def GH(Ajd:Int->LX->Int->Int32->Int->LX->LX->Option (LX))(b:LU)(h a f:Int)(g:LX)(k:Int)(af:LX)(y:Int)(aa:Int32)(ab:Int)(ac ad:LX):Option (LX):=
Ajd (Ad k a) af y aa ab ac ad
def GM Ajd:=GH Ajd
def GQ(j30:Int->LX->Int->Int32->Int->LX->LX->Option (LX))(b:LU)(h a f:Int)(g:LX)(k:Int)(ae:Int32)(m:LX)(n:Int)(o:Int32)(p:Int)(u v:LX)(y:Int)(aa:Int32)(ab:Int)(ac ad:LX):Option (LX):=
(Ao m k).bind λ_=>
(Nk m k ae).bind λaf=>
j30 k af y aa ab ac ad
def GO Ajd b h a f g:=GQ (GM Ajd b h a f g) b h a f g
def FT(j29:Int->Int32->LX->Int->Int32->Int->LX->LX->Int->Int32->Int->LX->LX->Option (LX))(j32:Int->LX->Option (LX))(b:LU)(a f:Int)(g:LX)(h k:Int)(m:LX)(n:Int)(o:Int32)(p:Int)(u v:LX):Option (LX):=
if(Cj k (Ac b))then
(Ao b k).bind λah=>
(
(JC ah).bind λag=>
(
(AI n o p u v ag).bind λ(ae,y,aa,ab,ac,ad)=>
j29 k ae m n o p u v y aa ab ac ad))
else
j32 h m
def Np(qf:Int->LX->Option (LX))(b:LU)(a f:Int)(g:LX)(h:Int):Nat->Int->LX->Int->Int32->Int->LX->LX->Option (LX)
|0,_,_,_,_,_,_,_=>none
|q+1,k,m,n,o,p,u,v=>FT (GO (Np qf b a f g h q) b h a f g) (GF qf b a f g) b a f g h k m n o p u v
def FK qf b a f g h:=Np qf b a f g h Ax
def Vi(j26:Int->Int->LX->Int->Int32->Int->LX->LX->Option (LX))(j34:Int->Int->LX->Option (LX))(b:LU)(a f:Int)(g:LX)(h:Int)(w:LX):Option (LX):=
if(Cj h a)then
(eU f g).bind λ(ak,ai,al,am,an,aq)=>
j26 h h w ak ai al am an
else
j34 a f w
def Gz(b:LU)(a f:Int)(g:LX):Nat->Int->LX->Option (LX)
|0,_,_=>none
|q+1,h,w=>Vi (FK (Gz b a f g q) b a f g) Vl b a f g h w
def GA b a f g:=Gz b a f g Ax
def JN(j18:LU->Int->Int->LX->Int->LX->Option (LX))(a f:Int)(g:LX)(b:LU):Option (LX):=
(mkI (Ac b) (0:Int32)).bind λao=>
(Md (geq (Ac b) (Ac b))).bind λ_=>
j18 b a f g 0 ao
def Uj:=JN GA
def Ue(g f:Int)(a:LX):Option (LX×Int):=
(Ay f a).bind λb=>
if(Be b 0)then
some (([]:LX),b)
else
some (a,0)
abbrev Yg:=Option (LX×Int)
def Hw(f a b:Int)(g:LX)(h:LU):Yg:=
if(Be f 0)then
some (([]:LX),f)
else
(
(
(Uj a b g h).bind λm=>
(Ue a b m).bind λ(n,o)=>
some (n,o)))
def Hx:=Hw
def Kg(j2:Int->Int->Int->LX->LU->Yg)(a b:Int)(g:LX)(p:Int)(k:LB):Yg:=
(Dh a b p).bind λy=>
if(Be y 0)then
some (([]:LX),2)
else
(Um k).bind λaa=>
if(Be aa 0)then
(Um k).bind λab=>
some (([]:LX),ab)
else
(Bm k 0 (Ap (Ac k) 4)).bind λac=>
(IU a p ac).bind λ(h,f)=>
j2 f a b g h
def Cm:=Kg Hx
def CE(a b:Int):Option (LB):=
if(geq a 24)then
(Et ([(Af (Io b 256):UInt8),(Af (Io (Db b 256) 256):UInt8)]:LB) ([(Af (Db b 65536):UInt8)]:LB)).bind λg=>
some g
else
some ([(Af (Io b 256):UInt8),(Af (Io (Db b 256) 256):UInt8)]:LB)
def Of:=CE
def UD(j2:Int->Int->Option (LB))(a:Int)(f:Int32):Option (LB):=
if(geq a 8)then
some ([(Af (Ad (Af f:Int) 128):UInt8)]:LB)
else
if(Cj (Af f:Int) 0)then
(Kf a).bind λh=>
j2 a (Ad (Af f:Int) (Br 2 h))
else
j2 a (Af f:Int)
def NQ:=UD Of
abbrev Hj:=Option (LB×Int)
def mK(b:LB):Hj:=
some (b,0)
def mB:=mK
def Ys(j6:LB->Hj)(Sj:Int->LB->Hj)(f:Int)(a:LX)(g:Int)(b:LB):Hj:=
if(Cj g (Ac a))then
(Ao a g).bind λh=>
(NQ f h).bind λk=>
(Et b k).bind λm=>
Sj (Ad g 1) m
else
j6 b
def Mb(f:Int)(a:LX):Nat->Int->LB->Hj
|0,_,_=>none
|q+1,g,b=>Ys mB (Mb f a q) f a g b
def mO f a:=Mb f a Ax
def MU(j4:Int->LX->Int->LB->Hj)(f:Int)(a:LX):Hj:=
(Ay f a).bind λn=>
if(Be n 0)then
(Ay f a).bind λo=>
some (([]:LB),o)
else
j4 f a 0 ([]:LB)
def Wl:=MU mO
abbrev Yh:=Option (LB×Int)
def Ej(o:LX)(f:Int)(p g:LB)(h k a m n:Int)(u:LI)(b:Int)(v:LB)(w:Bool)(y:Int):Yh:=
if(Be f 0)then
some (([]:LB),f)
else
(Wl a o).bind λ(ac,ai)=>
some (ac,0)
def Em:=Ej
def El(j2:LX->Int->LB->LB->Int->Int->Int->Int->Int->LI->Int->LB->Bool->Int->Yh)(p g:LB)(h k a m n:Int)(u:LI)(b:Int)(v:LB)(w:Bool)(y:Int):Yh:=
(Ao u b).bind λaa=>
if(Cj (Ac g) aa)then
some (([]:LB),(-1:Int))
else
(Nr p).bind λ(ad,aj)=>
(Bm g 0 aa).bind λae=>
(Fy h k a m n).bind λ(af,ag)=>
(Hf h k a m n).bind λab=>
(Ao ab b).bind λ_=>
(Ao ab b).bind λah=>
(Cm af ag ad ah ae).bind λ(o,f)=>
j2 o f p g h k a m n u b v w y
def Dj:=El Em
abbrev Oh:=Option (LB×LB×Int×Int×Int×Int×Int×LI×Int×LB×Bool×Int×Int)
def Bz(g a:LB)(m o p u v:Int)(b:LI)(f:Int)(n:LB)(h:Bool)(k:Int):Oh:=
if(geq (Ac b) 0)then
(Fc a m o p u v g).bind λ(ag,ak,w)=>
if(Be w 0)then
some (g,a,m,o,p,u,v,b,f,n,h,k,w)
else
(Bm a ag (Ac a)).bind λal=>
some (g,al,m,o,p,u,v,ak,f,n,h,k,0)
else
if(geq f (Ac b))then
if(Ex (Ac a) 4000)then
some (g,a,m,o,p,u,v,b,f,n,h,k,38)
else
some (g,a,m,o,p,u,v,b,f,n,h,k,(-1:Int))
else
(Dj g a m o p u v b f n h k).bind λ(am,y)=>
if(Be y 0)then
some (g,a,m,o,p,u,v,b,f,n,h,k,y)
else
(Et ([]:LB) n).bind λan=>
(Et an am).bind λah=>
(
(
(
(Ao b f).bind λad=>
(
(Bm a ad (Ac a)).bind λae=>
some (g,ae,m,o,p,u,v,b,(Ad f 1),ah,h,k,0)))))
def By:=Bz
def He(g af:LB)(aa w ab ac y:Int)(b:LI)(f:Int)(n:LB)(h:Bool)(k:Int):Oh:=
(Es aa w ab ac y g).bind λaw=>
some (g,af,aa,w,ab,ac,y,b,f,n,h,k,aw)
def Hl:=He
def Bo(j3:LB->LB->Int->Int->Int->Int->Int->LI->Int->LB->Bool->Int->Oh)(j4:LB->LB->Int->Int->Int->Int->Int->LI->Int->LB->Bool->Int->Oh)(g a:LB)(m o p u v:Int)(b:LI)(f:Int)(n:LB)(h:Bool)(k:Int):Oh:=
if(geq m 0)then
(AJ a).bind λ(ag,aa,w,ab,ac,y,ai)=>
if(Be ai 0)then
some (g,a,m,o,p,u,v,b,f,n,h,k,ai)
else
(
(Bm a ag (Ac a)).bind λaf=>
(
j3 g af aa w ab ac y b f n h k))
else
j4 g a m o p u v b f n h k
def Aj:=Bo Hl By
def Yu(o p:LB)(b f g h k:Int)(m:LI)(a:Int)(n:LB)(u:Bool)(v:Int):Option Bool:=
(Aj o p b f g h k m a n u v).bind λ(af,ag,ah,ai,aj,ak,al,am,an,ao,ap,aq,w)=>
some (geq w (-1:Int))
def Cv:=Yu
def Re(j4:LB->LB->Int->Int->Int->Int->Int->LI->Int->LB->Bool->Int->Option Bool)(o p:LB)(b f g h k:Int)(m:LI)(a:Int)(n:LB)(u:Bool)(v:Int):Option Bool:=
if(geq (Ac m) 0)then
if((Be a 0)||(Ex (Ac n) 0))then
some false
else
j4 o p b f g h k m a n u v
else
(Jl m).bind λy=>
if(Be y 0)then
if((true||(Cj a 0))||(Ex a (Ac m)))then
some false
else
(Ze b f g h k a).bind λaa=>
if(Ex (Ac n) aa)then
some false
else
j4 o p b f g h k m a n u v
else
(Hf b f g h k).bind λab=>
if(((Be (Ac m) (Ac ab))||(Cj a 0))||(Ex a (Ac m)))then
some false
else
(Ze b f g h k a).bind λac=>
if(Ex (Ac n) ac)then
some false
else
j4 o p b f g h k m a n u v
def Rh:=Re Cv
def Yj(j4:LB->LB->Int->Int->Int->Int->Int->LI->Int->LB->Bool->Int->Option Bool)(j3:LB->LB->Int->Int->Int->Int->Int->LI->Int->LB->Bool->Int->Option Bool)(o p:LB)(b f g h k:Int)(m:LI)(a:Int)(n:LB)(u:Bool)(v:Int):Option Bool:=
if((geq b 0)&&((geq f 0)&&((geq g 0)&&((geq h 0)&&((geq k 0)&&true)))))then
if(((Ex (Ac m) 0)||(Be a 0))||(Ex (Ac n) 0))then
some false
else
j4 o p b f g h k m a n u v
else
(Mh b f g h k).bind λad=>
if(Be ad 0)then
some false
else
(Es b f g h k o).bind λae=>
if(Be ae 0)then
some false
else
j3 o p b f g h k m a n u v
def Mm:=Yj Cv Rh
def AW(a:Int):Option Bool:=
some (((((((geq a 4)||(geq a 12))||(geq a 16))||(geq a 22))||(geq a 24))||(geq a 26))||(geq a 38))
def Ea(h k:LB)(m n o p u:Int)(v:LI)(f:Int)(g:LB)(b:Bool)(a:Int):Option Int:=
if(Ex (Ac h) 64)then
some 8
else
if((geq a 0)&&(!b))then
(Mm h k m n o p u v f g b a).bind λw=>
if(!w)then
some 8
else
some 0
else
if((geq (Ac k) 0)&&(geq (Ac v) 0))then
if((!(((geq m 0)&&((geq n 0)&&((geq o 0)&&((geq p 0)&&((geq u 0)&&true)))))&&(geq f 0)))||(Ex (Ac g) 12000))then
some 8
else
if(Be a 0)then
if b then
some 8
else
(AW a).bind λy=>
if(!y)then
some 8
else
some 0
else
some 0
else
if((!(false&&(geq f 0)))||(Ex (Ac g) 12000))then
some 8
else
if(Be a 0)then
if b then
some 8
else
(AW a).bind λaa=>
if(!aa)then
some 8
else
some 0
else
some 0
abbrev DD:=Option (LB×LB×Int×Int×Int×Int×Int×LI×Int×LB×Bool×Int)
def SD(f:LB)(g h k m n:Int)(o:LI)(p:Int)(u:Bool)(v:Int)(a b:LB):DD:=
(Et ([]:LI) o).bind λaf=>
some (f,a,g,h,k,m,n,af,p,b,u,v)
def QR:=SD
def QL(j2:LB->Int->Int->Int->Int->Int->LI->Int->Bool->Int->LB->LB->DD)(f w:LB)(g h k m n:Int)(o:LI)(p:Int)(y:LB)(u:Bool)(v:Int):DD:=
(
(
(
(Et ([]:LB) w).bind λa=>
(
(Et ([]:LB) y).bind λb=>
j2 f g h k m n o p u v a b))))
def Za:=QL QR
def Sm(f g:LB)(h k m n o:Int)(p:LI)(u:Int)(v:LB)(b:Bool)(a:Int):Option Int:=
if(Be a 0)then
some a
else
if b then
some 36
else
some 0
def bW(a m:LB)(n o p u v:Int)(w:LI)(y:Int)(b:LB)(aa:Bool)(ab:Int):Option (LB×LB×Int×Int×Int×Int×Int×LI×Int×LB×Bool×Int):=
(
(
(Et ([]:LB) b).bind λf=>
some (a,([]:LB),0,0,0,0,0,([]:LI),0,f,false,0)))
def CB(b f:LB)(g h k m n:Int)(o:LI)(p:Int)(u:LB)(v:Bool)(w a:Int):Option (LB×LB×Int×Int×Int×Int×Int×LI×Int×LB×Bool×Int×Int):=
(bW b f g h k m n o p u v w).bind λ(y,aa,ab,ac,ad,ae,af,ag,ah,ai,aj,ak)=>
some (y,aa,ab,ac,ad,ae,af,ag,ah,ai,aj,a,a)
abbrev Om:=Option (LB×LB×Int×Int×Int×Int×Int×LI×Int×LB×Bool×Int×Int)
def Cp(bk3:LB->LB->Int->Int->Int->Int->Int->LI->Int->LB->Bool->Int->Om)(a b:LB)(f g h k m:Int)(n:LI)(o:Int)(p:LB)(u:Bool)(v:Int):Om:=
(Aj a b f g h k m n o p u v).bind λ(bb,bc,bd,be,bf,bg,bh,bi,bj,bk,bl,bm,w)=>
if(geq w (-1:Int))then
(Za a b f g h k m n o p u v).bind λ(bn,bp,bq,br,bs,bt,bu,bv,bw,bx,bz,da)=>
some (bn,bp,bq,br,bs,bt,bu,bv,bw,bx,bz,da,0)
else
if(Be w 0)then
(CB a b f g h k m n o p u v w).bind λ(db,dc,dd,de,df,dg,dh,di,dj,dk,dl,dm,dn)=>
some (db,dc,dd,de,df,dg,dh,di,dj,dk,dl,dm,dn)
else
bk3 bb bc bd be bf bg bh bi bj bk bl bm
def Bj:Nat->LB->LB->Int->Int->Int->Int->Int->LI->Int->LB->Bool->Int->Om
|0,_,_,_,_,_,_,_,_,_,_,_,_=>none
|q+1,a,b,f,g,h,k,m,n,o,p,u,v=>Cp (Bj q) a b f g h k m n o p u v
def pV:=Bj Ax
def Tg(j3:LB->LB->Int->Int->Int->Int->Int->LI->Int->LB->Bool->Int->Om)(al am:LB)(an ao ap aq ar:Int)(au:LI)(av:Int)(aw:LB)(ax:Bool)(ay:Int)(dp:LB):Om:=
(Ea al am an ao ap aq ar au av aw ax ay).bind λaz=>
if(Be az 0)then
some (([]:LB),([]:LB),0,0,0,0,0,([]:LI),0,([]:LB),false,0,az)
else
(Za al am an ao ap aq ar au av aw ax ay).bind λ(y,aa,ab,ac,ad,ae,af,ag,ah,ai,aj,ak)=>
(Sm y aa ab ac ad ae af ag ah ai aj ak).bind λba=>
if(Be ba 0)then
some (y,aa,ab,ac,ad,ae,af,ag,ah,ai,aj,ak,ba)
else
(Et aa dp).bind λdq=>
j3 y dq ab ac ad ae af ag ah ai aj ak
def Kc:=Tg pV
abbrev If:=Option (Int×Int)
def AG(a:LB)(f g:Int)(b h:LB)(k:Int):If:=
if(Cj (Ac a) k)then
some (0,24)
else
if(b==h)then
(Bm a (Ap (Ac a) k) (Ad (Ap (Ac a) k) 32)).bind λo=>
(Zl f g).bind λp=>
if(o !=p)then
some (0,12)
else
some (k,0)
else
some (k,0)
def BB:=AG
def AB(j6:LB->Int->Int->LB->LB->Int->If)(a:LB)(f g:Int)(b h:LB):If:=
if(b==h)then
j6 a f g b h (Ad (Ad 32 f) 32)
else
j6 a f g b h (Ad 32 f)
def AZ:=AB BB
def PZ(j5:LB->Int->Int->LB->LB->If)(a:LB):If:=
(Bm a (Ap (Ac a) 32) (Ac a)).bind λb=>
(Yv b).bind λ(f,g,n)=>
if(!n)then
some (0,12)
else
(Ns f g true).bind λh=>
(
if(!(b==h))then
(Ns f g false).bind λm=>
if(b !=m)then
some (0,12)
else
j5 a f g b h
else
j5 a f g b h)
def QB:=PZ AZ
def SB(j4:LB->If)(a:LB):If:=
if(Cj (Ac a) 32)then
some (0,6)
else
(Bm a (Ap (Ac a) 32) (Ad (Ap (Ac a) 32) 8)).bind λu=>
if(u !=([65,80,69,84,65,71,69,88]:LB))then
some (0,6)
else
j4 a
def KK:=SB QB
abbrev Gs:=Option (Int×Int)
def iA(a:Int):Gs:=
some (a,0)
def jN:=iA
def HI(j6:Int->Gs)(Sj:LB->Int->Gs)(b:LB)(a:Int):Gs:=
if(Ex (Ac b) 0)then
(KK b).bind λ(g,h)=>
if(Be h 0)then
some (0,38)
else
(Bm b 0 (Ap (Ac b) g)).bind λk=>
Sj k (Ad a 1)
else
j6 a
def Pj:Nat->LB->Int->Gs
|0,_,_=>none
|q+1,b,a=>HI jN (Pj q) b a
def iG:=Pj Ax
def KH(j4:LB->Int->Gs)(f:LB):Gs:=
if(Ex (Ac f) 4000)then
some (0,38)
else
j4 f 0
def Ug:=KH iG
def Cz(p a:LB)(g u v w y:Int)(b:LI)(h:Int)(aa:LB)(ab:Bool)(ac:Int):Option Int:=
if(geq g 0)then
(Jo a).bind λ(k,f)=>
if(Be f 0)then
some f
else
(Bm a k (Ac a)).bind λm=>
(Kn m).bind λ(ad,ae,af,ag,ah,n)=>
some n
else
if((geq (Ac b) 0)||(Cj h (Ac b)))then
some 24
else
(Ug a).bind λ(ai,o)=>
if(Be o 0)then
some 38
else
some 0
abbrev Lw:=Option (Int×Int×Int×Int×Int×Int×LI×Int)
def HA(m n b h k f g:Int)(o:LI):Lw:=
if(Be n 0)then
some (0,0,0,0,0,0,([]:LI),n)
else
some (b,h,k,f,g,(Ad (Ad m (Br 4 (Ac o))) 4),o,0)
def IA:=HA
def HP(j4:Int->Int->Int->Int->Int->Int->Int->LI->Lw)(a:LB)(b h k f g m:Int):Lw:=
(Bm a m (Ac a)).bind λy=>
(Fu f g).bind λaa=>
(Ta y (Ac aa)).bind λ(o,n)=>
j4 m n b h k f g o
def Pd:=HP IA
def Ox(j3:LB->Int->Int->Int->Int->Int->Int->Lw)(a u:LB):Lw:=
if(Ex (Ac a) 100000)then
some (0,0,0,0,0,0,([]:LI),4)
else
(Jo a).bind λ(p,v)=>
if(Be v 0)then
some (0,0,0,0,0,0,([]:LI),v)
else
(Bm a p (Ac a)).bind λab=>
(Kn ab).bind λ(b,h,k,f,g,w)=>
if(Be w 0)then
some (0,0,0,0,0,0,([]:LI),w)
else
if((u==([]:LB)) !=(geq b 1))then
some (0,0,0,0,0,0,([]:LI),26)
else
if(geq b 2)then
if(Cj (Ap (Ac a) (Ad p 22)) 8)then
some (0,0,0,0,0,0,([]:LI),24)
else
(Bm a (Ad p 22) (Ad (Ad p 22) 8)).bind λac=>
(Nf u).bind λad=>
if(ac !=ad)then
some (0,0,0,0,0,0,([]:LI),26)
else
j3 a b h k f g (Ad (Ad p 22) 8)
else
j3 a b h k f g (Ad p 22)
def Cl:=Ox Pd
def mJ(a:Int):Option Int:=
some a
def mS:=mJ
def Yn(j6:Int->Option Int)(Sj:Int->Int->Option Int)(b h k m n o f:Int)(g:LI)(a p:Int):Option Int:=
if(Cj p b)then
(Ao g p).bind λu=>
Sj (Ad a u) (Ad p 1)
else
j6 a
def Lp(b h k m n o f:Int)(g:LI):Nat->Int->Int->Option Int
|0,_,_=>none
|q+1,a,p=>Yn mS (Lp b h k m n o f g q) b h k m n o f g a p
def mF b h k m n o f g:=Lp b h k m n o f g Ax
def mW(j4:Int->Int->Int->Int->Int->Int->Int->LI->Int->Int->Option Int)(h k m n o f:Int)(g:LI)(b:Int):Option Int:=
j4 b h k m n o f g f 0
def aA:=mW mF
abbrev FD:=Option (LB×Int)
def CV(p:LX)(m n g b h k o:Int)(a:LI):FD:=
if(Be m 0)then
some (([]:LB),m)
else
(Wl b p).bind λ(af,ai)=>
some (af,0)
def CU:=CV
def CF(j2:LX->Int->Int->Int->Int->Int->Int->Int->LI->FD)(v y:LB)(n g b h k o:Int)(a:LI)(f:Int):FD:=
(aA n g b h k o a f).bind λu=>
(Ao a f).bind λaa=>
if(Cj (Ap (Ac v) u) aa)then
some (([]:LB),24)
else
(Nr y).bind λ(ab,ag)=>
(Ao a f).bind λac=>
(Bm v u (Ad u ac)).bind λad=>
(
(Fu h k).bind λw=>
(Ao w f).bind λ_=>
(Ao w f).bind λae=>
(Cm g b ab ae ad).bind λ(p,m)=>
j2 p m n g b h k o a)
def Mi:=CF CU
def XJ(a:LB):Option (Int×Int×Int×Int×Int×Int×Int):=
if(Ex (Ac a) 100000)then
some (0,0,0,0,0,0,4)
else
(Jo a).bind λ(b,f)=>
if(Be f 0)then
some (0,0,0,0,0,0,f)
else
(Bm a b (Ac a)).bind λg=>
(Kn g).bind λ(h,k,m,n,o,p)=>
some (b,h,k,m,n,o,p)
def UW(f:LB)(a g m n o p:Int)(b:LB):Option (Int×Int):=
if((b==([]:LB)) !=(geq g 1))then
some (0,26)
else
if(b==([]:LB))then
some (a,0)
else
if(Cj (Ac f) (Ad a 8))then
some (0,24)
else
(Bm f a (Ad a 8)).bind λh=>
(Nf b).bind λk=>
if(h !=k)then
some (0,26)
else
some ((Ad a 8),0)
def EW(a:LB)(b o p u f g:Int):Option (LI×Int):=
(Bm a b (Ac a)).bind λh=>
(Fu f g).bind λk=>
(Ta h (Ac k)).bind λ(m,n)=>
some (m,n)
abbrev Fb:=Option (Int×Int×Int×LX×Int)
def MV(a:LB)(n b f g:Int)(v:LX):Fb:=
(Bm a n (Ac a)).bind λaf=>
(Ug af).bind λ(ao,ag)=>
if(Be ag 0)then
some (0,0,0,([]:LX),38)
else
some (b,f,g,v,0)
def MS:=MV
def MZ(bk7:Int->Int->LX->Fb)(a:LB)(o b f g k:Int)(h p:LI)(u:LX)(n m:Int)(y:LX)(w:Int)(v:LX):Fb:=
if(Be w 0)then
some (0,0,0,([]:LX),w)
else
(Et v y).bind λah=>
(Ao h m).bind λ_=>
(Ao h m).bind λai=>
bk7 (Ad n ai) (Ad m 1) ah
def MO bk7:=MZ bk7
def AP(j10:Int->Int->LX->Int->LX->Fb)(j12:LB->Int->Int->Int->Int->LX->Fb)(a:LB)(o b f g k:Int)(h p:LI)(u:LX)(n m:Int)(v:LX):Fb:=
if(Cj m (Ac h))then
(Ao h m).bind λ_=>
(Ao h m).bind λaj=>
if(Cj (Ap (Ac a) n) aj)then
some (0,0,0,([]:LX),24)
else
(Ao p m).bind λ_=>
(Ao h m).bind λ_=>
(Ao p m).bind λak=>
(Ao h m).bind λal=>
(Bm a n (Ad n al)).bind λam=>
(Cm b f u ak am).bind λ(y,w)=>
j10 n m y w v
else
j12 a n b f g v
def Nd(a:LB)(o b f g k:Int)(h p:LI)(u:LX):Nat->Int->Int->LX->Fb
|0,_,_,_=>none
|q+1,n,m,v=>AP (MO (Nd a o b f g k h p u q) a o b f g k h p u) MS a o b f g k h p u n m v
def RP a o b f g k h p u:=Nd a o b f g k h p u Ax
def QQ(j7:LB->Int->Int->Int->Int->Int->LI->LI->LX->Int->Int->LX->Fb)(a aa:LB):Fb:=
if(Ex (Ac aa) 64)then
some (0,0,0,([]:LX),2)
else
(XJ a).bind λ(an,o,b,f,g,k,ab)=>
if(Be ab 0)then
some (0,0,0,([]:LX),ab)
else
(UW a (Ad an 22) o b f g k aa).bind λ(ac,ad)=>
if(Be ad 0)then
some (0,0,0,([]:LX),ad)
else
(EW a ac o b f g k).bind λ(h,ae)=>
if(Be ae 0)then
some (0,0,0,([]:LX),ae)
else
(Fu g k).bind λp=>
(Nr aa).bind λ(u,ap)=>
j7 a o b f g k h p u (Ad ac (Ad (Br 4 (Ac h)) 4)) 0 ([]:LX)
def Km:=QQ RP
def Ww(a f:LB):Option UInt8:=
if(Ex (Ac a) 100000)then
some 0
else
(Jo a).bind λ(b,h)=>
if(Be h 0)then
some 1
else
(Bm a b (Ac a)).bind λk=>
(Kn k).bind λ(g,p,u,v,w,m)=>
if(Be m 0)then
some 2
else
if((f==([]:LB)) !=(geq g 1))then
some 3
else
if(geq g 2)then
(Bm a 0 (Fj (Ac a) (Ad (Ad b 22) 8))).bind λn=>
(Cl n f).bind λ(y,aa,ab,ac,ad,ae,af,o)=>
if((Be o 24)||(Cj (Ac a) (Ad (Ad b 22) 8)))then
some 3
else
some 4
else
some 4
end Go.Pl
