/- A part of a proof (see the text that ends in Proof). No conditions. -/
import Derived.Test.YtnckeeijjkphaaaGreatDoorVcBA
set_option linter.unusedVariables false
namespace Go.Pl
open Go Go.Lv
abbrev LB:=List UInt8
abbrev LI:=List Int
abbrev LX:=List Int32
abbrev LU:=List UInt32
abbrev LQ:=List UInt64
def JV:Option (Int×Int×Int×LX):=
some (2,16,4,([(1:Int32),(2:Int32),(3:Int32),(-4:Int32),(5:Int32),(600:Int32),(-700:Int32),(8:Int32),(9:Int32),(-10:Int32)]:LX))
def GF(a b f:Int)(g:LX):Option (Int×Int):=
some (a,b)
abbrev VI:=Option (Int32×Int32×Int)
def fF(a:Int)(b:Bool):VI:=
if b then
(Ik (Ll (Ah a 1) 0)).bind λ_=>
some ((oU (Cw (1:Int32) (GI.toZ (Ah a 1)).toNat)),(Ah (Cw (1:Int32) (GI.toZ (Ah a 1)).toNat) 1),0)
else
some (0,0,2)
def RU:=fF
def QI(j2:Int->Bool->VI)(a:Int):VI:=
if(geq a 8)then
j2 a (geq a 8)
else
if(geq a 16)then
j2 a (geq a 16)
else
j2 a (geq a 24)
def Qm:=QI RU
def Fp(a b:Int):Option Int:=
(Qm b).bind λ(g,h,f)=>
if(((Bm f 0)||(Cc a 1))||(Eu a 6))then
some 2
else
some 0
def Qp(a:Int):Option (Int×Int):=
if((Cc a 1)||(Eu a 1048576))then
some (0,2)
else
some ((lC 1 (Bz (Bd 256 a) 245)),0)
def Hg(g b:Int):Option (Int×Int):=
(Qp g).bind λ(a,f)=>
if(Bm f 0)then
some (0,f)
else
if((Cc b 1)||(Eu b 4000))then
some (0,2)
else
(Ik (Bm a 0)).bind λ_=>
if(Eu (Bz (Ah (Ae b a) 1) a) 1000)then
some (0,4)
else
some ((Bz (Ah (Ae b a) 1) a),0)
def GC(a g f:Int)(h:LX)(b:Int):Option Int:=
(GF a g f h).bind λ(k,m)=>
(Fp k m).bind λn=>
if((Bm n 0)||(Cc b 1))then
some 8
else
(Ik (Bm a 0)).bind λ_=>
if(Eu b (Bz 4000 a))then
some 8
else
(Hg f b).bind λ(p,o)=>
if(Bm o 0)then
some 8
else
some 0
def G1:Option Int:=
some 0
def gX:=G1
def BE(j6:Option Int)(Qh:Int->Option Int)(b f:Int32)(a:LX)(g:Int):Option Int:=
if(Cc g (Ac a))then
(Aj a g).bind λh=>
if((Cc h b)||(Eu h f))then
some 16
else
Qh (Ae g 1)
else
j6
def Ph(b f:Int32)(a:LX):Nat->Int->Option Int
|0,_=>none
|q+1,g=>BE gX (Ph b f a q) b f a g
def eG b f a:=Ph b f a Ar
def QV(j4:Int32->Int32->LX->Int->Option Int)(m:Int)(a:LX):Option Int:=
(Qm m).bind λ(b,f,k)=>
if(Bm k 0)then
some k
else
if(Eu (Ac a) 4000)then
some 4
else
j4 b f a 0
def Un:=QV eG
def Df(a f h:Int)(b:LX):Option Int:=
if(Cc a 1)then
some 8
else
(Ik (Bm a 0)).bind λ_=>
if(Bm (Gc (Ac b) a) 0)then
some 8
else
(Ik (Bm a 0)).bind λ_=>
(GC a f h b (Bz (Ac b) a)).bind λg=>
if(Bm g 0)then
some g
else
(Un f b).bind λk=>
if(Bm k 0)then
some 8
else
some 0
abbrev VN:=Option (Int×Int×Int×Int×Int×Int)
def gD(h:LB)(a b f:Int)(g:LX):VN:=
if(h !=([]:LB))then
some (2,a,b,f,(Bz (Ac g) a),0)
else
some (1,a,b,f,(Bz (Ac g) a),0)
def QD:=gD
def AU(j2:LB->Int->Int->Int->LX->VN)(a b f:Int)(g:LX)(h:LB):VN:=
(Df a b f g).bind λk=>
if(Bm k 0)then
some (0,0,0,0,0,k)
else
if(Eu (Ac h) 64)then
some (0,0,0,0,0,2)
else
(Ik (Bm a 0)).bind λ_=>
(
j2 h a b f g)
def TM:=AU QD
abbrev Bs:=Option (UInt64×Int)
def gI(h:UInt64):Bs:=
some (h,0)
def QH:=gI
def OP(j30:UInt64->Bs)(h b:UInt64)(a:LB)(f:LQ):Bs:=
j30 h
def QU:=OP QH
def CJ(j29:UInt64->UInt64->LB->LQ->Bs)(MF:UInt64->Int->Bs)(a:LB)(b:UInt64)(f:LQ)(h:UInt64)(m:Int):Bs:=
if(Cc m (Ac a))then
(Aj a m).bind λp=>
Option.bind (Aj f (GI.toZ (Rk (Ad (Bt h (GI.toZ (56:UInt64)).toNat):UInt8) p))) λ_=>
Option.bind (Aj f (GI.toZ (Rk (Ad (Bt h (GI.toZ (56:UInt64)).toNat):UInt8) p))) λu=>
MF (Rk (Cw h (GI.toZ (8:UInt64)).toNat) u) (Ae m 1)
else
j29 h b a f
def Po(a:LB)(b:UInt64)(f:LQ):Nat->UInt64->Int->Bs
|0,_,_=>none
|q+1,h,m=>CJ QU (Po a b f q) a b f h m
def OZ a b f:=Po a b f Ar
def OL(j27:LB->UInt64->LQ->UInt64->Int->Bs)(b:UInt64)(a:LB)(f:LQ):Bs:=
j27 a b f b 0
def CZ:=OL OZ
def eC(Lk:Int->LQ->Bs)(b:UInt64)(a:LB)(g:Int)(o:LQ):Bs:=
Lk (Ae g 1) o
def PG Lk:=eC Lk
def OV(j24:Int->LQ->Bs)(b:UInt64)(a:LB)(g:Int)(k:UInt64)(f:LQ):Bs:=
(Aj f g).bind λ_=>
(Je f g k).bind λo=>
j24 g o
def BQ Lk b a:=OV (PG Lk b a) b a
def AX(j23:Int->UInt64->LQ->Bs)(Ad6:UInt64->Int->Bs)(b:UInt64)(a:LB)(g:Int)(f:LQ)(k:UInt64)(n:Int):Bs:=
if(Cc n 8)then
Ad6 (Rk (Cw k (GI.toZ (1:UInt64)).toNat) (Bd 4823603603198064275 (Bt k (GI.toZ (63:UInt64)).toNat))) (Ae n 1)
else
j23 g k f
def Pz(Lk:Int->LQ->Bs)(b:UInt64)(a:LB)(g:Int)(f:LQ):Nat->UInt64->Int->Bs
|0,_,_=>none
|q+1,k,n=>AX (BQ Lk b a) (Pz Lk b a g f q) b a g f k n
def RV Lk b a g f:=Pz Lk b a g f Ar
def CQ(j21:Int->LQ->UInt64->Int->Bs)(j26:UInt64->LB->LQ->Bs)(b:UInt64)(a:LB)(g:Int)(f:LQ):Bs:=
if(Cc g 256)then
j21 g f (Cw (Ad g:UInt64) (GI.toZ (56:UInt64)).toNat) 0
else
j26 b a f
def Mf(b:UInt64)(a:LB):Nat->Int->LQ->Bs
|0,_,_=>none
|q+1,g,f=>CQ (RV (Mf b a q) b a) CZ b a g f
def PY b a:=Mf b a Ar
def VJ(j16:UInt64->LB->Int->LQ->Bs)(b:UInt64)(a:LB):Bs:=
if(Eu (Ac a) 100000)then
some (0,4)
else
j16 b a 0 (List.replicate 256 (0:UInt64))
def aP:=VJ PY
def WY(a:LB):Option (UInt64×Int):=
(aP 0 a).bind λ(b,f)=>
some (b,f)
def Ad1(a:LX):Option (LX):=
some a
def yG:=Ad1
def bS(j6:LX->Option (LX))(Qh:Int->LX->Option (LX))(f:UInt64)(b:Int)(a:LX):Option (LX):=
if(Cc b 8)then
(Ik (Ll (Bd 8 b) 0)).bind λ_=>
(Aj a b).bind λ_=>
(Je a b (Ad (Ad (Bt f (GI.toZ (Bd 8 b)).toNat):Int8):Int32)).bind λg=>
Qh (Ae b 1) g
else
j6 a
def HB(f:UInt64):Nat->Int->LX->Option (LX)
|0,_,_=>none
|q+1,b,a=>bS yG (HB f q) f b a
def I0 f:=HB f Ar
def D9(j4:UInt64->Int->LX->Option (LX))(f:UInt64):Option (LX):=
j4 f 0 (List.replicate 16 (0:Int32))
def S7:=D9 I0
def HI(a:LB):Option (LX×Int):=
if(Eu (Ac a) 64)then
some (([(0:Int32),(0:Int32),(0:Int32),(0:Int32),(0:Int32),(0:Int32),(0:Int32),(0:Int32),(0:Int32),(0:Int32),(0:Int32),(0:Int32),(0:Int32),(0:Int32),(0:Int32),(0:Int32)]:LX),2)
else
(WY a).bind λ(f,b)=>
if(Bm b 0)then
some (([(0:Int32),(0:Int32),(0:Int32),(0:Int32),(0:Int32),(0:Int32),(0:Int32),(0:Int32),(0:Int32),(0:Int32),(0:Int32),(0:Int32),(0:Int32),(0:Int32),(0:Int32),(0:Int32)]:LX),b)
else
(S7 f).bind λg=>
some (g,0)
def LR(a b:UInt64):Option (UInt64×UInt64):=
some ((Ae (Ae (Bd (Bt a (GI.toZ (32:UInt64)).toNat) (Bt b (GI.toZ (32:UInt64)).toNat)) (Bt (Ae (Bd (Bt a (GI.toZ (32:UInt64)).toNat) (Di b 4294967295)) (Bt (Bd (Di a 4294967295) (Di b 4294967295)) (GI.toZ (32:UInt64)).toNat)) (GI.toZ (32:UInt64)).toNat)) (Bt (Ae (Di (Ae (Bd (Bt a (GI.toZ (32:UInt64)).toNat) (Di b 4294967295)) (Bt (Bd (Di a 4294967295) (Di b 4294967295)) (GI.toZ (32:UInt64)).toNat)) 4294967295) (Bd (Di a 4294967295) (Bt b (GI.toZ (32:UInt64)).toNat))) (GI.toZ (32:UInt64)).toNat)),(Bd a b))
def IA(a b:UInt64):Option (UInt64×UInt64):=
(LR a b).bind λ(f,g)=>
some (f,g)
def Mv(a:LI):Option (LI):=
some a
def Ie:=Mv
def Gj(j10:LI->Option (LI))(bk8:Int->LI->Option (LI))(b:Int)(a:LI):Option (LI):=
if(Cc b (Ac a))then
(
(cG (Ac a) b (Ac a)).bind λ_=>
(cG (Ac a) 0 b).bind λ_=>
bk8 (Ae b (RA ((Ac a)-b) (SL a 0 (b-(0:Int))).length)) (Sr a b ((Ac a)-b) (SL a 0 (b-(0:Int)))))
else
j10 a
def Eh:Nat->Int->LI->Option (LI)
|0,_,_=>none
|q+1,b,a=>Gj Ie (Eh q) b a
def Oe:=Eh Ar
def Og(j8:Int->LI->Option (LI))(f:LI)(g:UInt64):Option (LI):=
(mkI (Ad g:Int) (0:Int)).bind λk=>
(Ik (geq (Ad g:Int) (Ad g:Int))).bind λ_=>
j8 (RA (Ac k) f.length) (G8 k f)
def Nz:=Og Oe
def Nw(j7:LI->UInt64->Option (LI))(f:LI)(h:Int):Option (LI):=
(IA (Ad (Ac f):UInt64) (Ad h:UInt64)).bind λ(m,g)=>
if((Eu m 0)||(Eu g 9223372036854775807))then
none
else
j7 f g
def Oh:=Nw Nz
def Od(j6:LI->Int->Option (LI))(f:LI)(h:Int):Option (LI):=
if(Cc h 0)then
none
else
j6 f h
def Mp:=Od Oh
def SK(f:LI):Option (LI):=
some f
def Wd:=SK
def Fy(j16:LI->Option (LI))(Aut:Int->LI->Option (LI))(a:List LI)(g:Int)(f:LI):Option (LI):=
if(Cc g (Ac a))then
(Aj a g).bind λo=>
(Db f o).bind λp=>
Aut (Ae g 1) p
else
j16 f
def Dv(a:List LI):Nat->Int->LI->Option (LI)
|0,_,_=>none
|q+1,g,f=>Fy Wd (Dv a q) a g f
def Na a:=Dv a Ar
def Mw(j14:(List LI)->Int->LI->Option (LI))(a:List LI)(k:LI):Option (LI):=
j14 a 0 k
def Ih:=Mw Na
def Mx(j13:(List LI)->LI->Option (LI))(b:Int)(a:List LI):Option (LI):=
if(Eu (Ah b (Ah (0:Int) (0:Int))) 0)then
(cG 0 0 0).bind λ_=>
(mkI (Ah b (Ah (0:Int) (0:Int))) (0:Int)).bind λu=>
(Db ([]:LI) u).bind λm=>
(cG (Ac m) 0 0).bind λ_=>
j13 a (SL m 0 ((0:Int)-(0:Int)))
else
j13 a ([]:LI)
def Mz:=Mx Ih
def Nb(j12:Int-> (List LI)->Option (LI))(a:List LI)(b:Int):Option (LI):=
if(Cc b 0)then
none
else
j12 b a
def Mt:=Nb Mz
def Gh(j11:(List LI)->Int->Option (LI))(bk9:Int->Int->Option (LI))(a:List LI)(b h:Int):Option (LI):=
if(Cc h (Ac a))then
(Aj a h).bind λn=>
if(Cc (Ae b (Ac n)) 0)then
none
else
bk9 (Ae b (Ac n)) (Ae h 1)
else
j11 a b
def Eg(a:List LI):Nat->Int->Int->Option (LI)
|0,_,_=>none
|q+1,b,h=>Gh Mt (Eg a q) a b h
def Nx a:=Eg a Ar
def Oa(j9:(List LI)->Int->Int->Option (LI))(a:List LI):Option (LI):=
j9 a 0 0
def Ml:=Oa Nx
def QF(a b:LI):Option (LI):=
(Ml ([a,b]:List LI)).bind λf=>
some f
def Uj(a b:Int):Option (LI×Int):=
(Hg a b).bind λ(f,g)=>
if(Bm g 0)then
some (([]:LI),g)
else
(Qp a).bind λ(h,n)=>
(Mp ([h]:LI) (Ah f 1)).bind λk=>
(QF k ([(Ah b (Bd (Ah f 1) h))]:LI)).bind λm=>
some (m,0)
def HN(a f:Int)(b:LX):Option Int:=
(Fp a f).bind λg=>
if(Bm g 0)then
some g
else
(Un f b).bind λh=>
if(Bm h 0)then
some h
else
if(geq (Ac b) 0)then
some 2
else
(Ik (Bm a 0)).bind λ_=>
if(Bm (Gc (Ac b) a) 0)then
some 2
else
some 0
def XH(a:Int)(b:LX):Option Int:=
if((Cc a 1)||(Eu a 6))then
some 2
else
if(Eu (Ac b) 4000)then
some 4
else
(Ik (Bm a 0)).bind λ_=>
if(Bm (Gc (Ac b) a) 0)then
some 2
else
some 0
def Dd(a:LX):Option (LX):=
(
(Db ([]:LX) a).bind λb=>
some b)
abbrev Hw:=Option (LX×Int)
def zk(f:LX):Hw:=
some (f,0)
def tY:=zk
def eP(VV:Int->LX->Hw)(b a:Int)(k:LX):Hw:=
VV (Ae a b) k
def TN VV:=eP VV
def jF(j20:Int->LX->Hw)(b a:Int)(g:LX):Hw:=
if(Eu (Ah ((Ae a b)-a) 1) 0)then
(Ik (decide (0<= (Ah ((Ae a b)-a) 1)/\ (Ah ((Ae a b)-a) 1)<((Ae a b)-a)))).bind λ_=>
Option.bind (Ik (decide (0<= (Ah (Ah ((Ae a b)-a) 1) 1)/\ (Ah (Ah ((Ae a b)-a) 1) 1)<((Ae a b)-a)))) λ_=>
(Aj g (a+(Ah ((Ae a b)-a) 1))).bind λm=>
(Aj g (a+(Ah (Ah ((Ae a b)-a) 1) 1))).bind λn=>
(Ik (decide (0<= (Ah ((Ae a b)-a) 1)/\ (Ah ((Ae a b)-a) 1)<((Ae a b)-a)))).bind λ_=>
(Je g (a+(Ah ((Ae a b)-a) 1)) (Ah m (Bz n 2))).bind λo=>
j20 a o
else
j20 a g
def eB VV b:=jF (TN VV b) b
def SO(j19:Int->LX->Hw)(Auv:Int->LX->Hw)(b a h:Int)(g:LX):Hw:=
if(Cc h (Ah ((Ae a b)-a) 1))then
(Ik (decide (0<= (Ae h 1)/\ (Ae h 1)<((Ae a b)-a)))).bind λ_=>
(Ik (decide (0<=h/\h<((Ae a b)-a)))).bind λ_=>
(Aj g (a+(Ae h 1))).bind λm=>
(Aj g (a+h)).bind λn=>
(Ik (decide (0<=h/\h<((Ae a b)-a)))).bind λ_=>
(Je g (a+h) (Ah m n)).bind λo=>
Auv (Ae h 1) o
else
j19 a g
def AJ(VV:Int->LX->Hw)(b a:Int):Nat->Int->LX->Hw
|0,_,_=>none
|q+1,h,g=>SO (eB VV b) (AJ VV b a q) b a h g
def uJ VV b a:=AJ VV b a Ar
def eN(j17:Int->Int->LX->Hw)(j22:LX->Hw)(b a:Int)(f:LX):Hw:=
if(Cc a (Ac f))then
(cG (Ac f) a (Ae a b)).bind λ_=>
j17 a 0 f
else
j22 f
def AM(b:Int):Nat->Int->LX->Hw
|0,_,_=>none
|q+1,a,f=>eN (uJ (AM b q) b) tY b a f
def eH b:=AM b Ar
def nG(j12:Int->Int->LX->Hw)(b:Int)(p:LX):Hw:=
(XH b p).bind λu=>
if(Bm u 0)then
some (([]:LX),u)
else
(Dd p).bind λv=>
j12 b 0 v
def wO:=nG eH
abbrev mY:=Option (Int×LX×LX×Int)
def Abf(a:Int)(b:LX)(f:Bool):mY:=
if f then
some (10,b,(List.replicate 16 (0:Int32)),0)
else
if(geq a 16)then
some (9,b,(List.replicate 16 (0:Int32)),0)
else
some (0,(List.replicate 16 (0:Int32)),(List.replicate 16 (0:Int32)),2)
def uR:=Abf
def vC(j2:Int->LX->Bool->mY)(a:Int)(b:LX):mY:=
if(geq a 8)then
j2 a b (geq a 8)
else
j2 a b (geq a 24)
def qH:=vC uR
def tR(a:Int)(f:LX):Option (Int×Int32×Int×LX×LX×Int):=
(qH a f).bind λ(g,h,k,b)=>
if(Bm b 0)then
some (0,0,0,(List.replicate 16 (0:Int32)),(List.replicate 16 (0:Int32)),b)
else
some (a,0,g,h,k,0)
def Um(a:Int)(k:Int32)(b:Int)(f m:LX):Option Int:=
(qH a f).bind λ(g,n,o,h)=>
if((Bm h 0)||(Bm g b))then
some 8
else
some 0
def gB(a:Int):Option (Int×Int):=
if(geq a 8)then
some (4,0)
else
if(geq a 16)then
if(geq a 16)then
some (5,0)
else
some (0,2)
else
if(geq a 24)then
some (5,0)
else
some (0,2)
def SR(a:Int)(b:Int32):Option Int32:=
(Ik (Ll a 0)).bind λ_=>
(Ik (Ll a 0)).bind λ_=>
some (Ad (Y4 (Ah (Cw (Ad b:Int) (GI.toZ a).toNat) (Ad b:Int)) (GI.toZ a).toNat):Int32)
def Uo(b:Int)(f:Int32):Option (Int32×Int):=
(gB b).bind λ(g,a)=>
if(Bm a 0)then
some (0,a)
else
(SR g f).bind λh=>
some (h,0)
def GX(a:Int)(b f:LX):Option Int:=
if((Bm a 9)&&(Bm a 10))then
some 8
else
some 0
abbrev Ri:=Option (Int32×Int)
def mI(g:Int32)(a:Int)(b f:LX):Ri:=
(Ik (Ll a 0)).bind λ_=>
some ((Bt g (GI.toZ a).toNat),0)
def UR:=mI
def HQ(j6:Int32->Int->LX->LX->Ri)(Qh:Int32->Int->Ri)(b:LX)(a:Int)(f:LX)(g:Int32)(h:Int):Ri:=
if(Cc h 16)then
(Aj b h).bind λm=>
(Aj f h).bind λ_=>
(Aj f h).bind λn=>
Qh (Ae g (Bd m n)) (Ae h 1)
else
j6 g a b f
def Sk(b:LX)(a:Int)(f:LX):Nat->Int32->Int->Ri
|0,_,_=>none
|q+1,g,h=>HQ UR (Sk b a f q) b a f g h
def VA b a f:=Sk b a f Ar
def UL(j4:LX->Int->LX->Int32->Int->Ri)(a:Int)(b f:LX):Ri:=
(GX a b f).bind λk=>
if(Bm k 0)then
some (0,k)
else
(Ik (Ll (Ah a 1) 0)).bind λ_=>
j4 b a f (Cw (1:Int32) (GI.toZ (Ah a 1)).toNat) 0
def QQ:=UL VA
def WR(a:Int):Option Int32:=
if(geq a 0)then
some 4
else
if(Cc a 4)then
some 2
else
some 1
abbrev Qo:=Option (Int×LX×LX×Int)
def J4(g:Int)(b f:LX):Qo:=
some (g,b,f,0)
def lZ:=J4
def HR(j6:Int->LX->LX->Qo)(Qh:Int->LX->Qo)(h:Int32)(f:LX)(g a:Int)(b:LX):Qo:=
if(Cc a 16)then
(Aj f a).bind λm=>
if(geq m 0)then
Qh (Ae a 1) b
else
if((Cc m 0)==(Cc h 0))then
(Aj b a).bind λ_=>
(Aj b a).bind λo=>
(WR a).bind λp=>
(Aj b a).bind λ_=>
(Je b a (Ae o p)).bind λu=>
Qh (Ae a 1) u
else
(Aj b a).bind λ_=>
(Aj b a).bind λv=>
(WR a).bind λw=>
(Aj b a).bind λ_=>
(Je b a (Ah v w)).bind λy=>
Qh (Ae a 1) y
else
j6 g b f
def Sa(h:Int32)(f:LX)(g:Int):Nat->Int->LX->Qo
|0,_,_=>none
|q+1,a,b=>HR lZ (Sa h f g q) h f g a b
def lV h f g:=Sa h f g Ar
def VG(j4:Int32->LX->Int->Int->LX->Qo)(g:Int)(k f:LX)(h:Int32):Qo:=
(GX g k f).bind λn=>
if(Bm n 0)then
some (0,(List.replicate 16 (0:Int32)),(List.replicate 16 (0:Int32)),n)
else
if(geq h 0)then
some (g,k,f,0)
else
j4 h f g 0 k
def bT:=VG lV
abbrev iQ:=Option (Int×LX×LX×Int)
def oS(g:Int32)(b:Int)(f a:LX):iQ:=
(Aj (Sr a 1 ((16:Int)-(1:Int)) (SL a 0 ((16:Int)-(0:Int)))) 0).bind λ_=>
(Je (Sr a 1 ((16:Int)-(1:Int)) (SL a 0 ((16:Int)-(0:Int)))) 0 g).bind λk=>
some (b,f,k,0)
def aG:=oS
def NO(j2:Int32->Int->LX->LX->iQ)(b:Int)(f a:LX)(g:Int32):iQ:=
(GX b f a).bind λh=>
if(Bm h 0)then
some (0,(List.replicate 16 (0:Int32)),(List.replicate 16 (0:Int32)),h)
else
(
(cG 16 1 16).bind λ_=>
(cG 16 0 16).bind λ_=>
j2 g b f a)
def kQ:=NO aG
def ON(a:Int)(b f:LX)(g h:Int32):Option (Int×LX×LX):=
(bT a b f h).bind λ(k,m,n,v)=>
(kQ k m n g).bind λ(o,p,u,w)=>
some (o,p,u)
def TY(b:Int)(f g:LX)(a:Int32):Option (Int32×Int×LX×LX×Int):=
(QQ b f g).bind λ(h,k)=>
if(Bm k 0)then
some (0,0,(List.replicate 16 (0:Int32)),(List.replicate 16 (0:Int32)),k)
else
(ON b f g a (Ah a h)).bind λ(m,n,o)=>
some ((Ah a h),m,n,o,0)
def Rz(a:Int)(b:Int32)(f:Int)(g h:LX)(k:Int32):Option (Int32×Int×Int32×Int×LX×LX×Int):=
(Um a b f g h).bind λm=>
if(Bm m 0)then
some (0,0,0,0,(List.replicate 16 (0:Int32)),(List.replicate 16 (0:Int32)),m)
else
(Uo a b).bind λ(n,y)=>
(TY f g h (Ah k n)).bind λ(o,p,u,v,w)=>
(
some (o,a,k,p,u,v,w))
def jV(a:Int32):Option UInt32:=
some (Rk (Cw (Ad a:UInt32) (GI.toZ (1:UInt64)).toNat) (Ad (Bt a (GI.toZ (31:UInt64)).toNat):UInt32))
abbrev Cp:=Option (LU×Int)
def nW(k:LU):Cp:=
some (k,0)
def SE:=nW
def Rl(j12:LU->Cp)(Ad7:Int-> (List (Int×Int32×(Int×LX×LX×Unit)×Unit))->LU->Cp)(b:LX)(a f g:Int)(o:List (Int×Int32×(Int×LX×LX×Unit)×Unit))(k:LU):Cp:=
if(Cc g (Ac b))then
(Aj b g).bind λ_=>
(Aj b g).bind λac=>
(Ik (Bm a 0)).bind λ_=>
(Aj o (Gc g a)).bind λ_=>
(Aj o (Gc g a)).bind λp=>
(Rz p.1 p.2.1 p.2.2.1.1 p.2.2.1.2.1 p.2.2.1.2.2.1 ac).bind λ(u,ad,ae,v,af,ag,w)=>
if(Bm w 0)then
some (([]:LU),w)
else
(Je o (Gc g a) (ad,ae,(v,af,ag,()),())).bind λah=>
(jV u).bind λai=>
(Db k ([ai]:LU)).bind λaj=>
Ad7 (Ae g 1) ah aj
else
j12 k
def Jd(b:LX)(a f:Int):Nat->Int-> (List (Int×Int32×(Int×LX×LX×Unit)×Unit))->LU->Cp
|0,_,_,_=>none
|q+1,g,o,k=>Rl SE (Jd b a f q) b a f g o k
def OQ b a f:=Jd b a f Ar
def SN(j10:LX->Int->Int->Int-> (List (Int×Int32×(Int×LX×LX×Unit)×Unit))->LU->Cp)(a f:Int)(b:LX)(h:List (Int×Int32×(Int×LX×LX×Unit)×Unit)):Cp:=
j10 b a f 0 h ([]:LU)
def AW:=SN OQ
def SS(j9:Int->Int->LX-> (List (Int×Int32×(Int×LX×LX×Unit)×Unit))->Cp)(bk7:Int-> (List (Int×Int32×(Int×LX×LX×Unit)×Unit))->Cp)(a f:Int)(m b:LX)(n:Int)(h:List (Int×Int32×(Int×LX×LX×Unit)×Unit)):Cp:=
if(Cc n 6)then
(tR f m).bind λ(ak,al,u,am,an,v)=>
(Aj h n).bind λ_=>
(Je h n (ak,al,(u,am,an,()),())).bind λao=>
bk7 (Ae n 1) ao
else
j9 a f b h
def CR(a f:Int)(m b:LX):Nat->Int-> (List (Int×Int32×(Int×LX×LX×Unit)×Unit))->Cp
|0,_,_=>none
|q+1,n,h=>SS AW (CR a f m b q) a f m b n h
def Ty a f m b:=CR a f m b Ar
def BW(j7:Int->Int->LX->LX->Int-> (List (Int×Int32×(Int×LX×LX×Unit)×Unit))->Cp)(a f:Int)(m y:LX):Cp:=
(HN a f y).bind λaa=>
if(Bm aa 0)then
some (([]:LU),aa)
else
(wO a y).bind λ(b,ab)=>
if(Bm ab 0)then
some (([]:LU),ab)
else
j7 a f m b 0 (List.replicate 6 ((0:Int),(0:Int32),((0:Int),(List.replicate 16 (0:Int32)),(List.replicate 16 (0:Int32)),()),()))
def BU:=BW Ty
def oG:Option (Int×Int×UInt64×UInt64):=
some (10,10,16384,16384)
abbrev Jb:=Option ((List (Int×Int×UInt64×UInt64×Unit)))
def qL(a:List (Int×Int×UInt64×UInt64×Unit)):Jb:=
some a
def TS:=qL
def TU(j6:(List (Int×Int×UInt64×UInt64×Unit))->Jb)(Qh:Int-> (List (Int×Int×UInt64×UInt64×Unit))->Jb)(b:Int)(a:List (Int×Int×UInt64×UInt64×Unit)):Jb:=
if(Cc b 6)then
(oG).bind λ(f,g,h,k)=>
(Aj a b).bind λ_=>
(Je a b (f,g,h,k,())).bind λm=>
Qh (Ae b 1) m
else
j6 a
def AT:Nat->Int-> (List (Int×Int×UInt64×UInt64×Unit))->Jb
|0,_,_=>none
|q+1,b,a=>TU TS (AT q) b a
def DR:=AT Ar
def BO(j4:Int-> (List (Int×Int×UInt64×UInt64×Unit))->Jb):Jb:=
j4 0 (List.replicate 6 ((0:Int),(0:Int),(0:UInt64),(0:UInt64),()))
def DF:=BO DR
def Hr(b:LB)(a:Int):Option Int:=
if(((Cc a 0)||(Eu a 330000))||(Bm (Ac b) (Y4 (Ae a 7) (GI.toZ (3:UInt64)).toNat)))then
some 8
else
if(Eu (Di a 7) 0)then
(Aj b (Ah (Ac b) 1)).bind λf=>
(Ik (Ll (Di a 7) 0)).bind λ_=>
if(Bm (Bt f (GI.toZ (Di a 7)).toNat) 0)then
some 8
else
some 0
else
some 0
def lN(a b:Int)(f g:UInt64):Option Int:=
if(!((geq (Du (lC a 0) 24) a)&&((geq (Du (lC b 0) 24) b)&&((geq (Du f 68719476735) f)&&((geq (Du g 68719476735) g)&&true)))))then
some 8
else
some 0
def UB:=lN
def HM(j4:Int->Int->UInt64->UInt64->Option Int)(a b:Int)(f g:UInt64):Option Int:=
(
(
j4 a b f g))
def VO:=HM UB
def HT(j3:Int->Int->UInt64->UInt64->Option Int)(a b:Int)(f g:UInt64):Option Int:=
(
(
j3 a b f g))
def RI:=HT VO
def HC(a f:Int)(g h:UInt64)(b:UInt32):Option (Int×UInt32):=
(Ik (Ll a 0)).bind λ_=>
if(geq (Bt b (GI.toZ a).toNat) 0)then
some (0,b)
else
(Ik (Ll a 0)).bind λ_=>
some (1,(Ah b (Cw (1:UInt32) (GI.toZ a).toNat)))
def Eb(a:LB):Option (LB):=
(
(Db ([]:LB) a).bind λb=>
some b)
def WX(a:LB)(b:Int):Option (LB×Int):=
(Eb a).bind λf=>
some (f,b)
abbrev Dh:=Option (LB×Int×Int)
def oH(f:Int)(o:LB):Dh:=
some (o,f,0)
def YY:=oH
def qD(Aoc:UInt64->Int->Int->LB->Dh)(b:UInt64)(a:Int)(m:UInt64)(h f:Int)(w:LB):Dh:=
(Ik (Ll (Du h (Ah 8 (Di f 7))) 0)).bind λ_=>
Aoc (Bt m (GI.toZ (Du h (Ah 8 (Di f 7)))).toNat) (Ah h (Du h (Ah 8 (Di f 7)))) (Ae f (Du h (Ah 8 (Di f 7)))) w
def bJ Aoc:=qD Aoc
def aH(j19:UInt64->Int->Int->LB->Dh)(b:UInt64)(a:Int)(m:UInt64)(h f:Int)(u:LB):Dh:=
(Aj u (Ah (Ac u) 1)).bind λ_=>
(Ik (Ll (Du h (Ah 8 (Di f 7))) 0)).bind λ_=>
(Ik (Ll (Di f 7) 0)).bind λ_=>
(Aj u (Ah (Ac u) 1)).bind λad=>
(Aj u (Ah (Ac u) 1)).bind λ_=>
Option.bind (Je u (Ah (Ac u) 1) (sY ad (Cw (Ad (Di m (Ah (Cw (1:UInt64) (GI.toZ (Du h (Ah 8 (Di f 7)))).toNat) 1)):UInt8) (GI.toZ (Di f 7)).toNat))) λw=>
j19 m h f w
def NL Aoc b a:=aH (bJ Aoc b a) b a
def NM(j18:UInt64->Int->Int->LB->Dh)(j21:Int->LB->Dh)(b:UInt64)(a:Int)(m:UInt64)(h f:Int)(o:LB):Dh:=
if(Eu h 0)then
if(geq (Di f 7) 0)then
(Db o ([(0:UInt8)]:LB)).bind λab=>
j18 m h f ab
else
j18 m h f o
else
j21 f o
def Nj(b:UInt64)(a:Int):Nat->UInt64->Int->Int->LB->Dh
|0,_,_,_,_=>none
|q+1,m,h,f,o=>NM (NL (Nj b a q) b a) YY b a m h f o
def rA b a:=Nj b a Ar
def T0(g:Int)(p:LB):Dh:=
some (p,g,0)
def qX:=T0
def X5(Aod:UInt64->Int->Int->LB->Dh)(b:UInt64)(a:Int)(n:UInt64)(k g:Int)(y:LB):Dh:=
(Ik (Ll (Du k (Ah 8 (Di g 7))) 0)).bind λ_=>
Aod (Bt n (GI.toZ (Du k (Ah 8 (Di g 7)))).toNat) (Ah k (Du k (Ah 8 (Di g 7)))) (Ae g (Du k (Ah 8 (Di g 7)))) y
def pG Aod:=X5 Aod
def oV(j26:UInt64->Int->Int->LB->Dh)(b:UInt64)(a:Int)(n:UInt64)(k g:Int)(v:LB):Dh:=
(Aj v (Ah (Ac v) 1)).bind λ_=>
(Ik (Ll (Du k (Ah 8 (Di g 7))) 0)).bind λ_=>
(Ik (Ll (Di g 7) 0)).bind λ_=>
(Aj v (Ah (Ac v) 1)).bind λae=>
(Aj v (Ah (Ac v) 1)).bind λ_=>
Option.bind (Je v (Ah (Ac v) 1) (sY ae (Cw (Ad (Di n (Ah (Cw (1:UInt64) (GI.toZ (Du k (Ah 8 (Di g 7)))).toNat) 1)):UInt8) (GI.toZ (Di g 7)).toNat))) λy=>
j26 n k g y
def qB Aod b a:=oV (pG Aod b a) b a
def oI(j25:UInt64->Int->Int->LB->Dh)(j28:Int->LB->Dh)(b:UInt64)(a:Int)(n:UInt64)(k g:Int)(p:LB):Dh:=
if(Eu k 0)then
if(geq (Di g 7) 0)then
(Db p ([(0:UInt8)]:LB)).bind λw=>
j25 n k g w
else
j25 n k g p
else
j28 g p
def ZQ(b:UInt64)(a:Int):Nat->UInt64->Int->Int->LB->Dh
|0,_,_,_,_=>none
|q+1,n,k,g,p=>oI (qB (ZQ b a q) b a) qX b a n k g p
def pU b a:=ZQ b a Ar
def eU(j15:UInt64->Int->UInt64->Int->Int->LB->Dh)(j22:UInt64->Int->UInt64->Int->Int->LB->Dh)(ac:LB)(aa:Int)(b:UInt64)(a:Int):Dh:=
(Hr ac aa).bind λaf=>
if(Bm af 0)then
some (([]:LB),0,8)
else
if((Cc a 0)||(Eu a 64))then
some (([]:LB),0,2)
else
if(Cc a 64)then
(Ik (Ll a 0)).bind λ_=>
if(Bm (Bt b (GI.toZ a).toNat) 0)then
some (([]:LB),0,16)
else
if(Eu (Ae aa a) 330000)then
some (([]:LB),0,18)
else
(WX ac aa).bind λ(ag,ah)=>
j15 b a b a ah ag
else
if(Eu (Ae aa a) 330000)then
some (([]:LB),0,18)
else
(WX ac aa).bind λ(ab,ai)=>
j22 b a b a ai ab
def QY:=eU rA pU
def Vy(b:UInt32)(a:Int):Option Bool:=
(Ik (Ll a 0)).bind λ_=>
some (Ll (Bt b (GI.toZ a).toNat) 48)
def aU(a:Int):Option (Int×Int):=
if((Cc a 0)||(Eu a 48))then
some (0,2)
else
some ((Du (Ae a 1) 48),0)
def TP(b:LB)(f a:Int):Option (LB×Int×Int):=
(Hr b f).bind λg=>
if(Bm g 0)then
some (([]:LB),0,g)
else
(aU a).bind λ(k,h)=>
if(Bm h 0)then
some (([]:LB),0,h)
else
(Ik (Ll a 0)).bind λ_=>
(QY b f (Ah (Cw (1:UInt64) (GI.toZ a).toNat) 1) k).bind λ(m,n,o)=>
some (m,n,o)
abbrev YR:=Option (LB×Int×Int)
def VQ(b:LB)(f h:Int)(k:UInt32)(m:Int):YR:=
(TP b f h).bind λ(p,u,n)=>
if(Bm n 0)then
some (([]:LB),0,n)
else
(QY p u (Ad k:UInt64) m).bind λ(v,w,y)=>
some (v,w,y)
def HW:=VQ
def UG(j2:LB->Int->Int->UInt32->Int->YR)(b:LB)(f:Int)(g:UInt32)(a:Int):YR:=
(Hr b f).bind λo=>
if(Bm o 0)then
some (([]:LB),0,o)
else
if((Cc a 0)||(Eu a 24))then
some (([]:LB),0,2)
else
(Ik (Ll a 0)).bind λ_=>
(Ik (Ll a 0)).bind λ_=>
(Vy g a).bind λaa=>
if aa then
j2 b f 48 g 32
else
j2 b f (Ad (Bt g (GI.toZ a).toNat):Int) (Di g (Ah (Cw (1:UInt32) (GI.toZ a).toNat) 1)) a
def ZU:=UG HW
abbrev Hs:=Option (LB×Int×Int×Int×UInt64×UInt64×Int)
def EJ(k u n:Int)(a:UInt64)(b:UInt32)(o:UInt64)(m:LB):Hs:=
(
(
some (m,k,u,n,(Ae a (Ah (Ad b:UInt64) (Bt a (GI.toZ (4:UInt64)).toNat))),o,0)))
def RW:=EJ
def VC(j10:Int->Int->Int->UInt64->UInt32->UInt64->LB->Hs)(b:UInt32)(k n:Int)(a o:UInt64)(m:LB)(u:Int):Hs:=
j10 k u n a b o m
def VK:=VC RW
def UH(j9:UInt32->Int->Int->UInt64->UInt64->LB->Int->Hs)(b:UInt32)(f:Int)(a:UInt64)(k:Int)(m:LB)(n:Int)(o:UInt64):Hs:=
if(Eu f 0)then
(Ik (Ll f 0)).bind λ_=>
if(Cc (Ae a (Ah (Ad b:UInt64) (Bt a (GI.toZ (4:UInt64)).toNat))) (Cw (16:UInt64) (GI.toZ f).toNat))then
j9 b k n a o m (Ah f 1)
else
if(Cc f 24)then
(Ik (Ll f 0)).bind λ_=>
if(Eu (Ae a (Ah (Ad b:UInt64) (Bt a (GI.toZ (4:UInt64)).toNat))) (Cw (32:UInt64) (GI.toZ f).toNat))then
j9 b k n a o m (Ae f 1)
else
j9 b k n a o m f
else
j9 b k n a o m f
else
if(Cc f 24)then
(Ik (Ll f 0)).bind λ_=>
if(Eu (Ae a (Ah (Ad b:UInt64) (Bt a (GI.toZ (4:UInt64)).toNat))) (Cw (32:UInt64) (GI.toZ f).toNat))then
j9 b k n a o m (Ae f 1)
else
j9 b k n a o m f
else
j9 b k n a o m f
def Xi:=UH VK
def UD(j8:UInt32->Int->UInt64->Int->LB->Int->UInt64->Hs)(b:UInt32)(f h:Int)(a g:UInt64)(y k:Int)(m:LB):Hs:=
if(Bm y 0)then
some (([]:LB),0,0,0,0,0,y)
else
(HC f h a g b).bind λ(ag,p)=>
if(geq ag 1)then
if(Eu h 0)then
(Ik (Ll h 0)).bind λ_=>
if(Cc (Ae g (Ah (Ad p:UInt64) (Bt g (GI.toZ (4:UInt64)).toNat))) (Cw (16:UInt64) (GI.toZ h).toNat))then
j8 b f a k m (Ah h 1) (Ae g (Ah (Ad p:UInt64) (Bt g (GI.toZ (4:UInt64)).toNat)))
else
if(Cc h 24)then
(Ik (Ll h 0)).bind λ_=>
if(Eu (Ae g (Ah (Ad p:UInt64) (Bt g (GI.toZ (4:UInt64)).toNat))) (Cw (32:UInt64) (GI.toZ h).toNat))then
j8 b f a k m (Ae h 1) (Ae g (Ah (Ad p:UInt64) (Bt g (GI.toZ (4:UInt64)).toNat)))
else
j8 b f a k m h (Ae g (Ah (Ad p:UInt64) (Bt g (GI.toZ (4:UInt64)).toNat)))
else
j8 b f a k m h (Ae g (Ah (Ad p:UInt64) (Bt g (GI.toZ (4:UInt64)).toNat)))
else
if(Cc h 24)then
(Ik (Ll h 0)).bind λ_=>
if(Eu (Ae g (Ah (Ad p:UInt64) (Bt g (GI.toZ (4:UInt64)).toNat))) (Cw (32:UInt64) (GI.toZ h).toNat))then
j8 b f a k m (Ae h 1) (Ae g (Ah (Ad p:UInt64) (Bt g (GI.toZ (4:UInt64)).toNat)))
else
j8 b f a k m h (Ae g (Ah (Ad p:UInt64) (Bt g (GI.toZ (4:UInt64)).toNat)))
else
j8 b f a k m h (Ae g (Ah (Ad p:UInt64) (Bt g (GI.toZ (4:UInt64)).toNat)))
else
j8 b f a k m h g
def HV:=UD Xi
def VM(j7:UInt32->Int->Int->UInt64->UInt64->Int->Int->LB->Hs)(b:UInt32)(v:LB)(w f h:Int)(a g:UInt64):Hs:=
(HC f h a g b).bind λ(ad,ae)=>
(QY v w (Ad ad:UInt64) 1).bind λ(aa,ab,ac)=>
if((geq ac 0)&&(geq ad 0))then
(QY aa ab (Ad ae:UInt64) f).bind λ(ah,ai,aj)=>
j7 b f h a g aj ai ah
else
if(geq ac 0)then
(ZU aa ab ae h).bind λ(ak,al,am)=>
j7 b f h a g am al ak
else
j7 b f h a g ac ab aa
def UK:=VM HV
def VT(j6:UInt32->LB->Int->Int->Int->UInt64->UInt64->Hs)(v:LB)(w f h:Int)(a g:UInt64)(b:UInt32):Hs:=
(Hr v w).bind λan=>
if(Bm an 0)then
some (([]:LB),0,0,0,0,0,8)
else
(RI f h a g).bind λao=>
if(Bm ao 0)then
some (([]:LB),0,0,0,0,0,8)
else
j6 b v w f h a g
def ZI:=VT UK
abbrev Br:=Option (UInt32×Int)
def fM(h:UInt32):Br:=
some (h,0)
def PB:=fM
def DT(j30:UInt32->Br)(Aym:UInt32->Int->Br)(a:LB)(b:LU)(h:UInt32)(m:Int):Br:=
if(Cc m (Ac a))then
(Aj a m).bind λp=>
(Aj b (GI.toZ (Rk (Ad h:UInt8) p))).bind λ_=>
(Aj b (GI.toZ (Rk (Ad h:UInt8) p))).bind λu=>
Aym (Rk (Bt h (GI.toZ (8:UInt64)).toNat) u) (Ae m 1)
else
j30 h
def Ps(a:LB)(b:LU):Nat->UInt32->Int->Br
|0,_,_=>none
|q+1,h,m=>DT PB (Ps a b q) a b h m
def QE a b:=Ps a b Ar
def PQ(j28:LB->LU->UInt32->Int->Br)(f:UInt32)(a:LB)(b:LU):Br:=
j28 a b f 0
def PH:=PQ QE
def PF(j27:UInt32->LB->LU->Br)(f:UInt32)(a:LB)(b:LU):Br:=
j27 f a b
def CO:=PF PH
def eW(Lk:Int->LU->Br)(f:UInt32)(a:LB)(g:Int)(o:LU):Br:=
Lk (Ae g 1) o
def RN Lk:=eW Lk
def QC(j24:Int->LU->Br)(f:UInt32)(a:LB)(g:Int)(k:UInt32)(b:LU):Br:=
(Aj b g).bind λ_=>
(Je b g k).bind λo=>
j24 g o
def CG Lk f a:=QC (RN Lk f a) f a
def BP(j23:Int->UInt32->LU->Br)(Ad6:UInt32->Int->Br)(f:UInt32)(a:LB)(g:Int)(b:LU)(k:UInt32)(n:Int):Br:=
if(Cc n 8)then
Ad6 (Rk (Bt k (GI.toZ (1:UInt64)).toNat) (Bd 3988292384 (Di k 1))) (Ae n 1)
else
j23 g k b
def Pg(Lk:Int->LU->Br)(f:UInt32)(a:LB)(g:Int)(b:LU):Nat->UInt32->Int->Br
|0,_,_=>none
|q+1,k,n=>BP (CG Lk f a) (Pg Lk f a g b q) f a g b k n
def OI Lk f a g b:=Pg Lk f a g b Ar
def DV(j21:Int->LU->UInt32->Int->Br)(j26:UInt32->LB->LU->Br)(f:UInt32)(a:LB)(g:Int)(b:LU):Br:=
if(Cc g 256)then
j21 g b (Ad g:UInt32) 0
else
j26 f a b
def Lr(f:UInt32)(a:LB):Nat->Int->LU->Br
|0,_,_=>none
|q+1,g,b=>DV (OI (Lr f a q) f a) CO f a g b
def OY f a:=Lr f a Ar
def UU(j16:UInt32->LB->Int->LU->Br)(f:UInt32)(a:LB):Br:=
if(Eu (Ac a) 100000)then
some (0,4)
else
j16 f a 0 (List.replicate 256 (0:UInt32))
def bF:=UU OY
def Vo(b:LB):Option (UInt32×Int):=
(bF 4294967295 b).bind λ(f,a)=>
if(Bm a 0)then
some (0,a)
else
some ((C4 f),0)
def wM(b:UInt64)(a:Int):Option Bool:=
if(geq a 8)then
some true
else
(Ik (Ll (Bd 8 a) 0)).bind λ_=>
some (geq (Bt b (GI.toZ (Bd 8 a)).toNat) 0)
abbrev Ze:=Option (LB×Int)
def uZ(a:LB):Ze:=
some (a,0)
def eJ:=uZ
def TA(j6:LB->Ze)(Qh:Int->LB->Ze)(f:UInt64)(g:LB)(b:Int)(a:LB):Ze:=
if(Cc b (Ac g))then
(Ik (Ll (Bd 8 b) 0)).bind λ_=>
(Aj a b).bind λ_=>
(Je a b (Ad (Bt f (GI.toZ (Bd 8 b)).toNat):UInt8)).bind λk=>
Qh (Ae b 1) k
else
j6 a
def AI(f:UInt64)(g:LB):Nat->Int->LB->Ze
|0,_,_=>none
|q+1,b,a=>TA eJ (AI f g q) f g b a
def gS f g:=AI f g Ar
def gJ(j4:UInt64->LB->Int->LB->Ze)(f:UInt64)(h:Int):Ze:=
if((Cc h 1)||(Eu h 8))then
some (([]:LB),2)
else
(wM f h).bind λm=>
if(!m)then
some (([]:LB),16)
else
(mkI h (0:UInt8)).bind λg=>
(Ik (geq h h)).bind λ_=>
j4 f g 0 g
def Ln:=gJ gS
def NW(f:LB):Option (LB):=
some f
def Tt:=NW
def Et(j16:LB->Option (LB))(Aut:Int->LB->Option (LB))(a:List LB)(g:Int)(f:LB):Option (LB):=
if(Cc g (Ac a))then
(Aj a g).bind λo=>
(Db f o).bind λp=>
Aut (Ae g 1) p
else
j16 f
def Dj(a:List LB):Nat->Int->LB->Option (LB)
|0,_,_=>none
|q+1,g,f=>Et Tt (Dj a q) a g f
def Kv a:=Dj a Ar
def Kz(j14:(List LB)->Int->LB->Option (LB))(a:List LB)(k:LB):Option (LB):=
j14 a 0 k
def He:=Kz Kv
def Ld(j13:(List LB)->LB->Option (LB))(b:Int)(a:List LB):Option (LB):=
if(Eu (Ah b (Ah (0:Int) (0:Int))) 0)then
(cG 0 0 0).bind λ_=>
(mkI (Ah b (Ah (0:Int) (0:Int))) (0:UInt8)).bind λu=>
(Db ([]:LB) u).bind λm=>
(cG (Ac m) 0 0).bind λ_=>
j13 a (SL m 0 ((0:Int)-(0:Int)))
else
j13 a ([]:LB)
def Le:=Ld He
def La(j12:Int-> (List LB)->Option (LB))(a:List LB)(b:Int):Option (LB):=
if(Cc b 0)then
none
else
j12 b a
def Lg:=La Le
def Fi(j11:(List LB)->Int->Option (LB))(bk9:Int->Int->Option (LB))(a:List LB)(b h:Int):Option (LB):=
if(Cc h (Ac a))then
(Aj a h).bind λn=>
if(Cc (Ae b (Ac n)) 0)then
none
else
bk9 (Ae b (Ac n)) (Ae h 1)
else
j11 a b
def Dq(a:List LB):Nat->Int->Int->Option (LB)
|0,_,_=>none
|q+1,b,h=>Fi Lg (Dq a q) a b h
def Lt a:=Dq a Ar
def Mg(j9:(List LB)->Int->Int->Option (LB))(a:List LB):Option (LB):=
j9 a 0 0
def Jy:=Mg Lt
abbrev Bf:=Option (LB×Int)
def QZ(u:Int)(p:LB):Bf:=
(Vo p).bind λ(af,ac)=>
if(Bm ac 0)then
some (([]:LB),ac)
else
(Ln (Ad af:UInt64) 4).bind λ(m,h)=>
if(Bm h 0)then
some (([]:LB),h)
else
(Jy ([p,m]:List LB)).bind λag=>
some (ag,0)
def Yv:=QZ
def PL(MF:Int-> (List (Int×Int×UInt64×UInt64×Unit))->Int->LB->Bf)(a:LU)(b f g:Int)(k:List (Int×Int×UInt64×UInt64×Unit))(n:Int)(v:LB):Bf:=
MF (Ae g 1) k n v
def Zd MF:=PL MF
def RY(I2:Int->Int->LB->Bf)(h:Int)(a:LU)(g b f:Int)(k:List (Int×Int×UInt64×UInt64×Unit))(m:LB)(o n:Int)(aa:LB):Bf:=
I2 (Ae o 1) (Ae n 1) aa
def Ys I2:=RY I2
def Yp(j48:Int->Int->LB->Bf)(h:Int)(a:LU)(g b f:Int)(k:List (Int×Int×UInt64×UInt64×Unit))(m:LB)(o n:Int)(y:LB):Bf:=
(Aj m (Bz o 8)).bind λ_=>
(Aj m (Bz o 8)).bind λah=>
(Ik (Ll (Gc o 8) 0)).bind λ_=>
(Aj y (Bz n 8)).bind λ_=>
(Ik (Ll (Gc n 8) 0)).bind λ_=>
(Aj y (Bz n 8)).bind λai=>
(Aj y (Bz n 8)).bind λ_=>
Option.bind (Je y (Bz n 8) (sY ai (Cw (Di (Bt ah (GI.toZ (Gc o 8)).toNat) 1) (GI.toZ (Gc n 8)).toNat))) λaa=>
j48 o n aa
def Qv I2 h a g b f k m:=Yp (Ys I2 h a g b f k m) h a g b f k m
def Ro(j47:Int->Int->LB->Bf)(j50:Int-> (List (Int×Int×UInt64×UInt64×Unit))->Int->LB->Bf)(a:LU)(b f h g:Int)(k:List (Int×Int×UInt64×UInt64×Unit))(m:LB)(o n:Int)(v:LB):Bf:=
if(Cc o h)then
if(geq (Gc n 8) 0)then
(Db v ([(0:UInt8)]:LB)).bind λaj=>
j47 o n aj
else
j47 o n v
else
j50 g k n v
def Fl(MF:Int-> (List (Int×Int×UInt64×UInt64×Unit))->Int->LB->Bf)(a:LU)(b f h g:Int)(k:List (Int×Int×UInt64×UInt64×Unit))(m:LB):Nat->Int->Int->LB->Bf
|0,_,_,_=>none
|q+1,o,n,v=>Ro (Qv (Fl MF a b f h g k m q) h a g b f k m) (Zd MF a b f) a b f h g k m o n v
def QG MF a b f h g k m:=Fl MF a b f h g k m Ar
def Rc(j44:Int->Int-> (List (Int×Int×UInt64×UInt64×Unit))->LB->Int->Int->LB->Bf)(j52:Int->LB->Bf)(a:LU)(b f g:Int)(w:List (Int×Int×UInt64×UInt64×Unit))(u:Int)(p:LB):Bf:=
if(Cc g (Ac a))then
(Aj a g).bind λ_=>
(Aj a g).bind λak=>
(Ik (Bm b 0)).bind λ_=>
(Aj w (Gc g b)).bind λ_=>
(Aj w (Gc g b)).bind λab=>
(ZI ([]:LB) 0 ab.1 ab.2.1 ab.2.2.1 ab.2.2.2.1 ak).bind λ(m,h,al,am,an,ao,ad)=>
if(Bm ad 0)then
some (([]:LB),ad)
else
(Ik (Bm b 0)).bind λ_=>
(Aj w (Gc g b)).bind λ_=>
(Je w (Gc g b) (al,am,an,ao,())).bind λk=>
j44 h g k m 0 u p
else
j52 u p
def Gu(a:LU)(b f:Int):Nat->Int-> (List (Int×Int×UInt64×UInt64×Unit))->Int->LB->Bf
|0,_,_,_,_=>none
|q+1,g,w,u,p=>Rc (QG (Gu a b f q) a b f) Yv a b f g w u p
def Yn a b f:=Gu a b f Ar
def BL(j27:LU->Int->Int->Int-> (List (Int×Int×UInt64×UInt64×Unit))->Int->LB->Bf)(b f:Int)(ap aq:LX):Bf:=
(BU b f ap aq).bind λ(a,ae)=>
if(Bm ae 0)then
some (([]:LB),ae)
else
(DF).bind λar=>
j27 a b f 0 ar 0 ([]:LB)
def Qe:=BL Yn
def Oj(a:Int)(b:LX):LI->Int->Option (List LX)
  |[],_=>some []
  |n::l,x=>Option.bind (Bw b x (Ae x (Bd n a))) λp=>Option.bind (Oj a b l (Ae x (Bd n a))) λps=>some (p::ps)
def Of(a f:Int)(t:LX):List LX->List LB->Option (List LB×Int)
  |[],o=>some (o,0)
  |x::xs,o=>Option.bind (Qe a f t x) λy=>
    if(Bm y.2 0)=true then some ([],y.2)
    else Option.bind (Db o [y.1]) λo'=>Of a f t xs o'
def RG(a h:Int)(b:LX):Option (List LX):=
  Option.bind (Ik (Bm a 0)) λ_=>Option.bind (Uj h (Bz (Ac b) a)) λl=>Option.bind (Ik (decide (Ac l.1<=17179869184))) λ_=>Oj a b l.1 0
def IY(a f h:Int)(b:LX)(p:LB):Option (List LB×Int):=
  Option.bind (Df a f h b) λe=>
    if(Bm e 0)=true then some ([],e)
    else Option.bind (HI p) λt=>
      if(Bm t.2 0)=true then some ([],t.2)
      else Option.bind (RG a h b) λxs=>Of a f t.1 xs []
def WU(b f a g h:Int):Option Bool:=
some (((((((geq b 1)||(geq b 2))&&(Eu f 0))&&(yj f 6))&&(Eu g 0))&&(yj g 1048576))&&(Eu h 0))
def Vt:=WU
def GD(j2:Int->Int->Int->Int->Int->Option Bool)(b f a g h:Int):Option Bool:=
if(geq a 8)then
if(geq a 8)then
j2 b f a g h
else
some false
else
if(geq a 16)then
if(geq a 16)then
j2 b f a g h
else
some false
else
if(geq a 24)then
j2 b f a g h
else
some false
def Xf:=GD Vt
def KH(k a m f b:Int):Option Bool:=
(Ik (Bm a 0)).bind λ_=>
if(Eu b (Bz 4000 a))then
some false
else
(Hg f b).bind λ(g,h)=>
some ((geq h 0)&&(yj g 1000))
def Qn(a b f g h:Int):Option Int:=
(Xf a b f g h).bind λk=>
if(!k)then
some 8
else
(KH a b f g h).bind λm=>
if(!m)then
some 8
else
some 0
abbrev Md:=Option (LB×Int)
def cC(a:LB):Md:=
(Vo a).bind λ(u,aa)=>
(Ln (Ad u:UInt64) 4).bind λ(n,v)=>
(Db a n).bind λo=>
some (o,0)
def Yj:=cC
def Yh(j6:LB->Md)(Qh:Int->LB->Md)(b f g h k m:Int)(a:LB):Md:=
if(Cc m 5)then
(Aj ([b,f,g,h,k]:LI) m).bind λw=>
(Aj ([(2:Int),(2:Int),(2:Int),(4:Int),(4:Int)]:LI) m).bind λy=>
(Ln (Ad w:UInt64) y).bind λ(n,v)=>
(Db a n).bind λo=>
Qh (Ae m 1) o
else
j6 a
def Ke(b f g h k:Int):Nat->Int->LB->Md
|0,_,_=>none
|q+1,m,a=>Yh Yj (Ke b f g h k q) b f g h k m a
def LK b f g h k:=Ke b f g h k Ar
def MC(j4:Int->Int->Int->Int->Int->Int->LB->Md)(b f g h k:Int):Md:=
(Qn b f g h k).bind λp=>
if(Bm p 0)then
some (([]:LB),p)
else
j4 b f g h k 0 ([(84:UInt8),(84:UInt8),(65:UInt8),(49:UInt8)]:LB)
def NQ:=MC LK
def tA(a:LB):Option (UInt64×Int):=
if(Eu (Ac a) 64)then
some (0,2)
else
(WY a).bind λ(b,f)=>
some (b,0)
def DD(b:LB):Option (LB×Int):=
(tA b).bind λ(f,a)=>
if(Bm a 0)then
some (([]:LB),a)
else
(Ln f 8).bind λ(g,h)=>
some (g,h)
def C6:Option Int:=
some 0
def jO:=C6
def EF(j6:Option Int)(Qh:Int->Int->Option Int)(a:LI)(f b:Int):Option Int:=
if(Cc b (Ac a))then
(Aj a b).bind λg=>
if((Cc g 5)||(Eu g f))then
some 8
else
Qh (Ah f g) (Ae b 1)
else
j6
def Pu(a:LI):Nat->Int->Int->Option Int
|0,_,_=>none
|q+1,f,b=>EF jO (Pu a q) a f b
def QR a:=Pu a Ar
def DN(j4:LI->Int->Int->Option Int)(a:LI):Option Int:=
if((geq (Ac a) 0)||(Eu (Ac a) 1000))then
some 8
else
j4 a 100000 0
def Qk:=DN QR
abbrev Gi:=Option (LB×Int)
def vN(g:LB):Gi:=
some (g,0)
def cK:=vN
def LC(j14:LB->Gi)(b:LB):Gi:=
(Vo b).bind λ(m,u)=>
(Ln (Ad m:UInt64) 4).bind λ(n,v)=>
(Db b n).bind λg=>
j14 g
def KZ:=LC cK
def cN(bk8:Int->LB->Gi)(a:LI)(f:Int)(h:LB):Gi:=
bk8 (Ae f 1) h
def LJ bk8:=cN bk8
def EE(j11:Int->LB->Gi)(j13:LB->Gi)(a:LI)(f:Int)(b:LB):Gi:=
if(Cc f (Ac a))then
(Aj a f).bind λo=>
(Ln (Ad o:UInt64) 4).bind λ(p,w)=>
(Db b p).bind λh=>
j11 f h
else
j13 b
def Pc(a:LI):Nat->Int->LB->Gi
|0,_,_=>none
|q+1,f,b=>EE (LJ (Pc a q) a) KZ a f b
def iV a:=Pc a Ar
def PD(j8:LI->Int->LB->Gi)(a:LI):Gi:=
(Qk a).bind λk=>
if(Bm k 0)then
some (([]:LB),k)
else
j8 a 0 ([]:LB)
def TT:=PD iV
def UO(a:LB):Option Int:=
some (Ac a)
def yY(a:LB):Option (LB):=
some a
def iO:=yY
def DI(j6:LB->Option (LB))(Qh:Int->LB->Option (LB))(b:List LB)(f:Int)(a:LB):Option (LB):=
if(Cc f (Ac b))then
(Aj b f).bind λg=>
(Db a g).bind λh=>
Qh (Ae f 1) h
else
j6 a
def Qf(b:List LB):Nat->Int->LB->Option (LB)
|0,_,_=>none
|q+1,f,a=>DI iO (Qf b q) b f a
def gU b:=Qf b Ar
def fI(j4:(List LB)->Int->LB->Option (LB))(b:List LB):Option (LB):=
j4 b 0 ([]:LB)
def iY:=fI gU
abbrev Ee:=Option (LB×Int)
def bW(k:Int)(a:List LB)(b f n:LB):Ee:=
if(Bm k 0)then
some (([]:LB),k)
else
(Db ([b,f,n]:List LB) a).bind λm=>
(iY m).bind λad=>
some (ad,0)
def LZ:=bW
def KX(j14:Int-> (List LB)->LB->LB->LB->Ee)(h:LI)(a:List LB)(b f:LB):Ee:=
(TT h).bind λ(n,k)=>
j14 k a b f n
def Ry:=KX LZ
def bU(bk9:Int->LI->Ee)(a:List LB)(b f:LB)(g:Int)(m:LI):Ee:=
bk9 (Ae g 1) m
def LH bk9:=bU bk9
def DA(j11:Int->LI->Ee)(j13:LI-> (List LB)->LB->LB->Ee)(a:List LB)(b f:LB)(g:Int)(h:LI):Ee:=
if(Cc g (Ac a))then
(Aj a g).bind λ_=>
(Aj a g).bind λae=>
(UO ae).bind λk=>
(Aj h g).bind λ_=>
(Je h g k).bind λm=>
j11 g m
else
j13 h a b f
def Qd(a:List LB)(b f:LB):Nat->Int->LI->Ee
|0,_,_=>none
|q+1,g,h=>DA (LH (Qd a b f q) a b f) Ry a b f g h
def iA a b f:=Qd a b f Ar
def OJ(j9:(List LB)->LB->LB->Int->LI->Ee)(a:List LB)(b f:LB):Ee:=
(mkI (Ac a) (0:Int)).bind λaf=>
(Ik (geq (Ac a) (Ac a))).bind λ_=>
j9 a b f 0 af
def CK:=OJ iA
def OX(j8:(List LB)->LB->LB->Ee)(p u v:Int)(w:LX)(o:LB):Ee:=
(TM p u v w o).bind λ(y,ag,ah,ai,aj,aa)=>
if(Bm aa 0)then
some (([]:LB),aa)
else
(IY p u v w o).bind λ(a,ab)=>
if(Bm ab 0)then
some (([]:LB),ab)
else
(NQ y ag ah ai aj).bind λ(b,ac)=>
if(Bm ac 0)then
some (([]:LB),ac)
else
if(geq y 2)then
(DD o).bind λ(ak,al)=>
j8 a b ak
else
j8 a b ([]:LB)
def KL:=OX CK
def Nl(a:LB):Option (LB):=
(JV).bind λ(b,f,g,h)=>
(KL b f g h a).bind λ(k,m)=>
some k
def Hc(a b:LB):Option Bool:=
some (a==b)
def Kh(b a:LB):Option Bool:=
if(Ll (Ac b) (Ac a))then
(Bw b 0 (Ac a)).bind λf=>
(Hc f a).bind λg=>
some g
else
some false
abbrev Kl:=Option (Int×Int)
def sK(b:Int):Kl:=
some (b,0)
def XS:=sK
def Vq(j6:Int->Kl)(Qh:Int->Int->Kl)(a:LB)(b f:Int):Kl:=
if(Cc f (Ac a))then
(Aj a f).bind λg=>
if(Eu g 127)then
some (0,12)
else
Qh (sY (Cw b (GI.toZ (7:UInt64)).toNat) (Ad g:Int)) (Ae f 1)
else
j6 b
def Li(a:LB):Nat->Int->Int->Kl
|0,_,_=>none
|q+1,b,f=>Vq XS (Li a q) a b f
def GA a:=Li a Ar
def HG(j4:LB->Int->Int->Kl)(a:LB):Kl:=
if(Bm (Ac a) 4)then
some (0,2)
else
j4 a 0 0
def HP:=HG GA
abbrev Ho:=Option (Int×Int)
def cD(a:LB)(b:UInt8)(h:Int):Ho:=
if(Eu h 4000)then
some (0,4)
else
if(Cc (Ac a) h)then
some (0,24)
else
if(geq b 16)then
(Bw a (Ah h 10) h).bind λk=>
(Bw k 0 3).bind λu=>
if(u !=([51,68,73]:LB))then
some (0,12)
else
(Bw k 3 (Ac k)).bind λv=>
(Bw a 3 10).bind λw=>
(Hc v w).bind λy=>
if(!y)then
some (0,12)
else
some (h,0)
else
some (h,0)
def Ya:=cD
def LO(j8:LB->UInt8->Int->Ho)(a:LB)(g:Int)(b:UInt8):Ho:=
if(geq b 16)then
j8 a b (Ae (Ae g 10) 10)
else
j8 a b (Ae g 10)
def Yk:=LO Ya
def KU(j7:LB->Int->UInt8->Ho)(a:LB)(g:Int)(b:UInt8)(m:Bool):Ho:=
if m then
some (0,12)
else
j7 a g b
def KV:=KU Yk
def MB(j6:LB->Int->UInt8->Bool->Ho)(a:LB)(f b:UInt8):Ho:=
(Bw a 6 10).bind λaa=>
(HP aa).bind λ(g,ab)=>
if(Bm ab 0)then
if true then
j6 a g b true
else
if(geq b 0)then
j6 a g b (!((Ll f 2)&&(yj f 4)))
else
if(geq b 16)then
j6 a g b (!(geq f 4))
else
j6 a g b (!false)
else
(Aj a 4).bind λac=>
if(Bm ac 0)then
j6 a g b true
else
if(geq b 0)then
j6 a g b (!((Ll f 2)&&(yj f 4)))
else
if(geq b 16)then
j6 a g b (!(geq f 4))
else
j6 a g b (!false)
def LG:=MB KV
def Yb(j5:LB->UInt8->UInt8->Ho)(a:LB):Ho:=
(Kh a ([(73:UInt8),(68:UInt8),(51:UInt8)]:LB)).bind λn=>
if(!n)then
some (0,6)
else
if(Cc (Ac a) 10)then
some (0,24)
else
(Aj a 3).bind λf=>
(Aj a 5).bind λb=>
(
(
(
j5 a f b)))
def ND:=Yb LG
abbrev Zf:=Option (UInt64×Int)
def qc(b:UInt64):Zf:=
some (b,0)
def uN:=qc
def TF(j6:UInt64->Zf)(Qh:UInt64->Int->Zf)(a:LB)(b:UInt64)(f:Int):Zf:=
if(Cc f (Ac a))then
(Aj a f).bind λg=>
(Ik (Ll (Bd 8 f) 0)).bind λ_=>
Qh (sY b (Cw (Ad g:UInt64) (GI.toZ (Bd 8 f)).toNat)) (Ae f 1)
else
j6 b
def Zn(a:LB):Nat->UInt64->Int->Zf
|0,_,_=>none
|q+1,b,f=>TF uN (Zn a q) a b f
def hH a:=Zn a Ar
def jK(j4:LB->UInt64->Int->Zf)(a:LB):Zf:=
if((Cc (Ac a) 1)||(Eu (Ac a) 8))then
some (0,2)
else
j4 a 0 0
def fL:=jK hH
def XK(f:LB)(a b:Int):Option (UInt64×Int):=
if(((Cc b 1)||(Eu b 8))||(Cc a 0))then
some (0,2)
else
if(Eu a (Ah (Ac f) b))then
some (0,24)
else
(Bw f a (Ae a b)).bind λg=>
(fL g).bind λ(h,k)=>
some (h,k)
def D4(g:LB):Option (LB):=
some g
def nF:=D4
def ZS(j6:LB->Option (LB))(Qh:Int->LB->Option (LB))(a b:Int)(f:UInt64)(h:Int)(g:LB):Option (LB):=
if(Cc h (Ac ([(2000:UInt64),(Ad (Ae a 32):UInt64),(Ad b:UInt64),f,(0:UInt64),(0:UInt64)]:LQ)))then
(Aj ([(2000:UInt64),(Ad (Ae a 32):UInt64),(Ad b:UInt64),f,(0:UInt64),(0:UInt64)]:LQ) h).bind λ_=>
(Aj ([(2000:UInt64),(Ad (Ae a 32):UInt64),(Ad b:UInt64),f,(0:UInt64),(0:UInt64)]:LQ) h).bind λk=>
(Ln k 4).bind λ(m,o)=>
(Db g m).bind λn=>
Qh (Ae h 1) n
else
j6 g
def Zi(a b:Int)(f:UInt64):Nat->Int->LB->Option (LB)
|0,_,_=>none
|q+1,h,g=>ZS nF (Zi a b f q) a b f h g
def mZ a b f:=Zi a b f Ar
def nV(j4:Int->Int->UInt64->Int->LB->Option (LB))(a b:Int)(f:UInt64):Option (LB):=
j4 a b f 0 ([(65:UInt8),(80:UInt8),(69:UInt8),(84:UInt8),(65:UInt8),(71:UInt8),(69:UInt8),(88:UInt8)]:LB)
def jY:=nV mZ
def NZ(b:LB)(g:UInt64):Option (Int×Int×Bool):=
(XK b 12 4).bind λ(a,m)=>
(XK b 16 4).bind λ(f,n)=>
if(((Cc a 32)||(Eu a 3032))||(Eu f 1000))then
some (0,0,false)
else
(jY (Ah (Ad a:Int) 32) (Ad f:Int) g).bind λh=>
(Hc b h).bind λk=>
some ((Ah (Ad a:Int) 32),(Ad f:Int),k)
def kD(a:LB):Option (Int×Int):=
(Kh a ([(65:UInt8),(80:UInt8),(69:UInt8),(84:UInt8),(65:UInt8),(71:UInt8),(69:UInt8),(88:UInt8)]:LB)).bind λf=>
if(!f)then
some (0,6)
else
if(Cc (Ac a) 32)then
some (0,24)
else
(Bw a 0 32).bind λg=>
(NZ g 2684354560).bind λ(b,h,k)=>
if(!k)then
some (0,12)
else
if(Cc (Ac a) (Ae b 64))then
some (0,24)
else
(Bw a (Ah (Ae b 64) 32) (Ae b 64)).bind λm=>
(jY b h 2147483648).bind λn=>
(Hc m n).bind λo=>
if(!o)then
some (0,12)
else
some ((Ae b 64),0)
def Ul(a:LB):Option (Int×Int):=
(ND a).bind λ(f,b)=>
if(Bm b 6)then
some (f,b)
else
(kD a).bind λ(g,h)=>
some (g,h)
def Sg(b:List UInt8):Nat->Int->Option (Int×Int)
  |0,_=>none
  |q+1,x=>Option.bind (Bw b x (Ac b)) λs=>Option.bind (Ul s) λr=>
    if geq r.2 (6:Int)=true then some (x,0)
    else if(geq r.2 (0:Int)&&Eu (Ae x r.1) (4000:Int))=true then some (0,4)
    else if Bm r.2 (0:Int)=true then some (0,r.2)
    else Sg b q (Ae x r.1)
def Ux(b:List UInt8):Option (Int×Int):=Sg b Ar 0
def Ja(b a:LB):Option Bool:=
if(Ll (Ac b) (Ac a))then
(Bw b 0 (Ac a)).bind λf=>
some (f==a)
else
some false
def Tr(a b:LB):Option Bool:=
(Ja a b).bind λf=>
some f
abbrev Oi:=Option (Int×Int×Int×Int×Int×Int)
def iW(a:LI):Oi:=
(Aj a 0).bind λ_=>
(Aj a 0).bind λh=>
(Aj a 1).bind λ_=>
(Aj a 1).bind λk=>
(Aj a 2).bind λ_=>
(Aj a 2).bind λm=>
(Aj a 3).bind λ_=>
(Aj a 3).bind λn=>
(Aj a 4).bind λ_=>
(Aj a 4).bind λo=>
(Xf h k m n o).bind λp=>
if(!p)then
some (0,0,0,0,0,12)
else
(KH h k m n o).bind λu=>
if(!u)then
some (0,0,0,0,0,4)
else
some (h,k,m,n,o,0)
def BI:=iW
def BK(j6:LI->Oi)(Qh:Int->Int->LI->Oi)(b:LB)(g f:Int)(a:LI):Oi:=
if(Cc f 5)then
(Aj ([(2:Int),(2:Int),(2:Int),(4:Int),(4:Int)]:LI) f).bind λh=>
(XK b g h).bind λ(v,ae)=>
(Aj a f).bind λ_=>
(Je a f (Ad v:Int)).bind λw=>
Qh (Ae g h) (Ae f 1) w
else
j6 a
def Lq(b:LB):Nat->Int->Int->LI->Oi
|0,_,_,_=>none
|q+1,g,f,a=>BK BI (Lq b q) b g f a
def CF b:=Lq b Ar
def RC(j4:LB->Int->Int->LI->Oi)(b:LB):Oi:=
(Bw b 0 (Du 4 (Ac b))).bind λy=>
(Tr ([84,84,65,49]:LB) y).bind λaa=>
if(!aa)then
some (0,0,0,0,0,12)
else
if(Cc (Ac b) 22)then
some (0,0,0,0,0,24)
else
(XK b 18 4).bind λ(ab,af)=>
(Bw b 0 18).bind λac=>
(Vo ac).bind λ(ad,ag)=>
if(Bm (Ad ad:UInt64) ab)then
some (0,0,0,0,0,22)
else
j4 b 4 0 (List.replicate 5 (0:Int))
def IZ:=RC CF
def Xj(g h k a b:Int):Option (LI×Int):=
(Qn g h k a b).bind λf=>
if(Bm f 0)then
some (([]:LI),f)
else
(Uj a b).bind λ(m,n)=>
some (m,n)
def Ng(f:LB):Option (Int×Int×Int×Int×Int×Int×Int×Int×Int×Int×LI×Int):=
if(Eu (Ac f) 100000)then
some (0,0,0,0,0,0,0,0,0,0,([]:LI),4)
else
(Ux f).bind λ(a,n)=>
if(Bm n 0)then
some (0,0,0,0,0,0,0,0,0,0,([]:LI),n)
else
(Bw f a (Ac f)).bind λu=>
(IZ u).bind λ(b,g,h,k,m,o)=>
if(Bm o 0)then
some (b,g,h,k,m,0,0,0,0,0,([]:LI),o)
else
(Xj b g h k m).bind λ(p,v)=>
if(geq b 2)then
some (b,g,h,k,m,a,(Ae a 22),(Ae (Ae a 22) 8),0,0,p,0)
else
some (b,g,h,k,m,a,(Ae a 22),(Ae a 22),0,0,p,0)
def Vw(a f:LB):Option (Bool×Int):=
(DD f).bind λ(b,g)=>
if((Bm g 0)||(Bm (Ac a) (Ac b)))then
some (false,2)
else
(Hc a b).bind λh=>
some (h,0)
abbrev Re:=Option (LI×Int)
def mN(a:LI):Re:=
(Qk a).bind λk=>
if(Bm k 0)then
some (([]:LI),12)
else
some (a,0)
def HL:=mN
def HO(j6:LI->Re)(Qh:Int->LI->Re)(b:LB)(f:LI)(g:Int)(a:LI):Re:=
if(Cc g (Ac f))then
(XK b (Bd 4 g) 4).bind λ(k,u)=>
(Aj a g).bind λ_=>
(Je a g (Ad k:Int)).bind λm=>
Qh (Ae g 1) m
else
j6 a
def Se(b:LB)(f:LI):Nat->Int->LI->Re
|0,_,_=>none
|q+1,g,a=>HO HL (Se b f q) b f g a
def UX b f:=Se b f Ar
def VS(j4:LB->LI->Int->LI->Re)(b:LB)(h:Int):Re:=
if((Cc h 1)||(Eu h 1000))then
some (([]:LI),2)
else
if(Cc (Ac b) (Ae (Bd 4 h) 4))then
some (([]:LI),24)
else
(XK b (Bd 4 h) 4).bind λ(n,v)=>
(Bw b 0 (Bd 4 h)).bind λo=>
(Vo o).bind λ(p,w)=>
if(Bm (Ad p:UInt64) n)then
some (([]:LI),22)
else
(mkI h (0:Int)).bind λf=>
(Ik (geq h h)).bind λ_=>
j4 b f 0 f
def GV:=VS UX
def CW(a:LB):Option (LB×Int):=
if(Cc (Ac a) 5)then
some (([]:LB),24)
else
if(Eu (Ac a) 41254)then
some (([]:LB),4)
else
(Bw a 0 (Ah (Ac a) 4)).bind λf=>
(Vo f).bind λ(g,b)=>
if(Bm b 0)then
some (([]:LB),b)
else
(Bw a (Ah (Ac a) 4) (Ac a)).bind λh=>
(fL h).bind λ(k,m)=>
if((Bm m 0)||(Bm k (Ad g:UInt64)))then
some (([]:LB),22)
else
(Bw a 0 (Ah (Ac a) 4)).bind λn=>
some (n,0)
def Z7(a:LB):Option (LB×Int×Int):=
if(Eu (Ac a) 41250)then
some (([]:LB),0,4)
else
(Eb a).bind λb=>
some (b,(Bd 8 (Ac a)),0)
def Abi(g:UInt64):Option UInt64:=
some g
def vB:=Abi
def gP(j6:UInt64->Option UInt64)(Qh:UInt64->Int->Option UInt64)(b f:Int)(h:LB)(k:Int)(g:UInt64)(a:Int):Option UInt64:=
if(Cc a f)then
(Aj h (Y4 (Ae b a) (GI.toZ (3:UInt64)).toNat)).bind λm=>
(Ik (Ll (Di (Ae b a) 7) 0)).bind λ_=>
(Ik (Ll (Du (Ah f a) (Ah 8 (Di (Ae b a) 7))) 0)).bind λ_=>
(Ik (Ll a 0)).bind λ_=>
Qh (sY g (Cw (Ad (Di (Bt m (GI.toZ (Di (Ae b a) 7)).toNat) (Ah (Cw (1:UInt8) (GI.toZ (Du (Ah f a) (Ah 8 (Di (Ae b a) 7)))).toNat) 1)):UInt64) (GI.toZ a).toNat)) (Ae a (Du (Ah f a) (Ah 8 (Di (Ae b a) 7))))
else
j6 g
def JI(b f:Int)(h:LB)(k:Int):Nat->UInt64->Int->Option UInt64
|0,_,_=>none
|q+1,g,a=>gP vB (JI b f h k q) b f h k g a
def uU b f h k:=JI b f h k Ar
def uB(j4:Int->Int->LB->Int->UInt64->Int->Option UInt64)(h:LB)(k b f:Int):Option UInt64:=
j4 b f h k 0 0
def qO:=uB uU
abbrev Ep:=Option (LB×Int×Int)
def qR(o:Int)(p:LB):Ep:=
some (p,o,0)
def ZA:=qR
def pN(MF:Int->Int->LB->Ep)(a:Int)(g:LB)(f b h:Int)(u:LB):Ep:=
MF (Ae b 64) h u
def NC MF:=pN MF
def pP(I2:UInt64->Int->Int->LB->Ep)(a b:Int)(g:LB)(f:Int)(k n:UInt64)(m h:Int)(w:LB):Ep:=
(Ik (Ll (Du m (Ah 8 (Di h 7))) 0)).bind λ_=>
I2 (Bt n (GI.toZ (Du m (Ah 8 (Di h 7)))).toNat) (Ah m (Du m (Ah 8 (Di h 7)))) (Ae h (Du m (Ah 8 (Di h 7)))) w
def aN I2:=pP I2
def bN(j48:UInt64->Int->Int->LB->Ep)(a b:Int)(g:LB)(f:Int)(k n:UInt64)(m h:Int)(v:LB):Ep:=
(Aj v (Ah (Ac v) 1)).bind λ_=>
(Ik (Ll (Du m (Ah 8 (Di h 7))) 0)).bind λ_=>
(Ik (Ll (Di h 7) 0)).bind λ_=>
(Aj v (Ah (Ac v) 1)).bind λaa=>
(Aj v (Ah (Ac v) 1)).bind λ_=>
Option.bind (Je v (Ah (Ac v) 1) (sY aa (Cw (Ad (Di n (Ah (Cw (1:UInt64) (GI.toZ (Du m (Ah 8 (Di h 7)))).toNat) 1)):UInt8) (GI.toZ (Di h 7)).toNat))) λw=>
j48 n m h w
def NN I2 a b g f k:=bN (aN I2 a b g f k) a b g f k
def NK(j47:UInt64->Int->Int->LB->Ep)(j50:Int->Int->LB->Ep)(a:Int)(g:LB)(f b:Int)(k n:UInt64)(m h:Int)(u:LB):Ep:=
if(Eu m 0)then
if(geq (Di h 7) 0)then
(Db u ([(0:UInt8)]:LB)).bind λab=>
j47 n m h ab
else
j47 n m h u
else
j50 b h u
def Nk(MF:Int->Int->LB->Ep)(a:Int)(g:LB)(f b:Int)(k:UInt64):Nat->UInt64->Int->Int->LB->Ep
|0,_,_,_,_=>none
|q+1,n,m,h,u=>NK (NN (Nk MF a g f b k q) a b g f k) (NC MF a g f) a g f b k n m h u
def aQ MF a g f b k:=Nk MF a g f b k Ar
def aO(j44:Int->UInt64->UInt64->Int->Int->LB->Ep)(j52:Int->LB->Ep)(a:Int)(g:LB)(f b o:Int)(p:LB):Ep:=
if(Cc b a)then
(qO g f b (Du 64 (Ah a b))).bind λk=>
j44 b k k (Du 64 (Ah a b)) o p
else
j52 o p
def Vm(a:Int)(g:LB)(f:Int):Nat->Int->Int->LB->Ep
|0,_,_,_=>none
|q+1,b,o,p=>aO (aQ (Vm a g f q) a g f) ZA a g f b o p
def YK a g f:=Vm a g f Ar
def gV(j27:Int->LB->Int->Int->Int->LB->Ep)(g:LB)(f y a:Int):Ep:=
(Hr g f).bind λac=>
if(Bm ac 0)then
some (([]:LB),0,8)
else
if(((Cc y 0)||(Eu y a))||(Eu a f))then
some (([]:LB),0,2)
else
j27 a g f y 0 ([]:LB)
def gL:=gV YK
def DJ(g:LB)(b f a:Int):Option (UInt64×Int):=
(Hr g b).bind λh=>
if(Bm h 0)then
some (0,8)
else
if(((Cc a 0)||(Eu a 64))||(Cc f 0))then
some (0,2)
else
if(Eu f (Ah b a))then
some (0,24)
else
(qO g b f a).bind λk=>
some (k,0)
def Fx(a:UInt64):Option Int:=
if(geq a 0)then
some 64
else
(Aj ([(0:UInt8),(1:UInt8),(56:UInt8),(2:UInt8),(57:UInt8),(49:UInt8),(28:UInt8),(3:UInt8),(61:UInt8),(58:UInt8),(42:UInt8),(50:UInt8),(38:UInt8),(29:UInt8),(17:UInt8),(4:UInt8),(62:UInt8),(47:UInt8),(59:UInt8),(36:UInt8),(45:UInt8),(43:UInt8),(51:UInt8),(22:UInt8),(53:UInt8),(39:UInt8),(33:UInt8),(30:UInt8),(24:UInt8),(18:UInt8),(12:UInt8),(5:UInt8),(63:UInt8),(55:UInt8),(48:UInt8),(27:UInt8),(60:UInt8),(41:UInt8),(37:UInt8),(16:UInt8),(46:UInt8),(35:UInt8),(44:UInt8),(21:UInt8),(52:UInt8),(32:UInt8),(23:UInt8),(11:UInt8),(54:UInt8),(26:UInt8),(40:UInt8),(15:UInt8),(34:UInt8),(20:UInt8),(31:UInt8),(10:UInt8),(25:UInt8),(14:UInt8),(19:UInt8),(9:UInt8),(13:UInt8),(8:UInt8),(7:UInt8),(6:UInt8)]:LB) (GI.toZ (Bt (Bd (Di a (oU a)) 285870213051353865) (GI.toZ (58:UInt64)).toNat))).bind λb=>
some (Ad b:Int)
abbrev Hk:=Option (Int×Int×Int)
def yZ:Hk:=
some (0,0,24)
def fU:=yZ
def mH(j10:Hk):Hk:=
j10
def lP:=mH fU
def US(j9:Hk)(f a:Int):Hk:=
if(geq f 48)then
some (f,(Ae 0 (Ae a f)),0)
else
j9
def VB:=US lP
def UW(j8:Int->Int->Hk)(f b a:Int):Hk:=
if(Cc f (Du 48 (Ah b a)))then
some (f,(Ae (Ae (0:Int) (1:Int)) (Ae a f)),0)
else
j8 f a
def VH:=UW VB
def VE(j7:Int->Int->Int->Hk)(h:Int)(k:UInt64)(a:Int)(g:LB)(b:Int):Hk:=
if(Bm h 0)then
some (0,0,h)
else
(Fx (C4 k)).bind λf=>
j7 f b a
def UP:=VE VH
def Xw(j6:Int->UInt64->Int->LB->Int->Hk)(g:LB)(b a:Int):Hk:=
(Hr g b).bind λm=>
if(Bm m 0)then
some (0,0,m)
else
if(Cc a 0)then
some (0,0,2)
else
if(Ll a b)then
some (0,0,24)
else
(
(
(DJ g b a (Du 48 (Ah b a))).bind λ(k,h)=>
j6 h k a g b))
def HA:=Xw UP
abbrev gZ:=Option (UInt32×Int×Int)
def ZW(a b f:Int)(g:LB)(h k:Int):gZ:=
(DJ g h b k).bind λ(m,n)=>
if(Bm n 0)then
some (0,0,n)
else
if(Cc f 48)then
(Ik (Ll a 0)).bind λ_=>
some ((sY (Cw (Ad f:UInt32) (GI.toZ a).toNat) (Ad m:UInt32)),(Ae b k),0)
else
(Vy (Ad m:UInt32) a).bind λu=>
if(!u)then
some (0,0,12)
else
some ((Ad m:UInt32),(Ae b k),0)
def NT:=ZW
def aE(j2:Int->Int->Int->LB->Int->Int->gZ)(g:LB)(h v a:Int):gZ:=
(Hr g h).bind λo=>
if(Bm o 0)then
some (0,0,o)
else
if((Cc a 0)||(Eu a 24))then
some (0,0,2)
else
(HA g h v).bind λ(f,b,p)=>
if(Bm p 0)then
some (0,0,p)
else
if(geq f 48)then
j2 a b f g h 32
else
j2 a b f g h a
def kH:=aE NT
abbrev Jr:=Option (UInt32×Int×Int×Int×UInt64×UInt64×Int)
def lM(f:UInt32)(k w m:Int)(a n:UInt64):Jr:=
some (f,k,w,m,(Ae a (Ah (Ad f:UInt64) (Bt a (GI.toZ (4:UInt64)).toNat))),n,0)
def UT:=lM
def aT(j10:UInt32->Int->Int->Int->UInt64->UInt64->Jr)(f:UInt32)(k m:Int)(a n:UInt64)(w:Int):Jr:=
j10 f k w m a n
def YO:=aT UT
def bH(j9:UInt32->Int->Int->UInt64->UInt64->Int->Jr)(f:UInt32)(k b:Int)(a:UInt64)(m:Int)(n:UInt64):Jr:=
if(Eu b 0)then
(Ik (Ll b 0)).bind λ_=>
if(Cc (Ae a (Ah (Ad f:UInt64) (Bt a (GI.toZ (4:UInt64)).toNat))) (Cw (16:UInt64) (GI.toZ b).toNat))then
j9 f k m a n (Ah b 1)
else
if(Cc b 24)then
(Ik (Ll b 0)).bind λ_=>
if(Eu (Ae a (Ah (Ad f:UInt64) (Bt a (GI.toZ (4:UInt64)).toNat))) (Cw (32:UInt64) (GI.toZ b).toNat))then
j9 f k m a n (Ae b 1)
else
j9 f k m a n b
else
j9 f k m a n b
else
if(Cc b 24)then
(Ik (Ll b 0)).bind λ_=>
if(Eu (Ae a (Ah (Ad f:UInt64) (Bt a (GI.toZ (4:UInt64)).toNat))) (Cw (32:UInt64) (GI.toZ b).toNat))then
j9 f k m a n (Ae b 1)
else
j9 f k m a n b
else
j9 f k m a n b
def EB:=bH YO
def ZB(j8:UInt32->Int->Int->UInt64->Int->UInt64->Jr)(b h:Int)(a g:UInt64)(f:UInt32)(k:Int):Jr:=
(HC b h a g f).bind λ(ad,o)=>
if(geq ad 1)then
if(Eu h 0)then
(Ik (Ll h 0)).bind λ_=>
if(Cc (Ae g (Ah (Ad o:UInt64) (Bt g (GI.toZ (4:UInt64)).toNat))) (Cw (16:UInt64) (GI.toZ h).toNat))then
j8 f k b a (Ah h 1) (Ae g (Ah (Ad o:UInt64) (Bt g (GI.toZ (4:UInt64)).toNat)))
else
if(Cc h 24)then
(Ik (Ll h 0)).bind λ_=>
if(Eu (Ae g (Ah (Ad o:UInt64) (Bt g (GI.toZ (4:UInt64)).toNat))) (Cw (32:UInt64) (GI.toZ h).toNat))then
j8 f k b a (Ae h 1) (Ae g (Ah (Ad o:UInt64) (Bt g (GI.toZ (4:UInt64)).toNat)))
else
j8 f k b a h (Ae g (Ah (Ad o:UInt64) (Bt g (GI.toZ (4:UInt64)).toNat)))
else
j8 f k b a h (Ae g (Ah (Ad o:UInt64) (Bt g (GI.toZ (4:UInt64)).toNat)))
else
if(Cc h 24)then
(Ik (Ll h 0)).bind λ_=>
if(Eu (Ae g (Ah (Ad o:UInt64) (Bt g (GI.toZ (4:UInt64)).toNat))) (Cw (32:UInt64) (GI.toZ h).toNat))then
j8 f k b a (Ae h 1) (Ae g (Ah (Ad o:UInt64) (Bt g (GI.toZ (4:UInt64)).toNat)))
else
j8 f k b a h (Ae g (Ah (Ad o:UInt64) (Bt g (GI.toZ (4:UInt64)).toNat)))
else
j8 f k b a h (Ae g (Ah (Ad o:UInt64) (Bt g (GI.toZ (4:UInt64)).toNat)))
else
j8 f k b a h g
def NJ:=ZB EB
def ZH(j7:Int->Int->UInt64->UInt64->UInt32->Int->Jr)(p:Int)(u:LB)(v b h:Int)(a g:UInt64):Jr:=
(DJ u v p 1).bind λ(ae,aa)=>
if(Bm aa 0)then
some (0,0,0,0,0,0,aa)
else
if(geq ae 0)then
(DJ u v (Ae p 1) b).bind λ(af,ab)=>
if(Bm ab 0)then
some (0,0,0,0,0,0,ab)
else
j7 b h a g (Ad af:UInt32) (Ae (Ae p 1) b)
else
(kH u v (Ae p 1) h).bind λ(y,ag,ac)=>
if(Bm ac 0)then
some (0,0,0,0,0,0,ac)
else
(Ik (Ll b 0)).bind λ_=>
if(Cc (Ae y (Cw (1:UInt32) (GI.toZ b).toNat)) y)then
some (0,0,0,0,0,0,12)
else
j7 b h a g (Ae y (Cw (1:UInt32) (GI.toZ b).toNat)) ag
def bL:=ZH NJ
def bQ(j6:Int->LB->Int->Int->Int->UInt64->UInt64->Jr)(u:LB)(v p b h:Int)(a g:UInt64):Jr:=
(Hr u v).bind λah=>
if(Bm ah 0)then
some (0,0,0,0,0,0,8)
else
(RI b h a g).bind λai=>
if(Bm ai 0)then
some (0,0,0,0,0,0,8)
else
j6 p u v b h a g
def GQ:=bQ bL
abbrev Bo:=Option (LU×Int×Int)
def nK(k:Int)(m:LU):Bo:=
some (m,k,0)
def RJ:=nK
def RD(Lk:Int->Int-> (List (Int×Int×UInt64×UInt64×Unit))->LU->Bo)(a f:Int)(g:LB)(b k v:Int)(w:UInt32)(h:Int)(ag:List (Int×Int×UInt64×UInt64×Unit))(m:LU):Bo:=
(Db m ([w]:LU)).bind λak=>
Lk (Ae k v) (Ae h 1) ag ak
def Yo Lk:=RD Lk
def Qy(j22:Int->Int->UInt32->Int-> (List (Int×Int×UInt64×UInt64×Unit))->LU->Bo)(a f:Int)(g:LB)(b k h y:Int)(w:UInt32)(v:Int)(n:List (Int×Int×UInt64×UInt64×Unit))(m:LU)(aa ab:Int)(ac ad:UInt64):Bo:=
if(Bm y 0)then
some (([]:LU),0,y)
else
(Ik (Bm a 0)).bind λ_=>
(Aj n (Gc h a)).bind λ_=>
(Je n (Gc h a) (aa,ab,ac,ad,())).bind λag=>
j22 k v w h ag m
def Qz Lk a f g b:=Qy (Yo Lk a f g b) a f g b
def Rp(j21:Int->Int->Int->UInt32->Int-> (List (Int×Int×UInt64×UInt64×Unit))->LU->Int->Int->UInt64->UInt64->Bo)(j24:Int->LU->Bo)(a f:Int)(g:LB)(b k h:Int)(n:List (Int×Int×UInt64×UInt64×Unit))(m:LU):Bo:=
if(Cc h (Bd f a))then
(gL g b k (Du (Ae k 81) b)).bind λ(ah,ae,af)=>
if(Bm af 0)then
some (([]:LU),0,af)
else
(Ik (Bm a 0)).bind λ_=>
(Aj n (Gc h a)).bind λ_=>
(
(
(Aj n (Gc h a)).bind λp=>
(
(GQ ah ae 0 p.1 p.2.1 p.2.2.1 p.2.2.2.1).bind λ(w,v,aa,ab,ac,ad,y)=>
j21 k h y w v n m aa ab ac ad)))
else
j24 k m
def Lo(a f:Int)(g:LB)(b:Int):Nat->Int->Int-> (List (Int×Int×UInt64×UInt64×Unit))->LU->Bo
|0,_,_,_,_=>none
|q+1,k,h,n,m=>Rp (Qz (Lo a f g b q) a f g b) RJ a f g b k h n m
def RZ a f g b:=Lo a f g b Ar
def OH(j16:Int->Int->LB->Int->Int->Int-> (List (Int×Int×UInt64×UInt64×Unit))->LU->Bo)(a f:Int)(g:LB)(b:Int)(o:List (Int×Int×UInt64×UInt64×Unit)):Bo:=
j16 a f g b 0 0 o ([]:LU)
def Yl:=OH RZ
def OR(j15:Int->Int->LB->Int-> (List (Int×Int×UInt64×UInt64×Unit))->Bo)(Aoe:Int-> (List (Int×Int×UInt64×UInt64×Unit))->Bo)(a f:Int)(g:LB)(b u:Int)(o:List (Int×Int×UInt64×UInt64×Unit)):Bo:=
if(Cc u 6)then
(oG).bind λ(al,ae,af,am)=>
(Aj o u).bind λ_=>
(Je o u (al,ae,af,am,())).bind λan=>
Aoe (Ae u 1) an
else
j15 a f g b o
def Yq(a f:Int)(g:LB)(b:Int):Nat->Int-> (List (Int×Int×UInt64×UInt64×Unit))->Bo
|0,_,_=>none
|q+1,u,o=>OR Yl (Yq a f g b q) a f g b u o
def Rq a f g b:=Yq a f g b Ar
def CU(j13:Int->Int->LB->Int->Int-> (List (Int×Int×UInt64×UInt64×Unit))->Bo)(a f:Int)(g:LB)(b:Int):Bo:=
j13 a f g b 0 (List.replicate 6 ((0:Int),(0:Int),(0:UInt64),(0:UInt64),()))
def CV:=CU Rq
def Vv(a:UInt32):Option Int32:=
some (Rk (Ad (Bt a (GI.toZ (1:UInt64)).toNat):Int32) (oU (Ad (Di a 1):Int32)))
def jA(b:Int)(f g:LX)(a:Int32):Option (Int32×Int×LX×LX×Int):=
(QQ b f g).bind λ(h,k)=>
if(Bm k 0)then
some (0,0,(List.replicate 16 (0:Int32)),(List.replicate 16 (0:Int32)),k)
else
(ON b f g (Ae a h) a).bind λ(m,n,o)=>
some ((Ae a h),m,n,o,0)
def Kk(a:Int)(b:Int32)(f:Int)(g h:LX)(o:Int32):Option (Int32×Int×Int32×Int×LX×LX×Int):=
(Um a b f g h).bind λk=>
if(Bm k 0)then
some (0,0,0,0,(List.replicate 16 (0:Int32)),(List.replicate 16 (0:Int32)),k)
else
(Uo a b).bind λ(m,y)=>
(jA f g h o).bind λ(n,p,u,v,w)=>
(
some ((Ae n m),a,(Ae n m),p,u,v,w))
abbrev Gb:=Option (LX×Int)
def U1(f:LX):Gb:=
some (f,0)
def oZ:=U1
def pX(VV:Int->LX->Gb)(b a:Int)(h:LX):Gb:=
VV (Ae a b) h
def aB VV:=pX VV
def NG(j20:Int->LX->Gb)(J6:Int->LX->Gb)(b a g:Int)(h:LX):Gb:=
if(Ll g 0)then
(Ik (decide (0<= (Ae g 1)/\ (Ae g 1)<((Ae a b)-a)))).bind λ_=>
(Ik (decide (0<=g/\g<((Ae a b)-a)))).bind λ_=>
(Aj h (a+(Ae g 1))).bind λo=>
(Aj h (a+g)).bind λp=>
(Ik (decide (0<=g/\g<((Ae a b)-a)))).bind λ_=>
(Je h (a+g) (Ah o p)).bind λu=>
J6 (Ah g 1) u
else
j20 a h
def Vu(VV:Int->LX->Gb)(b a:Int):Nat->Int->LX->Gb
|0,_,_=>none
|q+1,g,h=>NG (aB VV b) (Vu VV b a q) b a g h
def YZ VV b a:=Vu VV b a Ar
def YM(j18:Int->Int->LX->Gb)(b a:Int)(k:LX):Gb:=
j18 a (Ah (Ah ((Ae a b)-a) 1) 1) k
def NS VV b:=YM (YZ VV b) b
def YU(j17:Int->LX->Gb)(j22:LX->Gb)(b a:Int)(f:LX):Gb:=
if(Cc a (Ac f))then
(cG (Ac f) a (Ae a b)).bind λ_=>
if(Eu (Ah ((Ae a b)-a) 1) 0)then
(Ik (decide (0<= (Ah ((Ae a b)-a) 1)/\ (Ah ((Ae a b)-a) 1)<((Ae a b)-a)))).bind λ_=>
Option.bind (Ik (decide (0<= (Ah (Ah ((Ae a b)-a) 1) 1)/\ (Ah (Ah ((Ae a b)-a) 1) 1)<((Ae a b)-a)))) λ_=>
(Aj f (a+(Ah ((Ae a b)-a) 1))).bind λv=>
(Aj f (a+(Ah (Ah ((Ae a b)-a) 1) 1))).bind λw=>
(Ik (decide (0<= (Ah ((Ae a b)-a) 1)/\ (Ah ((Ae a b)-a) 1)<((Ae a b)-a)))).bind λ_=>
(Je f (a+(Ah ((Ae a b)-a) 1)) (Ae v (Bz w 2))).bind λy=>
j17 a y
else
j17 a f
else
j22 f
def Rb(b:Int):Nat->Int->LX->Gb
|0,_,_=>none
|q+1,a,f=>YU (NS (Rb b q) b) oZ b a f
def aI b:=Rb b Ar
def jE(j12:Int->Int->LX->Gb)(b:Int)(m:LX):Gb:=
(XH b m).bind λn=>
if(Bm n 0)then
some (([]:LX),n)
else
(Dd m).bind λaa=>
j12 b 0 aa
def pK:=jE aI
abbrev Bv:=Option (LX×Int)
def MH(a b:Int)(k:LX):Bv:=
(pK a k).bind λ(ah,af)=>
if(Bm af 0)then
some (([]:LX),af)
else
(Un b ah).bind λae=>
if(Bm ae 0)then
some (([]:LX),ae)
else
some (ah,0)
def Kr:=MH
def MQ(Aoe:Int-> (List (Int×Int32×(Int×LX×LX×Unit)×Unit))->LX->Bv)(a:Int)(f:LU)(b g:Int)(w:Int32)(u:Int)(h:List (Int×Int32×(Int×LX×LX×Unit)×Unit))(k:LX)(y:Int)(v:Int32)(aa:Int)(ab ac:LX):Bv:=
if(Bm u 0)then
some (([]:LX),u)
else
(Je h (Gc g a) (y,v,(aa,ab,ac,()),())).bind λai=>
(Db k ([w]:LX)).bind λaj=>
Aoe (Ae g 1) ai aj
def Wr Aoe:=MQ Aoe
def Kq(j16:Int->Int32->Int-> (List (Int×Int32×(Int×LX×LX×Unit)×Unit))->LX->Int->Int32->Int->LX->LX->Bv)(j18:Int->Int->LX->Bv)(f:LU)(a b g:Int)(h:List (Int×Int32×(Int×LX×LX×Unit)×Unit))(k:LX):Bv:=
if(Cc g (Ac f))then
(Aj f g).bind λag=>
(Ik (Bm a 0)).bind λ_=>
(Aj h (Gc g a)).bind λ_=>
(
(Aj h (Gc g a)).bind λm=>
(
(Vv ag).bind λae=>
(
(Kk m.1 m.2.1 m.2.2.1.1 m.2.2.1.2.1 m.2.2.1.2.2.1 ae).bind λ(w,y,v,aa,ab,ac,u)=>
j16 g w u h k y v aa ab ac)))
else
j18 a b k
def Hv(f:LU)(a b:Int):Nat->Int-> (List (Int×Int32×(Int×LX×LX×Unit)×Unit))->LX->Bv
|0,_,_,_=>none
|q+1,g,h,k=>Kq (Wr (Hv f a b q) a f b) Kr f a b g h k
def NB f a b:=Hv f a b Ar
def MW(j13:LU->Int->Int->Int-> (List (Int×Int32×(Int×LX×LX×Unit)×Unit))->LX->Bv)(f:LU)(a b:Int)(n:List (Int×Int32×(Int×LX×LX×Unit)×Unit)):Bv:=
j13 f a b 0 n ([]:LX)
def Xc:=MW NB
def MZ(j12:LU->Int->Int-> (List (Int×Int32×(Int×LX×LX×Unit)×Unit))->Bv)(Ad7:Int-> (List (Int×Int32×(Int×LX×LX×Unit)×Unit))->Bv)(f:LU)(a b:Int)(o:LX)(p:Int)(n:List (Int×Int32×(Int×LX×LX×Unit)×Unit)):Bv:=
if(Cc p 6)then
(tR b o).bind λ(ak,af,ae,al,am,v)=>
(Aj n p).bind λ_=>
(Je n p (ak,af,(ae,al,am,()),())).bind λan=>
Ad7 (Ae p 1) an
else
j12 f a b n
def Wz(f:LU)(a b:Int)(o:LX):Nat->Int-> (List (Int×Int32×(Int×LX×LX×Unit)×Unit))->Bv
|0,_,_=>none
|q+1,p,n=>MZ Xc (Wz f a b o q) f a b o p n
def Ox f a b o:=Wz f a b o Ar
def Zc(j10:LU->Int->Int->LX->Int-> (List (Int×Int32×(Int×LX×LX×Unit)×Unit))->Bv)(a b:Int)(o:LX)(f:LU):Bv:=
j10 f a b o 0 (List.replicate 6 ((0:Int),(0:Int32),((0:Int),(List.replicate 16 (0:Int32)),(List.replicate 16 (0:Int32)),()),()))
def Rv:=Zc Ox
def Lm(a h:Int)(u:LX)(f:Int)(v:LB):Option (LX×Int):=
(Fp a h).bind λk=>
if(Bm k 0)then
some (([]:LX),k)
else
if(Cc f 1)then
some (([]:LX),2)
else
(Ik (Bm a 0)).bind λ_=>
if(Eu f (Bz 4000 a))then
some (([]:LX),2)
else
(CW v).bind λ(w,m)=>
if(Bm m 0)then
some (([]:LX),m)
else
(Z7 w).bind λ(n,b,o)=>
if(Bm o 0)then
some (([]:LX),o)
else
(CV a f n b).bind λ(y,g,p)=>
if(Bm p 0)then
some (([]:LX),p)
else
if(Ll (Ah b g) 8)then
some (([]:LX),12)
else
(DJ n b g (Ah b g)).bind λ(aa,ab)=>
if((Bm ab 0)||(Bm aa 0))then
some (([]:LX),12)
else
(Rv a h u y).bind λ(ac,ad)=>
some (ac,ad)
abbrev oB:=Option (Int×Int)
def vD(a:LB):oB:=
(Bw a (Ah (Ac a) 32) (Ac a)).bind λg=>
(NZ g 0).bind λ(f,y,h)=>
if h then
if(Cc (Ah (Ac a) 32) f)then
some (0,24)
else
some ((Ae f 32),0)
else
(Bw a (Ah (Ac a) 32) (Ac a)).bind λk=>
(NZ k 2147483648).bind λ(b,m,n)=>
if(!n)then
some (0,12)
else
if(Cc (Ac a) (Ae b 64))then
some (0,24)
else
(Bw a (Ah (Ac a) (Ae b 64)) (Ae (Ah (Ac a) (Ae b 64)) 32)).bind λo=>
(jY b m 2684354560).bind λp=>
(Hc o p).bind λu=>
if(!u)then
some (0,12)
else
some ((Ae b 64),0)
def dV:=vD
def gM(j2:LB->oB)(a:LB):oB:=
if(Cc (Ah (Ac a) 32) 0)then
some (0,6)
else
(Bw a (Ah (Ac a) 32) (Ac a)).bind λv=>
(Kh v ([(65:UInt8),(80:UInt8),(69:UInt8),(84:UInt8),(65:UInt8),(71:UInt8),(69:UInt8),(88:UInt8)]:LB)).bind λw=>
if(!w)then
some (0,6)
else
j2 a
def pD:=gM dV
abbrev Fg:=Option (Int×Int)
def tF(a:Int):Fg:=
some (a,0)
def XW:=tF
def YC(bk8:Int->LB->Fg)(a:Int)(g:LB):Fg:=
bk8 (Ae a 1) g
def HJ bk8:=YC bk8
def HH(j12:Int->LB->Fg)(a f:Int)(b:LB):Fg:=
if(geq f 0)then
some (0,38)
else
(Bw b 0 (Ah (Ac b) f)).bind λg=>
j12 a g
def GU bk8:=HH (HJ bk8)
def MA(j11:Int->Int->LB->Fg)(j14:Int->Fg)(a:Int)(b:LB):Fg:=
if(Eu (Ac b) 0)then
(pD b).bind λ(f,k)=>
j11 a f b
else
j14 a
def Ru:Nat->Int->LB->Fg
|0,_,_=>none
|q+1,a,b=>MA (GU (Ru q)) XW a b
def cI:=Ru Ar
def LV(j8:Int->LB->Fg)(h:LB):Fg:=
if(Eu (Ac h) 4000)then
some (0,38)
else
j8 0 h
def NI:=LV cI
abbrev Bl:=Option (Int×Int×Int×LX×Int)
def dZ(a:LB)(aa b f h:Int)(ad:LX):Bl:=
(Bw a aa (Ac a)).bind λaq=>
(NI aq).bind λ(bb,ar)=>
if(Bm ar 0)then
some (0,0,0,([]:LX),38)
else
some (b,f,h,ad,0)
def PW:=dZ
def fR(Ad6:Int->Int->LX->Bl)(a:LB)(w:LI)(m b f h o p n g y ab:Int)(ac:LX)(k:LI)(aa aj ak ae:Int)(am ad:LX):Bl:=
if(Bm ak 0)then
some (0,0,0,([]:LX),ak)
else
(Db ad am).bind λau=>
Ad6 (Ae aa aj) (Ae ae 1) au
def PR Ad6:=fR Ad6
def DK(j24:Int->Int->Int->Int->LX->LX->Bl)(j26:LB->Int->Int->Int->Int->LX->Bl)(a:LB)(w:LI)(m b f h o p n g y ab:Int)(ac:LX)(k:LI)(aa ae:Int)(ad:LX):Bl:=
if(Cc ae (Ac w))then
(Aj w ae).bind λ_=>
(Aj w ae).bind λaj=>
if(Cc (Ac a) (Ae aa aj))then
some (0,0,0,([]:LX),24)
else
(Aj k ae).bind λ_=>
(Bw a aa (Ae aa aj)).bind λav=>
(Aj k ae).bind λaw=>
(Lm b f ac aw av).bind λ(am,ak)=>
j24 aa aj ak ae am ad
else
j26 a aa b f h ad
def Pq(a:LB)(w:LI)(m b f h o p n g y ab:Int)(ac:LX)(k:LI):Nat->Int->Int->LX->Bl
|0,_,_,_=>none
|q+1,aa,ae,ad=>DK (PR (Pq a w m b f h o p n g y ab ac k q) a w m b f h o p n g y ab ac k) PW a w m b f h o p n g y ab ac k aa ae ad
def fT a w m b f h o p n g y ab ac k:=Pq a w m b f h o p n g y ab ac k Ar
def CY(j21:LB->LI->Int->Int->Int->Int->Int->Int->Int->Int->Int->Int->LX->LI->Int->Int->LX->Bl)(a u:LB)(m b f h o p n g:Int)(k:LI)(an y ab:Int)(w:LI):Bl:=
if(Bm an 0)then
some (0,0,0,([]:LX),an)
else
(HI u).bind λ(ac,bc)=>
j21 a w m b f h o p n g y ab ac k y 0 ([]:LX)
def Ly:=CY fT
def OS(j20:LB->LB->Int->Int->Int->Int->Int->Int->Int->Int->LI->Int->Int->Int->LI->Bl)(a u:LB)(v:LI)(m b f h o p n g af:Int)(k:LI):Bl:=
j20 a u m b f h o p n g k 0 (Ae (Ae g (Bd 4 (Ac v))) 4) af v
def CE:=OS Ly
def CN(j19:LB->LB->LI->Int->Int->Int->Int->Int->Int->Int->Int->Int->LI->Bl)(Auv:Int->Int->Bl)(v:LI)(a u:LB)(m b f h o p n g:Int)(k:LI)(ag af:Int):Bl:=
if(Cc ag (Ac v))then
(Aj v ag).bind λ_=>
(Aj v ag).bind λax=>
Auv (Ae ag 1) (Ae af ax)
else
j19 a u v m b f h o p n g af k
def Pe(v:LI)(a u:LB)(m b f h o p n g:Int)(k:LI):Nat->Int->Int->Bl
|0,_,_=>none
|q+1,ag,af=>CN CE (Pe v a u m b f h o p n g k q) v a u m b f h o p n g k ag af
def OG v a u m b f h o p n g k:=Pe v a u m b f h o p n g k Ar
def BJ(j20:LB->LB->Int->Int->Int->Int->Int->Int->Int->Int->LI->Int->Int->Int->LI->Bl)(j17:LI->LB->LB->Int->Int->Int->Int->Int->Int->Int->Int->LI->Int->Int->Bl)(al:Int)(a u:LB)(m b f h o p n g ah ai:Int)(v k:LI):Bl:=
if(Bm al 0)then
j20 a u m b f h o p n g k al ah ai ([]:LI)
else
j17 v a u m b f h o p n g k 0 (Ae (Ae g (Bd 4 (Ac v))) 4)
def AS:=BJ Ly OG
def QO(j20:LB->LB->Int->Int->Int->Int->Int->Int->Int->Int->LI->Int->Int->Int->LI->Bl)(j16:Int->LB->LB->Int->Int->Int->Int->Int->Int->Int->Int->Int->Int->LI->LI->Bl)(a u:LB)(m b f h o p n g ah ai:Int)(k:LI):Bl:=
if(Cc (Ac a) g)then
j20 a u m b f h o p n g k 24 ah ai ([]:LI)
else
(Bw a g (Ac a)).bind λay=>
(GV ay (Ac k)).bind λ(v,al)=>
j16 al a u m b f h o p n g ah ai v k
def Uw:=QO Ly AS
def DC(j15:LB->LB->Int->Int->Int->Int->Int->Int->Int->Int->Int->Int->LI->Bl)(a u:LB)(m b f h o p n g ah ai:Int)(k:LI)(ao:Int):Bl:=
if(Bm ao 0)then
some (0,0,0,([]:LX),ao)
else
j15 a u m b f h o p n g ah ai k
def Pr:=DC Uw
def UI(j14:LB->LB->Int->Int->Int->Int->Int->Int->Int->Int->Int->Int->LI->Int->Bl)(a u:LB):Bl:=
if(Eu (Ac u) 64)then
some (0,0,0,([]:LX),2)
else
(Ng a).bind λ(m,b,f,h,o,p,n,g,ah,ai,k,ap)=>
if(Bm ap 0)then
some (0,0,0,([]:LX),ap)
else
if((u==([]:LB)) !=(geq m 1))then
j14 a u m b f h o p n g ah ai k 26
else
if(geq m 1)then
j14 a u m b f h o p n g ah ai k 0
else
if(Cc (Ac a) g)then
j14 a u m b f h o p n g ah ai k 24
else
(Bw a n g).bind λaz=>
(Vw az u).bind λ(ba,bd)=>
if(!ba)then
j14 a u m b f h o p n g ah ai k 26
else
j14 a u m b f h o p n g ah ai k 0
def Kj:=UI Pr
def jH(b a f:Int):Option Int:=
if((((Cc b 1)||(Eu b 6))||(Cc f 1))||(Eu f 1048576))then
some 8
else
if(geq a 8)then
if(geq a 8)then
some 0
else
some 8
else
if(geq a 16)then
if(geq a 16)then
some 0
else
some 8
else
if(geq a 24)then
some 0
else
some 8
def mD(a b g:Int):Option (Bool×Int):=
(jH a b g).bind λf=>
if(Bm f 0)then
some (false,f)
else
some (((Eu a 2)||(Eu b 16)),0)
def tQ(a:Bool)(b:LB):Option (LB):=
if a then
(Bw ([(1:UInt8),(0:UInt8),(0:UInt8),(0:UInt8),(0:UInt8),(0:UInt8),(16:UInt8),(0:UInt8),(128:UInt8),(0:UInt8),(0:UInt8),(170:UInt8),(0:UInt8),(56:UInt8),(155:UInt8),(113:UInt8)]:LB) 0 16).bind λp=>
(Db b p).bind λu=>
some u
else
some b
def XM:=tQ
def VZ(j8:Bool->LB->Option (LB))(jy:Int->LB->Option (LB))(a:Bool)(g:Int)(f:LQ)(h:Int)(b:LB):Option (LB):=
if(Cc h g)then
(Aj f h).bind λ_=>
(Aj f h).bind λv=>
(Aj ([(2:Int),(2:Int),(4:Int),(4:Int),(2:Int),(2:Int),(2:Int),(2:Int),(4:Int)]:LI) h).bind λw=>
(Ln v w).bind λ(y,ac)=>
(Db b y).bind λaa=>
jy (Ae h 1) aa
else
j8 a b
def GN(a:Bool)(g:Int)(f:LQ):Nat->Int->LB->Option (LB)
|0,_,_=>none
|q+1,h,b=>VZ XM (GN a g f q) a g f h b
def WB a g f:=GN a g f Ar
def XP(j6:Bool->Int->LQ->Int->LB->Option (LB))(a:Bool)(g:Int)(f:LQ):Option (LB):=
j6 a g f 0 ([]:LB)
def YA:=XP WB
def WK(j5:Bool->Int->LQ->Option (LB))(m k n:Int)(a:Bool)(o:UInt64):Option (LB):=
if a then
(Aj ([(1:UInt64),(Ad m:UInt64),(Ad n:UInt64),(Bd (Ad n:UInt64) (Ad (Bz (Bd m k) 8):UInt64)),(Ad (Bz (Bd m k) 8):UInt64),(Ad k:UInt64),(22:UInt64),(Ad k:UInt64),o]:LQ) 0).bind λ_=>
(Je ([(1:UInt64),(Ad m:UInt64),(Ad n:UInt64),(Bd (Ad n:UInt64) (Ad (Bz (Bd m k) 8):UInt64)),(Ad (Bz (Bd m k) 8):UInt64),(Ad k:UInt64),(22:UInt64),(Ad k:UInt64),o]:LQ) 0 65534).bind λab=>
j5 a 9 ab
else
j5 a 6 ([(1:UInt64),(Ad m:UInt64),(Ad n:UInt64),(Bd (Ad n:UInt64) (Ad (Bz (Bd m k) 8):UInt64)),(Ad (Bz (Bd m k) 8):UInt64),(Ad k:UInt64),(22:UInt64),(Ad k:UInt64),o]:LQ)
def mK:=WK YA
def jI(a b f:Int):Option (LB×Int):=
(mD a b f).bind λ(h,g)=>
if(Bm g 0)then
some (([]:LB),g)
else
(Ik (Ll a 0)).bind λ_=>
(mK a b f h (Ah (Cw (1:UInt64) (GI.toZ a).toNat) 1)).bind λk=>
some (k,0)
abbrev Cs:=Option (LB×Int)
def vP(g:LB):Cs:=
some (g,0)
def cQ:=vP
def cM(Lk:Int->LB->Cs)(b:Int)(a:LX)(f:Int)(h:LB):Cs:=
Lk (Ae f 1) h
def LN Lk:=cM Lk
def Xz(j28:Int->LB->Cs)(Ad8:Int->LB->Cs)(b:Int)(a:LX)(k:Int32)(f m:Int)(h:LB):Cs:=
if(Cc m (Bz b 8))then
(Ik (Ll (Bd 8 m) 0)).bind λ_=>
(Db h ([(Ad (Bt k (GI.toZ (Bd 8 m)).toNat):UInt8)]:LB)).bind λp=>
Ad8 (Ae m 1) p
else
j28 f h
def Ib(Lk:Int->LB->Cs)(b:Int)(a:LX)(k:Int32)(f:Int):Nat->Int->LB->Cs
|0,_,_=>none
|q+1,m,h=>Xz (LN Lk b a) (Ib Lk b a k f q) b a k f m h
def ME Lk b a k f:=Ib Lk b a k f Ar
def KT(j26:Int32->Int->Int->LB->Cs)(b:Int)(a:LX)(f:Int)(g:LB)(k:Int32):Cs:=
j26 k f 0 g
def Km Lk b a:=KT (ME Lk b a) b a
def Yf(j25:Int->LB->Int32->Cs)(j30:LB->Cs)(b:Int)(a:LX)(f:Int)(g:LB):Cs:=
if(Cc f (Ac a))then
(Aj a f).bind λn=>
if(geq b 8)then
j25 f g (Ae n 128)
else
j25 f g n
else
j30 g
def Fq(b:Int)(a:LX):Nat->Int->LB->Cs
|0,_,_=>none
|q+1,f,g=>Yf (Km (Fq b a q) b a) cQ b a f g
def cJ b a:=Fq b a Ar
def QW(j16:Int->LX->Int->LB->Cs)(b:Int)(a:LX):Cs:=
(Un b a).bind λo=>
if(Bm o 0)then
some (([]:LB),o)
else
j16 b a 0 ([]:LB)
def KM:=QW cJ
def zG(a:LB):Option Bool:=
some (geq (Ac a) 4)
def iG:=zG
def gN(j6:LB->Option Bool)(Qh:Int->Option Bool)(a:LB)(b:Int):Option Bool:=
if(Cc b (Ac a))then
(Aj a b).bind λ_=>
(Aj a b).bind λf=>
if((Cc f 32)||(Eu f 126))then
some false
else
Qh (Ae b 1)
else
j6 a
def RF(a:LB):Nat->Int->Option Bool
|0,_=>none
|q+1,b=>gN iG (RF a q) a b
def fQ a:=RF a Ar
def iR(j4:LB->Int->Option Bool)(a:LB):Option Bool:=
j4 a 0
def eT:=iR fQ
def iy(a:Int):Option Int:=
some a
def pL:=iy
def pT(j6:Int->Option Int)(Qh:Int->Int->Option Int)(b:List (LB×LB×Unit))(a f:Int):Option Int:=
if(Cc f (Ac b))then
(Aj b f).bind λg=>
Qh (Ae a (Ae (Ae 8 (Ac g.2.1)) (Di (Ac g.2.1) 1))) (Ae f 1)
else
j6 a
def YW(b:List (LB×LB×Unit)):Nat->Int->Int->Option Int
|0,_,_=>none
|q+1,a,f=>pT pL (YW b q) b a f
def oT b:=YW b Ar
def pW(j4:(List (LB×LB×Unit))->Int->Int->Option Int)(b:List (LB×LB×Unit)):Option Int:=
j4 b 4 0
def WN:=pW oT
def ZP(a f:LB):Option Bool:=
(eT a).bind λb=>
some (!b)
def yJ:Option Int:=
some 0
def jN:=yJ
def gY(j36:Option Int)(k:Bool):Option Int:=
if k then
some 8
else
j36
def DX:=gY jN
def fN(j35:Bool->Option Int)(m:Bool):Option Int:=
j35 m
def QN:=fN DX
def gC(j26:Bool->Option Int):Option Int:=
j26 (Ll (-1:Int) (0:Int))
def jC:=gC QN
def C9(Aof:Int->Option Int)(a:List (LB×LB×Unit))(b:Int):Option Int:=
Aof (Ae b 1)
def fC Aof:=C9 Aof
def jM(j26:Bool->Option Int)(j23:Int->Option Int)(a:List (LB×LB×Unit))(b:Int)(g:Bool):Option Int:=
if g then
j26 (Ll b 0)
else
j23 b
def iZ Aof a:=jM QN (fC Aof a) a
def iM(j22:Int->Bool->Option Int)(j25:Option Int)(a:List (LB×LB×Unit))(b:Int):Option Int:=
if(Cc b (Ac a))then
(Aj a b).bind λo=>
(ZP o.1 o.2.1).bind λg=>
j22 b g
else
j25
def QA(a:List (LB×LB×Unit)):Nat->Int->Option Int
|0,_=>none
|q+1,b=>iM (iZ (QA a q) a) jC a b
def fX a:=QA a Ar
def fZ(j35:Bool->Option Int)(n:Bool):Option Int:=
j35 n
def PZ:=fZ DX
def fO(j34:Bool->Option Int):Option Int:=
j34 (Ll (-1:Int) (0:Int))
def iI:=fO PZ
def zH(MF:Int->Option Int)(a:List (LB×LB×Unit))(f:Int):Option Int:=
MF (Ae f 1)
def fD MF:=zH MF
def gA(j34:Bool->Option Int)(j31:Int->Option Int)(a:List (LB×LB×Unit))(f:Int)(h:Bool):Option Int:=
if h then
j34 (Ll f 0)
else
j31 f
def iP MF a:=gA PZ (fD MF a) a
def iN(j30:Int->Bool->Option Int)(j33:Option Int)(a:List (LB×LB×Unit))(f:Int):Option Int:=
if(Cc f (Ac a))then
(Aj a f).bind λp=>
(ZP p.1 p.2.1).bind λh=>
j30 f h
else
j33
def QB(a:List (LB×LB×Unit)):Nat->Int->Option Int
|0,_=>none
|q+1,f=>iN (iP (QB a q) a) iI a f
def gT a:=QB a Ar
def UF(j35:Bool->Option Int)(j19:(List (LB×LB×Unit))->Int->Option Int)(j27:(List (LB×LB×Unit))->Int->Option Int)(u:LB)(a:List (LB×LB×Unit)):Option Int:=
if(Eu (Ac a) 20)then
some 4
else
(eT u).bind λv=>
if(!v)then
if true then
j35 true
else
j19 a 0
else
(WN a).bind λw=>
if(Eu (Ae w 8) 100000)then
j35 true
else
j27 a 0
def GK:=UF DX fX gT
def jT(o id:LB)(n:Int):Option LB:=
(Ln (Ad n:UInt64) 4).bind λ(b,_)=>
(Db o id).bind λp=>
Db p b
def oR:List (LB×LB×Unit)->LB->Option LB
|[],o=>some o
|c::l,o=>
(jT o c.1 (Ac c.2.1)).bind λp=>
(Db p c.2.1).bind λu=>
(mkI (Di (Ac c.2.1) 1) (0:UInt8)).bind λz=>
(Db u z).bind λv=>
oR l v
def bC(a:LB)(b:List (LB×LB×Unit)):Option (LB×Int):=
(GK a b).bind λe=>
if(Bm e 0)then
some (([]:LB),e)
else
(WN b).bind λn=>
(jT [] [82,73,70,70] n).bind λf=>
(Db f a).bind λg=>
(oR b g).bind λh=>
some (h,0)
def P5(b a f:Int)(g:LX):Option (LB×Int):=
(Df b a f g).bind λh=>
if(Bm h 0)then
some (([]:LB),h)
else
(jI b a f).bind λ(k,p)=>
(KM a g).bind λ(m,u)=>
(bC ([87,65,86,69]:LB) ([(([102,109,116,32]:LB),k,()),(([100,97,116,97]:LB),m,())]:List (LB×LB×Unit))).bind λ(n,o)=>
some (n,o)
def K2(b f:LB):Option (LB×Int):=
(Kj b f).bind λ(g,h,k,m,a)=>
if(Bm a 0)then
some (([]:LB),a)
else
(P5 g h k m).bind λ(n,o)=>
some (n,o)
def Ql(a b:LB):Option Int:=
(Kj a b).bind λ(g,h,k,m,f)=>
some f
def Ci(b f:LB)(a:Int):Option Bool:=
(Kj b f).bind λ(o,p,u,g,h)=>
(K2 b f).bind λ(k,m)=>
(Ql b f).bind λn=>
some (((((geq n a)&&(geq h a))&&(geq m a))&&((geq a 0)==(Eu (Ac g) 0)))&&((geq a 0)==(Eu (Ac k) 0)))
def Gw:Option Bool:=
(Nl [120]).bind λb=>
if(Cc (Ac b) 40)then
some false
else
(Db [] b).bind λf=>
(Aj f (Ah (Ac f) 6)).bind λg=>
(Je f (Ah (Ac f) 6) (Rk g 1)).bind λh=>
(Ci b [120] 0).bind λk=>
if(!k)then
some false
else
(Ci b [] 26).bind λm=>
if(!m)then
some false
else
(Ci b [121] 26).bind λn=>
if(!n)then
some false
else
(Db b [0]).bind λo=>
(Ci o [120] 38).bind λp=>
if(!p)then
some false
else
(Bw b 0 (Ah (Ac b) 1)).bind λu=>
(Ci u [120] 24).bind λv=>
if(!v)then
some false
else
Ci h [120] 22
def Ym(b f g:Int)(a:LX):Option Bool:=
some (((Eu (Ac a) 300)&&(yj (Ac a) 4000))||(Eu (Ac a) 4010))
def Gq(a b f:Int)(g:LX):Option (Int×Int):=
some (a,b)
def Ht(a:Int):Option Int:=
if(geq a 8)then
some 128
else
if(geq a 16)then
some 32768
else
if(geq a 24)then
some 8388608
else
some 0
def Cq(a b:Int):Option Int:=
if((Cc a 1)||(Eu a 6))then
some 2
else
(Ht b).bind λf=>
if(geq f 0)then
some 2
else
some 0
def dI:Option Int:=
some 0
def ER:=dI
def Ca(j6:Option Int)(Qh:Int->Option Int)(a:LX)(b f:Int):Option Int:=
if(Cc f (Ac a))then
(Aj a f).bind λg=>
if(Cc (Ad g:Int) (oU b))then
some 16
else
(Aj a f).bind λh=>
if(Ll (Ad h:Int) b)then
some 16
else
Qh (Ae f 1)
else
j6
def Ax(a:LX)(b:Int):Nat->Int->Option Int
|0,_=>none
|q+1,f=>Ca ER (Ax a b q) a b f
def FT a b:=Ax a b Ar
def Cr(j4:LX->Int->Int->Option Int)(k:Int)(a:LX):Option Int:=
(Ht k).bind λb=>
if(geq b 0)then
some 2
else
if(Eu (Ac a) 4000)then
some 4
else
j4 a b 0
def Ao:=Cr FT
def Bu(b f:Int)(a:LX):Option Int:=
(Cq b f).bind λg=>
if(Bm g 0)then
some 2
else
(Ao f a).bind λh=>
if(Bm h 0)then
(Ao f a).bind λk=>
some k
else
if(Cc (Ac a) 1)then
some 2
else
(Ik (Bm b 0)).bind λ_=>
if(Eu (Gc (Ac a) b) 0)then
some 2
else
some 0
def Dy(a f b:Int):Option Int:=
(Cq a f).bind λg=>
if((Bm g 0)||(Cc b 1))then
some 2
else
(Ik (Bm a 0)).bind λ_=>
if(Eu b (Bz 4000 a))then
some 2
else
some 0
def Nq(a:Int):Option (Int×Int):=
if((Cc a 1)||(Eu a 1048576))then
some (0,2)
else
if(geq (Bz (Bd a 256) 245) 0)then
some (1,0)
else
some ((Bz (Bd a 256) 245),0)
abbrev Gv:=Option (LI×Int)
def MY(a:LI):Gv:=
if(Eu (Ac a) 1000)then
some (([]:LI),4)
else
some (a,0)
def Wn:=MY
def Oy(j6:LI->Gv)(Qh:Int->LI->Gv)(b f:Int)(a:LI):Gv:=
if(Eu f 0)then
(Db a ([(Du f b)]:LI)).bind λh=>
Qh (Ah f (Du f b)) h
else
j6 a
def Hx(b:Int):Nat->Int->LI->Gv
|0,_,_=>none
|q+1,f,a=>Oy Wn (Hx b q) b f a
def Ws b:=Hx b Ar
def Oz(j4:Int->Int->LI->Gv)(k g:Int):Gv:=
(Nq k).bind λ(b,m)=>
if(((Bm m 0)||(Cc g 1))||(Eu g 4000))then
some (([]:LI),2)
else
j4 b g ([]:LI)
def Vx:=Oz Ws
def Iy(a b:Int):Option (Int×Int):=
(Vx a b).bind λ(f,g)=>
some ((Ac f),g)
def EL(f g a:Int)(h:LX)(b:Int):Option Bool:=
(Gq f g a h).bind λ(k,m)=>
(Dy k m b).bind λn=>
if(Bm n 0)then
some false
else
(Iy a b).bind λ(p,o)=>
some (geq o 0)
def Cj(a f g:Int)(b:LX):Option Int:=
(Gq a f g b).bind λ(h,k)=>
(Bu h k b).bind λm=>
if(Bm m 0)then
some 8
else
(Ik (Bm a 0)).bind λ_=>
(EL a f g b (Bz (Ac b) a)).bind λn=>
if(!n)then
some 8
else
some 0
abbrev Dg:=Option (Int×Int×Int×Int×Int×Int)
def cP(a:LB)(k m n o p f g b aa y:Int)(h:LI):Dg:=
if(Cc (Ac a) y)then
some (0,0,0,0,0,24)
else
some (f,g,b,aa,y,0)
def LD:=cP
def Xy(j12:LB->Int->Int->Int->Int->Int->Int->Int->Int->Int->Int->LI->Dg)(a:LB)(k m n o p f g b:Int)(h:LI)(ae aa y:Int):Dg:=
if(Bm ae 0)then
some (0,0,0,0,0,ae)
else
j12 a k m n o p f g b aa y h
def Kf:=Xy LD
def KW(j11:LB->Int->Int->Int->Int->Int->Int->Int->Int->LI->Int->Int->Int->Dg)(a:LB)(u:LI)(k m n o p f g b v:Int)(h:LI):Dg:=
j11 a k m n o p f g b h 0 (Ae (Ae b (Bd 4 (Ac u))) 4) v
def Yg:=KW Kf
def BA(j10:LB->LI->Int->Int->Int->Int->Int->Int->Int->Int->Int->LI->Dg)(bk8:Int->Int->Dg)(u:LI)(a:LB)(k m n o p f g b:Int)(h:LI)(w v:Int):Dg:=
if(Cc w (Ac u))then
(Aj u w).bind λ_=>
(Aj u w).bind λag=>
bk8 (Ae w 1) (Ae v ag)
else
j10 a u k m n o p f g b v h
def Pf(u:LI)(a:LB)(k m n o p f g b:Int)(h:LI):Nat->Int->Int->Dg
|0,_,_=>none
|q+1,w,v=>BA Yg (Pf u a k m n o p f g b h q) u a k m n o p f g b h w v
def QL u a k m n o p f g b h:=Pf u a k m n o p f g b h Ar
def RL(j11:LB->Int->Int->Int->Int->Int->Int->Int->Int->LI->Int->Int->Int->Dg)(j8:LI->LB->Int->Int->Int->Int->Int->Int->Int->Int->LI->Int->Int->Dg)(ab:Int)(a:LB)(k m n o p f g b ac ad:Int)(u h:LI):Dg:=
if(Bm ab 0)then
j11 a k m n o p f g b h ab ac ad
else
j8 u a k m n o p f g b h 0 (Ae (Ae b (Bd 4 (Ac u))) 4)
def SF:=RL Kf QL
def BR(j11:LB->Int->Int->Int->Int->Int->Int->Int->Int->LI->Int->Int->Int->Dg)(j7:Int->LB->Int->Int->Int->Int->Int->Int->Int->Int->Int->Int->LI->LI->Dg)(a:LB):Dg:=
(Ng a).bind λ(k,m,n,o,p,f,g,b,ac,ad,h,af)=>
if(Bm af 0)then
some (0,0,0,0,0,af)
else
if(Cc (Ac a) b)then
j11 a k m n o p f g b h 24 ac ad
else
(Bw a b (Ac a)).bind λah=>
(GV ah (Ac h)).bind λ(u,ab)=>
j7 ab a k m n o p f g b ac ad u h
def Vk:=BR Kf SF
def Xs(b:LB)(f:Int)(a:Bool)(g h k:Int)(m:LX):Option Bool:=
(KL g h k m b).bind λ(n,p)=>
if(Bm p 0)then
some false
else
if((Cc f 0)||(Ll f (Ac n)))then
some a
else
(Bw n 0 f).bind λu=>
(Vk u).bind λ(ab,ac,ad,ae,af,o)=>
if a then
(Bw n 0 f).bind λv=>
(Ql v b).bind λw=>
some ((geq w 24)&&(geq o 24))
else
some (false&&(geq o 24))
def Ny:=Xs
def Nv(j2:LB->Int->Bool->Int->Int->Int->LX->Option Bool)(g h k:Int)(m:LX)(b:LB)(f:Int):Option Bool:=
(Gw).bind λa=>
(Ym g h k m).bind λy=>
if y then
if((true||(Eu (Ac b) 64))||(!a))then
some a
else
j2 b f a g h k m
else
(Cj g h k m).bind λaa=>
if(((Bm aa 0)||(Eu (Ac b) 64))||(!a))then
some a
else
j2 b f a g h k m
def Tk:=Nv Ny
def uW(a:LB):Option (LB):=
(
(Db ([]:LB) a).bind λb=>
some b)
def iL(a:LI):Option (LI):=
(
(Db ([]:LI) a).bind λb=>
some b)
def U5(a b:LB)(f g h k m:Int)(n:LI)(o:Int)(p:LB)(u:Bool)(v:Int):Option (LB×LB×Int×Int×Int×Int×Int×LI×Int×LB×Bool×Int):=
(uW b).bind λw=>
(uW p).bind λy=>
(iL n).bind λaa=>
some (a,w,f,g,h,k,m,aa,o,y,u,v)
def Ww(f g b a h:Int):Option Bool:=
if((((geq f 1)||(geq f 2))&&(Ll g 1))&&(yj g 6))then
some ((((((geq b 8)||(geq b 16))||(geq b 24))&&(Ll a 1))&&(yj a 1048576))&&(Ll h 1))
else
some (((false&&(Ll a 1))&&(yj a 1048576))&&(Ll h 1))
def Tx(a:Int):Option Int:=
some (lC 1 (Bz (Bd 256 a) 245))
def Mn(a:LI):Option (LI):=
some a
def Mr:=Mn
def Ir(j6:LI->Option (LI))(Qh:Int->LI->Option (LI))(b f:Int)(a:LI):Option (LI):=
if(Eu f 0)then
(Tx b).bind λg=>
(Db a ([(Du f g)]:LI)).bind λh=>
(Tx b).bind λk=>
Qh (Ah f k) h
else
j6 a
def Em(b:Int):Nat->Int->LI->Option (LI)
|0,_,_=>none
|q+1,f,a=>Ir Mr (Em b q) b f a
def EP b:=Em b Ar
def FE(j4:Int->Int->LI->Option (LI))(b m:Int):Option (LI):=
j4 b m ([]:LI)
def Dx:=FE EP
def DZ(h a k f b:Int):Option Bool:=
(
(Ik (Bm a 0)).bind λ_=>
(
if(Eu b (Bz 4000 a))then
some true
else
(Dx f b).bind λg=>
some (Eu (Ac g) 1000)))
def nI(a f g h k:Int)(b:LB):Option Int:=
if((b==([]:LB)) !=(geq a 1))then
some 26
else
some 0
def DY(b:Int):Option Int:=
if(Eu b 100000)then
some 8
else
some 0
def DL:=DY
def FG(jy:Int->Int->Option Int)(a:LI)(b f:Int):Option Int:=
(Aj a f).bind λg=>
jy (Ae b g) (Ae f 1)
def FK jy:=FG jy
def Tm(j8:Int->Int->Option Int)(j10:Int->Option Int)(a:LI)(b f:Int):Option Int:=
if(Cc f (Ac a))then
(Aj a f).bind λh=>
if(Cc h 5)then
some 8
else
(Aj a f).bind λk=>
if(Eu k 100000)then
some 8
else
j8 b f
else
j10 b
def Iu(a:LI):Nat->Int->Int->Option Int
|0,_,_=>none
|q+1,b,f=>Tm (FK (Iu a q) a) DL a b f
def FQ a:=Iu a Ar
def Sp(j6:LI->Int->Int->Option Int)(a:LI):Option Int:=
if((Cc (Ac a) 1)||(Eu (Ac a) 1000))then
some 8
else
j6 a 0 0
def Iw:=Sp FQ
def JL(g h k a b:Int):Option (LI):=
(Dx a b).bind λf=>
some f
def nS(f a b g h:Int):Option (Int×Int):=
some (a,b)
abbrev Ff:=Option (Int×Int)
def dC(a:Int):Ff:=
some (a,0)
def dP:=dC
def Tl(j6:Int->Ff)(Qh:Int->Int->Ff)(b:LB)(a f:Int):Ff:=
if(Cc f 4)then
(Aj b f).bind λg=>
if(Ll g 128)then
some (0,12)
else
(Aj b f).bind λh=>
Qh (Ae (Bd 128 a) (Ad h:Int)) (Ae f 1)
else
j6 a
def It(b:LB):Nat->Int->Int->Ff
|0,_,_=>none
|q+1,a,f=>Tl dP (It b q) b a f
def EZ b:=It b Ar
def FO(j4:LB->Int->Int->Ff)(b:LB):Ff:=
if(Bm (Ac b) 4)then
some (0,2)
else
j4 b 0 0
def Za:=FO EZ
abbrev Ge:=Option (Int×Int)
def JR(a:LB)(g:Int):Ge:=
if(Eu g 4000)then
some (0,4)
else
if(Cc (Ac a) g)then
some (0,24)
else
(Aj a 5).bind λh=>
if(geq h 16)then
(Bw a (Ah g 10) g).bind λk=>
(Bw a 3 10).bind λm=>
(Db ([51,68,73]:LB) m).bind λn=>
if(k !=n)then
some (0,12)
else
some (g,0)
else
some (g,0)
def Uc:=JR
def IL(j6:LB->Int->Ge)(a:LB)(b:Int):Ge:=
(Aj a 5).bind λo=>
if(geq o 16)then
j6 a (Ae (Ae 10 b) 10)
else
j6 a (Ae 10 b)
def Uh:=IL Uc
def JC(j5:LB->Int->Ge)(a:LB):Ge:=
if(Cc (Ac a) 10)then
some (0,24)
else
(Bw a 6 10).bind λp=>
(Za p).bind λ(b,f)=>
(Aj a 3).bind λu=>
if(Cc u 2)then
if true then
if true then
if(true||(Bm f 0))then
some (0,12)
else
j5 a b
else
(Aj a 5).bind λv=>
if(Bm v 0)then
(Aj a 5).bind λw=>
if(Bm w 16)then
if(true||(Bm f 0))then
some (0,12)
else
j5 a b
else
(Aj a 3).bind λy=>
if((Bm y 4)||(Bm f 0))then
some (0,12)
else
j5 a b
else
if(false||(Bm f 0))then
some (0,12)
else
j5 a b
else
(Aj a 4).bind λaa=>
if(Bm aa 0)then
if(true||(Bm f 0))then
some (0,12)
else
j5 a b
else
(Aj a 5).bind λab=>
if(Bm ab 0)then
(Aj a 5).bind λac=>
if(Bm ac 16)then
if(true||(Bm f 0))then
some (0,12)
else
j5 a b
else
(Aj a 3).bind λad=>
if((Bm ad 4)||(Bm f 0))then
some (0,12)
else
j5 a b
else
if(false||(Bm f 0))then
some (0,12)
else
j5 a b
else
(Aj a 3).bind λae=>
if(Eu ae 4)then
if true then
if(true||(Bm f 0))then
some (0,12)
else
j5 a b
else
(Aj a 5).bind λaf=>
if(Bm af 0)then
(Aj a 5).bind λag=>
if(Bm ag 16)then
if(true||(Bm f 0))then
some (0,12)
else
j5 a b
else
(Aj a 3).bind λah=>
if((Bm ah 4)||(Bm f 0))then
some (0,12)
else
j5 a b
else
if(false||(Bm f 0))then
some (0,12)
else
j5 a b
else
(Aj a 4).bind λai=>
if(Bm ai 0)then
if(true||(Bm f 0))then
some (0,12)
else
j5 a b
else
(Aj a 5).bind λaj=>
if(Bm aj 0)then
(Aj a 5).bind λak=>
if(Bm ak 16)then
if(true||(Bm f 0))then
some (0,12)
else
j5 a b
else
(Aj a 3).bind λal=>
if((Bm al 4)||(Bm f 0))then
some (0,12)
else
j5 a b
else
if(false||(Bm f 0))then
some (0,12)
else
j5 a b
def KQ:=JC Uh
def IU(j4:LB->Ge)(a:LB):Ge:=
if(Cc (Ac a) 3)then
some (0,6)
else
(Bw a 0 3).bind λam=>
if(am !=([73,68,51]:LB))then
some (0,6)
else
j4 a
def BT:=IU KQ
def OM(a:UInt64):Option UInt64:=
some a
def QT:=OM
def Zg(j6:UInt64->Option UInt64)(Qh:UInt64->Int->Option UInt64)(b:LB)(a:UInt64)(f:Int):Option UInt64:=
if(Ll f 0)then
(Aj b f).bind λg=>
Qh (Ae (Bd 256 a) (Ad g:UInt64)) (Ah f 1)
else
j6 a
def Me(b:LB):Nat->UInt64->Int->Option UInt64
|0,_,_=>none
|q+1,a,f=>Zg QT (Me b q) b a f
def PT b:=Me b Ar
def PO(j4:LB->UInt64->Int->Option UInt64)(b:LB):Option UInt64:=
j4 b 0 (Ah (Ac b) 1)
def Cz:=PO PT
def Ts(b:LB):Option (Int×Int×Bool):=
(Bw b 12 16).bind λg=>
(Cz g).bind λa=>
(Bw b 16 20).bind λh=>
(Cz h).bind λf=>
if(((Cc a 32)||(Eu a 3032))||(Eu f 1000))then
some (0,0,false)
else
some ((Ah (Ad a:Int) 32),(Ad f:Int),true)
def Zy(a:LB):Option (LB):=
some a
def Zl:=Zy
def Qc(j6:LB->Option (LB))(Qh:UInt64->Int->LB->Option (LB))(b:Int)(f:UInt64)(g:Int)(a:LB):Option (LB):=
if(Cc g b)then
(Db a ([(Ad (AR f 256):UInt8)]:LB)).bind λh=>
Qh (Bz f 256) (Ae g 1) h
else
j6 a
def Gx(b:Int):Nat->UInt64->Int->LB->Option (LB)
|0,_,_,_=>none
|q+1,f,g,a=>Qc Zl (Gx b q) b f g a
def Zx b:=Gx b Ar
def AG(j4:Int->UInt64->Int->LB->Option (LB))(k:UInt64)(b:Int):Option (LB):=
j4 b k 0 ([]:LB)
def Dt:=AG Zx
def Pw(a b:Int)(f:UInt64):Option (LB):=
(Dt 2000 4).bind λg=>
(Db ([(65:UInt8),(80:UInt8),(69:UInt8),(84:UInt8),(65:UInt8),(71:UInt8),(69:UInt8),(88:UInt8)]:LB) g).bind λh=>
(Dt (Ad (Ae a 32):UInt64) 4).bind λk=>
(Db h k).bind λm=>
(Dt (Ad b:UInt64) 4).bind λn=>
(Db m n).bind λo=>
(Dt f 4).bind λp=>
(Db o p).bind λu=>
(mkI (8:Int) (0:UInt8)).bind λv=>
(Db u v).bind λw=>
some w
def Tv(a b:Int):Option (LB):=
(Pw a b 2684354560).bind λf=>
some f
def Jz(a b:Int)(f:Bool):Option (LB):=
if f then
(Pw a b 2147483648).bind λg=>
some g
else
(Pw a b 0).bind λh=>
some h
abbrev Jn:=Option (Int×Int)
def FJ(a:LB)(b f:Int):Jn:=
if(Cc (Ac a) (Ae 64 b))then
some (0,24)
else
(Bw a (Ah (Ae 64 b) 32) (Ae 64 b)).bind λg=>
(Jz b f true).bind λh=>
if(g !=h)then
some (0,12)
else
some ((Ae 64 b),0)
def FX:=FJ
def FB(j4:LB->Int->Int->Jn)(a:LB):Jn:=
if(Cc (Ac a) 32)then
some (0,24)
else
(Bw a 0 32).bind λk=>
(Ts k).bind λ(b,f,m)=>
if(!m)then
some (0,12)
else
(Bw a 0 32).bind λn=>
(Tv b f).bind λo=>
if(n !=o)then
some (0,12)
else
j4 a b f
def FI:=FB FX
def EU(j3:LB->Jn)(a:LB):Jn:=
if(Cc (Ac a) 8)then
some (0,6)
else
(Bw a 0 8).bind λp=>
if(p !=([65,80,69,84,65,71,69,88]:LB))then
some (0,6)
else
j3 a
def Yx:=EU FI
abbrev Fh:=Option (LI×Int)
def FH(jy:Int->LI->Fh)(a:LB)(b:Int)(f:LI)(g h:Int):Fh:=
if(geq h 6)then
some (f,0)
else
if(Bm h 0)then
some (([]:LI),h)
else
if(Eu (Ae b g) 4000)then
some (([]:LI),4)
else
(Db f ([g]:LI)).bind λm=>
jy (Ae b g) m
def Mq jy:=FH jy
def To(j9:Int->LI->Int->Int->Fh)(a:LB)(b:Int)(f:LI):Fh:=
(Bw a b (Ac a)).bind λn=>
(BT n).bind λ(o,k)=>
if(geq k 6)then
(Bw a b (Ac a)).bind λp=>
(Yx p).bind λ(u,v)=>
j9 b f u v
else
j9 b f o k
def Mk(a:LB):Nat->Int->LI->Fh
|0,_,_=>none
|q+1,b,f=>To (Mq (Mk a q) a) a b f
def dR a:=Mk a Ar
def cV(j6:LB->Int->LI->Fh)(a:LB):Fh:=
j6 a 0 ([]:LI)
def OU:=cV dR
abbrev Fm:=Option (Int×Int)
def ES(a b:Int):Fm:=
some (b,a)
def FW:=ES
def So(j6:Int->Int->Fm)(Qh:Int->Int->Fm)(a:Int)(f:LI)(b g:Int):Fm:=
if(Cc g (Ac f))then
(Aj f g).bind λ_=>
(Aj f g).bind λh=>
Qh (Ae b h) (Ae g 1)
else
j6 a b
def Im(a:Int)(f:LI):Nat->Int->Int->Fm
|0,_,_=>none
|q+1,b,g=>So FW (Im a f q) a f b g
def Sy a f:=Im a f Ar
def FF(j4:Int->LI->Int->Int->Fm)(k:LB):Fm:=
(OU k).bind λ(f,a)=>
j4 a f 0 0
def Mh:=FF Sy
def Ou(a b:LB):Option Bool:=
if(Cc (Ac a) (Ac b))then
(Bw b 0 (Ac a)).bind λf=>
some (a==f)
else
some false
def JO(a:UInt32)(b:Bool):Option UInt32:=
if b then
some (Rk (Bz a 2) 3988292384)
else
some (Bz a 2)
def IP:=JO
def IB(j2:UInt32->Bool->Option UInt32)(a:UInt32)(f:Int):Option UInt32:=
if(geq f 1)then
j2 a (!(geq (AR a 2) 1))
else
j2 a (geq (AR a 2) 1)
def DP:=IB IP
def KB(a:UInt32):Option UInt32:=
some a
def KS:=KB
def Va(j6:UInt32->Option UInt32)(Qh:UInt32->UInt8->Int->Option UInt32)(a:UInt32)(b:UInt8)(f:Int):Option UInt32:=
if(Cc f 8)then
(DP a (Ad (AR b 2):Int)).bind λg=>
Qh g (Bz b 2) (Ae f 1)
else
j6 a
def Jl:Nat->UInt32->UInt8->Int->Option UInt32
|0,_,_,_=>none
|q+1,a,b,f=>Va KS (Jl q) a b f
def fA:=Jl Ar
def jD(j4:UInt32->UInt8->Int->Option UInt32)(h:UInt32)(k:UInt8):Option UInt32:=
j4 h k 0
def TQ:=jD fA
def CT(a:UInt32):Option UInt32:=
some a
def EI:=CT
def Qt(j6:UInt32->Option UInt32)(Qh:UInt32->Int->Option UInt32)(b:LB)(a:UInt32)(f:Int):Option UInt32:=
if(Cc f (Ac b))then
(Aj b f).bind λg=>
(TQ a g).bind λh=>
Qh h (Ae f 1)
else
j6 a
def Hn(b:LB):Nat->UInt32->Int->Option UInt32
|0,_,_=>none
|q+1,a,f=>Qt EI (Hn b q) b a f
def DH b:=Hn b Ar
def CI(j4:LB->UInt32->Int->Option UInt32)(k:UInt32)(b:LB):Option UInt32:=
j4 b k 0
def MI:=CI DH
def Rw(a:LB):Option UInt32:=
(MI 4294967295 a).bind λb=>
some (Ah 4294967295 b)
abbrev Gd:=Option (Int×Int×Int×Int×Int×Int)
def JJ(k h g f b:UInt64):Gd:=
(Ww (Ad k:Int) (Ad h:Int) (Ad g:Int) (Ad f:Int) (Ad b:Int)).bind λv=>
if(!v)then
some (0,0,0,0,0,12)
else
(DZ (Ad k:Int) (Ad h:Int) (Ad g:Int) (Ad f:Int) (Ad b:Int)).bind λw=>
if w then
some (0,0,0,0,0,4)
else
some ((Ad k:Int),(Ad h:Int),(Ad g:Int),(Ad f:Int),(Ad b:Int),0)
def JW:=JJ
def JK(j6:UInt64->UInt64->UInt64->UInt64->UInt64->Gd)(a:LB):Gd:=
(Bw a 4 6).bind λu=>
(Bw a 6 8).bind λp=>
(Bw a 8 10).bind λo=>
(Bw a 10 14).bind λn=>
(Bw a 14 18).bind λm=>
(
(Cz u).bind λk=>
(
(Cz p).bind λh=>
(
(Cz o).bind λg=>
(
(Cz n).bind λf=>
(
(Cz m).bind λb=>
(
j6 k h g f b))))))
def KE:=JK JW
def JB(j5:LB->Gd)(a:LB):Gd:=
if(Cc (Ac a) 22)then
some (0,0,0,0,0,24)
else
(Bw a 18 22).bind λy=>
(Bw a 0 18).bind λaa=>
(Cz y).bind λab=>
(Rw aa).bind λac=>
if(Bm ab (Ad ac:UInt64))then
some (0,0,0,0,0,22)
else
j5 a
def KA:=JB KE
def IX(j4:LB->Gd)(a:LB):Gd:=
(Bw a 0 (Du 4 (Ac a))).bind λad=>
(Bw ([84,84,65,49]:LB) 0 (Du 4 (Ac a))).bind λae=>
if(ad !=ae)then
some (0,0,0,0,0,12)
else
j4 a
def Nr:=IX KA
abbrev Qr:=Option (Int×Int×Int×Int×Int×Int×Int)
def Zu(b:Int)(a:LB):Qr:=
(Nr a).bind λ(k,m,n,o,p,h)=>
if(geq h 24)then
some (0,0,0,0,0,0,(-1:Int))
else
some ((Ae b 22),k,m,n,o,p,h)
def Zj:=Zu
def Zm(j2:Int->LB->Qr)(f:LB):Qr:=
(Mh f).bind λ(b,g)=>
if(geq g 24)then
some (0,0,0,0,0,0,(-1:Int))
else
if(Bm g 0)then
some (0,0,0,0,0,0,g)
else
(Bw f b (Ac f)).bind λa=>
(Ou a ([73,68,51]:LB)).bind λu=>
if u then
some (0,0,0,0,0,0,(-1:Int))
else
(Ou a ([65,80,69,84,65,71,69,88]:LB)).bind λv=>
if v then
some (0,0,0,0,0,0,(-1:Int))
else
j2 b a
def Uu:=Zm Zj
def KD(a:UInt64)(b:Bool):Option UInt64:=
if b then
some (Rk (Bd a 2) 4823603603198064275)
else
some (Bd a 2)
def Ud:=KD
def JG(j2:UInt64->Bool->Option UInt64)(a:UInt64)(f:Int):Option UInt64:=
if(geq f 1)then
j2 a (!(Ll a 9223372036854775808))
else
j2 a (Ll a 9223372036854775808)
def DQ:=JG Ud
def KJ(a:UInt64):Option UInt64:=
some a
def ID:=KJ
def Vl(j6:UInt64->Option UInt64)(Qh:UInt64->Int->Option UInt64)(b:UInt8)(a:UInt64)(f:Int):Option UInt64:=
if(Eu f 0)then
(Ik (Bm f 0)).bind λ_=>
(DQ a (Gc (Bz (Ad b:Int) f) 2)).bind λg=>
Qh g (Bz f 2)
else
j6 a
def Jm(b:UInt8):Nat->UInt64->Int->Option UInt64
|0,_,_=>none
|q+1,a,f=>Vl ID (Jm b q) b a f
def eQ b:=Jm b Ar
def fJ(j4:UInt8->UInt64->Int->Option UInt64)(h:UInt64)(b:UInt8):Option UInt64:=
j4 b h 128
def SQ:=fJ eQ
def DG(a:UInt64):Option UInt64:=
some a
def DE:=DG
def Ra(j6:UInt64->Option UInt64)(Qh:UInt64->Int->Option UInt64)(b:LB)(a:UInt64)(f:Int):Option UInt64:=
if(Cc f (Ac b))then
(Aj b f).bind λg=>
(SQ a g).bind λh=>
Qh h (Ae f 1)
else
j6 a
def Hm(b:LB):Nat->UInt64->Int->Option UInt64
|0,_,_=>none
|q+1,a,f=>Ra DE (Hm b q) b a f
def ZZ b:=Hm b Ar
def YS(j4:LB->UInt64->Int->Option UInt64)(k:UInt64)(b:LB):Option UInt64:=
j4 b k 0
def Wi:=YS ZZ
def TJ(a:LB):Option UInt64:=
(Wi 0 a).bind λb=>
some b
def Jp(a:LB):Option (LB):=
(TJ a).bind λb=>
(Dt b 8).bind λf=>
some f
abbrev Dl:=Option (LI×Int)
def JS(f:LI):Dl:=
(Iw f).bind λh=>
if(Bm h 0)then
some (([]:LI),12)
else
some (f,0)
def Ur:=JS
def Uk(j8:LI->Dl)(jy:Int->LI->Dl)(b:LB)(a g:Int)(f:LI):Dl:=
if(Cc g a)then
(Bw b (Bd 4 g) (Ae (Bd 4 g) 4)).bind λk=>
(Cz k).bind λm=>
(Db f ([(Ad m:Int)]:LI)).bind λn=>
jy (Ae g 1) n
else
j8 f
def Jk(b:LB)(a:Int):Nat->Int->LI->Dl
|0,_,_=>none
|q+1,g,f=>Uk Ur (Jk b a q) b a g f
def KG b a:=Jk b a Ar
def IF(j6:LB->Int->Int->LI->Dl)(b:LB)(a:Int):Dl:=
j6 b a 0 ([]:LI)
def JA:=IF KG
def IG(j5:LB->Int->Dl)(b:LB)(a:Int):Dl:=
if((Cc a 1)||(Eu a 1000))then
some (([]:LI),2)
else
if(Cc (Ac b) (Ae (Bd 4 a) 4))then
some (([]:LI),24)
else
(Bw b (Bd 4 a) (Ae (Bd 4 a) 4)).bind λo=>
(Bw b 0 (Bd 4 a)).bind λp=>
(Cz o).bind λu=>
(Rw p).bind λv=>
if(Bm u (Ad v:UInt64))then
some (([]:LI),22)
else
j5 b a
def Ns:=IG JA
abbrev Iv:=Option (Int×LI×Int)
def aW(b g:Int)(h:LI):Iv:=
if(geq g 24)then
some (0,([]:LI),(-1:Int))
else
some ((Ae (Ae b (Bd 4 (Ac h))) 4),h,g)
def aD:=aW
def bM(j4:Int->Int->LI->Iv)(a:LB)(f k m n o b:Int):Iv:=
(Bw a b (Ac a)).bind λp=>
(JL f k m n o).bind λu=>
(Ns p (Ac u)).bind λ(h,g)=>
j4 b g h
def aJ:=bM aD
def aZ(j3:LB->Int->Int->Int->Int->Int->Int->Iv)(a:LB)(f k m n o:Int)(v:LB):Iv:=
if(geq f 2)then
if(Cc (Ac a) 8)then
some (0,([]:LI),(-1:Int))
else
(Bw a 0 8).bind λw=>
(Jp v).bind λy=>
if(w !=y)then
some (0,([]:LI),26)
else
j3 a f k m n o 8
else
j3 a f k m n o 0
def lF:=aZ aJ
def TI(b:UInt64)(a:LB):Option (UInt64×Int):=
if(Eu (Ac a) 100000)then
some (0,4)
else
(Wi b a).bind λf=>
some (f,0)
def XN(a:LB):Option (UInt64×Int):=
(TI 0 a).bind λ(b,f)=>
some (b,f)
def lG(a:LX):Option (LX):=
some a
def lA:=lG
def QS(jy:UInt64->Int->LX->Option (LX))(b:UInt64)(f:Int)(a:LX)(g:Int32):Option (LX):=
(Aj a f).bind λ_=>
(Je a f g).bind λh=>
jy (Bz b 256) (Ae f 1) h
def Yy jy:=QS jy
def Yr(j8:UInt64->Int->LX->Int32->Option (LX))(j10:LX->Option (LX))(b:UInt64)(f:Int)(a:LX):Option (LX):=
if(Cc f 8)then
if(Eu (Ad (AR b 256):Int32) 127)then
j8 b f a (Ah (Ad (AR b 256):Int32) 256)
else
j8 b f a (Ad (AR b 256):Int32)
else
j10 a
def Jg:Nat->UInt64->Int->LX->Option (LX)
|0,_,_,_=>none
|q+1,b,f,a=>Yr (Yy (Jg q)) lA b f a
def mU:=Jg Ar
def nY(j6:UInt64->Int->LX->Option (LX))(k:UInt64):Option (LX):=
j6 k 0 (List.replicate 16 (0:Int32))
def cF:=nY mU
def Ju(a:LB):Option (LX×Int):=
if(Eu (Ac a) 64)then
some (([(0:Int32),(0:Int32),(0:Int32),(0:Int32),(0:Int32),(0:Int32),(0:Int32),(0:Int32),(0:Int32),(0:Int32),(0:Int32),(0:Int32),(0:Int32),(0:Int32),(0:Int32),(0:Int32)]:LX),2)
else
(XN a).bind λ(b,g)=>
(cF b).bind λf=>
some (f,0)
def Wl(b:LB):Option (LB):=
(Rw b).bind λa=>
(Db ([]:LB) b).bind λf=>
(Db f ([(Ad a:UInt8),(Ad (Bt a (GI.toZ (8:UInt64)).toNat):UInt8),(Ad (Bt a (GI.toZ (16:UInt64)).toNat):UInt8),(Ad (Bt a (GI.toZ (24:UInt64)).toNat):UInt8)]:LB)).bind λg=>
some g
def Oq(a:LB):Option Int:=
if(Cc (Ac a) 5)then
some 24
else
if(Eu (Ac a) 41254)then
some 4
else
(Bw a 0 (Ah (Ac a) 4)).bind λb=>
(Wl b).bind λf=>
if(f !=a)then
some 22
else
some 0
def Lu:Option (Int×Int×UInt64×UInt64):=
some (10,10,16384,16384)
def dH(a:UInt64):Option UInt64:=
some a
def cU:=dH
def Tn(j6:UInt64->Option UInt64)(Qh:UInt64->Int->Option UInt64)(b:Int)(a:UInt64)(f:Int):Option UInt64:=
if(Cc f b)then
Qh (Bd a 2) (Ae f 1)
else
j6 a
def Ij(b:Int):Nat->UInt64->Int->Option UInt64
|0,_,_=>none
|q+1,a,f=>Tn cU (Ij b q) b a f
def dE b:=Ij b Ar
def cR(j4:Int->UInt64->Int->Option UInt64)(b:Int):Option UInt64:=
j4 b 1 0
def Fj:=cR dE
def GO(a g:Int)(h k:UInt64)(b:UInt32):Option Bool:=
(Fj a).bind λf=>
some (Cc (Ad b:UInt64) f)
def CX(a g:Int)(h k:UInt64)(b:UInt32):Option UInt32:=
(Fj a).bind λf=>
some (Ad (Ah (Ad b:UInt64) f):UInt32)
abbrev Xb:=Option (Int×UInt64)
def KN(b:Int)(a f:UInt64):Xb:=
if(Cc b 24)then
(Fj (Ae b 5)).bind λg=>
if(Eu (Ah (Ae a f) (Bz a 16)) g)then
some ((Ae b 1),(Ah (Ae a f) (Bz a 16)))
else
some (b,(Ah (Ae a f) (Bz a 16)))
else
some (b,(Ah (Ae a f) (Bz a 16)))
def Ue:=KN
def JD(j2:Int->UInt64->UInt64->Xb)(b:Int)(a f:UInt64):Xb:=
if(Eu b 0)then
(Fj (Ae b 4)).bind λh=>
if(Cc (Ah (Ae a f) (Bz a 16)) h)then
some ((Ah b 1),(Ah (Ae a f) (Bz a 16)))
else
j2 b a f
else
j2 b a f
def Tu:=JD Ue
abbrev Th:=Option (Int×Int×UInt64×UInt64)
def DO(h:UInt32)(f a:Int)(g b:UInt64)(o:Int)(p:UInt64):Th:=
(Tu f g (Ad h:UInt64)).bind λ(aa,ab)=>
some (aa,o,ab,p)
def Qw:=DO
def BH(j2:UInt32->Int->Int->UInt64->UInt64->Int->UInt64->Th)(f a:Int)(g b:UInt64)(h:UInt32):Th:=
(GO f a g b h).bind λu=>
if(!u)then
(
(
(CX f a g b h).bind λk=>
(Tu a b (Ad k:UInt64)).bind λ(m,n)=>
j2 h f a g b m n))
else
j2 h f a g b a b
def Wf:=BH Qw
abbrev En:=Option (Int×Int×UInt64×UInt64)
def ZV(a b:Int)(f g:UInt64):En:=
some (a,b,f,g)
def YQ:=ZV
def DM(j6:Int->Int->UInt64->UInt64->En)(Qh:Int->Int->Int->UInt64->UInt64->En)(h:Int)(k:LU)(m a b:Int)(f g:UInt64):En:=
if(Cc m (Ac k))then
(Aj k m).bind λn=>
(Wf a b f g n).bind λ(o,p,u,v)=>
Qh (Ae m h) o p u v
else
j6 a b f g
def Lb(h:Int)(k:LU):Nat->Int->Int->Int->UInt64->UInt64->En
|0,_,_,_,_,_=>none
|q+1,m,a,b,f,g=>DM YQ (Lb h k q) h k m a b f g
def bK h k:=Lb h k Ar
def CD(j4:Int->LU->Int->Int->Int->UInt64->UInt64->En)(h:Int)(k:LU):En:=
(Lu).bind λ(w,y,aa,ab)=>
(Ik (Bm h 0)).bind λ_=>
j4 h k (Gc (Ac k) h) w y aa ab
def Om:=CD bK
def RP(a:Int):Option Int:=
some (Gc a 2)
def SC:=RP
def Yz(j6:Int->Option Int)(Qh:Int->Int->Option Int)(b a f:Int):Option Int:=
if(Cc f (Gc b 8))then
Qh (Bz a 2) (Ae f 1)
else
j6 a
def Mi(b:Int):Nat->Int->Int->Option Int
|0,_,_=>none
|q+1,a,f=>Yz SC (Mi b q) b a f
def RQ b:=Mi b Ar
def RT(j4:Int->Int->Int->Option Int)(g:LB)(k b:Int):Option Int:=
(Aj g (Bz b 8)).bind λh=>
j4 b (Ad h:Int) 0
def Ki:=RT RQ
abbrev Dw:=Option (LB×Int)
def MM(b g a:Int)(f:LB):Dw:=
(Aj f (Bz a 8)).bind λ_=>
(Aj f (Bz a 8)).bind λm=>
(Aj f (Bz a 8)).bind λ_=>
(Je f (Bz a 8) (Ae m (Ad (Bd b g):UInt8))).bind λn=>
some (n,(Ae a 1))
def Wg:=MM
def Xe(j8:Int->Int->Int->LB->Dw)(jy:Int->Int->Dw)(b a:Int)(f:LB)(g h:Int):Dw:=
if(Cc h (Gc a 8))then
jy (Bd g 2) (Ae h 1)
else
j8 b g a f
def Ku(b a:Int)(f:LB):Nat->Int->Int->Dw
|0,_,_=>none
|q+1,g,h=>Xe Wg (Ku b a f q) b a f g h
def ML b a f:=Ku b a f Ar
def MU(j6:Int->Int->LB->Int->Int->Dw)(b a:Int)(f:LB):Dw:=
j6 b a f 1 0
def Wj:=MU ML
def MO(j5:Int->Int->LB->Dw)(k:LB)(a b:Int):Dw:=
if(geq (Gc a 8) 0)then
(Db k ([(0:UInt8)]:LB)).bind λo=>
j5 b a o
else
j5 b a k
def Vp:=MO Wj
abbrev Ea:=Option (LB×Int)
def YF(a:Int)(b:LB):Ea:=
some (b,a)
def XT:=YF
def Qb(j6:Int->LB->Ea)(Qh:Int->Int->LB->Ea)(f:Int)(g:LB)(h k a:Int)(b:LB):Ea:=
if(Cc k f)then
(Ki g h k).bind λm=>
(Vp b a m).bind λ(n,o)=>
Qh (Ae k 1) o n
else
j6 a b
def Gz(f:Int)(g:LB)(h:Int):Nat->Int->Int->LB->Ea
|0,_,_,_=>none
|q+1,k,a,b=>Qb XT (Gz f g h q) f g h k a b
def XR f g h:=Gz f g h Ar
def YG(j4:Int->LB->Int->Int->Int->LB->Ea)(g:LB)(h p f:Int):Ea:=
j4 f g h p 0 ([]:LB)
def JM:=YG XR
def dN(a:UInt64):Option UInt64:=
some a
def cY:=dN
def Tj(j6:UInt64->Option UInt64)(Qh:UInt64->Int->Option UInt64)(b:Int)(f:LB)(g:Int)(a:UInt64)(h:Int):Option UInt64:=
if(Ll h 0)then
(Ki f g (Ae b h)).bind λk=>
Qh (Ae (Bd 2 a) (Ad k:UInt64)) (Ah h 1)
else
j6 a
def Il(b:Int)(f:LB)(g:Int):Nat->UInt64->Int->Option UInt64
|0,_,_=>none
|q+1,a,h=>Tj cY (Il b f g q) b f g a h
def FC b f g:=Il b f g Ar
def FL(j4:Int->LB->Int->UInt64->Int->Option UInt64)(f:LB)(g b m:Int):Option UInt64:=
j4 b f g 0 (Ah m 1)
def Rj:=FL FC
abbrev Gp:=Option (Int×Int)
def MX(b a:Int)(g:LB)(f:Int):Gp:=
if(geq a 48)then
some (a,(Ae b a))
else
if(Ll (Ae b a) f)then
some ((-1:Int),0)
else
some (a,(Ae (Ae b a) 1))
def Xd:=MX
def Wy(j6:Int->Int->LB->Int->Gp)(Qh:Int->Gp)(b:Int)(g:LB)(f a:Int):Gp:=
if((Cc (Ae b a) f)&&(Cc a 48))then
(Ki g f (Ae b a)).bind λh=>
if(geq h 1)then
Qh (Ae a 1)
else
j6 b a g f
else
j6 b a g f
def Kn(b:Int)(g:LB)(f:Int):Nat->Int->Gp
|0,_=>none
|q+1,a=>Wy Xd (Kn b g f q) b g f a
def kZ b g f:=Kn b g f Ar
def lI(j4:Int->LB->Int->Int->Gp)(g:LB)(f b:Int):Gp:=
j4 b g f 0
def WO:=lI kZ
def BB(b:UInt32)(f:Int):Option Int:=
(Fj f).bind λa=>
(Ik (Bm a 0)).bind λ_=>
some (Ad (Du 48 (Bz (Ad b:UInt64) a)):Int)
abbrev Yt:=Option (UInt32×Int×Int)
def Wo(g a b:Int)(h:LB)(f k:Int):Yt:=
if((Cc a 0)||(Cc (Ah f b) k))then
some (0,0,24)
else
(Rj h f b k).bind λm=>
if(Cc a 48)then
(Fj g).bind λo=>
some ((Ad (Ae (Bd (Ad a:UInt64) o) m):UInt32),(Ae b k),0)
else
(BB (Ad m:UInt32) g).bind λp=>
if(Cc p a)then
some (0,0,12)
else
some ((Ad m:UInt32),(Ae b k),0)
def Xa:=Wo
def MJ(j2:Int->Int->Int->LB->Int->Int->Yt)(h:LB)(f n g:Int):Yt:=
if(Ll n f)then
some (0,0,24)
else
(WO h f n).bind λ(a,b)=>
if(geq a 48)then
j2 g a b h f 32
else
j2 g a b h f g
def GW:=MJ Xa
def GR(g:LB)(b a f n:Int)(v w:UInt64):Option (UInt32×Int×Int):=
if(Ll a b)then
some (0,0,24)
else
(Ki g b a).bind λo=>
if(geq o 0)then
if(Cc (Ah (Ah b a) 1) f)then
some (0,0,24)
else
(Rj g b (Ae a 1) f).bind λp=>
some ((Ad p:UInt32),(Ae (Ae a 1) f),0)
else
(GW g b (Ae a 1) n).bind λ(h,u,k)=>
if(Bm k 0)then
some (0,0,k)
else
(Fj f).bind λm=>
if(Eu (Ae (Ad h:UInt64) m) 4294967295)then
some (0,0,12)
else
some ((Ad (Ae (Ad h:UInt64) m):UInt32),u,0)
abbrev Bi:=Option (LU×Int)
def dO(b:LU):Bi:=
some (b,0)
def dB:=dO
def Te(j18:LU->Bi)(Lk:Int->Bi)(a:LB)(b:LU)(m:Int):Bi:=
if(Cc m (Bd 8 (Ac a)))then
(Ki a (Bd 8 (Ac a)) m).bind λn=>
if(Bm n 0)then
some (b,12)
else
Lk (Ae m 1)
else
j18 b
def Ip(a:LB)(b:LU):Nat->Int->Bi
|0,_=>none
|q+1,m=>Te dB (Ip a b q) a b m
def FD a b:=Ip a b Ar
def EW(j16:LB->LU->Int->Bi)(f:Int)(a:LB)(b:LU):Bi:=
if(Eu (Ah (Bd 8 (Ac a)) f) 7)then
some (b,12)
else
j16 a b f
def Tp:=EW FD
def FM(Ad7:Int->Int->LU->Bi)(g h:Int)(a:LB)(f k:Int)(b:LU)(o p:Int)(u v:UInt64):Bi:=
(JM a (Bd 8 (Ac a)) f (Du (Ae f 81) (Bd 8 (Ac a)))).bind λ(y,aa)=>
(GR y aa 0 o p u v).bind λ(ab,ac,w)=>
if(Bm w 0)then
some (b,w)
else
(Db b ([ab]:LU)).bind λad=>
Ad7 (Ae f ac) (Ae k 1) ad
def Io Ad7:=FM Ad7
def FR(j13:Int->Int->LU->Int->Int->UInt64->UInt64->Bi)(j15:Int->LB->LU->Bi)(g h:Int)(a:LB)(f k:Int)(b:LU):Bi:=
if(Cc k (Bd h g))then
(Lu).bind λ(n,ae,af,ag)=>
if(Ll k g)then
(Om g b).bind λ(ah,ai,aj,ak)=>
j13 f k b ah ai aj ak
else
j13 f k b n ae af ag
else
j15 f a b
def Eo(g h:Int)(a:LB):Nat->Int->Int->LU->Bi
|0,_,_,_=>none
|q+1,f,k,b=>FR (Io (Eo g h a q) g h a) Tp g h a f k b
def cX g h a:=Eo g h a Ar
def JY(j10:Int->Int->LB->Int->Int->LU->Bi)(g h:Int)(a:LB):Bi:=
j10 g h a 0 0 ([]:LU)
def BD:=JY cX
def nZ(a:Int):Option (Int×Int):=
if(geq a 8)then
some (4,0)
else
if((geq a 16)||(geq a 24))then
some (5,0)
else
some (0,2)
def rL(a:Int)(b:LX):Option (Int×LX×LX×Int):=
(nZ a).bind λ(g,f)=>
if(Bm f 0)then
some (0,(List.replicate 16 (0:Int32)),(List.replicate 16 (0:Int32)),2)
else
if(geq a 16)then
some (9,b,(List.replicate 16 (0:Int32)),0)
else
some (10,b,(List.replicate 16 (0:Int32)),0)
def VY(a:Int)(b:LX):Option (Int×Int32×Int×LX×LX×Int):=
(rL a b).bind λ(f,g,h,k)=>
if(Bm k 0)then
some (0,0,0,(List.replicate 16 (0:Int32)),(List.replicate 16 (0:Int32)),2)
else
some (a,0,f,g,h,0)
def BZ(a:UInt32):Option Int32:=
if(geq (AR a 2) 0)then
some (Ad (Bz a 2):Int32)
else
some (Ad (Bz (oU (Ae (Ad a:Int) 1)) 2):Int32)
def Ch(a:Int):Option Int32:=
some (Ad (Ad (Ad a:UInt64):UInt32):Int32)
def NA(a:Int):Option Int32:=
some (Ad a:Int32)
def MK:=NA
def We(j6:Int->Option Int32)(Qh:Int->Int->Option Int32)(h:Int)(f g:LX)(a b:Int):Option Int32:=
if(Cc b 16)then
(Aj f b).bind λ_=>
(Aj g b).bind λ_=>
(Aj f b).bind λk=>
(Aj g b).bind λm=>
(Ch (Bd (Ad k:Int) (Ad m:Int))).bind λn=>
(Ch (Ae a (Ad n:Int))).bind λo=>
Qh (Ad o:Int) (Ae b 1)
else
j6 a
def Ks(h:Int)(f g:LX):Nat->Int->Int->Option Int32
|0,_,_=>none
|q+1,a,b=>We MK (Ks h f g q) h f g a b
def kV h f g:=Ks h f g Ar
def lH(j4:Int->LX->LX->Int->Int->Option Int32)(h:Int)(f g:LX):Option Int32:=
j4 h f g 0 0
def WI:=lH kV
def II(b:Int)(f g:LX)(a:Int):Option Int32:=
(WI b f g).bind λk=>
(Ch (Ae (Ad k:Int) (Bz a 2))).bind λh=>
(Ik (Bm a 0)).bind λ_=>
(Ik (Bm a 0)).bind λ_=>
if(Cc (Gc (Ad h:Int) a) 0)then
some (Ad (Ah (Bz (Ad h:Int) a) 1):Int32)
else
some (Ad (Bz (Ad h:Int) a):Int32)
def Vg:=II
def IQ(j2:Int->LX->LX->Int->Option Int32)(b:Int)(f g:LX):Option Int32:=
if(geq b 9)then
j2 b f g 512
else
j2 b f g 1024
def CP:=IQ Vg
def EA(a:Int):Option Int32:=
if(geq a 0)then
some 4
else
if(yj a 3)then
some 2
else
some 1
def Tq(a:Int32):Option Int32:=
if(Cc a 0)then
some (-1:Int32)
else
if(Eu a 0)then
some 1
else
some 0
abbrev Dz:=Option (Int×LX×LX)
def YH(g:Int)(b a:LX):Dz:=
some (g,b,a)
def YE:=YH
def Pj(j6:Int->LX->LX->Dz)(Qh:Int->LX->Dz)(h:Int32)(g:Int)(a:LX)(f:Int)(b:LX):Dz:=
if(Cc f 16)then
(Aj b f).bind λ_=>
(Aj a f).bind λ_=>
(Aj b f).bind λk=>
(Aj a f).bind λm=>
(EA f).bind λn=>
(Tq m).bind λo=>
(Tq h).bind λp=>
(Aj b f).bind λ_=>
(Je b f (Ae k (Bd (Bd n o) p))).bind λu=>
Qh (Ae f 1) u
else
j6 g b a
def Hb(h:Int32)(g:Int)(a:LX):Nat->Int->LX->Dz
|0,_,_=>none
|q+1,f,b=>Pj YE (Hb h g a q) h g a f b
def XJ h g a:=Hb h g a Ar
def XA(j4:Int32->Int->LX->Int->LX->Dz)(g:Int)(v a:LX)(h:Int32):Dz:=
j4 h g a 0 v
def IH:=XA XJ
abbrev El:=Option (Int×LX×LX)
def CC(b:Int32)(f:Int)(g a:LX):El:=
(Aj a 0).bind λ_=>
(Je a 0 b).bind λk=>
some (f,g,k)
def AZ:=CC
def Rn(j6:Int32->Int->LX->LX->El)(Qh:Int->LX->El)(b:Int32)(f:Int)(g:LX)(h:Int)(a:LX):El:=
if(Eu h 0)then
(Aj a (Ah h 1)).bind λ_=>
(Aj a (Ah h 1)).bind λm=>
(Aj a h).bind λ_=>
(Je a h m).bind λn=>
Qh (Ah h 1) n
else
j6 b f g a
def Hq(b:Int32)(f:Int)(g:LX):Nat->Int->LX->El
|0,_,_=>none
|q+1,h,a=>Rn AZ (Hq b f g q) b f g h a
def aC b f g:=Hq b f g Ar
def ZC(j4:Int32->Int->LX->Int->LX->El)(f:Int)(g o:LX)(b:Int32):El:=
j4 b f g 15 o
def MG:=ZC aC
def Ui(a:Int)(b f:LX)(g:Int32):Option (Int32×Int×LX×LX):=
(CP a b f).bind λk=>
(Ch (Ae (Ad g:Int) (Ad k:Int))).bind λh=>
(IH a b f g).bind λ(m,n,o)=>
(MG m n o h).bind λ(p,u,v)=>
some (h,p,u,v)
def BC(b:Int32)(a:Int):Option Int32:=
(Ik (Bm a 0)).bind λ_=>
(Ik (Bm a 0)).bind λ_=>
if(Cc (Gc (Bd (Ah a 1) (Ad b:Int)) a) 0)then
some (Ad (Ah (Bz (Bd (Ah a 1) (Ad b:Int)) a) 1):Int32)
else
some (Ad (Bz (Bd (Ah a 1) (Ad b:Int)) a):Int32)
def Rh:=BC
def DS(j2:Int32->Int->Option Int32)(f:Int)(b:Int32):Option Int32:=
if(geq f 5)then
j2 b 32
else
j2 b 16
def Ot:=DS Rh
def Wu(b:Int)(a:Int32)(h:Int)(k m:LX):Option Int:=
if(geq b 8)then
(Ot 4 a).bind λf=>
some (Ad f:Int)
else
(Ot 5 a).bind λg=>
some (Ad g:Int)
def Uf(a:Int)(k:Int32)(b:Int)(f g:LX)(m:Int32):Option (Int32×Int×Int32×Int×LX×LX):=
(Ui b f g m).bind λ(n,o,p,u)=>
(Wu a k b f g).bind λv=>
(Ch (Ae (Ad n:Int) v)).bind λh=>
some (h,a,h,o,p,u)
def Qx(a:Int)(b:LX):Option Int:=
if((Cc a 1)||(Eu a 6))then
some 2
else
if(Eu (Ac b) 4000)then
some 4
else
(Ik (Bm a 0)).bind λ_=>
if(Eu (Gc (Ac b) a) 0)then
some 2
else
some 0
def XV(b:LX):Option (LX):=
some b
def XL:=XV
def Py(j8:LX->Option (LX))(jy:Int->LX->Option (LX))(a:LX)(f:Int)(b:LX):Option (LX):=
if(Ll f 0)then
(Aj b (Ae f 1)).bind λ_=>
(Aj a f).bind λm=>
(Aj b (Ae f 1)).bind λn=>
(Ch (Ah (Ad n:Int) (Ad m:Int))).bind λo=>
(Aj b f).bind λ_=>
(Je b f o).bind λp=>
jy (Ah f 1) p
else
j8 b
def Gy(a:LX):Nat->Int->LX->Option (LX)
|0,_,_=>none
|q+1,f,b=>Py XL (Gy a q) a f b
def WG a:=Gy a Ar
def AN(j6:LX->Int->LX->Option (LX))(a g:LX):Option (LX):=
j6 a (Ah (Ac a) 2) g
def Pn:=AN WG
def Zo(j5:LX->LX->Option (LX))(a:LX):Option (LX):=
(mkI (Ac a) (0:Int32)).bind λk=>
(Ik (geq (Ac a) (Ac a))).bind λ_=>
(Aj a (Ah (Ac a) 1)).bind λu=>
(Aj k (Ah (Ac a) 1)).bind λ_=>
(Je k (Ah (Ac a) 1) u).bind λh=>
if(Eu (Ac a) 1)then
(Aj a (Ah (Ac a) 1)).bind λv=>
(Aj a (Ah (Ac a) 2)).bind λw=>
(Ch (Ae (Ad v:Int) (Bz (Ad w:Int) 2))).bind λy=>
(Aj h (Ah (Ac a) 1)).bind λ_=>
(Je h (Ah (Ac a) 1) y).bind λaa=>
j5 a aa
else
j5 a h
def Uz:=Zo Pn
abbrev Fz:=Option (LX×Int)
def iD(f:LX):Fz:=
some (f,0)
def iT:=iD
def KP(j6:LX->Fz)(Qh:Int->LX->Fz)(a:Int)(b:LX)(g:Int)(f:LX):Fz:=
if(Cc g (Ac b))then
(Bw b g (Ae g a)).bind λh=>
(Uz h).bind λk=>
(Db f k).bind λm=>
Qh (Ae g a) m
else
j6 f
def Nn(a:Int)(b:LX):Nat->Int->LX->Fz
|0,_,_=>none
|q+1,g,f=>KP iT (Nn a b q) a b g f
def gR a b:=Nn a b Ar
def IM(j4:Int->LX->Int->LX->Fz)(a:Int)(b:LX):Fz:=
(Qx a b).bind λn=>
if(Bm n 0)then
(Qx a b).bind λo=>
some (([]:LX),o)
else
j4 a b 0 ([]:LX)
def CB:=IM gR
def AB(a f:Int)(w:LX):Option (LX):=
(CB a w).bind λ(aj,ai)=>
some aj
def Pk:=AB
def AF(J6:Int->LX->Option (LX))(b:LU)(a f:Int)(g:LX)(h:Int)(m:LX):Option (LX):=
J6 (Ae h 1) m
def Zq J6:=AF J6
def Zs(Ad8:Int->LX->Int->Int32->Int->LX->LX->Option (LX))(b:LU)(h a f:Int)(g:LX)(k:Int)(af:LX)(y:Int)(aa:Int32)(ab:Int)(ac ad:LX):Option (LX):=
Ad8 (Ae k a) af y aa ab ac ad
def Zk Ad8:=Zs Ad8
def AA(j30:Int->LX->Int->Int32->Int->LX->LX->Option (LX))(b:LU)(h a f:Int)(g:LX)(k:Int)(ae:Int32)(m:LX)(n:Int)(o:Int32)(p:Int)(u v:LX)(y:Int)(aa:Int32)(ab:Int)(ac ad:LX):Option (LX):=
(Aj m k).bind λ_=>
(Je m k ae).bind λaf=>
j30 k af y aa ab ac ad
def AH Ad8 b h a f g:=AA (Zk Ad8 b h a f g) b h a f g
def Zz(j29:Int->Int32->LX->Int->Int32->Int->LX->LX->Int->Int32->Int->LX->LX->Option (LX))(j32:Int->LX->Option (LX))(b:LU)(a f:Int)(g:LX)(h k:Int)(m:LX)(n:Int)(o:Int32)(p:Int)(u v:LX):Option (LX):=
if(Cc k (Ac b))then
(Aj b k).bind λah=>
(
(BZ ah).bind λag=>
(
(Uf n o p u v ag).bind λ(ae,y,aa,ab,ac,ad)=>
j29 k ae m n o p u v y aa ab ac ad))
else
j32 h m
def Jw(J6:Int->LX->Option (LX))(b:LU)(a f:Int)(g:LX)(h:Int):Nat->Int->LX->Int->Int32->Int->LX->LX->Option (LX)
|0,_,_,_,_,_,_,_=>none
|q+1,k,m,n,o,p,u,v=>Zz (AH (Jw J6 b a f g h q) b h a f g) (Zq J6 b a f g) b a f g h k m n o p u v
def AE J6 b a f g h:=Jw J6 b a f g h Ar
def Pm(j26:Int->Int->LX->Int->Int32->Int->LX->LX->Option (LX))(j34:Int->Int->LX->Option (LX))(b:LU)(a f:Int)(g:LX)(h:Int)(w:LX):Option (LX):=
if(Cc h a)then
(VY f g).bind λ(ak,ai,al,am,an,aq)=>
j26 h h w ak ai al am an
else
j34 a f w
def Ez(b:LU)(a f:Int)(g:LX):Nat->Int->LX->Option (LX)
|0,_,_=>none
|q+1,h,w=>Pm (AE (Ez b a f g q) b a f g) Pk b a f g h w
def AO b a f g:=Ez b a f g Ar
def BS(j18:LU->Int->Int->LX->Int->LX->Option (LX))(a f:Int)(g:LX)(b:LU):Option (LX):=
(mkI (Ac b) (0:Int32)).bind λao=>
(Ik (geq (Ac b) (Ac b))).bind λ_=>
j18 b a f g 0 ao
def Oo:=BS AO
def Pa(g f:Int)(a:LX):Option (LX×Int):=
(Ao f a).bind λb=>
if(Bm b 0)then
some (([]:LX),b)
else
some (a,0)
abbrev Ta:=Option (LX×Int)
def Lc(f a b:Int)(g:LX)(h:LU):Ta:=
if(Bm f 0)then
some (([]:LX),f)
else
(
(
(Oo a b g h).bind λm=>
(Pa a b m).bind λ(n,o)=>
some (n,o)))
def Ky:=Lc
def Rs(j2:Int->Int->Int->LX->LU->Ta)(a b:Int)(g:LX)(p:Int)(k:LB):Ta:=
(Dy a b p).bind λy=>
if(Bm y 0)then
some (([]:LX),2)
else
(Oq k).bind λaa=>
if(Bm aa 0)then
(Oq k).bind λab=>
some (([]:LX),ab)
else
(Bw k 0 (Ah (Ac k) 4)).bind λac=>
(BD a p ac).bind λ(h,f)=>
j2 f a b g h
def Dm:=Rs Ky
def Wv(a b:Int):Option (LB):=
if(geq a 24)then
(Db ([(Ad (Gc b 256):UInt8),(Ad (Gc (Bz b 256) 256):UInt8)]:LB) ([(Ad (Bz b 65536):UInt8)]:LB)).bind λg=>
some g
else
some ([(Ad (Gc b 256):UInt8),(Ad (Gc (Bz b 256) 256):UInt8)]:LB)
def Kt:=Wv
def MT(j2:Int->Int->Option (LB))(a:Int)(f:Int32):Option (LB):=
if(geq a 8)then
some ([(Ad (Ae (Ad f:Int) 128):UInt8)]:LB)
else
if(Cc (Ad f:Int) 0)then
(Ht a).bind λh=>
j2 a (Ae (Ad f:Int) (Bd 2 h))
else
j2 a (Ad f:Int)
def FZ:=MT Kt
abbrev Fk:=Option (LB×Int)
def cZ(b:LB):Fk:=
some (b,0)
def dD:=cZ
def Ti(j6:LB->Fk)(Qh:Int->LB->Fk)(f:Int)(a:LX)(g:Int)(b:LB):Fk:=
if(Cc g (Ac a))then
(Aj a g).bind λh=>
(FZ f h).bind λk=>
(Db b k).bind λm=>
Qh (Ae g 1) m
else
j6 b
def Iq(f:Int)(a:LX):Nat->Int->LB->Fk
|0,_,_=>none
|q+1,g,b=>Ti dD (Iq f a q) f a g b
def dL f a:=Iq f a Ar
def FN(j4:Int->LX->Int->LB->Fk)(f:Int)(a:LX):Fk:=
(Ao f a).bind λn=>
if(Bm n 0)then
(Ao f a).bind λo=>
some (([]:LB),o)
else
j4 f a 0 ([]:LB)
def Qu:=FN dL
abbrev Tg:=Option (LB×Int)
def YP(o:LX)(f:Int)(p g:LB)(h k a m n:Int)(u:LI)(b:Int)(v:LB)(w:Bool)(y:Int):Tg:=
if(Bm f 0)then
some (([]:LB),f)
else
(Qu a o).bind λ(ac,ai)=>
some (ac,0)
def bP:=YP
def bB(j2:LX->Int->LB->LB->Int->Int->Int->Int->Int->LI->Int->LB->Bool->Int->Tg)(p g:LB)(h k a m n:Int)(u:LI)(b:Int)(v:LB)(w:Bool)(y:Int):Tg:=
(Aj u b).bind λaa=>
if(Cc (Ac g) aa)then
some (([]:LB),(-1:Int))
else
(Ju p).bind λ(ad,aj)=>
(Bw g 0 aa).bind λae=>
(nS h k a m n).bind λ(af,ag)=>
(JL h k a m n).bind λab=>
(Aj ab b).bind λ_=>
(Aj ab b).bind λah=>
(Dm af ag ad ah ae).bind λ(o,f)=>
j2 o f p g h k a m n u b v w y
def kW:=bB bP
abbrev Ko:=Option (LB×LB×Int×Int×Int×Int×Int×LI×Int×LB×Bool×Int×Int)
def fY(g a:LB)(m o p u v:Int)(b:LI)(f:Int)(n:LB)(h:Bool)(k:Int):Ko:=
if(geq (Ac b) 0)then
(lF a m o p u v g).bind λ(ag,ak,w)=>
if(Bm w 0)then
some (g,a,m,o,p,u,v,b,f,n,h,k,w)
else
(Bw a ag (Ac a)).bind λal=>
some (g,al,m,o,p,u,v,ak,f,n,h,k,0)
else
if(geq f (Ac b))then
if(Eu (Ac a) 4000)then
some (g,a,m,o,p,u,v,b,f,n,h,k,38)
else
some (g,a,m,o,p,u,v,b,f,n,h,k,(-1:Int))
else
(kW g a m o p u v b f n h k).bind λ(am,y)=>
if(Bm y 0)then
some (g,a,m,o,p,u,v,b,f,n,h,k,y)
else
(Db ([]:LB) n).bind λan=>
(Db an am).bind λah=>
(
(
(
(Aj b f).bind λad=>
(
(Bw a ad (Ac a)).bind λae=>
some (g,ae,m,o,p,u,v,b,(Ae f 1),ah,h,k,0)))))
def gO:=fY
def eZ(g af:LB)(aa w ab ac y:Int)(b:LI)(f:Int)(n:LB)(h:Bool)(k:Int):Ko:=
(nI aa w ab ac y g).bind λaw=>
some (g,af,aa,w,ab,ac,y,b,f,n,h,k,aw)
def fP:=eZ
def JH(j3:LB->LB->Int->Int->Int->Int->Int->LI->Int->LB->Bool->Int->Ko)(j4:LB->LB->Int->Int->Int->Int->Int->LI->Int->LB->Bool->Int->Ko)(g a:LB)(m o p u v:Int)(b:LI)(f:Int)(n:LB)(h:Bool)(k:Int):Ko:=
if(geq m 0)then
(Uu a).bind λ(ag,aa,w,ab,ac,y,ai)=>
if(Bm ai 0)then
some (g,a,m,o,p,u,v,b,f,n,h,k,ai)
else
(
(Bw a ag (Ac a)).bind λaf=>
(
j3 g af aa w ab ac y b f n h k))
else
j4 g a m o p u v b f n h k
def DW:=JH fP gO
abbrev Wh:=Option (LB×LB×Int×Int×Int×Int×Int×LI×Int×LB×Bool×Int)
def eX(f:LB)(g h k m n:Int)(o:LI)(p:Int)(u:Bool)(v:Int)(a b:LB):Wh:=
(Db ([]:LI) o).bind λaf=>
some (f,a,g,h,k,m,n,af,p,b,u,v)
def fG:=eX
def dU(j2:LB->Int->Int->Int->Int->Int->LI->Int->Bool->Int->LB->LB->Wh)(f w:LB)(g h k m n:Int)(o:LI)(p:Int)(y:LB)(u:Bool)(v:Int):Wh:=
(
(
(
(Db ([]:LB) w).bind λa=>
(
(Db ([]:LB) y).bind λb=>
j2 f g h k m n o p u v a b))))
def oN:=dU fG
def gy(b g:LB)(h k m n o:Int)(p:LI)(u:Int)(f:LB)(v:Bool)(w a:Int):Option (LB×LB×Int×Int×Int×Int×Int×LI×Int×LB×Bool×Int×Int):=
some (b,([]:LB),0,0,0,0,0,([]:LI),0,f,false,a,a)
abbrev Hp:=Option (LB×LB×Int×Int×Int×Int×Int×LI×Int×LB×Bool×Int×Int)
def rM(kg:LB->Int->Int->Int->Int->Int->Int->LI->LB->Hp)(a:LB)(b:Bool)(f:Int)(ar:LB)(au av aw ax ay az:Int)(bh:Bool)(be:Int)(ba:LI)(bb:LB):Hp:=
if bh then
(U5 a ar au av aw ax ay ba az bb b f).bind λ(fh,fi,fj,bc,bi,ai,fk,fl,fm,fn,fo,aj)=>
some (fh,fi,fj,bc,bi,ai,fk,fl,fm,fn,fo,aj,0)
else
if(Bm be 0)then
(gy a ar au av aw ax ay ba az bb b f be).bind λ(fp,fq,fs,ft,fu,fv,fw,fx,fy,fz,ga,gb,gc)=>
some (fp,fq,fs,ft,fu,fv,fw,fx,fy,fz,ga,gb,gc)
else
kg ar au av aw ax ay az ba bb
def Lj kg:=rM kg
def tD(j71:LB->Int->Int->Int->Int->Int->Int->Bool->Int->LI->LB->Hp)(a:LB)(b:Bool)(f h:Int)(k:LI)(n:LB)(bj:Bool)(bk:Int)(bl:LB)(bm bn bp bq br:Int):Hp:=
j71 bl bm bn bp bq br h bj bk k n
def sW kg a b f:=tD (Lj kg a b f) a b f
def tB(j71:LB->Int->Int->Int->Int->Int->Int->Bool->Int->LI->LB->Hp)(a:LB)(b:Bool)(f m p o u v h:Int)(n:LB)(bs:Bool)(bt:Int)(bu:LB)(bv:LI):Hp:=
j71 bu m p o u v h bs bt bv n
def tE kg a b f:=tB (Lj kg a b f) a b f
def sQ(j71:LB->Int->Int->Int->Int->Int->Int->Bool->Int->LI->LB->Hp)(a:LB)(b:Bool)(f m p o u v:Int)(k:LI)(bx:Bool)(bz:Int)(da:LB)(db:Int)(dc:LB):Hp:=
j71 da m p o u v db bx bz k dc
def sS kg a b f:=sQ (Lj kg a b f) a b f
def qT(a m:LB)(n o p u v:Int)(w:LI)(y:Int)(b:LB)(aa:Bool)(ab:Int):Option (LB×LB×Int×Int×Int×Int×Int×LI×Int×LB×Bool×Int):=
(
(
(Db ([]:LB) b).bind λf=>
some (a,([]:LB),0,0,0,0,0,([]:LI),0,f,false,0)))
def lJ(b f:LB)(g h k m n:Int)(o:LI)(p:Int)(u:LB)(v:Bool)(w a:Int):Option (LB×LB×Int×Int×Int×Int×Int×LI×Int×LB×Bool×Int×Int):=
(qT b f g h k m n o p u v w).bind λ(y,aa,ab,ac,ad,ae,af,ag,ah,ai,aj,ak)=>
some (y,aa,ab,ac,ad,ae,af,ag,ah,ai,aj,a,a)
abbrev Wq:=Option (LB×LB×Int×Int×Int×Int×Int×LI×Int×LB×Bool×Int×Int)
def gK(bk3:LB->LB->Int->Int->Int->Int->Int->LI->Int->LB->Bool->Int->Wq)(a b:LB)(f g h k m:Int)(n:LI)(o:Int)(p:LB)(u:Bool)(v:Int):Wq:=
(DW a b f g h k m n o p u v).bind λ(bb,bc,bd,be,bf,bg,bh,bi,bj,bk,bl,bm,w)=>
if(geq w (-1:Int))then
(oN a b f g h k m n o p u v).bind λ(bn,bp,bq,br,bs,bt,bu,bv,bw,bx,bz,da)=>
some (bn,bp,bq,br,bs,bt,bu,bv,bw,bx,bz,da,0)
else
if(Bm w 0)then
(lJ a b f g h k m n o p u v w).bind λ(db,dc,dd,de,df,dg,dh,di,dj,dk,dl,dm,dn)=>
some (db,dc,dd,de,df,dg,dh,di,dj,dk,dl,dm,dn)
else
bk3 bb bc bd be bf bg bh bi bj bk bl bm
def KI:Nat->LB->LB->Int->Int->Int->Int->Int->LI->Int->LB->Bool->Int->Wq
|0,_,_,_,_,_,_,_,_,_,_,_,_=>none
|q+1,a,b,f,g,h,k,m,n,o,p,u,v=>gK (KI q) a b f g h k m n o p u v
abbrev Ga:=Option (Int×Int)
def Vj(a:LB)(f g:Int)(b h:LB)(k:Int):Ga:=
if(Cc (Ac a) k)then
some (0,24)
else
if(b==h)then
(Bw a (Ah (Ac a) k) (Ae (Ah (Ac a) k) 32)).bind λo=>
(Tv f g).bind λp=>
if(o !=p)then
some (0,12)
else
some (k,0)
else
some (k,0)
def Vf:=Vj
def Ug(j6:LB->Int->Int->LB->LB->Int->Ga)(a:LB)(f g:Int)(b h:LB):Ga:=
if(b==h)then
j6 a f g b h (Ae (Ae 32 f) 32)
else
j6 a f g b h (Ae 32 f)
def Us:=Ug Vf
def KC(j5:LB->Int->Int->LB->LB->Ga)(a:LB):Ga:=
(Bw a (Ah (Ac a) 32) (Ac a)).bind λb=>
(Ts b).bind λ(f,g,n)=>
if(!n)then
some (0,12)
else
(Jz f g true).bind λh=>
(
if(!(b==h))then
(Jz f g false).bind λm=>
if(b !=m)then
some (0,12)
else
j5 a f g b h
else
j5 a f g b h)
def KF:=KC Us
def IC(j4:LB->Ga)(a:LB):Ga:=
if(Cc (Ac a) 32)then
some (0,6)
else
(Bw a (Ah (Ac a) 32) (Ae (Ah (Ac a) 32) 8)).bind λu=>
if(u !=([65,80,69,84,65,71,69,88]:LB))then
some (0,6)
else
j4 a
def BY:=IC KF
abbrev Es:=Option (Int×Int)
def YX(a:Int):Es:=
some (a,0)
def YL:=YX
def EK(j6:Int->Es)(Qh:LB->Int->Es)(b:LB)(a:Int):Es:=
if(Eu (Ac b) 0)then
(BY b).bind λ(g,h)=>
if(Bm h 0)then
some (0,38)
else
(Bw b 0 (Ah (Ac b) g)).bind λk=>
Qh k (Ae a 1)
else
j6 a
def Lf:Nat->LB->Int->Es
|0,_,_=>none
|q+1,b,a=>EK YL (Lf q) b a
def ZX:=Lf Ar
def BF(j4:LB->Int->Es)(f:LB):Es:=
if(Eu (Ac f) 4000)then
some (0,38)
else
j4 f 0
def Wk:=BF ZX
abbrev UE:=Option (Int×Int×Int×Int×Int×Int×LI×Int)
def fV(a:LB)(b f g h k n:Int):UE:=
(Xj b f g h k).bind λ(ab,p)=>
if(Bm p 0)then
some (0,0,0,0,0,0,([]:LI),p)
else
(Bw a n (Ac a)).bind λac=>
(GV ac (Ac ab)).bind λ(u,v)=>
if(Bm v 0)then
some (0,0,0,0,0,0,([]:LI),v)
else
some (b,f,g,h,k,(Ae (Ae n (Bd 4 (Ac u))) 4),u,0)
def Ma:=fV
def Lw(j2:LB->Int->Int->Int->Int->Int->Int->UE)(a o:LB):UE:=
if(Eu (Ac o) 64)then
some (0,0,0,0,0,0,([]:LI),2)
else
if(Eu (Ac a) 100000)then
some (0,0,0,0,0,0,([]:LI),4)
else
(Ux a).bind λ(m,w)=>
if(Bm w 0)then
some (0,0,0,0,0,0,([]:LI),w)
else
(Bw a m (Ac a)).bind λad=>
(IZ ad).bind λ(b,f,g,h,k,y)=>
if(Bm y 0)then
some (0,0,0,0,0,0,([]:LI),y)
else
if((o==([]:LB)) !=(geq b 1))then
some (0,0,0,0,0,0,([]:LI),26)
else
if(o !=([]:LB))then
if(Cc (Ac a) (Ae (Ae m 22) 8))then
some (0,0,0,0,0,0,([]:LI),24)
else
(Bw a (Ae m 22) (Ae (Ae m 22) 8)).bind λae=>
(Vw ae o).bind λ(af,aa)=>
if(Bm aa 0)then
some (0,0,0,0,0,0,([]:LI),aa)
else
if(!af)then
some (0,0,0,0,0,0,([]:LI),26)
else
j2 a b f g h k (Ae (Ae m 22) 8)
else
j2 a b f g h k (Ae m 22)
def Cg:=Lw Ma
abbrev Ii:=Option (Int×Int×Int×Int×Int×Int×LI×Int)
def CA(m n b h k f g:Int)(o:LI):Ii:=
if(Bm n 0)then
some (0,0,0,0,0,0,([]:LI),n)
else
some (b,h,k,f,g,(Ae (Ae m (Bd 4 (Ac o))) 4),o,0)
def BM:=CA
def BN(j4:Int->Int->Int->Int->Int->Int->Int->LI->Ii)(a:LB)(b h k f g m:Int):Ii:=
(Bw a m (Ac a)).bind λy=>
(Dx f g).bind λaa=>
(Ns y (Ac aa)).bind λ(o,n)=>
j4 m n b h k f g o
def Kx:=BN BM
def Qq(j3:LB->Int->Int->Int->Int->Int->Int->Ii)(a u:LB):Ii:=
if(Eu (Ac a) 100000)then
some (0,0,0,0,0,0,([]:LI),4)
else
(Mh a).bind λ(p,v)=>
if(Bm v 0)then
some (0,0,0,0,0,0,([]:LI),v)
else
(Bw a p (Ac a)).bind λab=>
(Nr ab).bind λ(b,h,k,f,g,w)=>
if(Bm w 0)then
some (0,0,0,0,0,0,([]:LI),w)
else
if((u==([]:LB)) !=(geq b 1))then
some (0,0,0,0,0,0,([]:LI),26)
else
if(geq b 2)then
if(Cc (Ah (Ac a) (Ae p 22)) 8)then
some (0,0,0,0,0,0,([]:LI),24)
else
(Bw a (Ae p 22) (Ae (Ae p 22) 8)).bind λac=>
(Jp u).bind λad=>
if(ac !=ad)then
some (0,0,0,0,0,0,([]:LI),26)
else
j3 a b h k f g (Ae (Ae p 22) 8)
else
j3 a b h k f g (Ae p 22)
def Dp:=Qq Kx
def dQ(a:Int):Option Int:=
some a
def dG:=dQ
def Td(j6:Int->Option Int)(Qh:Int->Int->Option Int)(b h k m n o f:Int)(g:LI)(a p:Int):Option Int:=
if(Cc p b)then
(Aj g p).bind λu=>
Qh (Ae a u) (Ae p 1)
else
j6 a
def Is(b h k m n o f:Int)(g:LI):Nat->Int->Int->Option Int
|0,_,_=>none
|q+1,a,p=>Td dG (Is b h k m n o f g q) b h k m n o f g a p
def cS b h k m n o f g:=Is b h k m n o f g Ar
def dF(j4:Int->Int->Int->Int->Int->Int->Int->LI->Int->Int->Option Int)(h k m n o f:Int)(g:LI)(b:Int):Option Int:=
j4 b h k m n o f g f 0
def OE:=dF cS
abbrev Zb:=Option (LB×Int)
def MV(p:LX)(m n g b h k o:Int)(a:LI):Zb:=
if(Bm m 0)then
some (([]:LB),m)
else
(Qu b p).bind λ(af,ai)=>
some (af,0)
def MR:=MV
def MP(j2:LX->Int->Int->Int->Int->Int->Int->Int->LI->Zb)(v y:LB)(n g b h k o:Int)(a:LI)(f:Int):Zb:=
(OE n g b h k o a f).bind λu=>
(Aj a f).bind λaa=>
if(Cc (Ah (Ac v) u) aa)then
some (([]:LB),24)
else
(Ju y).bind λ(ab,ag)=>
(Aj a f).bind λac=>
(Bw v u (Ae u ac)).bind λad=>
(
(Dx h k).bind λw=>
(Aj w f).bind λ_=>
(Aj w f).bind λae=>
(Dm g b ab ae ad).bind λ(p,m)=>
j2 p m n g b h k o a)
def Px:=MP MR
def QJ(a:LB):Option (Int×Int×Int×Int×Int×Int×Int):=
if(Eu (Ac a) 100000)then
some (0,0,0,0,0,0,4)
else
(Mh a).bind λ(b,f)=>
if(Bm f 0)then
some (0,0,0,0,0,0,f)
else
(Bw a b (Ac a)).bind λg=>
(Nr g).bind λ(h,k,m,n,o,p)=>
some (b,h,k,m,n,o,p)
def MS(f:LB)(a g m n o p:Int)(b:LB):Option (Int×Int):=
if((b==([]:LB)) !=(geq g 1))then
some (0,26)
else
if(b==([]:LB))then
some (a,0)
else
if(Cc (Ac f) (Ae a 8))then
some (0,24)
else
(Bw f a (Ae a 8)).bind λh=>
(Jp b).bind λk=>
if(h !=k)then
some (0,26)
else
some ((Ae a 8),0)
def Yu(a:LB)(b o p u f g:Int):Option (LI×Int):=
(Bw a b (Ac a)).bind λh=>
(Dx f g).bind λk=>
(Ns h (Ac k)).bind λ(m,n)=>
some (m,n)
abbrev Dn:=Option (Int×Int×Int×LX×Int)
def EV(a:LB)(n b f g:Int)(v:LX):Dn:=
(Bw a n (Ac a)).bind λaf=>
(Wk af).bind λ(ao,ag)=>
if(Bm ag 0)then
some (0,0,0,([]:LX),38)
else
some (b,f,g,v,0)
def FU:=EV
def EY(bk7:Int->Int->LX->Dn)(a:LB)(o b f g k:Int)(h p:LI)(u:LX)(n m:Int)(y:LX)(w:Int)(v:LX):Dn:=
if(Bm w 0)then
some (0,0,0,([]:LX),w)
else
(Db v y).bind λah=>
(Aj h m).bind λ_=>
(Aj h m).bind λai=>
bk7 (Ae n ai) (Ae m 1) ah
def FV bk7:=EY bk7
def Vi(j10:Int->Int->LX->Int->LX->Dn)(j12:LB->Int->Int->Int->Int->LX->Dn)(a:LB)(o b f g k:Int)(h p:LI)(u:LX)(n m:Int)(v:LX):Dn:=
if(Cc m (Ac h))then
(Aj h m).bind λ_=>
(Aj h m).bind λaj=>
if(Cc (Ah (Ac a) n) aj)then
some (0,0,0,([]:LX),24)
else
(Aj p m).bind λ_=>
(Aj h m).bind λ_=>
(Aj p m).bind λak=>
(Aj h m).bind λal=>
(Bw a n (Ae n al)).bind λam=>
(Dm b f u ak am).bind λ(y,w)=>
j10 n m y w v
else
j12 a n b f g v
def Jo(a:LB)(o b f g k:Int)(h p:LI)(u:LX):Nat->Int->Int->LX->Dn
|0,_,_,_=>none
|q+1,n,m,v=>Vi (FV (Jo a o b f g k h p u q) a o b f g k h p u) FU a o b f g k h p u n m v
def IV a o b f g k h p u:=Jo a o b f g k h p u Ar
def IW(j7:LB->Int->Int->Int->Int->Int->LI->LI->LX->Int->Int->LX->Dn)(a aa:LB):Dn:=
if(Eu (Ac aa) 64)then
some (0,0,0,([]:LX),2)
else
(QJ a).bind λ(an,o,b,f,g,k,ab)=>
if(Bm ab 0)then
some (0,0,0,([]:LX),ab)
else
(MS a (Ae an 22) o b f g k aa).bind λ(ac,ad)=>
if(Bm ad 0)then
some (0,0,0,([]:LX),ad)
else
(Yu a ac o b f g k).bind λ(h,ae)=>
if(Bm ae 0)then
some (0,0,0,([]:LX),ae)
else
(Dx g k).bind λp=>
(Ju aa).bind λ(u,ap)=>
j7 a o b f g k h p u (Ae ac (Ae (Bd 4 (Ac h)) 4)) 0 ([]:LX)
def Hl:=IW IV
end Go.Pl
