/- A part of a proof (see the text that ends in Proof). No conditions. -/
import Derived.Test.YtnckeeijjkphaaaGreatDoorVbBA
set_option linter.unusedVariables false
namespace Go.Pl
open Go Go.Lv
abbrev LB:=List UInt8
abbrev LI:=List Int
abbrev LX:=List Int32
abbrev LU:=List UInt32
abbrev LQ:=List UInt64
def KQ:Option (Int×Int×Int×LX):=
some (2,16,4,([(1:Int32),(2:Int32),(3:Int32),(-4:Int32),(5:Int32),(600:Int32),(-700:Int32),(8:Int32),(9:Int32),(-10:Int32)]:LX))
def GZ(a b f:Int)(g:LX):Option (Int×Int):=
some (a,b)
abbrev WE:=Option (Int32×Int32×Int)
def fQ(a:Int)(b:Bool):WE:=
if b then
(Hy (Ly (Ah a 1) 0)).bind λ_=>
some ((oS (Cr (1:Int32) (GI.toZ (Ah a 1)).toNat)),(Ah (Cr (1:Int32) (GI.toZ (Ah a 1)).toNat) 1),0)
else
some (0,0,2)
def SN:=fQ
def RD(j2:Int->Bool->WE)(a:Int):WE:=
if(geq a 8)then
j2 a (geq a 8)
else
if(geq a 16)then
j2 a (geq a 16)
else
j2 a (geq a 24)
def Qo:=RD SN
def Fm(a b:Int):Option Int:=
(Qo b).bind λ(g,h,f)=>
if(((Bk f 0)||(Cf a 1))||(Dv a 6))then
some 2
else
some 0
def Qr(a:Int):Option (Int×Int):=
if((Cf a 1)||(Dv a 1048576))then
some (0,2)
else
some ((lB 1 (Bv (Bd 256 a) 245)),0)
def He(g b:Int):Option (Int×Int):=
(Qr g).bind λ(a,f)=>
if(Bk f 0)then
some (0,f)
else
if((Cf b 1)||(Dv b 4000))then
some (0,2)
else
(Hy (Bk a 0)).bind λ_=>
if(Dv (Bv (Ah (Ae b a) 1) a) 1000)then
some (0,4)
else
some ((Bv (Ah (Ae b a) 1) a),0)
def GV(a g f:Int)(h:LX)(b:Int):Option Int:=
(GZ a g f h).bind λ(k,m)=>
(Fm k m).bind λn=>
if((Bk n 0)||(Cf b 1))then
some 8
else
(Hy (Bk a 0)).bind λ_=>
if(Dv b (Bv 4000 a))then
some 8
else
(He f b).bind λ(p,o)=>
if(Bk o 0)then
some 8
else
some 0
def E9:Option Int:=
some 0
def iD:=E9
def BP(j6:Option Int)(Om:Int->Option Int)(b f:Int32)(a:LX)(g:Int):Option Int:=
if(Cf g (Ac a))then
(Aj a g).bind λh=>
if((Cf h b)||(Dv h f))then
some 16
else
Om (Ae g 1)
else
j6
def Ph(b f:Int32)(a:LX):Nat->Int->Option Int
|0,_=>none
|q+1,g=>BP iD (Ph b f a q) b f a g
def eY b f a:=Ph b f a Aq
def RO(j4:Int32->Int32->LX->Int->Option Int)(m:Int)(a:LX):Option Int:=
(Qo m).bind λ(b,f,k)=>
if(Bk k 0)then
some k
else
if(Dv (Ac a) 4000)then
some 4
else
j4 b f a 0
def Uq:=RO eY
def Cx(a f h:Int)(b:LX):Option Int:=
if(Cf a 1)then
some 8
else
(Hy (Bk a 0)).bind λ_=>
if(Bk (Ga (Ac b) a) 0)then
some 8
else
(Hy (Bk a 0)).bind λ_=>
(GV a f h b (Bv (Ac b) a)).bind λg=>
if(Bk g 0)then
some g
else
(Uq f b).bind λk=>
if(Bk k 0)then
some 8
else
some 0
abbrev WK:=Option (Int×Int×Int×Int×Int×Int)
def gO(h:LB)(a b f:Int)(g:LX):WK:=
if(h !=([]:LB))then
some (2,a,b,f,(Bv (Ac g) a),0)
else
some (1,a,b,f,(Bv (Ac g) a),0)
def QX:=gO
def BE(j2:LB->Int->Int->Int->LX->WK)(a b f:Int)(g:LX)(h:LB):WK:=
(Cx a b f g).bind λk=>
if(Bk k 0)then
some (0,0,0,0,0,k)
else
if(Dv (Ac h) 64)then
some (0,0,0,0,0,2)
else
(Hy (Bk a 0)).bind λ_=>
(
j2 h a b f g)
def UJ:=BE QX
abbrev Bs:=Option (UInt64×Int)
def gR(h:UInt64):Bs:=
some (h,0)
def RC:=gR
def PJ(j30:UInt64->Bs)(h b:UInt64)(a:LB)(f:LQ):Bs:=
j30 h
def RN:=PJ RC
def CV(j29:UInt64->UInt64->LB->LQ->Bs)(MY:UInt64->Int->Bs)(a:LB)(b:UInt64)(f:LQ)(h:UInt64)(m:Int):Bs:=
if(Cf m (Ac a))then
(Aj a m).bind λp=>
Option.bind (Aj f (GI.toZ (Rn (Ad (Bt h (GI.toZ (56:UInt64)).toNat):UInt8) p))) λ_=>
Option.bind (Aj f (GI.toZ (Rn (Ad (Bt h (GI.toZ (56:UInt64)).toNat):UInt8) p))) λu=>
MY (Rn (Cr h (GI.toZ (8:UInt64)).toNat) u) (Ae m 1)
else
j29 h b a f
def Pp(a:LB)(b:UInt64)(f:LQ):Nat->UInt64->Int->Bs
|0,_,_=>none
|q+1,h,m=>CV RN (Pp a b f q) a b f h m
def PW a b f:=Pp a b f Aq
def PD(j27:LB->UInt64->LQ->UInt64->Int->Bs)(b:UInt64)(a:LB)(f:LQ):Bs:=
j27 a b f b 0
def DM:=PD PW
def eT(Li:Int->LQ->Bs)(b:UInt64)(a:LB)(g:Int)(o:LQ):Bs:=
Li (Ae g 1) o
def QC Li:=eT Li
def PQ(j24:Int->LQ->Bs)(b:UInt64)(a:LB)(g:Int)(k:UInt64)(f:LQ):Bs:=
(Aj f g).bind λ_=>
(Ip f g k).bind λo=>
j24 g o
def CC Li b a:=PQ (QC Li b a) b a
def BI(j23:Int->UInt64->LQ->Bs)(Aea:UInt64->Int->Bs)(b:UInt64)(a:LB)(g:Int)(f:LQ)(k:UInt64)(n:Int):Bs:=
if(Cf n 8)then
Aea (Rn (Cr k (GI.toZ (1:UInt64)).toNat) (Bd 4823603603198064275 (Bt k (GI.toZ (63:UInt64)).toNat))) (Ae n 1)
else
j23 g k f
def Qb(Li:Int->LQ->Bs)(b:UInt64)(a:LB)(g:Int)(f:LQ):Nat->UInt64->Int->Bs
|0,_,_=>none
|q+1,k,n=>BI (CC Li b a) (Qb Li b a g f q) b a g f k n
def SO Li b a g f:=Qb Li b a g f Aq
def DB(j21:Int->LQ->UInt64->Int->Bs)(j26:UInt64->LB->LQ->Bs)(b:UInt64)(a:LB)(g:Int)(f:LQ):Bs:=
if(Cf g 256)then
j21 g f (Cr (Ad g:UInt64) (GI.toZ (56:UInt64)).toNat) 0
else
j26 b a f
def Ma(b:UInt64)(a:LB):Nat->Int->LQ->Bs
|0,_,_=>none
|q+1,g,f=>DB (SO (Ma b a q) b a) DM b a g f
def QS b a:=Ma b a Aq
def WG(j16:UInt64->LB->Int->LQ->Bs)(b:UInt64)(a:LB):Bs:=
if(Dv (Ac a) 100000)then
some (0,4)
else
j16 b a 0 (List.replicate 256 (0:UInt64))
def bF:=WG QS
def XQ(a:LB):Option (UInt64×Int):=
(bF 0 a).bind λ(b,f)=>
some (b,f)
def Ad4(a:LX):Option (LX):=
some a
def yF:=Ad4
def cJ(j6:LX->Option (LX))(Om:Int->LX->Option (LX))(f:UInt64)(b:Int)(a:LX):Option (LX):=
if(Cf b 8)then
(Hy (Ly (Bd 8 b) 0)).bind λ_=>
(Aj a b).bind λ_=>
(Ip a b (Ad (Ad (Bt f (GI.toZ (Bd 8 b)).toNat):Int8):Int32)).bind λg=>
Om (Ae b 1) g
else
j6 a
def HP(f:UInt64):Nat->Int->LX->Option (LX)
|0,_,_=>none
|q+1,b,a=>cJ yF (HP f q) f b a
def H9 f:=HP f Aq
def D7(j4:UInt64->Int->LX->Option (LX))(f:UInt64):Option (LX):=
j4 f 0 (List.replicate 16 (0:Int32))
def S6:=D7 H9
def HW(a:LB):Option (LX×Int):=
if(Dv (Ac a) 64)then
some (([(0:Int32),(0:Int32),(0:Int32),(0:Int32),(0:Int32),(0:Int32),(0:Int32),(0:Int32),(0:Int32),(0:Int32),(0:Int32),(0:Int32),(0:Int32),(0:Int32),(0:Int32),(0:Int32)]:LX),2)
else
(XQ a).bind λ(f,b)=>
if(Bk b 0)then
some (([(0:Int32),(0:Int32),(0:Int32),(0:Int32),(0:Int32),(0:Int32),(0:Int32),(0:Int32),(0:Int32),(0:Int32),(0:Int32),(0:Int32),(0:Int32),(0:Int32),(0:Int32),(0:Int32)]:LX),b)
else
(S6 f).bind λg=>
some (g,0)
def MP(a b:UInt64):Option (UInt64×UInt64):=
some ((Ae (Ae (Bd (Bt a (GI.toZ (32:UInt64)).toNat) (Bt b (GI.toZ (32:UInt64)).toNat)) (Bt (Ae (Bd (Bt a (GI.toZ (32:UInt64)).toNat) (Db b 4294967295)) (Bt (Bd (Db a 4294967295) (Db b 4294967295)) (GI.toZ (32:UInt64)).toNat)) (GI.toZ (32:UInt64)).toNat)) (Bt (Ae (Db (Ae (Bd (Bt a (GI.toZ (32:UInt64)).toNat) (Db b 4294967295)) (Bt (Bd (Db a 4294967295) (Db b 4294967295)) (GI.toZ (32:UInt64)).toNat)) 4294967295) (Bd (Db a 4294967295) (Bt b (GI.toZ (32:UInt64)).toNat))) (GI.toZ (32:UInt64)).toNat)),(Bd a b))
def IY(a b:UInt64):Option (UInt64×UInt64):=
(MP a b).bind λ(f,g)=>
some (f,g)
def Ms(a:LI):Option (LI):=
some a
def Hz:=Ms
def Gh(j10:LI->Option (LI))(bk8:Int->LI->Option (LI))(b:Int)(a:LI):Option (LI):=
if(Cf b (Ac a))then
(
(cW (Ac a) b (Ac a)).bind λ_=>
(cW (Ac a) 0 b).bind λ_=>
bk8 (Ae b (RV ((Ac a)-b) (TI a 0 (b-(0:Int))).length)) (Ta a b ((Ac a)-b) (TI a 0 (b-(0:Int)))))
else
j10 a
def Eh:Nat->Int->LI->Option (LI)
|0,_,_=>none
|q+1,b,a=>Gh Hz (Eh q) b a
def Oe:=Eh Aq
def Og(j8:Int->LI->Option (LI))(f:LI)(g:UInt64):Option (LI):=
(mkI (Ad g:Int) (0:Int)).bind λk=>
(Hy (geq (Ad g:Int) (Ad g:Int))).bind λ_=>
j8 (RV (Ac k) f.length) (G6 k f)
def Nz:=Og Oe
def Nw(j7:LI->UInt64->Option (LI))(f:LI)(h:Int):Option (LI):=
(IY (Ad (Ac f):UInt64) (Ad h:UInt64)).bind λ(m,g)=>
if((Dv m 0)||(Dv g 9223372036854775807))then
none
else
j7 f g
def Oh:=Nw Nz
def Od(j6:LI->Int->Option (LI))(f:LI)(h:Int):Option (LI):=
if(Cf h 0)then
none
else
j6 f h
def Mk:=Od Oh
def TH(f:LI):Option (LI):=
some f
def Wn:=TH
def Fw(j16:LI->Option (LI))(Ave:Int->LI->Option (LI))(a:List LI)(g:Int)(f:LI):Option (LI):=
if(Cf g (Ac a))then
(Aj a g).bind λo=>
(Dd f o).bind λp=>
Ave (Ae g 1) p
else
j16 f
def Du(a:List LI):Nat->Int->LI->Option (LI)
|0,_,_=>none
|q+1,g,f=>Fw Wn (Du a q) a g f
def Mx a:=Du a Aq
def Mt(j14:(List LI)->Int->LI->Option (LI))(a:List LI)(k:LI):Option (LI):=
j14 a 0 k
def Ib:=Mt Mx
def Mu(j13:(List LI)->LI->Option (LI))(b:Int)(a:List LI):Option (LI):=
if(Dv (Ah b (Ah (0:Int) (0:Int))) 0)then
(cW 0 0 0).bind λ_=>
(mkI (Ah b (Ah (0:Int) (0:Int))) (0:Int)).bind λu=>
(Dd ([]:LI) u).bind λm=>
(cW (Ac m) 0 0).bind λ_=>
j13 a (TI m 0 ((0:Int)-(0:Int)))
else
j13 a ([]:LI)
def Mw:=Mu Ib
def Na(j12:Int-> (List LI)->Option (LI))(a:List LI)(b:Int):Option (LI):=
if(Cf b 0)then
none
else
j12 b a
def Mp:=Na Mw
def Gf(j11:(List LI)->Int->Option (LI))(bk9:Int->Int->Option (LI))(a:List LI)(b h:Int):Option (LI):=
if(Cf h (Ac a))then
(Aj a h).bind λn=>
if(Cf (Ae b (Ac n)) 0)then
none
else
bk9 (Ae b (Ac n)) (Ae h 1)
else
j11 a b
def Eg(a:List LI):Nat->Int->Int->Option (LI)
|0,_,_=>none
|q+1,b,h=>Gf Mp (Eg a q) a b h
def Ny a:=Eg a Aq
def Oa(j9:(List LI)->Int->Int->Option (LI))(a:List LI):Option (LI):=
j9 a 0 0
def Mg:=Oa Ny
def QZ(a b:LI):Option (LI):=
(Mg ([a,b]:List LI)).bind λf=>
some f
def Ul(a b:Int):Option (LI×Int):=
(He a b).bind λ(f,g)=>
if(Bk g 0)then
some (([]:LI),g)
else
(Qr a).bind λ(h,n)=>
(Mk ([h]:LI) (Ah f 1)).bind λk=>
(QZ k ([(Ah b (Bd (Ah f 1) h))]:LI)).bind λm=>
some (m,0)
def ID(a f:Int)(b:LX):Option Int:=
(Fm a f).bind λg=>
if(Bk g 0)then
some g
else
(Uq f b).bind λh=>
if(Bk h 0)then
some h
else
if(geq (Ac b) 0)then
some 2
else
(Hy (Bk a 0)).bind λ_=>
if(Bk (Ga (Ac b) a) 0)then
some 2
else
some 0
def XY(a:Int)(b:LX):Option Int:=
if((Cf a 1)||(Dv a 6))then
some 2
else
if(Dv (Ac b) 4000)then
some 4
else
(Hy (Bk a 0)).bind λ_=>
if(Bk (Ga (Ac b) a) 0)then
some 2
else
some 0
def Df(a:LX):Option (LX):=
(
(Dd ([]:LX) a).bind λb=>
some b)
abbrev Ht:=Option (LX×Int)
def zi(f:LX):Ht:=
some (f,0)
def tX:=zi
def fG(WT:Int->LX->Ht)(b a:Int)(k:LX):Ht:=
WT (Ae a b) k
def UK WT:=fG WT
def jJ(j20:Int->LX->Ht)(b a:Int)(g:LX):Ht:=
if(Dv (Ah ((Ae a b)-a) 1) 0)then
(Hy (decide (0<= (Ah ((Ae a b)-a) 1)/\ (Ah ((Ae a b)-a) 1)<((Ae a b)-a)))).bind λ_=>
Option.bind (Hy (decide (0<= (Ah (Ah ((Ae a b)-a) 1) 1)/\ (Ah (Ah ((Ae a b)-a) 1) 1)<((Ae a b)-a)))) λ_=>
(Aj g (a+(Ah ((Ae a b)-a) 1))).bind λm=>
(Aj g (a+(Ah (Ah ((Ae a b)-a) 1) 1))).bind λn=>
(Hy (decide (0<= (Ah ((Ae a b)-a) 1)/\ (Ah ((Ae a b)-a) 1)<((Ae a b)-a)))).bind λ_=>
(Ip g (a+(Ah ((Ae a b)-a) 1)) (Ah m (Bv n 2))).bind λo=>
j20 a o
else
j20 a g
def eS WT b:=jJ (UK WT b) b
def TL(j19:Int->LX->Ht)(Avg:Int->LX->Ht)(b a h:Int)(g:LX):Ht:=
if(Cf h (Ah ((Ae a b)-a) 1))then
(Hy (decide (0<= (Ae h 1)/\ (Ae h 1)<((Ae a b)-a)))).bind λ_=>
(Hy (decide (0<=h/\h<((Ae a b)-a)))).bind λ_=>
(Aj g (a+(Ae h 1))).bind λm=>
(Aj g (a+h)).bind λn=>
(Hy (decide (0<=h/\h<((Ae a b)-a)))).bind λ_=>
(Ip g (a+h) (Ah m n)).bind λo=>
Avg (Ae h 1) o
else
j19 a g
def AT(WT:Int->LX->Ht)(b a:Int):Nat->Int->LX->Ht
|0,_,_=>none
|q+1,h,g=>TL (eS WT b) (AT WT b a q) b a h g
def uI WT b a:=AT WT b a Aq
def fE(j17:Int->Int->LX->Ht)(j22:LX->Ht)(b a:Int)(f:LX):Ht:=
if(Cf a (Ac f))then
(cW (Ac f) a (Ae a b)).bind λ_=>
j17 a 0 f
else
j22 f
def AX(b:Int):Nat->Int->LX->Ht
|0,_,_=>none
|q+1,a,f=>fE (uI (AX b q) b) tX b a f
def eZ b:=AX b Aq
def nG(j12:Int->Int->LX->Ht)(b:Int)(p:LX):Ht:=
(XY b p).bind λu=>
if(Bk u 0)then
some (([]:LX),u)
else
(Df p).bind λv=>
j12 b 0 v
def wO:=nG eZ
abbrev mY:=Option (Int×LX×LX×Int)
def Abf(a:Int)(b:LX)(f:Bool):mY:=
if f then
some (10,b,(List.replicate 16 (0:Int32)),0)
else
if(geq a 16)then
some (9,b,(List.replicate 16 (0:Int32)),0)
else
some (0,(List.replicate 16 (0:Int32)),(List.replicate 16 (0:Int32)),2)
def uR:=Abf
def vD(j2:Int->LX->Bool->mY)(a:Int)(b:LX):mY:=
if(geq a 8)then
j2 a b (geq a 8)
else
j2 a b (geq a 24)
def qA:=vD uR
def tP(a:Int)(f:LX):Option (Int×Int32×Int×LX×LX×Int):=
(qA a f).bind λ(g,h,k,b)=>
if(Bk b 0)then
some (0,0,0,(List.replicate 16 (0:Int32)),(List.replicate 16 (0:Int32)),b)
else
some (a,0,g,h,k,0)
def Up(a:Int)(k:Int32)(b:Int)(f m:LX):Option Int:=
(qA a f).bind λ(g,n,o,h)=>
if((Bk h 0)||(Bk g b))then
some 8
else
some 0
def gM(a:Int):Option (Int×Int):=
if(geq a 8)then
some (4,0)
else
if(geq a 16)then
if(geq a 16)then
some (5,0)
else
some (0,2)
else
if(geq a 24)then
some (5,0)
else
some (0,2)
def TO(a:Int)(b:Int32):Option Int32:=
(Hy (Ly a 0)).bind λ_=>
(Hy (Ly a 0)).bind λ_=>
some (Ad (Y4 (Ah (Cr (Ad b:Int) (GI.toZ a).toNat) (Ad b:Int)) (GI.toZ a).toNat):Int32)
def Ur(b:Int)(f:Int32):Option (Int32×Int):=
(gM b).bind λ(g,a)=>
if(Bk a 0)then
some (0,a)
else
(TO g f).bind λh=>
some (h,0)
def HL(a:Int)(b f:LX):Option Int:=
if((Bk a 9)&&(Bk a 10))then
some 8
else
some 0
abbrev Rl:=Option (Int32×Int)
def mI(g:Int32)(a:Int)(b f:LX):Rl:=
(Hy (Ly a 0)).bind λ_=>
some ((Bt g (GI.toZ a).toNat),0)
def VN:=mI
def IG(j6:Int32->Int->LX->LX->Rl)(Om:Int32->Int->Rl)(b:LX)(a:Int)(f:LX)(g:Int32)(h:Int):Rl:=
if(Cf h 16)then
(Aj b h).bind λm=>
(Aj f h).bind λ_=>
(Aj f h).bind λn=>
Om (Ae g (Bd m n)) (Ae h 1)
else
j6 g a b f
def So(b:LX)(a:Int)(f:LX):Nat->Int32->Int->Rl
|0,_,_=>none
|q+1,g,h=>IG VN (So b a f q) b a f g h
def VU b a f:=So b a f Aq
def VH(j4:LX->Int->LX->Int32->Int->Rl)(a:Int)(b f:LX):Rl:=
(HL a b f).bind λk=>
if(Bk k 0)then
some (0,k)
else
(Hy (Ly (Ah a 1) 0)).bind λ_=>
j4 b a f (Cr (1:Int32) (GI.toZ (Ah a 1)).toNat) 0
def RI:=VH VU
def XJ(a:Int):Option Int32:=
if(geq a 0)then
some 4
else
if(Cf a 4)then
some 2
else
some 1
abbrev Qq:=Option (Int×LX×LX×Int)
def J4(g:Int)(b f:LX):Qq:=
some (g,b,f,0)
def lZ:=J4
def IH(j6:Int->LX->LX->Qq)(Om:Int->LX->Qq)(h:Int32)(f:LX)(g a:Int)(b:LX):Qq:=
if(Cf a 16)then
(Aj f a).bind λm=>
if(geq m 0)then
Om (Ae a 1) b
else
if((Cf m 0)==(Cf h 0))then
(Aj b a).bind λ_=>
(Aj b a).bind λo=>
(XJ a).bind λp=>
(Aj b a).bind λ_=>
(Ip b a (Ae o p)).bind λu=>
Om (Ae a 1) u
else
(Aj b a).bind λ_=>
(Aj b a).bind λv=>
(XJ a).bind λw=>
(Aj b a).bind λ_=>
(Ip b a (Ah v w)).bind λy=>
Om (Ae a 1) y
else
j6 g b f
def Sf(h:Int32)(f:LX)(g:Int):Nat->Int->LX->Qq
|0,_,_=>none
|q+1,a,b=>IH lZ (Sf h f g q) h f g a b
def lV h f g:=Sf h f g Aq
def WB(j4:Int32->LX->Int->Int->LX->Qq)(g:Int)(k f:LX)(h:Int32):Qq:=
(HL g k f).bind λn=>
if(Bk n 0)then
some (0,(List.replicate 16 (0:Int32)),(List.replicate 16 (0:Int32)),n)
else
if(geq h 0)then
some (g,k,f,0)
else
j4 h f g 0 k
def cK:=WB lV
abbrev iT:=Option (Int×LX×LX×Int)
def oR(g:Int32)(b:Int)(f a:LX):iT:=
(Aj (Ta a 1 ((16:Int)-(1:Int)) (TI a 0 ((16:Int)-(0:Int)))) 0).bind λ_=>
(Ip (Ta a 1 ((16:Int)-(1:Int)) (TI a 0 ((16:Int)-(0:Int)))) 0 g).bind λk=>
some (b,f,k,0)
def aW:=oR
def OH(j2:Int32->Int->LX->LX->iT)(b:Int)(f a:LX)(g:Int32):iT:=
(HL b f a).bind λh=>
if(Bk h 0)then
some (0,(List.replicate 16 (0:Int32)),(List.replicate 16 (0:Int32)),h)
else
(
(cW 16 1 16).bind λ_=>
(cW 16 0 16).bind λ_=>
j2 g b f a)
def kQ:=OH aW
def PG(a:Int)(b f:LX)(g h:Int32):Option (Int×LX×LX):=
(cK a b f h).bind λ(k,m,n,v)=>
(kQ k m n g).bind λ(o,p,u,w)=>
some (o,p,u)
def UU(b:Int)(f g:LX)(a:Int32):Option (Int32×Int×LX×LX×Int):=
(RI b f g).bind λ(h,k)=>
if(Bk k 0)then
some (0,0,(List.replicate 16 (0:Int32)),(List.replicate 16 (0:Int32)),k)
else
(PG b f g a (Ah a h)).bind λ(m,n,o)=>
some ((Ah a h),m,n,o,0)
def Se(a:Int)(b:Int32)(f:Int)(g h:LX)(k:Int32):Option (Int32×Int×Int32×Int×LX×LX×Int):=
(Up a b f g h).bind λm=>
if(Bk m 0)then
some (0,0,0,0,(List.replicate 16 (0:Int32)),(List.replicate 16 (0:Int32)),m)
else
(Ur a b).bind λ(n,y)=>
(UU f g h (Ah k n)).bind λ(o,p,u,v,w)=>
(
some (o,a,k,p,u,v,w))
def jV(a:Int32):Option UInt32:=
some (Rn (Cr (Ad a:UInt32) (GI.toZ (1:UInt64)).toNat) (Ad (Bt a (GI.toZ (31:UInt64)).toNat):UInt32))
abbrev Cq:=Option (LU×Int)
def nW(k:LU):Cq:=
some (k,0)
def SY:=nW
def Ro(j12:LU->Cq)(Aeb:Int-> (List (Int×Int32×(Int×LX×LX×Unit)×Unit))->LU->Cq)(b:LX)(a f g:Int)(o:List (Int×Int32×(Int×LX×LX×Unit)×Unit))(k:LU):Cq:=
if(Cf g (Ac b))then
(Aj b g).bind λ_=>
(Aj b g).bind λac=>
(Hy (Bk a 0)).bind λ_=>
(Aj o (Ga g a)).bind λ_=>
(Aj o (Ga g a)).bind λp=>
(Se p.1 p.2.1 p.2.2.1.1 p.2.2.1.2.1 p.2.2.1.2.2.1 ac).bind λ(u,ad,ae,v,af,ag,w)=>
if(Bk w 0)then
some (([]:LU),w)
else
(Ip o (Ga g a) (ad,ae,(v,af,ag,()),())).bind λah=>
(jV u).bind λai=>
(Dd k ([ai]:LU)).bind λaj=>
Aeb (Ae g 1) ah aj
else
j12 k
def Iy(b:LX)(a f:Int):Nat->Int-> (List (Int×Int32×(Int×LX×LX×Unit)×Unit))->LU->Cq
|0,_,_,_=>none
|q+1,g,o,k=>Ro SY (Iy b a f q) b a f g o k
def PK b a f:=Iy b a f Aq
def TK(j10:LX->Int->Int->Int-> (List (Int×Int32×(Int×LX×LX×Unit)×Unit))->LU->Cq)(a f:Int)(b:LX)(h:List (Int×Int32×(Int×LX×LX×Unit)×Unit)):Cq:=
j10 b a f 0 h ([]:LU)
def BH:=TK PK
def TP(j9:Int->Int->LX-> (List (Int×Int32×(Int×LX×LX×Unit)×Unit))->Cq)(bk7:Int-> (List (Int×Int32×(Int×LX×LX×Unit)×Unit))->Cq)(a f:Int)(m b:LX)(n:Int)(h:List (Int×Int32×(Int×LX×LX×Unit)×Unit)):Cq:=
if(Cf n 6)then
(tP f m).bind λ(ak,al,u,am,an,v)=>
(Aj h n).bind λ_=>
(Ip h n (ak,al,(u,am,an,()),())).bind λao=>
bk7 (Ae n 1) ao
else
j9 a f b h
def DC(a f:Int)(m b:LX):Nat->Int-> (List (Int×Int32×(Int×LX×LX×Unit)×Unit))->Cq
|0,_,_=>none
|q+1,n,h=>TP BH (DC a f m b q) a f m b n h
def Ua a f m b:=DC a f m b Aq
def CI(j7:Int->Int->LX->LX->Int-> (List (Int×Int32×(Int×LX×LX×Unit)×Unit))->Cq)(a f:Int)(m y:LX):Cq:=
(ID a f y).bind λaa=>
if(Bk aa 0)then
some (([]:LU),aa)
else
(wO a y).bind λ(b,ab)=>
if(Bk ab 0)then
some (([]:LU),ab)
else
j7 a f m b 0 (List.replicate 6 ((0:Int),(0:Int32),((0:Int),(List.replicate 16 (0:Int32)),(List.replicate 16 (0:Int32)),()),()))
def CG:=CI Ua
def oG:Option (Int×Int×UInt64×UInt64):=
some (10,10,16384,16384)
abbrev Iv:=Option ((List (Int×Int×UInt64×UInt64×Unit)))
def qE(a:List (Int×Int×UInt64×UInt64×Unit)):Iv:=
some a
def UO:=qE
def UQ(j6:(List (Int×Int×UInt64×UInt64×Unit))->Iv)(Om:Int-> (List (Int×Int×UInt64×UInt64×Unit))->Iv)(b:Int)(a:List (Int×Int×UInt64×UInt64×Unit)):Iv:=
if(Cf b 6)then
(oG).bind λ(f,g,h,k)=>
(Aj a b).bind λ_=>
(Ip a b (f,g,h,k,())).bind λm=>
Om (Ae b 1) m
else
j6 a
def BD:Nat->Int-> (List (Int×Int×UInt64×UInt64×Unit))->Iv
|0,_,_=>none
|q+1,b,a=>UQ UO (BD q) b a
def EH:=BD Aq
def CA(j4:Int-> (List (Int×Int×UInt64×UInt64×Unit))->Iv):Iv:=
j4 0 (List.replicate 6 ((0:Int),(0:Int),(0:UInt64),(0:UInt64),()))
def DU:=CA EH
def Ho(b:LB)(a:Int):Option Int:=
if(((Cf a 0)||(Dv a 330000))||(Bk (Ac b) (Y4 (Ae a 7) (GI.toZ (3:UInt64)).toNat)))then
some 8
else
if(Dv (Db a 7) 0)then
(Aj b (Ah (Ac b) 1)).bind λf=>
(Hy (Ly (Db a 7) 0)).bind λ_=>
if(Bk (Bt f (GI.toZ (Db a 7)).toNat) 0)then
some 8
else
some 0
else
some 0
def lN(a b:Int)(f g:UInt64):Option Int:=
if(!((geq (Dt (lB a 0) 24) a)&&((geq (Dt (lB b 0) 24) b)&&((geq (Dt f 68719476735) f)&&((geq (Dt g 68719476735) g)&&true)))))then
some 8
else
some 0
def UY:=lN
def IC(j4:Int->Int->UInt64->UInt64->Option Int)(a b:Int)(f g:UInt64):Option Int:=
(
(
j4 a b f g))
def WM:=IC UY
def IJ(j3:Int->Int->UInt64->UInt64->Option Int)(a b:Int)(f g:UInt64):Option Int:=
(
(
j3 a b f g))
def SC:=IJ WM
def HQ(a f:Int)(g h:UInt64)(b:UInt32):Option (Int×UInt32):=
(Hy (Ly a 0)).bind λ_=>
if(geq (Bt b (GI.toZ a).toNat) 0)then
some (0,b)
else
(Hy (Ly a 0)).bind λ_=>
some (1,(Ah b (Cr (1:UInt32) (GI.toZ a).toNat)))
def Ec(a:LB):Option (LB):=
(
(Dd ([]:LB) a).bind λb=>
some b)
def XP(a:LB)(b:Int):Option (LB×Int):=
(Ec a).bind λf=>
some (f,b)
abbrev Dg:=Option (LB×Int×Int)
def oH(f:Int)(o:LB):Dg:=
some (o,f,0)
def ZM:=oH
def pX(Aol:UInt64->Int->Int->LB->Dg)(b:UInt64)(a:Int)(m:UInt64)(h f:Int)(w:LB):Dg:=
(Hy (Ly (Dt h (Ah 8 (Db f 7))) 0)).bind λ_=>
Aol (Bt m (GI.toZ (Dt h (Ah 8 (Db f 7)))).toNat) (Ah h (Dt h (Ah 8 (Db f 7)))) (Ae f (Dt h (Ah 8 (Db f 7)))) w
def bY Aol:=pX Aol
def aX(j19:UInt64->Int->Int->LB->Dg)(b:UInt64)(a:Int)(m:UInt64)(h f:Int)(u:LB):Dg:=
(Aj u (Ah (Ac u) 1)).bind λ_=>
(Hy (Ly (Dt h (Ah 8 (Db f 7))) 0)).bind λ_=>
(Hy (Ly (Db f 7) 0)).bind λ_=>
(Aj u (Ah (Ac u) 1)).bind λad=>
(Aj u (Ah (Ac u) 1)).bind λ_=>
Option.bind (Ip u (Ah (Ac u) 1) (sW ad (Cr (Ad (Db m (Ah (Cr (1:UInt64) (GI.toZ (Dt h (Ah 8 (Db f 7)))).toNat) 1)):UInt8) (GI.toZ (Db f 7)).toNat))) λw=>
j19 m h f w
def OD Aol b a:=aX (bY Aol b a) b a
def OE(j18:UInt64->Int->Int->LB->Dg)(j21:Int->LB->Dg)(b:UInt64)(a:Int)(m:UInt64)(h f:Int)(o:LB):Dg:=
if(Dv h 0)then
if(geq (Db f 7) 0)then
(Dd o ([(0:UInt8)]:LB)).bind λab=>
j18 m h f ab
else
j18 m h f o
else
j21 f o
def Ni(b:UInt64)(a:Int):Nat->UInt64->Int->Int->LB->Dg
|0,_,_,_,_=>none
|q+1,m,h,f,o=>OE (OD (Ni b a q) b a) ZM b a m h f o
def qT b a:=Ni b a Aq
def S9(g:Int)(p:LB):Dg:=
some (p,g,0)
def qQ:=S9
def X5(Aom:UInt64->Int->Int->LB->Dg)(b:UInt64)(a:Int)(n:UInt64)(k g:Int)(y:LB):Dg:=
(Hy (Ly (Dt k (Ah 8 (Db g 7))) 0)).bind λ_=>
Aom (Bt n (GI.toZ (Dt k (Ah 8 (Db g 7)))).toNat) (Ah k (Dt k (Ah 8 (Db g 7)))) (Ae g (Dt k (Ah 8 (Db g 7)))) y
def pD Aom:=X5 Aom
def oT(j26:UInt64->Int->Int->LB->Dg)(b:UInt64)(a:Int)(n:UInt64)(k g:Int)(v:LB):Dg:=
(Aj v (Ah (Ac v) 1)).bind λ_=>
(Hy (Ly (Dt k (Ah 8 (Db g 7))) 0)).bind λ_=>
(Hy (Ly (Db g 7) 0)).bind λ_=>
(Aj v (Ah (Ac v) 1)).bind λae=>
(Aj v (Ah (Ac v) 1)).bind λ_=>
Option.bind (Ip v (Ah (Ac v) 1) (sW ae (Cr (Ad (Db n (Ah (Cr (1:UInt64) (GI.toZ (Dt k (Ah 8 (Db g 7)))).toNat) 1)):UInt8) (GI.toZ (Db g 7)).toNat))) λy=>
j26 n k g y
def pV Aom b a:=oT (pD Aom b a) b a
def oI(j25:UInt64->Int->Int->LB->Dg)(j28:Int->LB->Dg)(b:UInt64)(a:Int)(n:UInt64)(k g:Int)(p:LB):Dg:=
if(Dv k 0)then
if(geq (Db g 7) 0)then
(Dd p ([(0:UInt8)]:LB)).bind λw=>
j25 n k g w
else
j25 n k g p
else
j28 g p
def aE(b:UInt64)(a:Int):Nat->UInt64->Int->Int->LB->Dg
|0,_,_,_,_=>none
|q+1,n,k,g,p=>oI (pV (aE b a q) b a) qQ b a n k g p
def pP b a:=aE b a Aq
def fJ(j15:UInt64->Int->UInt64->Int->Int->LB->Dg)(j22:UInt64->Int->UInt64->Int->Int->LB->Dg)(ac:LB)(aa:Int)(b:UInt64)(a:Int):Dg:=
(Ho ac aa).bind λaf=>
if(Bk af 0)then
some (([]:LB),0,8)
else
if((Cf a 0)||(Dv a 64))then
some (([]:LB),0,2)
else
if(Cf a 64)then
(Hy (Ly a 0)).bind λ_=>
if(Bk (Bt b (GI.toZ a).toNat) 0)then
some (([]:LB),0,16)
else
if(Dv (Ae aa a) 330000)then
some (([]:LB),0,18)
else
(XP ac aa).bind λ(ag,ah)=>
j15 b a b a ah ag
else
if(Dv (Ae aa a) 330000)then
some (([]:LB),0,18)
else
(XP ac aa).bind λ(ab,ai)=>
j22 b a b a ai ab
def RT:=fJ qT pP
def Wj(b:UInt32)(a:Int):Option Bool:=
(Hy (Ly a 0)).bind λ_=>
some (Ly (Bt b (GI.toZ a).toNat) 48)
def bK(a:Int):Option (Int×Int):=
if((Cf a 0)||(Dv a 48))then
some (0,2)
else
some ((Dt (Ae a 1) 48),0)
def UL(b:LB)(f a:Int):Option (LB×Int×Int):=
(Ho b f).bind λg=>
if(Bk g 0)then
some (([]:LB),0,g)
else
(bK a).bind λ(k,h)=>
if(Bk h 0)then
some (([]:LB),0,h)
else
(Hy (Ly a 0)).bind λ_=>
(RT b f (Ah (Cr (1:UInt64) (GI.toZ a).toNat) 1) k).bind λ(m,n,o)=>
some (m,n,o)
abbrev ZF:=Option (LB×Int×Int)
def WO(b:LB)(f h:Int)(k:UInt32)(m:Int):ZF:=
(UL b f h).bind λ(p,u,n)=>
if(Bk n 0)then
some (([]:LB),0,n)
else
(RT p u (Ad k:UInt64) m).bind λ(v,w,y)=>
some (v,w,y)
def IM:=WO
def VC(j2:LB->Int->Int->UInt32->Int->ZF)(b:LB)(f:Int)(g:UInt32)(a:Int):ZF:=
(Ho b f).bind λo=>
if(Bk o 0)then
some (([]:LB),0,o)
else
if((Cf a 0)||(Dv a 24))then
some (([]:LB),0,2)
else
(Hy (Ly a 0)).bind λ_=>
(Hy (Ly a 0)).bind λ_=>
(Wj g a).bind λaa=>
if aa then
j2 b f 48 g 32
else
j2 b f (Ad (Bt g (GI.toZ a).toNat):Int) (Db g (Ah (Cr (1:UInt32) (GI.toZ a).toNat) 1)) a
def aI:=VC IM
abbrev Hp:=Option (LB×Int×Int×Int×UInt64×UInt64×Int)
def FC(k u n:Int)(a:UInt64)(b:UInt32)(o:UInt64)(m:LB):Hp:=
(
(
some (m,k,u,n,(Ae a (Ah (Ad b:UInt64) (Bt a (GI.toZ (4:UInt64)).toNat))),o,0)))
def SP:=FC
def VX(j10:Int->Int->Int->UInt64->UInt32->UInt64->LB->Hp)(b:UInt32)(k n:Int)(a o:UInt64)(m:LB)(u:Int):Hp:=
j10 k u n a b o m
def WH:=VX SP
def VD(j9:UInt32->Int->Int->UInt64->UInt64->LB->Int->Hp)(b:UInt32)(f:Int)(a:UInt64)(k:Int)(m:LB)(n:Int)(o:UInt64):Hp:=
if(Dv f 0)then
(Hy (Ly f 0)).bind λ_=>
if(Cf (Ae a (Ah (Ad b:UInt64) (Bt a (GI.toZ (4:UInt64)).toNat))) (Cr (16:UInt64) (GI.toZ f).toNat))then
j9 b k n a o m (Ah f 1)
else
if(Cf f 24)then
(Hy (Ly f 0)).bind λ_=>
if(Dv (Ae a (Ah (Ad b:UInt64) (Bt a (GI.toZ (4:UInt64)).toNat))) (Cr (32:UInt64) (GI.toZ f).toNat))then
j9 b k n a o m (Ae f 1)
else
j9 b k n a o m f
else
j9 b k n a o m f
else
if(Cf f 24)then
(Hy (Ly f 0)).bind λ_=>
if(Dv (Ae a (Ah (Ad b:UInt64) (Bt a (GI.toZ (4:UInt64)).toNat))) (Cr (32:UInt64) (GI.toZ f).toNat))then
j9 b k n a o m (Ae f 1)
else
j9 b k n a o m f
else
j9 b k n a o m f
def Xu:=VD WH
def VA(j8:UInt32->Int->UInt64->Int->LB->Int->UInt64->Hp)(b:UInt32)(f h:Int)(a g:UInt64)(y k:Int)(m:LB):Hp:=
if(Bk y 0)then
some (([]:LB),0,0,0,0,0,y)
else
(HQ f h a g b).bind λ(ag,p)=>
if(geq ag 1)then
if(Dv h 0)then
(Hy (Ly h 0)).bind λ_=>
if(Cf (Ae g (Ah (Ad p:UInt64) (Bt g (GI.toZ (4:UInt64)).toNat))) (Cr (16:UInt64) (GI.toZ h).toNat))then
j8 b f a k m (Ah h 1) (Ae g (Ah (Ad p:UInt64) (Bt g (GI.toZ (4:UInt64)).toNat)))
else
if(Cf h 24)then
(Hy (Ly h 0)).bind λ_=>
if(Dv (Ae g (Ah (Ad p:UInt64) (Bt g (GI.toZ (4:UInt64)).toNat))) (Cr (32:UInt64) (GI.toZ h).toNat))then
j8 b f a k m (Ae h 1) (Ae g (Ah (Ad p:UInt64) (Bt g (GI.toZ (4:UInt64)).toNat)))
else
j8 b f a k m h (Ae g (Ah (Ad p:UInt64) (Bt g (GI.toZ (4:UInt64)).toNat)))
else
j8 b f a k m h (Ae g (Ah (Ad p:UInt64) (Bt g (GI.toZ (4:UInt64)).toNat)))
else
if(Cf h 24)then
(Hy (Ly h 0)).bind λ_=>
if(Dv (Ae g (Ah (Ad p:UInt64) (Bt g (GI.toZ (4:UInt64)).toNat))) (Cr (32:UInt64) (GI.toZ h).toNat))then
j8 b f a k m (Ae h 1) (Ae g (Ah (Ad p:UInt64) (Bt g (GI.toZ (4:UInt64)).toNat)))
else
j8 b f a k m h (Ae g (Ah (Ad p:UInt64) (Bt g (GI.toZ (4:UInt64)).toNat)))
else
j8 b f a k m h (Ae g (Ah (Ad p:UInt64) (Bt g (GI.toZ (4:UInt64)).toNat)))
else
j8 b f a k m h g
def IL:=VA Xu
def WJ(j7:UInt32->Int->Int->UInt64->UInt64->Int->Int->LB->Hp)(b:UInt32)(v:LB)(w f h:Int)(a g:UInt64):Hp:=
(HQ f h a g b).bind λ(ad,ae)=>
(RT v w (Ad ad:UInt64) 1).bind λ(aa,ab,ac)=>
if((geq ac 0)&&(geq ad 0))then
(RT aa ab (Ad ae:UInt64) f).bind λ(ah,ai,aj)=>
j7 b f h a g aj ai ah
else
if(geq ac 0)then
(aI aa ab ae h).bind λ(ak,al,am)=>
j7 b f h a g am al ak
else
j7 b f h a g ac ab aa
def VG:=WJ IL
def WR(j6:UInt32->LB->Int->Int->Int->UInt64->UInt64->Hp)(v:LB)(w f h:Int)(a g:UInt64)(b:UInt32):Hp:=
(Ho v w).bind λan=>
if(Bk an 0)then
some (([]:LB),0,0,0,0,0,8)
else
(SC f h a g).bind λao=>
if(Bk ao 0)then
some (([]:LB),0,0,0,0,0,8)
else
j6 b v w f h a g
def ZW:=WR VG
abbrev Br:=Option (UInt32×Int)
def fX(h:UInt32):Br:=
some (h,0)
def PY:=fX
def EJ(j30:UInt32->Br)(Aza:UInt32->Int->Br)(a:LB)(b:LU)(h:UInt32)(m:Int):Br:=
if(Cf m (Ac a))then
(Aj a m).bind λp=>
(Aj b (GI.toZ (Rn (Ad h:UInt8) p))).bind λ_=>
(Aj b (GI.toZ (Rn (Ad h:UInt8) p))).bind λu=>
Aza (Rn (Bt h (GI.toZ (8:UInt64)).toNat) u) (Ae m 1)
else
j30 h
def Ps(a:LB)(b:LU):Nat->UInt32->Int->Br
|0,_,_=>none
|q+1,h,m=>EJ PY (Ps a b q) a b h m
def QY a b:=Ps a b Aq
def QM(j28:LB->LU->UInt32->Int->Br)(f:UInt32)(a:LB)(b:LU):Br:=
j28 a b f 0
def QD:=QM QY
def QB(j27:UInt32->LB->LU->Br)(f:UInt32)(a:LB)(b:LU):Br:=
j27 f a b
def CZ:=QB QD
def fK(Li:Int->LU->Br)(f:UInt32)(a:LB)(g:Int)(o:LU):Br:=
Li (Ae g 1) o
def SH Li:=fK Li
def QW(j24:Int->LU->Br)(f:UInt32)(a:LB)(g:Int)(k:UInt32)(b:LU):Br:=
(Aj b g).bind λ_=>
(Ip b g k).bind λo=>
j24 g o
def CT Li f a:=QW (SH Li f a) f a
def CB(j23:Int->UInt32->LU->Br)(Aea:UInt32->Int->Br)(f:UInt32)(a:LB)(g:Int)(b:LU)(k:UInt32)(n:Int):Br:=
if(Cf n 8)then
Aea (Rn (Bt k (GI.toZ (1:UInt64)).toNat) (Bd 3988292384 (Db k 1))) (Ae n 1)
else
j23 g k b
def Pg(Li:Int->LU->Br)(f:UInt32)(a:LB)(g:Int)(b:LU):Nat->UInt32->Int->Br
|0,_,_=>none
|q+1,k,n=>CB (CT Li f a) (Pg Li f a g b q) f a g b k n
def PA Li f a g b:=Pg Li f a g b Aq
def EL(j21:Int->LU->UInt32->Int->Br)(j26:UInt32->LB->LU->Br)(f:UInt32)(a:LB)(g:Int)(b:LU):Br:=
if(Cf g 256)then
j21 g b (Ad g:UInt32) 0
else
j26 f a b
def Ln(f:UInt32)(a:LB):Nat->Int->LU->Br
|0,_,_=>none
|q+1,g,b=>EL (PA (Ln f a q) f a) CZ f a g b
def PU f a:=Ln f a Aq
def VQ(j16:UInt32->LB->Int->LU->Br)(f:UInt32)(a:LB):Br:=
if(Dv (Ac a) 100000)then
some (0,4)
else
j16 f a 0 (List.replicate 256 (0:UInt32))
def bU:=VQ PU
def Vv(b:LB):Option (UInt32×Int):=
(bU 4294967295 b).bind λ(f,a)=>
if(Bk a 0)then
some (0,a)
else
some ((C0 f),0)
def wM(b:UInt64)(a:Int):Option Bool:=
if(geq a 8)then
some true
else
(Hy (Ly (Bd 8 a) 0)).bind λ_=>
some (geq (Bt b (GI.toZ (Bd 8 a)).toNat) 0)
abbrev Zn:=Option (LB×Int)
def vA(a:LB):Zn:=
some (a,0)
def fA:=vA
def TX(j6:LB->Zn)(Om:Int->LB->Zn)(f:UInt64)(g:LB)(b:Int)(a:LB):Zn:=
if(Cf b (Ac g))then
(Hy (Ly (Bd 8 b) 0)).bind λ_=>
(Aj a b).bind λ_=>
(Ip a b (Ad (Bt f (GI.toZ (Bd 8 b)).toNat):UInt8)).bind λk=>
Om (Ae b 1) k
else
j6 a
def AS(f:UInt64)(g:LB):Nat->Int->LB->Zn
|0,_,_=>none
|q+1,b,a=>TX fA (AS f g q) f g b a
def iA f g:=AS f g Aq
def gS(j4:UInt64->LB->Int->LB->Zn)(f:UInt64)(h:Int):Zn:=
if((Cf h 1)||(Dv h 8))then
some (([]:LB),2)
else
(wM f h).bind λm=>
if(!m)then
some (([]:LB),16)
else
(mkI h (0:UInt8)).bind λg=>
(Hy (geq h h)).bind λ_=>
j4 f g 0 g
def Lk:=gS iA
def ON(f:LB):Option (LB):=
some f
def Tu:=ON
def Eu(j16:LB->Option (LB))(Ave:Int->LB->Option (LB))(a:List LB)(g:Int)(f:LB):Option (LB):=
if(Cf g (Ac a))then
(Aj a g).bind λo=>
(Dd f o).bind λp=>
Ave (Ae g 1) p
else
j16 f
def Dh(a:List LB):Nat->Int->LB->Option (LB)
|0,_,_=>none
|q+1,g,f=>Eu Tu (Dh a q) a g f
def Ks a:=Dh a Aq
def Kw(j14:(List LB)->Int->LB->Option (LB))(a:List LB)(k:LB):Option (LB):=
j14 a 0 k
def Ha:=Kw Ks
def La(j13:(List LB)->LB->Option (LB))(b:Int)(a:List LB):Option (LB):=
if(Dv (Ah b (Ah (0:Int) (0:Int))) 0)then
(cW 0 0 0).bind λ_=>
(mkI (Ah b (Ah (0:Int) (0:Int))) (0:UInt8)).bind λu=>
(Dd ([]:LB) u).bind λm=>
(cW (Ac m) 0 0).bind λ_=>
j13 a (TI m 0 ((0:Int)-(0:Int)))
else
j13 a ([]:LB)
def Lb:=La Ha
def Kx(j12:Int-> (List LB)->Option (LB))(a:List LB)(b:Int):Option (LB):=
if(Cf b 0)then
none
else
j12 b a
def Ld:=Kx Lb
def Fg(j11:(List LB)->Int->Option (LB))(bk9:Int->Int->Option (LB))(a:List LB)(b h:Int):Option (LB):=
if(Cf h (Ac a))then
(Aj a h).bind λn=>
if(Cf (Ae b (Ac n)) 0)then
none
else
bk9 (Ae b (Ac n)) (Ae h 1)
else
j11 a b
def Dp(a:List LB):Nat->Int->Int->Option (LB)
|0,_,_=>none
|q+1,b,h=>Fg Ld (Dp a q) a b h
def Lp a:=Dp a Aq
def Mb(j9:(List LB)->Int->Int->Option (LB))(a:List LB):Option (LB):=
j9 a 0 0
def Jv:=Mb Lp
abbrev Bg:=Option (LB×Int)
def RU(u:Int)(p:LB):Bg:=
(Vv p).bind λ(af,ac)=>
if(Bk ac 0)then
some (([]:LB),ac)
else
(Lk (Ad af:UInt64) 4).bind λ(m,h)=>
if(Bk h 0)then
some (([]:LB),h)
else
(Jv ([p,m]:List LB)).bind λag=>
some (ag,0)
def Zd:=RU
def QG(MY:Int-> (List (Int×Int×UInt64×UInt64×Unit))->Int->LB->Bg)(a:LU)(b f g:Int)(k:List (Int×Int×UInt64×UInt64×Unit))(n:Int)(v:LB):Bg:=
MY (Ae g 1) k n v
def Zm MY:=QG MY
def SS(I1:Int->Int->LB->Bg)(h:Int)(a:LU)(g b f:Int)(k:List (Int×Int×UInt64×UInt64×Unit))(m:LB)(o n:Int)(aa:LB):Bg:=
I1 (Ae o 1) (Ae n 1) aa
def Za I1:=SS I1
def Yx(j48:Int->Int->LB->Bg)(h:Int)(a:LU)(g b f:Int)(k:List (Int×Int×UInt64×UInt64×Unit))(m:LB)(o n:Int)(y:LB):Bg:=
(Aj m (Bv o 8)).bind λ_=>
(Aj m (Bv o 8)).bind λah=>
(Hy (Ly (Ga o 8) 0)).bind λ_=>
(Aj y (Bv n 8)).bind λ_=>
(Hy (Ly (Ga n 8) 0)).bind λ_=>
(Aj y (Bv n 8)).bind λai=>
(Aj y (Bv n 8)).bind λ_=>
Option.bind (Ip y (Bv n 8) (sW ai (Cr (Db (Bt ah (GI.toZ (Ga o 8)).toNat) 1) (GI.toZ (Ga n 8)).toNat))) λaa=>
j48 o n aa
def Qy I1 h a g b f k m:=Yx (Za I1 h a g b f k m) h a g b f k m
def Rr(j47:Int->Int->LB->Bg)(j50:Int-> (List (Int×Int×UInt64×UInt64×Unit))->Int->LB->Bg)(a:LU)(b f h g:Int)(k:List (Int×Int×UInt64×UInt64×Unit))(m:LB)(o n:Int)(v:LB):Bg:=
if(Cf o h)then
if(geq (Ga n 8) 0)then
(Dd v ([(0:UInt8)]:LB)).bind λaj=>
j47 o n aj
else
j47 o n v
else
j50 g k n v
def Fj(MY:Int-> (List (Int×Int×UInt64×UInt64×Unit))->Int->LB->Bg)(a:LU)(b f h g:Int)(k:List (Int×Int×UInt64×UInt64×Unit))(m:LB):Nat->Int->Int->LB->Bg
|0,_,_,_=>none
|q+1,o,n,v=>Rr (Qy (Fj MY a b f h g k m q) h a g b f k m) (Zm MY a b f) a b f h g k m o n v
def RA MY a b f h g k m:=Fj MY a b f h g k m Aq
def Rh(j44:Int->Int-> (List (Int×Int×UInt64×UInt64×Unit))->LB->Int->Int->LB->Bg)(j52:Int->LB->Bg)(a:LU)(b f g:Int)(w:List (Int×Int×UInt64×UInt64×Unit))(u:Int)(p:LB):Bg:=
if(Cf g (Ac a))then
(Aj a g).bind λ_=>
(Aj a g).bind λak=>
(Hy (Bk b 0)).bind λ_=>
(Aj w (Ga g b)).bind λ_=>
(Aj w (Ga g b)).bind λab=>
(ZW ([]:LB) 0 ab.1 ab.2.1 ab.2.2.1 ab.2.2.2.1 ak).bind λ(m,h,al,am,an,ao,ad)=>
if(Bk ad 0)then
some (([]:LB),ad)
else
(Hy (Bk b 0)).bind λ_=>
(Aj w (Ga g b)).bind λ_=>
(Ip w (Ga g b) (al,am,an,ao,())).bind λk=>
j44 h g k m 0 u p
else
j52 u p
def Gq(a:LU)(b f:Int):Nat->Int-> (List (Int×Int×UInt64×UInt64×Unit))->Int->LB->Bg
|0,_,_,_,_=>none
|q+1,g,w,u,p=>Rh (RA (Gq a b f q) a b f) Zd a b f g w u p
def Yv a b f:=Gq a b f Aq
def BW(j27:LU->Int->Int->Int-> (List (Int×Int×UInt64×UInt64×Unit))->Int->LB->Bg)(b f:Int)(ap aq:LX):Bg:=
(CG b f ap aq).bind λ(a,ae)=>
if(Bk ae 0)then
some (([]:LB),ae)
else
(DU).bind λar=>
j27 a b f 0 ar 0 ([]:LB)
def Qg:=BW Yv
def Oj(a:Int)(b:LX):LI->Int->Option (List LX)
  |[],_=>some []
  |n::l,x=>Option.bind (Ca b x (Ae x (Bd n a))) λp=>Option.bind (Oj a b l (Ae x (Bd n a))) λps=>some (p::ps)
def Of(a f:Int)(t:LX):List LX->List LB->Option (List LB×Int)
  |[],o=>some (o,0)
  |x::xs,o=>Option.bind (Qg a f t x) λy=>
    if(Bk y.2 0)=true then some ([],y.2)
    else Option.bind (Dd o [y.1]) λo'=>Of a f t xs o'
def SA(a h:Int)(b:LX):Option (List LX):=
  Option.bind (Hy (Bk a 0)) λ_=>Option.bind (Ul h (Bv (Ac b) a)) λl=>Option.bind (Hy (decide (Ac l.1<=17179869184))) λ_=>Oj a b l.1 0
def JT(a f h:Int)(b:LX)(p:LB):Option (List LB×Int):=
  Option.bind (Cx a f h b) λe=>
    if(Bk e 0)=true then some ([],e)
    else Option.bind (HW p) λt=>
      if(Bk t.2 0)=true then some ([],t.2)
      else Option.bind (SA a h b) λxs=>Of a f t.1 xs []
def XL(b f a g h:Int):Option Bool:=
some (((((((geq b 1)||(geq b 2))&&(Dv f 0))&&(yh f 6))&&(Dv g 0))&&(yh g 1048576))&&(Dv h 0))
def Wa:=XL
def GY(j2:Int->Int->Int->Int->Int->Option Bool)(b f a g h:Int):Option Bool:=
if(geq a 8)then
if(geq a 8)then
j2 b f a g h
else
some false
else
if(geq a 16)then
if(geq a 16)then
j2 b f a g h
else
some false
else
if(geq a 24)then
j2 b f a g h
else
some false
def Xq:=GY Wa
def LD(k a m f b:Int):Option Bool:=
(Hy (Bk a 0)).bind λ_=>
if(Dv b (Bv 4000 a))then
some false
else
(He f b).bind λ(g,h)=>
some ((geq h 0)&&(yh g 1000))
def Qp(a b f g h:Int):Option Int:=
(Xq a b f g h).bind λk=>
if(!k)then
some 8
else
(LD a b f g h).bind λm=>
if(!m)then
some 8
else
some 0
abbrev Lw:=Option (LB×Int)
def cS(a:LB):Lw:=
(Vv a).bind λ(u,aa)=>
(Lk (Ad u:UInt64) 4).bind λ(n,v)=>
(Dd a n).bind λo=>
some (o,0)
def Yr:=cS
def Yp(j6:LB->Lw)(Om:Int->LB->Lw)(b f g h k m:Int)(a:LB):Lw:=
if(Cf m 5)then
(Aj ([b,f,g,h,k]:LI) m).bind λw=>
(Aj ([(2:Int),(2:Int),(2:Int),(4:Int),(4:Int)]:LI) m).bind λy=>
(Lk (Ad w:UInt64) y).bind λ(n,v)=>
(Dd a n).bind λo=>
Om (Ae m 1) o
else
j6 a
def Kb(b f g h k:Int):Nat->Int->LB->Lw
|0,_,_=>none
|q+1,m,a=>Yp Yr (Kb b f g h k q) b f g h k m a
def ML b f g h k:=Kb b f g h k Aq
def MW(j4:Int->Int->Int->Int->Int->Int->LB->Lw)(b f g h k:Int):Lw:=
(Qp b f g h k).bind λp=>
if(Bk p 0)then
some (([]:LB),p)
else
j4 b f g h k 0 ([(84:UInt8),(84:UInt8),(65:UInt8),(49:UInt8)]:LB)
def OJ:=MW ML
def sY(a:LB):Option (UInt64×Int):=
if(Dv (Ac a) 64)then
some (0,2)
else
(XQ a).bind λ(b,f)=>
some (b,0)
def DS(b:LB):Option (LB×Int):=
(sY b).bind λ(f,a)=>
if(Bk a 0)then
some (([]:LB),a)
else
(Lk f 8).bind λ(g,h)=>
some (g,h)
def C1:Option Int:=
some 0
def jP:=C1
def EX(j6:Option Int)(Om:Int->Int->Option Int)(a:LI)(f b:Int):Option Int:=
if(Cf b (Ac a))then
(Aj a b).bind λg=>
if((Cf g 5)||(Dv g f))then
some 8
else
Om (Ah f g) (Ae b 1)
else
j6
def Pu(a:LI):Nat->Int->Int->Option Int
|0,_,_=>none
|q+1,f,b=>EX jP (Pu a q) a f b
def RJ a:=Pu a Aq
def EC(j4:LI->Int->Int->Option Int)(a:LI):Option Int:=
if((geq (Ac a) 0)||(Dv (Ac a) 1000))then
some 8
else
j4 a 100000 0
def Qm:=EC RJ
abbrev Gg:=Option (LB×Int)
def vO(g:LB):Gg:=
some (g,0)
def dB:=vO
def MH(j14:LB->Gg)(b:LB):Gg:=
(Vv b).bind λ(m,u)=>
(Lk (Ad m:UInt64) 4).bind λ(n,v)=>
(Dd b n).bind λg=>
j14 g
def MF:=MH dB
def dE(bk8:Int->LB->Gg)(a:LI)(f:Int)(h:LB):Gg:=
bk8 (Ae f 1) h
def MK bk8:=dE bk8
def EW(j11:Int->LB->Gg)(j13:LB->Gg)(a:LI)(f:Int)(b:LB):Gg:=
if(Cf f (Ac a))then
(Aj a f).bind λo=>
(Lk (Ad o:UInt64) 4).bind λ(p,w)=>
(Dd b p).bind λh=>
j11 f h
else
j13 b
def Pd(a:LI):Nat->Int->LB->Gg
|0,_,_=>none
|q+1,f,b=>EW (MK (Pd a q) a) MF a f b
def iY a:=Pd a Aq
def QA(j8:LI->Int->LB->Gg)(a:LI):Gg:=
(Qm a).bind λk=>
if(Bk k 0)then
some (([]:LB),k)
else
j8 a 0 ([]:LB)
def UP:=QA iY
def VK(a:LB):Option Int:=
some (Ac a)
def yU(a:LB):Option (LB):=
some a
def iS:=yU
def DX(j6:LB->Option (LB))(Om:Int->LB->Option (LB))(b:List LB)(f:Int)(a:LB):Option (LB):=
if(Cf f (Ac b))then
(Aj b f).bind λg=>
(Dd a g).bind λh=>
Om (Ae f 1) h
else
j6 a
def Qh(b:List LB):Nat->Int->LB->Option (LB)
|0,_,_=>none
|q+1,f,a=>DX iS (Qh b q) b f a
def iB b:=Qh b Aq
def fT(j4:(List LB)->Int->LB->Option (LB))(b:List LB):Option (LB):=
j4 b 0 ([]:LB)
def jB:=fT iB
abbrev Ee:=Option (LB×Int)
def cN(k:Int)(a:List LB)(b f n:LB):Ee:=
if(Bk k 0)then
some (([]:LB),k)
else
(Dd ([b,f,n]:List LB) a).bind λm=>
(jB m).bind λad=>
some (ad,0)
def MT:=cN
def MC(j14:Int-> (List LB)->LB->LB->LB->Ee)(h:LI)(a:List LB)(b f:LB):Ee:=
(UP h).bind λ(n,k)=>
j14 k a b f n
def Sd:=MC MT
def cL(bk9:Int->LI->Ee)(a:List LB)(b f:LB)(g:Int)(m:LI):Ee:=
bk9 (Ae g 1) m
def MJ bk9:=cL bk9
def DP(j11:Int->LI->Ee)(j13:LI-> (List LB)->LB->LB->Ee)(a:List LB)(b f:LB)(g:Int)(h:LI):Ee:=
if(Cf g (Ac a))then
(Aj a g).bind λ_=>
(Aj a g).bind λae=>
(VK ae).bind λk=>
(Aj h g).bind λ_=>
(Ip h g k).bind λm=>
j11 g m
else
j13 h a b f
def Qf(a:List LB)(b f:LB):Nat->Int->LI->Ee
|0,_,_=>none
|q+1,g,h=>DP (MJ (Qf a b f q) a b f) Sd a b f g h
def iH a b f:=Qf a b f Aq
def PB(j9:(List LB)->LB->LB->Int->LI->Ee)(a:List LB)(b f:LB):Ee:=
(mkI (Ac a) (0:Int)).bind λaf=>
(Hy (geq (Ac a) (Ac a))).bind λ_=>
j9 a b f 0 af
def CW:=PB iH
def PT(j8:(List LB)->LB->LB->Ee)(p u v:Int)(w:LX)(o:LB):Ee:=
(UJ p u v w o).bind λ(y,ag,ah,ai,aj,aa)=>
if(Bk aa 0)then
some (([]:LB),aa)
else
(JT p u v w o).bind λ(a,ab)=>
if(Bk ab 0)then
some (([]:LB),ab)
else
(OJ y ag ah ai aj).bind λ(b,ac)=>
if(Bk ac 0)then
some (([]:LB),ac)
else
if(geq y 2)then
(DS o).bind λ(ak,al)=>
j8 a b ak
else
j8 a b ([]:LB)
def LK:=PT CW
def Nk(a:LB):Option (LB):=
(KQ).bind λ(b,f,g,h)=>
(LK b f g h a).bind λ(k,m)=>
some k
def Gz(a b:LB):Option Bool:=
some (a==b)
def Ke(b a:LB):Option Bool:=
if(Ly (Ac b) (Ac a))then
(Ca b 0 (Ac a)).bind λf=>
(Gz f a).bind λg=>
some g
else
some false
abbrev Kh:=Option (Int×Int)
def sH(b:Int):Kh:=
some (b,0)
def YH:=sH
def Vx(j6:Int->Kh)(Om:Int->Int->Kh)(a:LB)(b f:Int):Kh:=
if(Cf f (Ac a))then
(Aj a f).bind λg=>
if(Dv g 127)then
some (0,12)
else
Om (sW (Cr b (GI.toZ (7:UInt64)).toNat) (Ad g:Int)) (Ae f 1)
else
j6 b
def Lg(a:LB):Nat->Int->Int->Kh
|0,_,_=>none
|q+1,b,f=>Vx YH (Lg a q) a b f
def GR a:=Lg a Aq
def HT(j4:LB->Int->Int->Kh)(a:LB):Kh:=
if(Bk (Ac a) 4)then
some (0,2)
else
j4 a 0 0
def IF:=HT GR
abbrev Hl:=Option (Int×Int)
def cT(a:LB)(b:UInt8)(h:Int):Hl:=
if(Dv h 4000)then
some (0,4)
else
if(Cf (Ac a) h)then
some (0,24)
else
if(geq b 16)then
(Ca a (Ah h 10) h).bind λk=>
(Ca k 0 3).bind λu=>
if(u !=([51,68,73]:LB))then
some (0,12)
else
(Ca k 3 (Ac k)).bind λv=>
(Ca a 3 10).bind λw=>
(Gz v w).bind λy=>
if(!y)then
some (0,12)
else
some (h,0)
else
some (h,0)
def Yj:=cT
def MO(j8:LB->UInt8->Int->Hl)(a:LB)(g:Int)(b:UInt8):Hl:=
if(geq b 16)then
j8 a b (Ae (Ae g 10) 10)
else
j8 a b (Ae g 10)
def Ys:=MO Yj
def MA(j7:LB->Int->UInt8->Hl)(a:LB)(g:Int)(b:UInt8)(m:Bool):Hl:=
if m then
some (0,12)
else
j7 a g b
def MB:=MA Ys
def MV(j6:LB->Int->UInt8->Bool->Hl)(a:LB)(f b:UInt8):Hl:=
(Ca a 6 10).bind λaa=>
(IF aa).bind λ(g,ab)=>
if(Bk ab 0)then
if true then
j6 a g b true
else
if(geq b 0)then
j6 a g b (!((Ly f 2)&&(yh f 4)))
else
if(geq b 16)then
j6 a g b (!(geq f 4))
else
j6 a g b (!false)
else
(Aj a 4).bind λac=>
if(Bk ac 0)then
j6 a g b true
else
if(geq b 0)then
j6 a g b (!((Ly f 2)&&(yh f 4)))
else
if(geq b 16)then
j6 a g b (!(geq f 4))
else
j6 a g b (!false)
def MI:=MV MB
def Yk(j5:LB->UInt8->UInt8->Hl)(a:LB):Hl:=
(Ke a ([(73:UInt8),(68:UInt8),(51:UInt8)]:LB)).bind λn=>
if(!n)then
some (0,6)
else
if(Cf (Ac a) 10)then
some (0,24)
else
(Aj a 3).bind λf=>
(Aj a 5).bind λb=>
(
(
(
j5 a f b)))
def NW:=Yk MI
abbrev Zo:=Option (UInt64×Int)
def pq(b:UInt64):Zo:=
some (b,0)
def uN:=pq
def UC(j6:UInt64->Zo)(Om:UInt64->Int->Zo)(a:LB)(b:UInt64)(f:Int):Zo:=
if(Cf f (Ac a))then
(Aj a f).bind λg=>
(Hy (Ly (Bd 8 f) 0)).bind λ_=>
Om (sW b (Cr (Ad g:UInt64) (GI.toZ (Bd 8 f)).toNat)) (Ae f 1)
else
j6 b
def Zw(a:LB):Nat->UInt64->Int->Zo
|0,_,_=>none
|q+1,b,f=>UC uN (Zw a q) a b f
def iF a:=Zw a Aq
def jM(j4:LB->UInt64->Int->Zo)(a:LB):Zo:=
if((Cf (Ac a) 1)||(Dv (Ac a) 8))then
some (0,2)
else
j4 a 0 0
def fW:=jM iF
def YB(f:LB)(a b:Int):Option (UInt64×Int):=
if(((Cf b 1)||(Dv b 8))||(Cf a 0))then
some (0,2)
else
if(Dv a (Ah (Ac f) b))then
some (0,24)
else
(Ca f a (Ae a b)).bind λg=>
(fW g).bind λ(h,k)=>
some (h,k)
def D1(g:LB):Option (LB):=
some g
def nF:=D1
def aG(j6:LB->Option (LB))(Om:Int->LB->Option (LB))(a b:Int)(f:UInt64)(h:Int)(g:LB):Option (LB):=
if(Cf h (Ac ([(2000:UInt64),(Ad (Ae a 32):UInt64),(Ad b:UInt64),f,(0:UInt64),(0:UInt64)]:LQ)))then
(Aj ([(2000:UInt64),(Ad (Ae a 32):UInt64),(Ad b:UInt64),f,(0:UInt64),(0:UInt64)]:LQ) h).bind λ_=>
(Aj ([(2000:UInt64),(Ad (Ae a 32):UInt64),(Ad b:UInt64),f,(0:UInt64),(0:UInt64)]:LQ) h).bind λk=>
(Lk k 4).bind λ(m,o)=>
(Dd g m).bind λn=>
Om (Ae h 1) n
else
j6 g
def Zr(a b:Int)(f:UInt64):Nat->Int->LB->Option (LB)
|0,_,_=>none
|q+1,h,g=>aG nF (Zr a b f q) a b f h g
def mZ a b f:=Zr a b f Aq
def nV(j4:Int->Int->UInt64->Int->LB->Option (LB))(a b:Int)(f:UInt64):Option (LB):=
j4 a b f 0 ([(65:UInt8),(80:UInt8),(69:UInt8),(84:UInt8),(65:UInt8),(71:UInt8),(69:UInt8),(88:UInt8)]:LB)
def jX:=nV mZ
def OS(b:LB)(g:UInt64):Option (Int×Int×Bool):=
(YB b 12 4).bind λ(a,m)=>
(YB b 16 4).bind λ(f,n)=>
if(((Cf a 32)||(Dv a 3032))||(Dv f 1000))then
some (0,0,false)
else
(jX (Ah (Ad a:Int) 32) (Ad f:Int) g).bind λh=>
(Gz b h).bind λk=>
some ((Ah (Ad a:Int) 32),(Ad f:Int),k)
def kB(a:LB):Option (Int×Int):=
(Ke a ([(65:UInt8),(80:UInt8),(69:UInt8),(84:UInt8),(65:UInt8),(71:UInt8),(69:UInt8),(88:UInt8)]:LB)).bind λf=>
if(!f)then
some (0,6)
else
if(Cf (Ac a) 32)then
some (0,24)
else
(Ca a 0 32).bind λg=>
(OS g 2684354560).bind λ(b,h,k)=>
if(!k)then
some (0,12)
else
if(Cf (Ac a) (Ae b 64))then
some (0,24)
else
(Ca a (Ah (Ae b 64) 32) (Ae b 64)).bind λm=>
(jX b h 2147483648).bind λn=>
(Gz m n).bind λo=>
if(!o)then
some (0,12)
else
some ((Ae b 64),0)
def Uo(a:LB):Option (Int×Int):=
(NW a).bind λ(f,b)=>
if(Bk b 6)then
some (f,b)
else
(kB a).bind λ(g,h)=>
some (g,h)
def Sm(b:List UInt8):Nat->Int->Option (Int×Int)
  |0,_=>none
  |q+1,x=>Option.bind (Ca b x (Ac b)) λs=>Option.bind (Uo s) λr=>
    if geq r.2 (6:Int)=true then some (x,0)
    else if(geq r.2 (0:Int)&&Dv (Ae x r.1) (4000:Int))=true then some (0,4)
    else if Bk r.2 (0:Int)=true then some (0,r.2)
    else Sm b q (Ae x r.1)
def Va(b:List UInt8):Option (Int×Int):=Sm b Aq 0
def Iu(b a:LB):Option Bool:=
if(Ly (Ac b) (Ac a))then
(Ca b 0 (Ac a)).bind λf=>
some (f==a)
else
some false
def Ts(a b:LB):Option Bool:=
(Iu a b).bind λf=>
some f
abbrev Oi:=Option (Int×Int×Int×Int×Int×Int)
def iZ(a:LI):Oi:=
(Aj a 0).bind λ_=>
(Aj a 0).bind λh=>
(Aj a 1).bind λ_=>
(Aj a 1).bind λk=>
(Aj a 2).bind λ_=>
(Aj a 2).bind λm=>
(Aj a 3).bind λ_=>
(Aj a 3).bind λn=>
(Aj a 4).bind λ_=>
(Aj a 4).bind λo=>
(Xq h k m n o).bind λp=>
if(!p)then
some (0,0,0,0,0,12)
else
(LD h k m n o).bind λu=>
if(!u)then
some (0,0,0,0,0,4)
else
some (h,k,m,n,o,0)
def BS:=iZ
def BU(j6:LI->Oi)(Om:Int->Int->LI->Oi)(b:LB)(g f:Int)(a:LI):Oi:=
if(Cf f 5)then
(Aj ([(2:Int),(2:Int),(2:Int),(4:Int),(4:Int)]:LI) f).bind λh=>
(YB b g h).bind λ(v,ae)=>
(Aj a f).bind λ_=>
(Ip a f (Ad v:Int)).bind λw=>
Om (Ae g h) (Ae f 1) w
else
j6 a
def Lm(b:LB):Nat->Int->Int->LI->Oi
|0,_,_,_=>none
|q+1,g,f,a=>BU BS (Lm b q) b g f a
def CR b:=Lm b Aq
def RX(j4:LB->Int->Int->LI->Oi)(b:LB):Oi:=
(Ca b 0 (Dt 4 (Ac b))).bind λy=>
(Ts ([84,84,65,49]:LB) y).bind λaa=>
if(!aa)then
some (0,0,0,0,0,12)
else
if(Cf (Ac b) 22)then
some (0,0,0,0,0,24)
else
(YB b 18 4).bind λ(ab,af)=>
(Ca b 0 18).bind λac=>
(Vv ac).bind λ(ad,ag)=>
if(Bk (Ad ad:UInt64) ab)then
some (0,0,0,0,0,22)
else
j4 b 4 0 (List.replicate 5 (0:Int))
def JU:=RX CR
def Xv(g h k a b:Int):Option (LI×Int):=
(Qp g h k a b).bind λf=>
if(Bk f 0)then
some (([]:LI),f)
else
(Ul a b).bind λ(m,n)=>
some (m,n)
def eQ(f:LB):Option (Int×Int×Int×Int×Int×Int×Int×Int×Int×Int×LI×Int):=
if(Dv (Ac f) 100000)then
some (0,0,0,0,0,0,0,0,0,0,([]:LI),4)
else
(Va f).bind λ(a,n)=>
if(Bk n 0)then
some (0,0,0,0,0,0,0,0,0,0,([]:LI),n)
else
(Ca f a (Ac f)).bind λu=>
(JU u).bind λ(b,g,h,k,m,o)=>
if(Bk o 0)then
some (b,g,h,k,m,0,0,0,0,0,([]:LI),o)
else
(Xv b g h k m).bind λ(p,v)=>
if(geq b 2)then
some (b,g,h,k,m,a,(Ae a 22),(Ae (Ae a 22) 8),0,0,p,0)
else
some (b,g,h,k,m,a,(Ae a 22),(Ae a 22),0,0,p,0)
def We(a f:LB):Option (Bool×Int):=
(DS f).bind λ(b,g)=>
if((Bk g 0)||(Bk (Ac a) (Ac b)))then
some (false,2)
else
(Gz a b).bind λh=>
some (h,0)
abbrev Ri:=Option (LI×Int)
def mM(a:LI):Ri:=
(Qm a).bind λk=>
if(Bk k 0)then
some (([]:LI),12)
else
some (a,0)
def IB:=mM
def IE(j6:LI->Ri)(Om:Int->LI->Ri)(b:LB)(f:LI)(g:Int)(a:LI):Ri:=
if(Cf g (Ac f))then
(YB b (Bd 4 g) 4).bind λ(k,u)=>
(Aj a g).bind λ_=>
(Ip a g (Ad k:Int)).bind λm=>
Om (Ae g 1) m
else
j6 a
def Sj(b:LB)(f:LI):Nat->Int->LI->Ri
|0,_,_=>none
|q+1,g,a=>IE IB (Sj b f q) b f g a
def VS b f:=Sj b f Aq
def WQ(j4:LB->LI->Int->LI->Ri)(b:LB)(h:Int):Ri:=
if((Cf h 1)||(Dv h 1000))then
some (([]:LI),2)
else
if(Cf (Ac b) (Ae (Bd 4 h) 4))then
some (([]:LI),24)
else
(YB b (Bd 4 h) 4).bind λ(n,v)=>
(Ca b 0 (Bd 4 h)).bind λo=>
(Vv o).bind λ(p,w)=>
if(Bk (Ad p:UInt64) n)then
some (([]:LI),22)
else
(mkI h (0:Int)).bind λf=>
(Hy (geq h h)).bind λ_=>
j4 b f 0 f
def RB:=WQ VS
def DJ(a:LB):Option (LB×Int):=
if(Cf (Ac a) 5)then
some (([]:LB),24)
else
if(Dv (Ac a) 41254)then
some (([]:LB),4)
else
(Ca a 0 (Ah (Ac a) 4)).bind λf=>
(Vv f).bind λ(g,b)=>
if(Bk b 0)then
some (([]:LB),b)
else
(Ca a (Ah (Ac a) 4) (Ac a)).bind λh=>
(fW h).bind λ(k,m)=>
if((Bk m 0)||(Bk k (Ad g:UInt64)))then
some (([]:LB),22)
else
(Ca a 0 (Ah (Ac a) 4)).bind λn=>
some (n,0)
def Z7(a:LB):Option (LB×Int×Int):=
if(Dv (Ac a) 41250)then
some (([]:LB),0,4)
else
(Ec a).bind λb=>
some (b,(Bd 8 (Ac a)),0)
def Abi(g:UInt64):Option UInt64:=
some g
def vC:=Abi
def gZ(j6:UInt64->Option UInt64)(Om:UInt64->Int->Option UInt64)(b f:Int)(h:LB)(k:Int)(g:UInt64)(a:Int):Option UInt64:=
if(Cf a f)then
(Aj h (Y4 (Ae b a) (GI.toZ (3:UInt64)).toNat)).bind λm=>
(Hy (Ly (Db (Ae b a) 7) 0)).bind λ_=>
(Hy (Ly (Dt (Ah f a) (Ah 8 (Db (Ae b a) 7))) 0)).bind λ_=>
(Hy (Ly a 0)).bind λ_=>
Om (sW g (Cr (Ad (Db (Bt m (GI.toZ (Db (Ae b a) 7)).toNat) (Ah (Cr (1:UInt8) (GI.toZ (Dt (Ah f a) (Ah 8 (Db (Ae b a) 7)))).toNat) 1)):UInt64) (GI.toZ a).toNat)) (Ae a (Dt (Ah f a) (Ah 8 (Db (Ae b a) 7))))
else
j6 g
def KD(b f:Int)(h:LB)(k:Int):Nat->UInt64->Int->Option UInt64
|0,_,_=>none
|q+1,g,a=>gZ vC (KD b f h k q) b f h k g a
def uU b f h k:=KD b f h k Aq
def uA(j4:Int->Int->LB->Int->UInt64->Int->Option UInt64)(h:LB)(k b f:Int):Option UInt64:=
j4 b f h k 0 0
def qI:=uA uU
abbrev Es:=Option (LB×Int×Int)
def qK(o:Int)(p:LB):Es:=
some (p,o,0)
def ZO:=qK
def pJ(MY:Int->Int->LB->Es)(a:Int)(g:LB)(f b h:Int)(u:LB):Es:=
MY (Ae b 64) h u
def NV MY:=pJ MY
def pL(I1:UInt64->Int->Int->LB->Es)(a b:Int)(g:LB)(f:Int)(k n:UInt64)(m h:Int)(w:LB):Es:=
(Hy (Ly (Dt m (Ah 8 (Db h 7))) 0)).bind λ_=>
I1 (Bt n (GI.toZ (Dt m (Ah 8 (Db h 7)))).toNat) (Ah m (Dt m (Ah 8 (Db h 7)))) (Ae h (Dt m (Ah 8 (Db h 7)))) w
def bD I1:=pL I1
def cE(j48:UInt64->Int->Int->LB->Es)(a b:Int)(g:LB)(f:Int)(k n:UInt64)(m h:Int)(v:LB):Es:=
(Aj v (Ah (Ac v) 1)).bind λ_=>
(Hy (Ly (Dt m (Ah 8 (Db h 7))) 0)).bind λ_=>
(Hy (Ly (Db h 7) 0)).bind λ_=>
(Aj v (Ah (Ac v) 1)).bind λaa=>
(Aj v (Ah (Ac v) 1)).bind λ_=>
Option.bind (Ip v (Ah (Ac v) 1) (sW aa (Cr (Ad (Db n (Ah (Cr (1:UInt64) (GI.toZ (Dt m (Ah 8 (Db h 7)))).toNat) 1)):UInt8) (GI.toZ (Db h 7)).toNat))) λw=>
j48 n m h w
def OG I1 a b g f k:=cE (bD I1 a b g f k) a b g f k
def OC(j47:UInt64->Int->Int->LB->Es)(j50:Int->Int->LB->Es)(a:Int)(g:LB)(f b:Int)(k n:UInt64)(m h:Int)(u:LB):Es:=
if(Dv m 0)then
if(geq (Db h 7) 0)then
(Dd u ([(0:UInt8)]:LB)).bind λab=>
j47 n m h ab
else
j47 n m h u
else
j50 b h u
def Nj(MY:Int->Int->LB->Es)(a:Int)(g:LB)(f b:Int)(k:UInt64):Nat->UInt64->Int->Int->LB->Es
|0,_,_,_,_=>none
|q+1,n,m,h,u=>OC (OG (Nj MY a g f b k q) a b g f k) (NV MY a g f) a g f b k n m h u
def bH MY a g f b k:=Nj MY a g f b k Aq
def bE(j44:Int->UInt64->UInt64->Int->Int->LB->Es)(j52:Int->LB->Es)(a:Int)(g:LB)(f b o:Int)(p:LB):Es:=
if(Cf b a)then
(qI g f b (Dt 64 (Ah a b))).bind λk=>
j44 b k k (Dt 64 (Ah a b)) o p
else
j52 o p
def Vs(a:Int)(g:LB)(f:Int):Nat->Int->Int->LB->Es
|0,_,_,_=>none
|q+1,b,o,p=>bE (bH (Vs a g f q) a g f) ZO a g f b o p
def YY a g f:=Vs a g f Aq
def iC(j27:Int->LB->Int->Int->Int->LB->Es)(g:LB)(f y a:Int):Es:=
(Ho g f).bind λac=>
if(Bk ac 0)then
some (([]:LB),0,8)
else
if(((Cf y 0)||(Dv y a))||(Dv a f))then
some (([]:LB),0,2)
else
j27 a g f y 0 ([]:LB)
def gU:=iC YY
def DY(g:LB)(b f a:Int):Option (UInt64×Int):=
(Ho g b).bind λh=>
if(Bk h 0)then
some (0,8)
else
if(((Cf a 0)||(Dv a 64))||(Cf f 0))then
some (0,2)
else
if(Dv f (Ah b a))then
some (0,24)
else
(qI g b f a).bind λk=>
some (k,0)
def Fv(a:UInt64):Option Int:=
if(geq a 0)then
some 64
else
(Aj ([(0:UInt8),(1:UInt8),(56:UInt8),(2:UInt8),(57:UInt8),(49:UInt8),(28:UInt8),(3:UInt8),(61:UInt8),(58:UInt8),(42:UInt8),(50:UInt8),(38:UInt8),(29:UInt8),(17:UInt8),(4:UInt8),(62:UInt8),(47:UInt8),(59:UInt8),(36:UInt8),(45:UInt8),(43:UInt8),(51:UInt8),(22:UInt8),(53:UInt8),(39:UInt8),(33:UInt8),(30:UInt8),(24:UInt8),(18:UInt8),(12:UInt8),(5:UInt8),(63:UInt8),(55:UInt8),(48:UInt8),(27:UInt8),(60:UInt8),(41:UInt8),(37:UInt8),(16:UInt8),(46:UInt8),(35:UInt8),(44:UInt8),(21:UInt8),(52:UInt8),(32:UInt8),(23:UInt8),(11:UInt8),(54:UInt8),(26:UInt8),(40:UInt8),(15:UInt8),(34:UInt8),(20:UInt8),(31:UInt8),(10:UInt8),(25:UInt8),(14:UInt8),(19:UInt8),(9:UInt8),(13:UInt8),(8:UInt8),(7:UInt8),(6:UInt8)]:LB) (GI.toZ (Bt (Bd (Db a (oS a)) 285870213051353865) (GI.toZ (58:UInt64)).toNat))).bind λb=>
some (Ad b:Int)
abbrev Hh:=Option (Int×Int×Int)
def yV:Hh:=
some (0,0,24)
def gH:=yV
def mH(j10:Hh):Hh:=
j10
def lP:=mH gH
def VO(j9:Hh)(f a:Int):Hh:=
if(geq f 48)then
some (f,(Ae 0 (Ae a f)),0)
else
j9
def VV:=VO lP
def VR(j8:Int->Int->Hh)(f b a:Int):Hh:=
if(Cf f (Dt 48 (Ah b a)))then
some (f,(Ae (Ae (0:Int) (1:Int)) (Ae a f)),0)
else
j8 f a
def WC:=VR VV
def VZ(j7:Int->Int->Int->Hh)(h:Int)(k:UInt64)(a:Int)(g:LB)(b:Int):Hh:=
if(Bk h 0)then
some (0,0,h)
else
(Fv (C0 k)).bind λf=>
j7 f b a
def VL:=VZ WC
def Yg(j6:Int->UInt64->Int->LB->Int->Hh)(g:LB)(b a:Int):Hh:=
(Ho g b).bind λm=>
if(Bk m 0)then
some (0,0,m)
else
if(Cf a 0)then
some (0,0,2)
else
if(Ly a b)then
some (0,0,24)
else
(
(
(DY g b a (Dt 48 (Ah b a))).bind λ(k,h)=>
j6 h k a g b))
def HO:=Yg VL
abbrev iE:=Option (UInt32×Int×Int)
def aK(a b f:Int)(g:LB)(h k:Int):iE:=
(DY g h b k).bind λ(m,n)=>
if(Bk n 0)then
some (0,0,n)
else
if(Cf f 48)then
(Hy (Ly a 0)).bind λ_=>
some ((sW (Cr (Ad f:UInt32) (GI.toZ a).toNat) (Ad m:UInt32)),(Ae b k),0)
else
(Wj (Ad m:UInt32) a).bind λu=>
if(!u)then
some (0,0,12)
else
some ((Ad m:UInt32),(Ae b k),0)
def OL:=aK
def aU(j2:Int->Int->Int->LB->Int->Int->iE)(g:LB)(h v a:Int):iE:=
(Ho g h).bind λo=>
if(Bk o 0)then
some (0,0,o)
else
if((Cf a 0)||(Dv a 24))then
some (0,0,2)
else
(HO g h v).bind λ(f,b,p)=>
if(Bk p 0)then
some (0,0,p)
else
if(geq f 48)then
j2 a b f g h 32
else
j2 a b f g h a
def kH:=aU OL
abbrev Jn:=Option (UInt32×Int×Int×Int×UInt64×UInt64×Int)
def lM(f:UInt32)(k w m:Int)(a n:UInt64):Jn:=
some (f,k,w,m,(Ae a (Ah (Ad f:UInt64) (Bt a (GI.toZ (4:UInt64)).toNat))),n,0)
def VP:=lM
def bJ(j10:UInt32->Int->Int->Int->UInt64->UInt64->Jn)(f:UInt32)(k m:Int)(a n:UInt64)(w:Int):Jn:=
j10 f k w m a n
def ZC:=bJ VP
def bW(j9:UInt32->Int->Int->UInt64->UInt64->Int->Jn)(f:UInt32)(k b:Int)(a:UInt64)(m:Int)(n:UInt64):Jn:=
if(Dv b 0)then
(Hy (Ly b 0)).bind λ_=>
if(Cf (Ae a (Ah (Ad f:UInt64) (Bt a (GI.toZ (4:UInt64)).toNat))) (Cr (16:UInt64) (GI.toZ b).toNat))then
j9 f k m a n (Ah b 1)
else
if(Cf b 24)then
(Hy (Ly b 0)).bind λ_=>
if(Dv (Ae a (Ah (Ad f:UInt64) (Bt a (GI.toZ (4:UInt64)).toNat))) (Cr (32:UInt64) (GI.toZ b).toNat))then
j9 f k m a n (Ae b 1)
else
j9 f k m a n b
else
j9 f k m a n b
else
if(Cf b 24)then
(Hy (Ly b 0)).bind λ_=>
if(Dv (Ae a (Ah (Ad f:UInt64) (Bt a (GI.toZ (4:UInt64)).toNat))) (Cr (32:UInt64) (GI.toZ b).toNat))then
j9 f k m a n (Ae b 1)
else
j9 f k m a n b
else
j9 f k m a n b
def ER:=bW ZC
def ZP(j8:UInt32->Int->Int->UInt64->Int->UInt64->Jn)(b h:Int)(a g:UInt64)(f:UInt32)(k:Int):Jn:=
(HQ b h a g f).bind λ(ad,o)=>
if(geq ad 1)then
if(Dv h 0)then
(Hy (Ly h 0)).bind λ_=>
if(Cf (Ae g (Ah (Ad o:UInt64) (Bt g (GI.toZ (4:UInt64)).toNat))) (Cr (16:UInt64) (GI.toZ h).toNat))then
j8 f k b a (Ah h 1) (Ae g (Ah (Ad o:UInt64) (Bt g (GI.toZ (4:UInt64)).toNat)))
else
if(Cf h 24)then
(Hy (Ly h 0)).bind λ_=>
if(Dv (Ae g (Ah (Ad o:UInt64) (Bt g (GI.toZ (4:UInt64)).toNat))) (Cr (32:UInt64) (GI.toZ h).toNat))then
j8 f k b a (Ae h 1) (Ae g (Ah (Ad o:UInt64) (Bt g (GI.toZ (4:UInt64)).toNat)))
else
j8 f k b a h (Ae g (Ah (Ad o:UInt64) (Bt g (GI.toZ (4:UInt64)).toNat)))
else
j8 f k b a h (Ae g (Ah (Ad o:UInt64) (Bt g (GI.toZ (4:UInt64)).toNat)))
else
if(Cf h 24)then
(Hy (Ly h 0)).bind λ_=>
if(Dv (Ae g (Ah (Ad o:UInt64) (Bt g (GI.toZ (4:UInt64)).toNat))) (Cr (32:UInt64) (GI.toZ h).toNat))then
j8 f k b a (Ae h 1) (Ae g (Ah (Ad o:UInt64) (Bt g (GI.toZ (4:UInt64)).toNat)))
else
j8 f k b a h (Ae g (Ah (Ad o:UInt64) (Bt g (GI.toZ (4:UInt64)).toNat)))
else
j8 f k b a h (Ae g (Ah (Ad o:UInt64) (Bt g (GI.toZ (4:UInt64)).toNat)))
else
j8 f k b a h g
def OB:=ZP ER
def ZV(j7:Int->Int->UInt64->UInt64->UInt32->Int->Jn)(p:Int)(u:LB)(v b h:Int)(a g:UInt64):Jn:=
(DY u v p 1).bind λ(ae,aa)=>
if(Bk aa 0)then
some (0,0,0,0,0,0,aa)
else
if(geq ae 0)then
(DY u v (Ae p 1) b).bind λ(af,ab)=>
if(Bk ab 0)then
some (0,0,0,0,0,0,ab)
else
j7 b h a g (Ad af:UInt32) (Ae (Ae p 1) b)
else
(kH u v (Ae p 1) h).bind λ(y,ag,ac)=>
if(Bk ac 0)then
some (0,0,0,0,0,0,ac)
else
(Hy (Ly b 0)).bind λ_=>
if(Cf (Ae y (Cr (1:UInt32) (GI.toZ b).toNat)) y)then
some (0,0,0,0,0,0,12)
else
j7 b h a g (Ae y (Cr (1:UInt32) (GI.toZ b).toNat)) ag
def cC:=ZV OB
def cH(j6:Int->LB->Int->Int->Int->UInt64->UInt64->Jn)(u:LB)(v p b h:Int)(a g:UInt64):Jn:=
(Ho u v).bind λah=>
if(Bk ah 0)then
some (0,0,0,0,0,0,8)
else
(SC b h a g).bind λai=>
if(Bk ai 0)then
some (0,0,0,0,0,0,8)
else
j6 p u v b h a g
def HH:=cH cC
abbrev Bp:=Option (LU×Int×Int)
def nK(k:Int)(m:LU):Bp:=
some (m,k,0)
def SD:=nK
def RY(Li:Int->Int-> (List (Int×Int×UInt64×UInt64×Unit))->LU->Bp)(a f:Int)(g:LB)(b k v:Int)(w:UInt32)(h:Int)(ag:List (Int×Int×UInt64×UInt64×Unit))(m:LU):Bp:=
(Dd m ([w]:LU)).bind λak=>
Li (Ae k v) (Ae h 1) ag ak
def Yw Li:=RY Li
def Rb(j22:Int->Int->UInt32->Int-> (List (Int×Int×UInt64×UInt64×Unit))->LU->Bp)(a f:Int)(g:LB)(b k h y:Int)(w:UInt32)(v:Int)(n:List (Int×Int×UInt64×UInt64×Unit))(m:LU)(aa ab:Int)(ac ad:UInt64):Bp:=
if(Bk y 0)then
some (([]:LU),0,y)
else
(Hy (Bk a 0)).bind λ_=>
(Aj n (Ga h a)).bind λ_=>
(Ip n (Ga h a) (aa,ab,ac,ad,())).bind λag=>
j22 k v w h ag m
def Rc Li a f g b:=Rb (Yw Li a f g b) a f g b
def Rs(j21:Int->Int->Int->UInt32->Int-> (List (Int×Int×UInt64×UInt64×Unit))->LU->Int->Int->UInt64->UInt64->Bp)(j24:Int->LU->Bp)(a f:Int)(g:LB)(b k h:Int)(n:List (Int×Int×UInt64×UInt64×Unit))(m:LU):Bp:=
if(Cf h (Bd f a))then
(gU g b k (Dt (Ae k 81) b)).bind λ(ah,ae,af)=>
if(Bk af 0)then
some (([]:LU),0,af)
else
(Hy (Bk a 0)).bind λ_=>
(Aj n (Ga h a)).bind λ_=>
(
(
(Aj n (Ga h a)).bind λp=>
(
(HH ah ae 0 p.1 p.2.1 p.2.2.1 p.2.2.2.1).bind λ(w,v,aa,ab,ac,ad,y)=>
j21 k h y w v n m aa ab ac ad)))
else
j24 k m
def Ll(a f:Int)(g:LB)(b:Int):Nat->Int->Int-> (List (Int×Int×UInt64×UInt64×Unit))->LU->Bp
|0,_,_,_,_=>none
|q+1,k,h,n,m=>Rs (Rc (Ll a f g b q) a f g b) SD a f g b k h n m
def SU a f g b:=Ll a f g b Aq
def OZ(j16:Int->Int->LB->Int->Int->Int-> (List (Int×Int×UInt64×UInt64×Unit))->LU->Bp)(a f:Int)(g:LB)(b:Int)(o:List (Int×Int×UInt64×UInt64×Unit)):Bp:=
j16 a f g b 0 0 o ([]:LU)
def Yt:=OZ SU
def PL(j15:Int->Int->LB->Int-> (List (Int×Int×UInt64×UInt64×Unit))->Bp)(Aon:Int-> (List (Int×Int×UInt64×UInt64×Unit))->Bp)(a f:Int)(g:LB)(b u:Int)(o:List (Int×Int×UInt64×UInt64×Unit)):Bp:=
if(Cf u 6)then
(oG).bind λ(al,ae,af,am)=>
(Aj o u).bind λ_=>
(Ip o u (al,ae,af,am,())).bind λan=>
Aon (Ae u 1) an
else
j15 a f g b o
def Yy(a f:Int)(g:LB)(b:Int):Nat->Int-> (List (Int×Int×UInt64×UInt64×Unit))->Bp
|0,_,_=>none
|q+1,u,o=>PL Yt (Yy a f g b q) a f g b u o
def Rt a f g b:=Yy a f g b Aq
def DG(j13:Int->Int->LB->Int->Int-> (List (Int×Int×UInt64×UInt64×Unit))->Bp)(a f:Int)(g:LB)(b:Int):Bp:=
j13 a f g b 0 (List.replicate 6 ((0:Int),(0:Int),(0:UInt64),(0:UInt64),()))
def DH:=DG Rt
def Wc(a:UInt32):Option Int32:=
some (Rn (Ad (Bt a (GI.toZ (1:UInt64)).toNat):Int32) (oS (Ad (Db a 1):Int32)))
def jD(b:Int)(f g:LX)(a:Int32):Option (Int32×Int×LX×LX×Int):=
(RI b f g).bind λ(h,k)=>
if(Bk k 0)then
some (0,0,(List.replicate 16 (0:Int32)),(List.replicate 16 (0:Int32)),k)
else
(PG b f g (Ae a h) a).bind λ(m,n,o)=>
some ((Ae a h),m,n,o,0)
def Kg(a:Int)(b:Int32)(f:Int)(g h:LX)(o:Int32):Option (Int32×Int×Int32×Int×LX×LX×Int):=
(Up a b f g h).bind λk=>
if(Bk k 0)then
some (0,0,0,0,(List.replicate 16 (0:Int32)),(List.replicate 16 (0:Int32)),k)
else
(Ur a b).bind λ(m,y)=>
(jD f g h o).bind λ(n,p,u,v,w)=>
(
some ((Ae n m),a,(Ae n m),p,u,v,w))
abbrev Fz:=Option (LX×Int)
def U0(f:LX):Fz:=
some (f,0)
def oW:=U0
def pR(WT:Int->LX->Fz)(b a:Int)(h:LX):Fz:=
WT (Ae a b) h
def aR WT:=pR WT
def NY(j20:Int->LX->Fz)(J6:Int->LX->Fz)(b a g:Int)(h:LX):Fz:=
if(Ly g 0)then
(Hy (decide (0<= (Ae g 1)/\ (Ae g 1)<((Ae a b)-a)))).bind λ_=>
(Hy (decide (0<=g/\g<((Ae a b)-a)))).bind λ_=>
(Aj h (a+(Ae g 1))).bind λo=>
(Aj h (a+g)).bind λp=>
(Hy (decide (0<=g/\g<((Ae a b)-a)))).bind λ_=>
(Ip h (a+g) (Ah o p)).bind λu=>
J6 (Ah g 1) u
else
j20 a h
def Wb(WT:Int->LX->Fz)(b a:Int):Nat->Int->LX->Fz
|0,_,_=>none
|q+1,g,h=>NY (aR WT b) (Wb WT b a q) b a g h
def ZN WT b a:=Wb WT b a Aq
def ZA(j18:Int->Int->LX->Fz)(b a:Int)(k:LX):Fz:=
j18 a (Ah (Ah ((Ae a b)-a) 1) 1) k
def OK WT b:=ZA (ZN WT b) b
def ZJ(j17:Int->LX->Fz)(j22:LX->Fz)(b a:Int)(f:LX):Fz:=
if(Cf a (Ac f))then
(cW (Ac f) a (Ae a b)).bind λ_=>
if(Dv (Ah ((Ae a b)-a) 1) 0)then
(Hy (decide (0<= (Ah ((Ae a b)-a) 1)/\ (Ah ((Ae a b)-a) 1)<((Ae a b)-a)))).bind λ_=>
Option.bind (Hy (decide (0<= (Ah (Ah ((Ae a b)-a) 1) 1)/\ (Ah (Ah ((Ae a b)-a) 1) 1)<((Ae a b)-a)))) λ_=>
(Aj f (a+(Ah ((Ae a b)-a) 1))).bind λv=>
(Aj f (a+(Ah (Ah ((Ae a b)-a) 1) 1))).bind λw=>
(Hy (decide (0<= (Ah ((Ae a b)-a) 1)/\ (Ah ((Ae a b)-a) 1)<((Ae a b)-a)))).bind λ_=>
(Ip f (a+(Ah ((Ae a b)-a) 1)) (Ae v (Bv w 2))).bind λy=>
j17 a y
else
j17 a f
else
j22 f
def Rg(b:Int):Nat->Int->LX->Fz
|0,_,_=>none
|q+1,a,f=>ZJ (OK (Rg b q) b) oW b a f
def aY b:=Rg b Aq
def jH(j12:Int->Int->LX->Fz)(b:Int)(m:LX):Fz:=
(XY b m).bind λn=>
if(Bk n 0)then
some (([]:LX),n)
else
(Df m).bind λaa=>
j12 b 0 aa
def pH:=jH aY
abbrev By:=Option (LX×Int)
def NA(a b:Int)(k:LX):By:=
(pH a k).bind λ(ah,af)=>
if(Bk af 0)then
some (([]:LX),af)
else
(Uq b ah).bind λae=>
if(Bk ae 0)then
some (([]:LX),ae)
else
some (ah,0)
def Km:=NA
def NJ(Aon:Int-> (List (Int×Int32×(Int×LX×LX×Unit)×Unit))->LX->By)(a:Int)(f:LU)(b g:Int)(w:Int32)(u:Int)(h:List (Int×Int32×(Int×LX×LX×Unit)×Unit))(k:LX)(y:Int)(v:Int32)(aa:Int)(ab ac:LX):By:=
if(Bk u 0)then
some (([]:LX),u)
else
(Ip h (Ga g a) (y,v,(aa,ab,ac,()),())).bind λai=>
(Dd k ([w]:LX)).bind λaj=>
Aon (Ae g 1) ai aj
def Xd Aon:=NJ Aon
def Kl(j16:Int->Int32->Int-> (List (Int×Int32×(Int×LX×LX×Unit)×Unit))->LX->Int->Int32->Int->LX->LX->By)(j18:Int->Int->LX->By)(f:LU)(a b g:Int)(h:List (Int×Int32×(Int×LX×LX×Unit)×Unit))(k:LX):By:=
if(Cf g (Ac f))then
(Aj f g).bind λag=>
(Hy (Bk a 0)).bind λ_=>
(Aj h (Ga g a)).bind λ_=>
(
(Aj h (Ga g a)).bind λm=>
(
(Wc ag).bind λae=>
(
(Kg m.1 m.2.1 m.2.2.1.1 m.2.2.1.2.1 m.2.2.1.2.2.1 ae).bind λ(w,y,v,aa,ab,ac,u)=>
j16 g w u h k y v aa ab ac)))
else
j18 a b k
def Hs(f:LU)(a b:Int):Nat->Int-> (List (Int×Int32×(Int×LX×LX×Unit)×Unit))->LX->By
|0,_,_,_=>none
|q+1,g,h,k=>Kl (Xd (Hs f a b q) a f b) Km f a b g h k
def NU f a b:=Hs f a b Aq
def NP(j13:LU->Int->Int->Int-> (List (Int×Int32×(Int×LX×LX×Unit)×Unit))->LX->By)(f:LU)(a b:Int)(n:List (Int×Int32×(Int×LX×LX×Unit)×Unit)):By:=
j13 f a b 0 n ([]:LX)
def Xn:=NP NU
def NS(j12:LU->Int->Int-> (List (Int×Int32×(Int×LX×LX×Unit)×Unit))->By)(Aeb:Int-> (List (Int×Int32×(Int×LX×LX×Unit)×Unit))->By)(f:LU)(a b:Int)(o:LX)(p:Int)(n:List (Int×Int32×(Int×LX×LX×Unit)×Unit)):By:=
if(Cf p 6)then
(tP b o).bind λ(ak,af,ae,al,am,v)=>
(Aj n p).bind λ_=>
(Ip n p (ak,af,(ae,al,am,()),())).bind λan=>
Aeb (Ae p 1) an
else
j12 f a b n
def Xk(f:LU)(a b:Int)(o:LX):Nat->Int-> (List (Int×Int32×(Int×LX×LX×Unit)×Unit))->By
|0,_,_=>none
|q+1,p,n=>NS Xn (Xk f a b o q) f a b o p n
def Ox f a b o:=Xk f a b o Aq
def Zl(j10:LU->Int->Int->LX->Int-> (List (Int×Int32×(Int×LX×LX×Unit)×Unit))->By)(a b:Int)(o:LX)(f:LU):By:=
j10 f a b o 0 (List.replicate 6 ((0:Int),(0:Int32),((0:Int),(List.replicate 16 (0:Int32)),(List.replicate 16 (0:Int32)),()),()))
def Sa:=Zl Ox
def Lj(a h:Int)(u:LX)(f:Int)(v:LB):Option (LX×Int):=
(Fm a h).bind λk=>
if(Bk k 0)then
some (([]:LX),k)
else
if(Cf f 1)then
some (([]:LX),2)
else
(Hy (Bk a 0)).bind λ_=>
if(Dv f (Bv 4000 a))then
some (([]:LX),2)
else
(DJ v).bind λ(w,m)=>
if(Bk m 0)then
some (([]:LX),m)
else
(Z7 w).bind λ(n,b,o)=>
if(Bk o 0)then
some (([]:LX),o)
else
(DH a f n b).bind λ(y,g,p)=>
if(Bk p 0)then
some (([]:LX),p)
else
if(Ly (Ah b g) 8)then
some (([]:LX),12)
else
(DY n b g (Ah b g)).bind λ(aa,ab)=>
if((Bk ab 0)||(Bk aa 0))then
some (([]:LX),12)
else
(Sa a h u y).bind λ(ac,ad)=>
some (ac,ad)
abbrev oB:=Option (Int×Int)
def vE(a:LB):oB:=
(Ca a (Ah (Ac a) 32) (Ac a)).bind λg=>
(OS g 0).bind λ(f,y,h)=>
if h then
if(Cf (Ah (Ac a) 32) f)then
some (0,24)
else
some ((Ae f 32),0)
else
(Ca a (Ah (Ac a) 32) (Ac a)).bind λk=>
(OS k 2147483648).bind λ(b,m,n)=>
if(!n)then
some (0,12)
else
if(Cf (Ac a) (Ae b 64))then
some (0,24)
else
(Ca a (Ah (Ac a) (Ae b 64)) (Ae (Ah (Ac a) (Ae b 64)) 32)).bind λo=>
(jX b m 2684354560).bind λp=>
(Gz o p).bind λu=>
if(!u)then
some (0,12)
else
some ((Ae b 64),0)
def eJ:=vE
def gV(j2:LB->oB)(a:LB):oB:=
if(Cf (Ah (Ac a) 32) 0)then
some (0,6)
else
(Ca a (Ah (Ac a) 32) (Ac a)).bind λv=>
(Ke v ([(65:UInt8),(80:UInt8),(69:UInt8),(84:UInt8),(65:UInt8),(71:UInt8),(69:UInt8),(88:UInt8)]:LB)).bind λw=>
if(!w)then
some (0,6)
else
j2 a
def pA:=gV eJ
abbrev Fe:=Option (Int×Int)
def tD(a:Int):Fe:=
some (a,0)
def YL:=tD
def YQ(bk8:Int->LB->Fe)(a:Int)(g:LB):Fe:=
bk8 (Ae a 1) g
def HX bk8:=YQ bk8
def HV(j12:Int->LB->Fe)(a f:Int)(b:LB):Fe:=
if(geq f 0)then
some (0,38)
else
(Ca b 0 (Ah (Ac b) f)).bind λg=>
j12 a g
def HJ bk8:=HV (HX bk8)
def MU(j11:Int->Int->LB->Fe)(j14:Int->Fe)(a:Int)(b:LB):Fe:=
if(Dv (Ac b) 0)then
(pA b).bind λ(f,k)=>
j11 a f b
else
j14 a
def Rz:Nat->Int->LB->Fe
|0,_,_=>none
|q+1,a,b=>MU (HJ (Rz q)) YL a b
def cY:=Rz Aq
def MQ(j8:Int->LB->Fe)(h:LB):Fe:=
if(Dv (Ac h) 4000)then
some (0,38)
else
j8 0 h
def OA:=MQ cY
abbrev Bn:=Option (Int×Int×Int×LX×Int)
def eO(a:LB)(aa b f h:Int)(ad:LX):Bn:=
(Ca a aa (Ac a)).bind λaq=>
(OA aq).bind λ(bb,ar)=>
if(Bk ar 0)then
some (0,0,0,([]:LX),38)
else
some (b,f,h,ad,0)
def QQ:=eO
def gD(Aea:Int->Int->LX->Bn)(a:LB)(w:LI)(m b f h o p n g y ab:Int)(ac:LX)(k:LI)(aa aj ak ae:Int)(am ad:LX):Bn:=
if(Bk ak 0)then
some (0,0,0,([]:LX),ak)
else
(Dd ad am).bind λau=>
Aea (Ae aa aj) (Ae ae 1) au
def QN Aea:=gD Aea
def DZ(j24:Int->Int->Int->Int->LX->LX->Bn)(j26:LB->Int->Int->Int->Int->LX->Bn)(a:LB)(w:LI)(m b f h o p n g y ab:Int)(ac:LX)(k:LI)(aa ae:Int)(ad:LX):Bn:=
if(Cf ae (Ac w))then
(Aj w ae).bind λ_=>
(Aj w ae).bind λaj=>
if(Cf (Ac a) (Ae aa aj))then
some (0,0,0,([]:LX),24)
else
(Aj k ae).bind λ_=>
(Ca a aa (Ae aa aj)).bind λav=>
(Aj k ae).bind λaw=>
(Lj b f ac aw av).bind λ(am,ak)=>
j24 aa aj ak ae am ad
else
j26 a aa b f h ad
def Pq(a:LB)(w:LI)(m b f h o p n g y ab:Int)(ac:LX)(k:LI):Nat->Int->Int->LX->Bn
|0,_,_,_=>none
|q+1,aa,ae,ad=>DZ (QN (Pq a w m b f h o p n g y ab ac k q) a w m b f h o p n g y ab ac k) QQ a w m b f h o p n g y ab ac k aa ae ad
def gG a w m b f h o p n g y ab ac k:=Pq a w m b f h o p n g y ab ac k Aq
def DL(j21:LB->LI->Int->Int->Int->Int->Int->Int->Int->Int->Int->Int->LX->LI->Int->Int->LX->Bn)(a u:LB)(m b f h o p n g:Int)(k:LI)(an y ab:Int)(w:LI):Bn:=
if(Bk an 0)then
some (0,0,0,([]:LX),an)
else
(HW u).bind λ(ac,bc)=>
j21 a w m b f h o p n g y ab ac k y 0 ([]:LX)
def Lr:=DL gG
def PM(j20:LB->LB->Int->Int->Int->Int->Int->Int->Int->Int->LI->Int->Int->Int->LI->Bn)(a u:LB)(v:LI)(m b f h o p n g af:Int)(k:LI):Bn:=
j20 a u m b f h o p n g k 0 (Ae (Ae g (Bd 4 (Ac v))) 4) af v
def CQ:=PM Lr
def CY(j19:LB->LB->LI->Int->Int->Int->Int->Int->Int->Int->Int->Int->LI->Bn)(Avg:Int->Int->Bn)(v:LI)(a u:LB)(m b f h o p n g:Int)(k:LI)(ag af:Int):Bn:=
if(Cf ag (Ac v))then
(Aj v ag).bind λ_=>
(Aj v ag).bind λax=>
Avg (Ae ag 1) (Ae af ax)
else
j19 a u v m b f h o p n g af k
def Pf(v:LI)(a u:LB)(m b f h o p n g:Int)(k:LI):Nat->Int->Int->Bn
|0,_,_=>none
|q+1,ag,af=>CY CQ (Pf v a u m b f h o p n g k q) v a u m b f h o p n g k ag af
def OY v a u m b f h o p n g k:=Pf v a u m b f h o p n g k Aq
def BT(j20:LB->LB->Int->Int->Int->Int->Int->Int->Int->Int->LI->Int->Int->Int->LI->Bn)(j17:LI->LB->LB->Int->Int->Int->Int->Int->Int->Int->Int->LI->Int->Int->Bn)(al:Int)(a u:LB)(m b f h o p n g ah ai:Int)(v k:LI):Bn:=
if(Bk al 0)then
j20 a u m b f h o p n g k al ah ai ([]:LI)
else
j17 v a u m b f h o p n g k 0 (Ae (Ae g (Bd 4 (Ac v))) 4)
def BC:=BT Lr OY
def RH(j20:LB->LB->Int->Int->Int->Int->Int->Int->Int->Int->LI->Int->Int->Int->LI->Bn)(j16:Int->LB->LB->Int->Int->Int->Int->Int->Int->Int->Int->Int->Int->LI->LI->Bn)(a u:LB)(m b f h o p n g ah ai:Int)(k:LI):Bn:=
if(Cf (Ac a) g)then
j20 a u m b f h o p n g k 24 ah ai ([]:LI)
else
(Ca a g (Ac a)).bind λay=>
(RB ay (Ac k)).bind λ(v,al)=>
j16 al a u m b f h o p n g ah ai v k
def Uz:=RH Lr BC
def DR(j15:LB->LB->Int->Int->Int->Int->Int->Int->Int->Int->Int->Int->LI->Bn)(a u:LB)(m b f h o p n g ah ai:Int)(k:LI)(ao:Int):Bn:=
if(Bk ao 0)then
some (0,0,0,([]:LX),ao)
else
j15 a u m b f h o p n g ah ai k
def Pr:=DR Uz
def VE(j14:LB->LB->Int->Int->Int->Int->Int->Int->Int->Int->Int->Int->LI->Int->Bn)(a u:LB):Bn:=
if(Dv (Ac u) 64)then
some (0,0,0,([]:LX),2)
else
(eQ a).bind λ(m,b,f,h,o,p,n,g,ah,ai,k,ap)=>
if(Bk ap 0)then
some (0,0,0,([]:LX),ap)
else
if((u==([]:LB)) !=(geq m 1))then
j14 a u m b f h o p n g ah ai k 26
else
if(geq m 1)then
j14 a u m b f h o p n g ah ai k 0
else
if(Cf (Ac a) g)then
j14 a u m b f h o p n g ah ai k 24
else
(Ca a n g).bind λaz=>
(We az u).bind λ(ba,bd)=>
if(!ba)then
j14 a u m b f h o p n g ah ai k 26
else
j14 a u m b f h o p n g ah ai k 0
def Gp:=VE Pr
def EZ(b a f:Int):Option Int:=
if((((Cf b 1)||(Dv b 6))||(Cf f 1))||(Dv f 1048576))then
some 8
else
if(geq a 8)then
if(geq a 8)then
some 0
else
some 8
else
if(geq a 16)then
if(geq a 16)then
some 0
else
some 8
else
if(geq a 24)then
some 0
else
some 8
def VW(a b g:Int):Option (Bool×Int):=
(EZ a b g).bind λf=>
if(Bk f 0)then
some (false,f)
else
some (((Dv a 2)||(Dv b 16)),0)
def HY(a:Bool)(b:LB):Option (LB):=
if a then
(Ca ([(1:UInt8),(0:UInt8),(0:UInt8),(0:UInt8),(0:UInt8),(0:UInt8),(16:UInt8),(0:UInt8),(128:UInt8),(0:UInt8),(0:UInt8),(170:UInt8),(0:UInt8),(56:UInt8),(155:UInt8),(113:UInt8)]:LB) 0 16).bind λp=>
(Dd b p).bind λu=>
some u
else
some b
def Wd:=HY
def Pc(j8:Bool->LB->Option (LB))(jw:Int->LB->Option (LB))(a:Bool)(g:Int)(f:LQ)(h:Int)(b:LB):Option (LB):=
if(Cf h g)then
(Aj f h).bind λ_=>
(Aj f h).bind λv=>
(Aj ([(2:Int),(2:Int),(4:Int),(4:Int),(2:Int),(2:Int),(2:Int),(2:Int),(4:Int)]:LI) h).bind λw=>
(Lk v w).bind λ(y,ac)=>
(Dd b y).bind λaa=>
jw (Ae h 1) aa
else
j8 a b
def Dn(a:Bool)(g:Int)(f:LQ):Nat->Int->LB->Option (LB)
|0,_,_=>none
|q+1,h,b=>Pc Wd (Dn a g f q) a g f h b
def Vr a g f:=Dn a g f Aq
def Wf(j6:Bool->Int->LQ->Int->LB->Option (LB))(a:Bool)(g:Int)(f:LQ):Option (LB):=
j6 a g f 0 ([]:LB)
def Wi:=Wf Vr
def GW(j5:Bool->Int->LQ->Option (LB))(m k n:Int)(a:Bool)(o:UInt64):Option (LB):=
if a then
(Aj ([(1:UInt64),(Ad m:UInt64),(Ad n:UInt64),(Bd (Ad n:UInt64) (Ad (Bv (Bd m k) 8):UInt64)),(Ad (Bv (Bd m k) 8):UInt64),(Ad k:UInt64),(22:UInt64),(Ad k:UInt64),o]:LQ) 0).bind λ_=>
(Ip ([(1:UInt64),(Ad m:UInt64),(Ad n:UInt64),(Bd (Ad n:UInt64) (Ad (Bv (Bd m k) 8):UInt64)),(Ad (Bv (Bd m k) 8):UInt64),(Ad k:UInt64),(22:UInt64),(Ad k:UInt64),o]:LQ) 0 65534).bind λab=>
j5 a 9 ab
else
j5 a 6 ([(1:UInt64),(Ad m:UInt64),(Ad n:UInt64),(Bd (Ad n:UInt64) (Ad (Bv (Bd m k) 8):UInt64)),(Ad (Bv (Bd m k) 8):UInt64),(Ad k:UInt64),(22:UInt64),(Ad k:UInt64),o]:LQ)
def IW:=GW Wi
def FA(a b f:Int):Option (LB×Int):=
(VW a b f).bind λ(h,g)=>
if(Bk g 0)then
some (([]:LB),g)
else
(Hy (Ly a 0)).bind λ_=>
(IW a b f h (Ah (Cr (1:UInt64) (GI.toZ a).toNat) 1)).bind λk=>
some (k,0)
abbrev Cu:=Option (LB×Int)
def vQ(g:LB):Cu:=
some (g,0)
def dF:=vQ
def dD(Li:Int->LB->Cu)(b:Int)(a:LX)(f:Int)(h:LB):Cu:=
Li (Ae f 1) h
def MN Li:=dD Li
def Yi(j28:Int->LB->Cu)(Aec:Int->LB->Cu)(b:Int)(a:LX)(k:Int32)(f m:Int)(h:LB):Cu:=
if(Cf m (Bv b 8))then
(Hy (Ly (Bd 8 m) 0)).bind λ_=>
(Dd h ([(Ad (Bt k (GI.toZ (Bd 8 m)).toNat):UInt8)]:LB)).bind λp=>
Aec (Ae m 1) p
else
j28 f h
def Hw(Li:Int->LB->Cu)(b:Int)(a:LX)(k:Int32)(f:Int):Nat->Int->LB->Cu
|0,_,_=>none
|q+1,m,h=>Yi (MN Li b a) (Hw Li b a k f q) b a k f m h
def MX Li b a k f:=Hw Li b a k f Aq
def LZ(j26:Int32->Int->Int->LB->Cu)(b:Int)(a:LX)(f:Int)(g:LB)(k:Int32):Cu:=
j26 k f 0 g
def Ki Li b a:=LZ (MX Li b a) b a
def Yo(j25:Int->LB->Int32->Cu)(j30:LB->Cu)(b:Int)(a:LX)(f:Int)(g:LB):Cu:=
if(Cf f (Ac a))then
(Aj a f).bind λn=>
if(geq b 8)then
j25 f g (Ae n 128)
else
j25 f g n
else
j30 g
def Fo(b:Int)(a:LX):Nat->Int->LB->Cu
|0,_,_=>none
|q+1,f,g=>Yo (Ki (Fo b a q) b a) dF b a f g
def cZ b a:=Fo b a Aq
def RP(j16:Int->LX->Int->LB->Cu)(b:Int)(a:LX):Cu:=
(Uq b a).bind λo=>
if(Bk o 0)then
some (([]:LB),o)
else
j16 b a 0 ([]:LB)
def AV:=RP cZ
def zC(a:LB):Option Bool:=
some (geq (Ac a) 4)
def iM:=zC
def gX(j6:LB->Option Bool)(Om:Int->Option Bool)(a:LB)(b:Int):Option Bool:=
if(Cf b (Ac a))then
(Aj a b).bind λ_=>
(Aj a b).bind λf=>
if((Cf f 32)||(Dv f 126))then
some false
else
Om (Ae b 1)
else
j6 a
def RZ(a:LB):Nat->Int->Option Bool
|0,_=>none
|q+1,b=>gX iM (RZ a q) a b
def gC a:=RZ a Aq
def iU(j4:LB->Int->Option Bool)(a:LB):Option Bool:=
j4 a 0
def TR:=iU gC
def rA(a:Int):Option Int:=
some a
def aD:=rA
def DN(j6:Int->Option Int)(Om:Int->Int->Option Int)(b:List (LB×LB×Unit))(a f:Int):Option Int:=
if(Cf f (Ac b))then
(Aj b f).bind λg=>
Om (Ae a (Ae (Ae 8 (Ac g.2.1)) (Db (Ac g.2.1) 1))) (Ae f 1)
else
j6 a
def Vu(b:List (LB×LB×Unit)):Nat->Int->Int->Option Int
|0,_,_=>none
|q+1,a,f=>DN aD (Vu b q) b a f
def ZI b:=Vu b Aq
def aM(j4:(List (LB×LB×Unit))->Int->Int->Option Int)(b:List (LB×LB×Unit)):Option Int:=
j4 b 4 0
def GX:=aM ZI
def DI(a f:LB):Option Bool:=
(TR a).bind λb=>
some (!b)
def fY:Option Int:=
some 0
def TD:=fY
def RS(j36:Option Int)(k:Bool):Option Int:=
if k then
some 8
else
j36
def Vh:=RS TD
def gA(j35:Bool->Option Int)(m:Bool):Option Int:=
j35 m
def RG:=gA Vh
def gN(j26:Bool->Option Int):Option Int:=
j26 (Ly (-1:Int) (0:Int))
def jF:=gN RG
def C6(Aoo:Int->Option Int)(a:List (LB×LB×Unit))(b:Int):Option Int:=
Aoo (Ae b 1)
def fP Aoo:=C6 Aoo
def jO(j26:Bool->Option Int)(j23:Int->Option Int)(a:List (LB×LB×Unit))(b:Int)(g:Bool):Option Int:=
if g then
j26 (Ly b 0)
else
j23 b
def jC Aoo a:=jO RG (fP Aoo a) a
def iR(j22:Int->Bool->Option Int)(j25:Option Int)(a:List (LB×LB×Unit))(b:Int):Option Int:=
if(Cf b (Ac a))then
(Aj a b).bind λo=>
(DI o.1 o.2.1).bind λg=>
j22 b g
else
j25
def QU(a:List (LB×LB×Unit)):Nat->Int->Option Int
|0,_=>none
|q+1,b=>iR (jC (QU a q) a) jF a b
def gK a:=QU a Aq
def QT(j35:Bool->Option Int)(n:Bool):Option Int:=
j35 n
def DD:=QT Vh
def QJ(j34:Bool->Option Int):Option Int:=
j34 (Ly (-1:Int) (0:Int))
def SF:=QJ DD
def QV(MY:Int->Option Int)(a:List (LB×LB×Unit))(f:Int):Option Int:=
MY (Ae f 1)
def CD MY:=QV MY
def DF(j34:Bool->Option Int)(j31:Int->Option Int)(a:List (LB×LB×Unit))(f:Int)(h:Bool):Option Int:=
if h then
j34 (Ly f 0)
else
j31 f
def EU MY a:=DF DD (CD MY a) a
def Vl(j30:Int->Bool->Option Int)(j33:Option Int)(a:List (LB×LB×Unit))(f:Int):Option Int:=
if(Cf f (Ac a))then
(Aj a f).bind λp=>
(DI p.1 p.2.1).bind λh=>
j30 f h
else
j33
def Py(a:List (LB×LB×Unit)):Nat->Int->Option Int
|0,_=>none
|q+1,f=>Vl (EU (Py a q) a) SF a f
def RM a:=Py a Aq
def HZ(j35:Bool->Option Int)(j19:(List (LB×LB×Unit))->Int->Option Int)(j27:(List (LB×LB×Unit))->Int->Option Int)(u:LB)(a:List (LB×LB×Unit)):Option Int:=
if(Dv (Ac a) 20)then
some 4
else
(TR u).bind λv=>
if(!v)then
if true then
j35 true
else
j19 a 0
else
(GX a).bind λw=>
if(Dv (Ae w 8) 100000)then
j35 true
else
j27 a 0
def Um:=HZ Vh gK RM
def OR(o id:LB)(n:Int):Option LB:=
(Lk (Ad n:UInt64) 4).bind λ(b,_)=>
(Dd o id).bind λp=>
Dd p b
def JK:List (LB×LB×Unit)->LB->Option LB
|[],o=>some o
|c::l,o=>
(OR o c.1 (Ac c.2.1)).bind λp=>
(Dd p c.2.1).bind λu=>
(mkI (Db (Ac c.2.1) 1) (0:UInt8)).bind λz=>
(Dd u z).bind λv=>
JK l v
def HU(a:LB)(b:List (LB×LB×Unit)):Option (LB×Int):=
(Um a b).bind λe=>
if(Bk e 0)then
some (([]:LB),e)
else
(GX b).bind λn=>
(OR [] [82,73,70,70] n).bind λf=>
(Dd f a).bind λg=>
(JK b g).bind λh=>
some (h,0)
def YD(b a f:Int)(g:LX):Option (LB×Int):=
(Cx b a f g).bind λh=>
if(Bk h 0)then
some (([]:LB),h)
else
(FA b a f).bind λ(k,p)=>
(AV a g).bind λ(m,u)=>
(HU ([87,65,86,69]:LB) ([(([102,109,116,32]:LB),k,()),(([100,97,116,97]:LB),m,())]:List (LB×LB×Unit))).bind λ(n,o)=>
some (n,o)
def WX(b f:LB):Option (LB×Int):=
(Gp b f).bind λ(g,h,k,m,a)=>
if(Bk a 0)then
some (([]:LB),a)
else
(YD g h k m).bind λ(n,o)=>
some (n,o)
def Qn(a b:LB):Option Int:=
(Gp a b).bind λ(g,h,k,m,f)=>
some f
def Ci(b f:LB)(a:Int):Option Bool:=
(Gp b f).bind λ(o,p,u,g,h)=>
(WX b f).bind λ(k,m)=>
(Qn b f).bind λn=>
some (((((geq n a)&&(geq h a))&&(geq m a))&&((geq a 0)==(Dv (Ac g) 0)))&&((geq a 0)==(Dv (Ac k) 0)))
def Gt:Option Bool:=
(Nk [120]).bind λb=>
if(Cf (Ac b) 40)then
some false
else
(Dd [] b).bind λf=>
(Aj f (Ah (Ac f) 6)).bind λg=>
(Ip f (Ah (Ac f) 6) (Rn g 1)).bind λh=>
(Ci b [120] 0).bind λk=>
if(!k)then
some false
else
(Ci b [] 26).bind λm=>
if(!m)then
some false
else
(Ci b [121] 26).bind λn=>
if(!n)then
some false
else
(Dd b [0]).bind λo=>
(Ci o [120] 38).bind λp=>
if(!p)then
some false
else
(Ca b 0 (Ah (Ac b) 1)).bind λu=>
(Ci u [120] 24).bind λv=>
if(!v)then
some false
else
Ci h [120] 22
def Yu(b f g:Int)(a:LX):Option Bool:=
some (((Dv (Ac a) 300)&&(yh (Ac a) 4000))||(Dv (Ac a) 4010))
def Gm(a b f:Int)(g:LX):Option (Int×Int):=
some (a,b)
def Hq(a:Int):Option Int:=
if(geq a 8)then
some 128
else
if(geq a 16)then
some 32768
else
if(geq a 24)then
some 8388608
else
some 0
def Cs(a b:Int):Option Int:=
if((Cf a 1)||(Dv a 6))then
some 2
else
(Hq b).bind λf=>
if(geq f 0)then
some 2
else
some 0
def dW:Option Int:=
some 0
def FI:=dW
def Cb(j6:Option Int)(Om:Int->Option Int)(a:LX)(b f:Int):Option Int:=
if(Cf f (Ac a))then
(Aj a f).bind λg=>
if(Cf (Ad g:Int) (oS b))then
some 16
else
(Aj a f).bind λh=>
if(Ly (Ad h:Int) b)then
some 16
else
Om (Ae f 1)
else
j6
def As(a:LX)(b:Int):Nat->Int->Option Int
|0,_=>none
|q+1,f=>Cb FI (As a b q) a b f
def GL a b:=As a b Aq
def Ct(j4:LX->Int->Int->Option Int)(k:Int)(a:LX):Option Int:=
(Hq k).bind λb=>
if(geq b 0)then
some 2
else
if(Dv (Ac a) 4000)then
some 4
else
j4 a b 0
def Ao:=Ct GL
def Bw(b f:Int)(a:LX):Option Int:=
(Cs b f).bind λg=>
if(Bk g 0)then
some 2
else
(Ao f a).bind λh=>
if(Bk h 0)then
(Ao f a).bind λk=>
some k
else
if(Cf (Ac a) 1)then
some 2
else
(Hy (Bk b 0)).bind λ_=>
if(Dv (Ga (Ac a) b) 0)then
some 2
else
some 0
def Dy(a f b:Int):Option Int:=
(Cs a f).bind λg=>
if((Bk g 0)||(Cf b 1))then
some 2
else
(Hy (Bk a 0)).bind λ_=>
if(Dv b (Bv 4000 a))then
some 2
else
some 0
def Np(a:Int):Option (Int×Int):=
if((Cf a 1)||(Dv a 1048576))then
some (0,2)
else
if(geq (Bv (Bd a 256) 245) 0)then
some (1,0)
else
some ((Bv (Bd a 256) 245),0)
abbrev Gs:=Option (LI×Int)
def NR(a:LI):Gs:=
if(Dv (Ac a) 1000)then
some (([]:LI),4)
else
some (a,0)
def Wz:=NR
def Oy(j6:LI->Gs)(Om:Int->LI->Gs)(b f:Int)(a:LI):Gs:=
if(Dv f 0)then
(Dd a ([(Dt f b)]:LI)).bind λh=>
Om (Ah f (Dt f b)) h
else
j6 a
def Hu(b:Int):Nat->Int->LI->Gs
|0,_,_=>none
|q+1,f,a=>Oy Wz (Hu b q) b f a
def Xe b:=Hu b Aq
def Oz(j4:Int->Int->LI->Gs)(k g:Int):Gs:=
(Np k).bind λ(b,m)=>
if(((Bk m 0)||(Cf g 1))||(Dv g 4000))then
some (([]:LI),2)
else
j4 b g ([]:LI)
def Wh:=Oz Xe
def Is(a b:Int):Option (Int×Int):=
(Wh a b).bind λ(f,g)=>
some ((Ac f),g)
def FE(f g a:Int)(h:LX)(b:Int):Option Bool:=
(Gm f g a h).bind λ(k,m)=>
(Dy k m b).bind λn=>
if(Bk n 0)then
some false
else
(Is a b).bind λ(p,o)=>
some (geq o 0)
def Cj(a f g:Int)(b:LX):Option Int:=
(Gm a f g b).bind λ(h,k)=>
(Bw h k b).bind λm=>
if(Bk m 0)then
some 8
else
(Hy (Bk a 0)).bind λ_=>
(FE a f g b (Bv (Ac b) a)).bind λn=>
if(!n)then
some 8
else
some 0
def eF:Option Bool:=
some true
def LV:=eF
def Ns(j6:Option Bool)(Om:Int->Option Bool)(f g h:Int)(a:LX)(k m n:Int)(b:LX)(o:Int):Option Bool:=
if(Cf o (Ac a))then
(Aj a o).bind λp=>
(Aj b o).bind λu=>
if(Bk p u)then
some false
else
Om (Ae o 1)
else
j6
def Gx(f g h:Int)(a:LX)(k m n:Int)(b:LX):Nat->Int->Option Bool
|0,_=>none
|q+1,o=>Ns LV (Gx f g h a k m n b q) f g h a k m n b o
def JD f g h a k m n b:=Gx f g h a k m n b Aq
def Vp(j4:Int->Int->Int->LX->Int->Int->Int->LX->Int->Option Bool)(f g h:Int)(a:LX)(k m n:Int)(b:LX):Option Bool:=
if((((Bk f k)||(Bk g m))||(Bk h n))||(Bk (Ac a) (Ac b)))then
some false
else
j4 f g h a k m n b 0
def Tz:=Vp JD
def Wo(a f:LB)(b:Bool)(g:LB):Option Bool:=
if b then
if((a==([]:LB))==(f==([]:LB)))then
some true
else
(Qn g f).bind λw=>
some (geq w 26)
else
some false
def My:=Wo
def Mq(j4:LB->LB->Bool->LB->Option Bool)(a f:LB)(b:Bool)(h k m:Int)(n:LX):Option Bool:=
(LK h k m n a).bind λ(g,y)=>
(Gp g a).bind λ(aa,ab,ac,ad,ae)=>
(WX g a).bind λ(o,p)=>
(YD h k m n).bind λ(u,v)=>
if((Bk y 0)||(Bk ae 0))then
if(((true||(Bk p 0))||(Bk v 0))||(u !=o))then
some false
else
(Qn g a).bind λaf=>
if(Bk af 0)then
some false
else
j4 a f b g
else
(Tz h k m n aa ab ac ad).bind λag=>
if((((!ag)||(Bk p 0))||(Bk v 0))||(u !=o))then
some false
else
(Qn g a).bind λah=>
if(Bk ah 0)then
some false
else
j4 a f b g
def Mz:=Mq My
def Mo(j3:LB->LB->Bool->Int->Int->Int->LX->Option Bool)(h k m:Int)(n:LX)(a f:LB):Option Bool:=
(Gt).bind λb=>
(Yu h k m n).bind λai=>
if ai then
if(((true||(Dv (Ac a) 64))||(Dv (Ac f) 64))||(!b))then
some b
else
j3 a f b h k m n
else
(Cj h k m n).bind λaj=>
if((((Bk aj 0)||(Dv (Ac a) 64))||(Dv (Ac f) 64))||(!b))then
some b
else
j3 a f b h k m n
def Ru:=Mo Mz
def uX(a:LB):Option (LB):=
(
(Dd ([]:LB) a).bind λb=>
some b)
def iQ(a:LI):Option (LI):=
(
(Dd ([]:LI) a).bind λb=>
some b)
def U4(a b:LB)(f g h k m:Int)(n:LI)(o:Int)(p:LB)(u:Bool)(v:Int):Option (LB×LB×Int×Int×Int×Int×Int×LI×Int×LB×Bool×Int):=
(uX b).bind λw=>
(uX p).bind λy=>
(iQ n).bind λaa=>
some (a,w,f,g,h,k,m,aa,o,y,u,v)
def Xh(f g b a h:Int):Option Bool:=
if((((geq f 1)||(geq f 2))&&(Ly g 1))&&(yh g 6))then
some ((((((geq b 8)||(geq b 16))||(geq b 24))&&(Ly a 1))&&(yh a 1048576))&&(Ly h 1))
else
some (((false&&(Ly a 1))&&(yh a 1048576))&&(Ly h 1))
def Ty(a:Int):Option Int:=
some (lB 1 (Bv (Bd 256 a) 245))
def Mi(a:LI):Option (LI):=
some a
def Mm:=Mi
def Ik(j6:LI->Option (LI))(Om:Int->LI->Option (LI))(b f:Int)(a:LI):Option (LI):=
if(Dv f 0)then
(Ty b).bind λg=>
(Dd a ([(Dt f g)]:LI)).bind λh=>
(Ty b).bind λk=>
Om (Ah f k) h
else
j6 a
def En(b:Int):Nat->Int->LI->Option (LI)
|0,_,_=>none
|q+1,f,a=>Ik Mm (En b q) b f a
def FH b:=En b Aq
def FV(j4:Int->Int->LI->Option (LI))(b m:Int):Option (LI):=
j4 b m ([]:LI)
def Dx:=FV FH
def EO(h a k f b:Int):Option Bool:=
(
(Hy (Bk a 0)).bind λ_=>
(
if(Dv b (Bv 4000 a))then
some true
else
(Dx f b).bind λg=>
some (Dv (Ac g) 1000)))
def nI(a f g h k:Int)(b:LB):Option Int:=
if((b==([]:LB)) !=(geq a 1))then
some 26
else
some 0
def EN(b:Int):Option Int:=
if(Dv b 100000)then
some 8
else
some 0
def EA:=EN
def FX(jw:Int->Int->Option Int)(a:LI)(b f:Int):Option Int:=
(Aj a f).bind λg=>
jw (Ae b g) (Ae f 1)
def GB jw:=FX jw
def Tn(j8:Int->Int->Option Int)(j10:Int->Option Int)(a:LI)(b f:Int):Option Int:=
if(Cf f (Ac a))then
(Aj a f).bind λh=>
if(Cf h 5)then
some 8
else
(Aj a f).bind λk=>
if(Dv k 100000)then
some 8
else
j8 b f
else
j10 b
def Io(a:LI):Nat->Int->Int->Option Int
|0,_,_=>none
|q+1,b,f=>Tn (GB (Io a q) a) EA a b f
def GJ a:=Io a Aq
def Sy(j6:LI->Int->Int->Option Int)(a:LI):Option Int:=
if((Cf (Ac a) 1)||(Dv (Ac a) 1000))then
some 8
else
j6 a 0 0
def Ir:=Sy GJ
def KG(g h k a b:Int):Option (LI):=
(Dx a b).bind λf=>
some f
def nS(f a b g h:Int):Option (Int×Int):=
some (a,b)
abbrev Fc:=Option (Int×Int)
def dQ(a:Int):Fc:=
some (a,0)
def eC:=dQ
def Tm(j6:Int->Fc)(Om:Int->Int->Fc)(b:LB)(a f:Int):Fc:=
if(Cf f 4)then
(Aj b f).bind λg=>
if(Ly g 128)then
some (0,12)
else
(Aj b f).bind λh=>
Om (Ae (Bd 128 a) (Ad h:Int)) (Ae f 1)
else
j6 a
def Im(b:LB):Nat->Int->Int->Fc
|0,_,_=>none
|q+1,a,f=>Tm eC (Im b q) b a f
def FP b:=Im b Aq
def GG(j4:LB->Int->Int->Fc)(b:LB):Fc:=
if(Bk (Ac b) 4)then
some (0,2)
else
j4 b 0 0
def Zj:=GG FP
abbrev Gc:=Option (Int×Int)
def KM(a:LB)(g:Int):Gc:=
if(Dv g 4000)then
some (0,4)
else
if(Cf (Ac a) g)then
some (0,24)
else
(Aj a 5).bind λh=>
if(geq h 16)then
(Ca a (Ah g 10) g).bind λk=>
(Ca a 3 10).bind λm=>
(Dd ([51,68,73]:LB) m).bind λn=>
if(k !=n)then
some (0,12)
else
some (g,0)
else
some (g,0)
def Ue:=KM
def JL(j6:LB->Int->Gc)(a:LB)(b:Int):Gc:=
(Aj a 5).bind λo=>
if(geq o 16)then
j6 a (Ae (Ae 10 b) 10)
else
j6 a (Ae 10 b)
def Uj:=JL Ue
def JX(j5:LB->Int->Gc)(a:LB):Gc:=
if(Cf (Ac a) 10)then
some (0,24)
else
(Ca a 6 10).bind λp=>
(Zj p).bind λ(b,f)=>
(Aj a 3).bind λu=>
if(Cf u 2)then
if true then
if true then
if(true||(Bk f 0))then
some (0,12)
else
j5 a b
else
(Aj a 5).bind λv=>
if(Bk v 0)then
(Aj a 5).bind λw=>
if(Bk w 16)then
if(true||(Bk f 0))then
some (0,12)
else
j5 a b
else
(Aj a 3).bind λy=>
if((Bk y 4)||(Bk f 0))then
some (0,12)
else
j5 a b
else
if(false||(Bk f 0))then
some (0,12)
else
j5 a b
else
(Aj a 4).bind λaa=>
if(Bk aa 0)then
if(true||(Bk f 0))then
some (0,12)
else
j5 a b
else
(Aj a 5).bind λab=>
if(Bk ab 0)then
(Aj a 5).bind λac=>
if(Bk ac 16)then
if(true||(Bk f 0))then
some (0,12)
else
j5 a b
else
(Aj a 3).bind λad=>
if((Bk ad 4)||(Bk f 0))then
some (0,12)
else
j5 a b
else
if(false||(Bk f 0))then
some (0,12)
else
j5 a b
else
(Aj a 3).bind λae=>
if(Dv ae 4)then
if true then
if(true||(Bk f 0))then
some (0,12)
else
j5 a b
else
(Aj a 5).bind λaf=>
if(Bk af 0)then
(Aj a 5).bind λag=>
if(Bk ag 16)then
if(true||(Bk f 0))then
some (0,12)
else
j5 a b
else
(Aj a 3).bind λah=>
if((Bk ah 4)||(Bk f 0))then
some (0,12)
else
j5 a b
else
if(false||(Bk f 0))then
some (0,12)
else
j5 a b
else
(Aj a 4).bind λai=>
if(Bk ai 0)then
if(true||(Bk f 0))then
some (0,12)
else
j5 a b
else
(Aj a 5).bind λaj=>
if(Bk aj 0)then
(Aj a 5).bind λak=>
if(Bk ak 16)then
if(true||(Bk f 0))then
some (0,12)
else
j5 a b
else
(Aj a 3).bind λal=>
if((Bk al 4)||(Bk f 0))then
some (0,12)
else
j5 a b
else
if(false||(Bk f 0))then
some (0,12)
else
j5 a b
def LR:=JX Uj
def JP(j4:LB->Gc)(a:LB):Gc:=
if(Cf (Ac a) 3)then
some (0,6)
else
(Ca a 0 3).bind λam=>
if(am !=([73,68,51]:LB))then
some (0,6)
else
j4 a
def CF:=JP LR
def PF(a:UInt64):Option UInt64:=
some a
def RL:=PF
def Zp(j6:UInt64->Option UInt64)(Om:UInt64->Int->Option UInt64)(b:LB)(a:UInt64)(f:Int):Option UInt64:=
if(Ly f 0)then
(Aj b f).bind λg=>
Om (Ae (Bd 256 a) (Ad g:UInt64)) (Ah f 1)
else
j6 a
def Lz(b:LB):Nat->UInt64->Int->Option UInt64
|0,_,_=>none
|q+1,a,f=>Zp RL (Lz b q) b a f
def QO b:=Lz b Aq
def QL(j4:LB->UInt64->Int->Option UInt64)(b:LB):Option UInt64:=
j4 b 0 (Ah (Ac b) 1)
def Cz:=QL QO
def Tt(b:LB):Option (Int×Int×Bool):=
(Ca b 12 16).bind λg=>
(Cz g).bind λa=>
(Ca b 16 20).bind λh=>
(Cz h).bind λf=>
if(((Cf a 32)||(Dv a 3032))||(Dv f 1000))then
some (0,0,false)
else
some ((Ah (Ad a:Int) 32),(Ad f:Int),true)
def AJ(a:LB):Option (LB):=
some a
def Zu:=AJ
def Qe(j6:LB->Option (LB))(Om:UInt64->Int->LB->Option (LB))(b:Int)(f:UInt64)(g:Int)(a:LB):Option (LB):=
if(Cf g b)then
(Dd a ([(Ad (BB f 256):UInt8)]:LB)).bind λh=>
Om (Bv f 256) (Ae g 1) h
else
j6 a
def Gu(b:Int):Nat->UInt64->Int->LB->Option (LB)
|0,_,_,_=>none
|q+1,f,g,a=>Qe Zu (Gu b q) b f g a
def AH b:=Gu b Aq
def AQ(j4:Int->UInt64->Int->LB->Option (LB))(k:UInt64)(b:Int):Option (LB):=
j4 b k 0 ([]:LB)
def Ds:=AQ AH
def Pw(a b:Int)(f:UInt64):Option (LB):=
(Ds 2000 4).bind λg=>
(Dd ([(65:UInt8),(80:UInt8),(69:UInt8),(84:UInt8),(65:UInt8),(71:UInt8),(69:UInt8),(88:UInt8)]:LB) g).bind λh=>
(Ds (Ad (Ae a 32):UInt64) 4).bind λk=>
(Dd h k).bind λm=>
(Ds (Ad b:UInt64) 4).bind λn=>
(Dd m n).bind λo=>
(Ds f 4).bind λp=>
(Dd o p).bind λu=>
(mkI (8:Int) (0:UInt8)).bind λv=>
(Dd u v).bind λw=>
some w
def Tw(a b:Int):Option (LB):=
(Pw a b 2684354560).bind λf=>
some f
def Jw(a b:Int)(f:Bool):Option (LB):=
if f then
(Pw a b 2147483648).bind λg=>
some g
else
(Pw a b 0).bind λh=>
some h
abbrev Jj:=Option (Int×Int)
def GA(a:LB)(b f:Int):Jj:=
if(Cf (Ac a) (Ae 64 b))then
some (0,24)
else
(Ca a (Ah (Ae 64 b) 32) (Ae 64 b)).bind λg=>
(Jw b f true).bind λh=>
if(g !=h)then
some (0,12)
else
some ((Ae 64 b),0)
def GP:=GA
def FR(j4:LB->Int->Int->Jj)(a:LB):Jj:=
if(Cf (Ac a) 32)then
some (0,24)
else
(Ca a 0 32).bind λk=>
(Tt k).bind λ(b,f,m)=>
if(!m)then
some (0,12)
else
(Ca a 0 32).bind λn=>
(Tw b f).bind λo=>
if(n !=o)then
some (0,12)
else
j4 a b f
def FZ:=FR GP
def FK(j3:LB->Jj)(a:LB):Jj:=
if(Cf (Ac a) 8)then
some (0,6)
else
(Ca a 0 8).bind λp=>
if(p !=([65,80,69,84,65,71,69,88]:LB))then
some (0,6)
else
j3 a
def Zf:=FK FZ
abbrev Ff:=Option (LI×Int)
def FY(jw:Int->LI->Ff)(a:LB)(b:Int)(f:LI)(g h:Int):Ff:=
if(geq h 6)then
some (f,0)
else
if(Bk h 0)then
some (([]:LI),h)
else
if(Dv (Ae b g) 4000)then
some (([]:LI),4)
else
(Dd f ([g]:LI)).bind λm=>
jw (Ae b g) m
def Ml jw:=FY jw
def Tp(j9:Int->LI->Int->Int->Ff)(a:LB)(b:Int)(f:LI):Ff:=
(Ca a b (Ac a)).bind λn=>
(CF n).bind λ(o,k)=>
if(geq k 6)then
(Ca a b (Ac a)).bind λp=>
(Zf p).bind λ(u,v)=>
j9 b f u v
else
j9 b f o k
def Mf(a:LB):Nat->Int->LI->Ff
|0,_,_=>none
|q+1,b,f=>Tp (Ml (Mf a q) a) a b f
def eE a:=Mf a Aq
def dK(j6:LB->Int->LI->Ff)(a:LB):Ff:=
j6 a 0 ([]:LI)
def PO:=dK eE
abbrev Fk:=Option (Int×Int)
def FJ(a b:Int):Fk:=
some (b,a)
def GO:=FJ
def Sr(j6:Int->Int->Fk)(Om:Int->Int->Fk)(a:Int)(f:LI)(b g:Int):Fk:=
if(Cf g (Ac f))then
(Aj f g).bind λ_=>
(Aj f g).bind λh=>
Om (Ae b h) (Ae g 1)
else
j6 a b
def Ig(a:Int)(f:LI):Nat->Int->Int->Fk
|0,_,_=>none
|q+1,b,g=>Sr GO (Ig a f q) a f b g
def Tc a f:=Ig a f Aq
def FW(j4:Int->LI->Int->Int->Fk)(k:LB):Fk:=
(PO k).bind λ(f,a)=>
j4 a f 0 0
def Mc:=FW Tc
def Ou(a b:LB):Option Bool:=
if(Cf (Ac a) (Ac b))then
(Ca b 0 (Ac a)).bind λf=>
some (a==f)
else
some false
def KJ(a:UInt32)(b:Bool):Option UInt32:=
if b then
some (Rn (Bv a 2) 3988292384)
else
some (Bv a 2)
def JN:=KJ
def IZ(j2:UInt32->Bool->Option UInt32)(a:UInt32)(f:Int):Option UInt32:=
if(geq f 1)then
j2 a (!(geq (BB a 2) 1))
else
j2 a (geq (BB a 2) 1)
def EF:=IZ JN
def KW(a:UInt32):Option UInt32:=
some a
def LY:=KW
def Vi(j6:UInt32->Option UInt32)(Om:UInt32->UInt8->Int->Option UInt32)(a:UInt32)(b:UInt8)(f:Int):Option UInt32:=
if(Cf f 8)then
(EF a (Ad (BB b 2):Int)).bind λg=>
Om g (Bv b 2) (Ae f 1)
else
j6 a
def Jh:Nat->UInt32->UInt8->Int->Option UInt32
|0,_,_,_=>none
|q+1,a,b,f=>Vi LY (Jh q) a b f
def fO:=Jh Aq
def jG(j4:UInt32->UInt8->Int->Option UInt32)(h:UInt32)(k:UInt8):Option UInt32:=
j4 h k 0
def UM:=jG fO
def DE(a:UInt32):Option UInt32:=
some a
def FB:=DE
def Qv(j6:UInt32->Option UInt32)(Om:UInt32->Int->Option UInt32)(b:LB)(a:UInt32)(f:Int):Option UInt32:=
if(Cf f (Ac b))then
(Aj b f).bind λg=>
(UM a g).bind λh=>
Om h (Ae f 1)
else
j6 a
def Hk(b:LB):Nat->UInt32->Int->Option UInt32
|0,_,_=>none
|q+1,a,f=>Qv FB (Hk b q) b a f
def DW b:=Hk b Aq
def CU(j4:LB->UInt32->Int->Option UInt32)(k:UInt32)(b:LB):Option UInt32:=
j4 b k 0
def NB:=CU DW
def Sc(a:LB):Option UInt32:=
(NB 4294967295 a).bind λb=>
some (Ah 4294967295 b)
abbrev Gb:=Option (Int×Int×Int×Int×Int×Int)
def KE(k h g f b:UInt64):Gb:=
(Xh (Ad k:Int) (Ad h:Int) (Ad g:Int) (Ad f:Int) (Ad b:Int)).bind λv=>
if(!v)then
some (0,0,0,0,0,12)
else
(EO (Ad k:Int) (Ad h:Int) (Ad g:Int) (Ad f:Int) (Ad b:Int)).bind λw=>
if w then
some (0,0,0,0,0,4)
else
some ((Ad k:Int),(Ad h:Int),(Ad g:Int),(Ad f:Int),(Ad b:Int),0)
def KR:=KE
def KF(j6:UInt64->UInt64->UInt64->UInt64->UInt64->Gb)(a:LB):Gb:=
(Ca a 4 6).bind λu=>
(Ca a 6 8).bind λp=>
(Ca a 8 10).bind λo=>
(Ca a 10 14).bind λn=>
(Ca a 14 18).bind λm=>
(
(Cz u).bind λk=>
(
(Cz p).bind λh=>
(
(Cz o).bind λg=>
(
(Cz n).bind λf=>
(
(Cz m).bind λb=>
(
j6 k h g f b))))))
def KZ:=KF KR
def JW(j5:LB->Gb)(a:LB):Gb:=
if(Cf (Ac a) 22)then
some (0,0,0,0,0,24)
else
(Ca a 18 22).bind λy=>
(Ca a 0 18).bind λaa=>
(Cz y).bind λab=>
(Sc aa).bind λac=>
if(Bk ab (Ad ac:UInt64))then
some (0,0,0,0,0,22)
else
j5 a
def KV:=JW KZ
def JS(j4:LB->Gb)(a:LB):Gb:=
(Ca a 0 (Dt 4 (Ac a))).bind λad=>
(Ca ([84,84,65,49]:LB) 0 (Dt 4 (Ac a))).bind λae=>
if(ad !=ae)then
some (0,0,0,0,0,12)
else
j4 a
def Nr:=JS KV
abbrev Qt:=Option (Int×Int×Int×Int×Int×Int×Int)
def AE(b:Int)(a:LB):Qt:=
(Nr a).bind λ(k,m,n,o,p,h)=>
if(geq h 24)then
some (0,0,0,0,0,0,(-1:Int))
else
some ((Ae b 22),k,m,n,o,p,h)
def Zs:=AE
def Zv(j2:Int->LB->Qt)(f:LB):Qt:=
(Mc f).bind λ(b,g)=>
if(geq g 24)then
some (0,0,0,0,0,0,(-1:Int))
else
if(Bk g 0)then
some (0,0,0,0,0,0,g)
else
(Ca f b (Ac f)).bind λa=>
(Ou a ([73,68,51]:LB)).bind λu=>
if u then
some (0,0,0,0,0,0,(-1:Int))
else
(Ou a ([65,80,69,84,65,71,69,88]:LB)).bind λv=>
if v then
some (0,0,0,0,0,0,(-1:Int))
else
j2 b a
def Ux:=Zv Zs
def KY(a:UInt64)(b:Bool):Option UInt64:=
if b then
some (Rn (Bd a 2) 4823603603198064275)
else
some (Bd a 2)
def Uf:=KY
def KB(j2:UInt64->Bool->Option UInt64)(a:UInt64)(f:Int):Option UInt64:=
if(geq f 1)then
j2 a (!(Ly a 9223372036854775808))
else
j2 a (Ly a 9223372036854775808)
def EG:=KB Uf
def LH(a:UInt64):Option UInt64:=
some a
def JB:=LH
def Vq(j6:UInt64->Option UInt64)(Om:UInt64->Int->Option UInt64)(b:UInt8)(a:UInt64)(f:Int):Option UInt64:=
if(Dv f 0)then
(Hy (Bk f 0)).bind λ_=>
(EG a (Ga (Bv (Ad b:Int) f) 2)).bind λg=>
Om g (Bv f 2)
else
j6 a
def Ji(b:UInt8):Nat->UInt64->Int->Option UInt64
|0,_,_=>none
|q+1,a,f=>Vq JB (Ji b q) b a f
def fH b:=Ji b Aq
def fU(j4:UInt8->UInt64->Int->Option UInt64)(h:UInt64)(b:UInt8):Option UInt64:=
j4 b h 128
def TN:=fU fH
def DV(a:UInt64):Option UInt64:=
some a
def DT:=DV
def Re(j6:UInt64->Option UInt64)(Om:UInt64->Int->Option UInt64)(b:LB)(a:UInt64)(f:Int):Option UInt64:=
if(Cf f (Ac b))then
(Aj b f).bind λg=>
(TN a g).bind λh=>
Om h (Ae f 1)
else
j6 a
def Hj(b:LB):Nat->UInt64->Int->Option UInt64
|0,_,_=>none
|q+1,a,f=>Re DT (Hj b q) b a f
def aO b:=Hj b Aq
def ZG(j4:LB->UInt64->Int->Option UInt64)(k:UInt64)(b:LB):Option UInt64:=
j4 b k 0
def Wu:=ZG aO
def UG(a:LB):Option UInt64:=
(Wu 0 a).bind λb=>
some b
def Jl(a:LB):Option (LB):=
(UG a).bind λb=>
(Ds b 8).bind λf=>
some f
abbrev Dj:=Option (LI×Int)
def KN(f:LI):Dj:=
(Ir f).bind λh=>
if(Bk h 0)then
some (([]:LI),12)
else
some (f,0)
def Uu:=KN
def Un(j8:LI->Dj)(jw:Int->LI->Dj)(b:LB)(a g:Int)(f:LI):Dj:=
if(Cf g a)then
(Ca b (Bd 4 g) (Ae (Bd 4 g) 4)).bind λk=>
(Cz k).bind λm=>
(Dd f ([(Ad m:Int)]:LI)).bind λn=>
jw (Ae g 1) n
else
j8 f
def Jg(b:LB)(a:Int):Nat->Int->LI->Dj
|0,_,_=>none
|q+1,g,f=>Un Uu (Jg b a q) b a g f
def LC b a:=Jg b a Aq
def JE(j6:LB->Int->Int->LI->Dj)(b:LB)(a:Int):Dj:=
j6 b a 0 ([]:LI)
def JV:=JE LC
def JF(j5:LB->Int->Dj)(b:LB)(a:Int):Dj:=
if((Cf a 1)||(Dv a 1000))then
some (([]:LI),2)
else
if(Cf (Ac b) (Ae (Bd 4 a) 4))then
some (([]:LI),24)
else
(Ca b (Bd 4 a) (Ae (Bd 4 a) 4)).bind λo=>
(Ca b 0 (Bd 4 a)).bind λp=>
(Cz o).bind λu=>
(Sc p).bind λv=>
if(Bk u (Ad v:UInt64))then
some (([]:LI),22)
else
j5 b a
def Nt:=JF JV
abbrev Iq:=Option (Int×LI×Int)
def bN(b g:Int)(h:LI):Iq:=
if(geq g 24)then
some (0,([]:LI),(-1:Int))
else
some ((Ae (Ae b (Bd 4 (Ac h))) 4),h,g)
def aT:=bN
def cD(j4:Int->Int->LI->Iq)(a:LB)(f k m n o b:Int):Iq:=
(Ca a b (Ac a)).bind λp=>
(KG f k m n o).bind λu=>
(Nt p (Ac u)).bind λ(h,g)=>
j4 b g h
def aZ:=cD aT
def bQ(j3:LB->Int->Int->Int->Int->Int->Int->Iq)(a:LB)(f k m n o:Int)(v:LB):Iq:=
if(geq f 2)then
if(Cf (Ac a) 8)then
some (0,([]:LI),(-1:Int))
else
(Ca a 0 8).bind λw=>
(Jl v).bind λy=>
if(w !=y)then
some (0,([]:LI),26)
else
j3 a f k m n o 8
else
j3 a f k m n o 0
def lF:=bQ aZ
def UF(b:UInt64)(a:LB):Option (UInt64×Int):=
if(Dv (Ac a) 100000)then
some (0,4)
else
(Wu b a).bind λf=>
some (f,0)
def YE(a:LB):Option (UInt64×Int):=
(UF 0 a).bind λ(b,f)=>
some (b,f)
def lG(a:LX):Option (LX):=
some a
def kZ:=lG
def RK(jw:UInt64->Int->LX->Option (LX))(b:UInt64)(f:Int)(a:LX)(g:Int32):Option (LX):=
(Aj a f).bind λ_=>
(Ip a f g).bind λh=>
jw (Bv b 256) (Ae f 1) h
def Zg jw:=RK jw
def Yz(j8:UInt64->Int->LX->Int32->Option (LX))(j10:LX->Option (LX))(b:UInt64)(f:Int)(a:LX):Option (LX):=
if(Cf f 8)then
if(Dv (Ad (BB b 256):Int32) 127)then
j8 b f a (Ah (Ad (BB b 256):Int32) 256)
else
j8 b f a (Ad (BB b 256):Int32)
else
j10 a
def Ja:Nat->UInt64->Int->LX->Option (LX)
|0,_,_,_=>none
|q+1,b,f,a=>Yz (Zg (Ja q)) kZ b f a
def mU:=Ja Aq
def nY(j6:UInt64->Int->LX->Option (LX))(k:UInt64):Option (LX):=
j6 k 0 (List.replicate 16 (0:Int32))
def cV:=nY mU
def Jq(a:LB):Option (LX×Int):=
if(Dv (Ac a) 64)then
some (([(0:Int32),(0:Int32),(0:Int32),(0:Int32),(0:Int32),(0:Int32),(0:Int32),(0:Int32),(0:Int32),(0:Int32),(0:Int32),(0:Int32),(0:Int32),(0:Int32),(0:Int32),(0:Int32)]:LX),2)
else
(YE a).bind λ(b,g)=>
(cV b).bind λf=>
some (f,0)
def Wx(b:LB):Option (LB):=
(Sc b).bind λa=>
(Dd ([]:LB) b).bind λf=>
(Dd f ([(Ad a:UInt8),(Ad (Bt a (GI.toZ (8:UInt64)).toNat):UInt8),(Ad (Bt a (GI.toZ (16:UInt64)).toNat):UInt8),(Ad (Bt a (GI.toZ (24:UInt64)).toNat):UInt8)]:LB)).bind λg=>
some g
def Oq(a:LB):Option Int:=
if(Cf (Ac a) 5)then
some 24
else
if(Dv (Ac a) 41254)then
some 4
else
(Ca a 0 (Ah (Ac a) 4)).bind λb=>
(Wx b).bind λf=>
if(f !=a)then
some 22
else
some 0
def Lq:Option (Int×Int×UInt64×UInt64):=
some (10,10,16384,16384)
def dV(a:UInt64):Option UInt64:=
some a
def dJ:=dV
def To(j6:UInt64->Option UInt64)(Om:UInt64->Int->Option UInt64)(b:Int)(a:UInt64)(f:Int):Option UInt64:=
if(Cf f b)then
Om (Bd a 2) (Ae f 1)
else
j6 a
def Ie(b:Int):Nat->UInt64->Int->Option UInt64
|0,_,_=>none
|q+1,a,f=>To dJ (Ie b q) b a f
def dS b:=Ie b Aq
def dG(j4:Int->UInt64->Int->Option UInt64)(b:Int):Option UInt64:=
j4 b 1 0
def Fh:=dG dS
def HF(a g:Int)(h k:UInt64)(b:UInt32):Option Bool:=
(Fh a).bind λf=>
some (Cf (Ad b:UInt64) f)
def DK(a g:Int)(h k:UInt64)(b:UInt32):Option UInt32:=
(Fh a).bind λf=>
some (Ad (Ah (Ad b:UInt64) f):UInt32)
abbrev Xm:=Option (Int×UInt64)
def LM(b:Int)(a f:UInt64):Xm:=
if(Cf b 24)then
(Fh (Ae b 5)).bind λg=>
if(Dv (Ah (Ae a f) (Bv a 16)) g)then
some ((Ae b 1),(Ah (Ae a f) (Bv a 16)))
else
some (b,(Ah (Ae a f) (Bv a 16)))
else
some (b,(Ah (Ae a f) (Bv a 16)))
def Ug:=LM
def JY(j2:Int->UInt64->UInt64->Xm)(b:Int)(a f:UInt64):Xm:=
if(Dv b 0)then
(Fh (Ae b 4)).bind λh=>
if(Cf (Ah (Ae a f) (Bv a 16)) h)then
some ((Ah b 1),(Ah (Ae a f) (Bv a 16)))
else
j2 b a f
else
j2 b a f
def Tv:=JY Ug
abbrev Tj:=Option (Int×Int×UInt64×UInt64)
def ED(h:UInt32)(f a:Int)(g b:UInt64)(o:Int)(p:UInt64):Tj:=
(Tv f g (Ad h:UInt64)).bind λ(aa,ab)=>
some (aa,o,ab,p)
def Qz:=ED
def BR(j2:UInt32->Int->Int->UInt64->UInt64->Int->UInt64->Tj)(f a:Int)(g b:UInt64)(h:UInt32):Tj:=
(HF f a g b h).bind λu=>
if(!u)then
(
(
(DK f a g b h).bind λk=>
(Tv a b (Ad k:UInt64)).bind λ(m,n)=>
j2 h f a g b m n))
else
j2 h f a g b a b
def Wq:=BR Qz
abbrev Ep:=Option (Int×Int×UInt64×UInt64)
def aJ(a b:Int)(f g:UInt64):Ep:=
some (a,b,f,g)
def ZE:=aJ
def EB(j6:Int->Int->UInt64->UInt64->Ep)(Om:Int->Int->Int->UInt64->UInt64->Ep)(h:Int)(k:LU)(m a b:Int)(f g:UInt64):Ep:=
if(Cf m (Ac k))then
(Aj k m).bind λn=>
(Wq a b f g n).bind λ(o,p,u,v)=>
Om (Ae m h) o p u v
else
j6 a b f g
def Ky(h:Int)(k:LU):Nat->Int->Int->Int->UInt64->UInt64->Ep
|0,_,_,_,_,_=>none
|q+1,m,a,b,f,g=>EB ZE (Ky h k q) h k m a b f g
def bZ h k:=Ky h k Aq
def CP(j4:Int->LU->Int->Int->Int->UInt64->UInt64->Ep)(h:Int)(k:LU):Ep:=
(Lq).bind λ(w,y,aa,ab)=>
(Hy (Bk h 0)).bind λ_=>
j4 h k (Ga (Ac k) h) w y aa ab
def On:=CP bZ
def SJ(a:Int):Option Int:=
some (Ga a 2)
def SX:=SJ
def Zh(j6:Int->Option Int)(Om:Int->Int->Option Int)(b a f:Int):Option Int:=
if(Cf f (Ga b 8))then
Om (Bv a 2) (Ae f 1)
else
j6 a
def Md(b:Int):Nat->Int->Int->Option Int
|0,_,_=>none
|q+1,a,f=>Zh SX (Md b q) b a f
def SK b:=Md b Aq
def SM(j4:Int->Int->Int->Option Int)(g:LB)(k b:Int):Option Int:=
(Aj g (Bv b 8)).bind λh=>
j4 b (Ad h:Int) 0
def Kf:=SM SK
abbrev Dw:=Option (LB×Int)
def NG(b g a:Int)(f:LB):Dw:=
(Aj f (Bv a 8)).bind λ_=>
(Aj f (Bv a 8)).bind λm=>
(Aj f (Bv a 8)).bind λ_=>
(Ip f (Bv a 8) (Ae m (Ad (Bd b g):UInt8))).bind λn=>
some (n,(Ae a 1))
def Wr:=NG
def Xp(j8:Int->Int->Int->LB->Dw)(jw:Int->Int->Dw)(b a:Int)(f:LB)(g h:Int):Dw:=
if(Cf h (Ga a 8))then
jw (Bd g 2) (Ae h 1)
else
j8 b g a f
def Kr(b a:Int)(f:LB):Nat->Int->Int->Dw
|0,_,_=>none
|q+1,g,h=>Xp Wr (Kr b a f q) b a f g h
def NF b a f:=Kr b a f Aq
def NN(j6:Int->Int->LB->Int->Int->Dw)(b a:Int)(f:LB):Dw:=
j6 b a f 1 0
def Wv:=NN NF
def NH(j5:Int->Int->LB->Dw)(k:LB)(a b:Int):Dw:=
if(geq (Ga a 8) 0)then
(Dd k ([(0:UInt8)]:LB)).bind λo=>
j5 b a o
else
j5 b a k
def Vw:=NH Wv
abbrev Eb:=Option (LB×Int)
def YT(a:Int)(b:LB):Eb:=
some (b,a)
def YI:=YT
def Qd(j6:Int->LB->Eb)(Om:Int->Int->LB->Eb)(f:Int)(g:LB)(h k a:Int)(b:LB):Eb:=
if(Cf k f)then
(Kf g h k).bind λm=>
(Vw b a m).bind λ(n,o)=>
Om (Ae k 1) o n
else
j6 a b
def Gw(f:Int)(g:LB)(h:Int):Nat->Int->Int->LB->Eb
|0,_,_,_=>none
|q+1,k,a,b=>Qd YI (Gw f g h q) f g h k a b
def YG f g h:=Gw f g h Aq
def YU(j4:Int->LB->Int->Int->Int->LB->Eb)(g:LB)(h p f:Int):Eb:=
j4 f g h p 0 ([]:LB)
def KH:=YU YG
def eA(a:UInt64):Option UInt64:=
some a
def dN:=eA
def Tl(j6:UInt64->Option UInt64)(Om:UInt64->Int->Option UInt64)(b:Int)(f:LB)(g:Int)(a:UInt64)(h:Int):Option UInt64:=
if(Ly h 0)then
(Kf f g (Ae b h)).bind λk=>
Om (Ae (Bd 2 a) (Ad k:UInt64)) (Ah h 1)
else
j6 a
def If(b:Int)(f:LB)(g:Int):Nat->UInt64->Int->Option UInt64
|0,_,_=>none
|q+1,a,h=>Tl dN (If b f g q) b f g a h
def FT b f g:=If b f g Aq
def GC(j4:Int->LB->Int->UInt64->Int->Option UInt64)(f:LB)(g b m:Int):Option UInt64:=
j4 b f g 0 (Ah m 1)
def Rm:=GC FT
abbrev Gl:=Option (Int×Int)
def NQ(b a:Int)(g:LB)(f:Int):Gl:=
if(geq a 48)then
some (a,(Ae b a))
else
if(Ly (Ae b a) f)then
some ((-1:Int),0)
else
some (a,(Ae (Ae b a) 1))
def Xo:=NQ
def Xj(j6:Int->Int->LB->Int->Gl)(Om:Int->Gl)(b:Int)(g:LB)(f a:Int):Gl:=
if((Cf (Ae b a) f)&&(Cf a 48))then
(Kf g f (Ae b a)).bind λh=>
if(geq h 1)then
Om (Ae a 1)
else
j6 b a g f
else
j6 b a g f
def Kj(b:Int)(g:LB)(f:Int):Nat->Int->Gl
|0,_=>none
|q+1,a=>Xj Xo (Kj b g f q) b g f a
def kY b g f:=Kj b g f Aq
def lI(j4:Int->LB->Int->Int->Gl)(g:LB)(f b:Int):Gl:=
j4 b g f 0
def XH:=lI kY
def BM(b:UInt32)(f:Int):Option Int:=
(Fh f).bind λa=>
(Hy (Bk a 0)).bind λ_=>
some (Ad (Dt 48 (Bv (Ad b:UInt64) a)):Int)
abbrev Zb:=Option (UInt32×Int×Int)
def Xa(g a b:Int)(h:LB)(f k:Int):Zb:=
if((Cf a 0)||(Cf (Ah f b) k))then
some (0,0,24)
else
(Rm h f b k).bind λm=>
if(Cf a 48)then
(Fh g).bind λo=>
some ((Ad (Ae (Bd (Ad a:UInt64) o) m):UInt32),(Ae b k),0)
else
(BM (Ad m:UInt32) g).bind λp=>
if(Cf p a)then
some (0,0,12)
else
some ((Ad m:UInt32),(Ae b k),0)
def Xl:=Xa
def NC(j2:Int->Int->Int->LB->Int->Int->Zb)(h:LB)(f n g:Int):Zb:=
if(Ly n f)then
some (0,0,24)
else
(XH h f n).bind λ(a,b)=>
if(geq a 48)then
j2 g a b h f 32
else
j2 g a b h f g
def HK:=NC Xl
def HI(g:LB)(b a f n:Int)(v w:UInt64):Option (UInt32×Int×Int):=
if(Ly a b)then
some (0,0,24)
else
(Kf g b a).bind λo=>
if(geq o 0)then
if(Cf (Ah (Ah b a) 1) f)then
some (0,0,24)
else
(Rm g b (Ae a 1) f).bind λp=>
some ((Ad p:UInt32),(Ae (Ae a 1) f),0)
else
(HK g b (Ae a 1) n).bind λ(h,u,k)=>
if(Bk k 0)then
some (0,0,k)
else
(Fh f).bind λm=>
if(Dv (Ae (Ad h:UInt64) m) 4294967295)then
some (0,0,12)
else
some ((Ad (Ae (Ad h:UInt64) m):UInt32),u,0)
abbrev Bj:=Option (LU×Int)
def eB(b:LU):Bj:=
some (b,0)
def dP:=eB
def Tg(j18:LU->Bj)(Li:Int->Bj)(a:LB)(b:LU)(m:Int):Bj:=
if(Cf m (Bd 8 (Ac a)))then
(Kf a (Bd 8 (Ac a)) m).bind λn=>
if(Bk n 0)then
some (b,12)
else
Li (Ae m 1)
else
j18 b
def Ii(a:LB)(b:LU):Nat->Int->Bj
|0,_=>none
|q+1,m=>Tg dP (Ii a b q) a b m
def FU a b:=Ii a b Aq
def FM(j16:LB->LU->Int->Bj)(f:Int)(a:LB)(b:LU):Bj:=
if(Dv (Ah (Bd 8 (Ac a)) f) 7)then
some (b,12)
else
j16 a b f
def Tq:=FM FU
def GD(Aeb:Int->Int->LU->Bj)(g h:Int)(a:LB)(f k:Int)(b:LU)(o p:Int)(u v:UInt64):Bj:=
(KH a (Bd 8 (Ac a)) f (Dt (Ae f 81) (Bd 8 (Ac a)))).bind λ(y,aa)=>
(HI y aa 0 o p u v).bind λ(ab,ac,w)=>
if(Bk w 0)then
some (b,w)
else
(Dd b ([ab]:LU)).bind λad=>
Aeb (Ae f ac) (Ae k 1) ad
def Ih Aeb:=GD Aeb
def GK(j13:Int->Int->LU->Int->Int->UInt64->UInt64->Bj)(j15:Int->LB->LU->Bj)(g h:Int)(a:LB)(f k:Int)(b:LU):Bj:=
if(Cf k (Bd h g))then
(Lq).bind λ(n,ae,af,ag)=>
if(Ly k g)then
(On g b).bind λ(ah,ai,aj,ak)=>
j13 f k b ah ai aj ak
else
j13 f k b n ae af ag
else
j15 f a b
def Er(g h:Int)(a:LB):Nat->Int->Int->LU->Bj
|0,_,_,_=>none
|q+1,f,k,b=>GK (Ih (Er g h a q) g h a) Tq g h a f k b
def dM g h a:=Er g h a Aq
def KT(j10:Int->Int->LB->Int->Int->LU->Bj)(g h:Int)(a:LB):Bj:=
j10 g h a 0 0 ([]:LU)
def BO:=KT dM
def nZ(a:Int):Option (Int×Int):=
if(geq a 8)then
some (4,0)
else
if((geq a 16)||(geq a 24))then
some (5,0)
else
some (0,2)
def rI(a:Int)(b:LX):Option (Int×LX×LX×Int):=
(nZ a).bind λ(g,f)=>
if(Bk f 0)then
some (0,(List.replicate 16 (0:Int32)),(List.replicate 16 (0:Int32)),2)
else
if(geq a 16)then
some (9,b,(List.replicate 16 (0:Int32)),0)
else
some (10,b,(List.replicate 16 (0:Int32)),0)
def WW(a:Int)(b:LX):Option (Int×Int32×Int×LX×LX×Int):=
(rI a b).bind λ(f,g,h,k)=>
if(Bk k 0)then
some (0,0,0,(List.replicate 16 (0:Int32)),(List.replicate 16 (0:Int32)),2)
else
some (a,0,f,g,h,0)
def CK(a:UInt32):Option Int32:=
if(geq (BB a 2) 0)then
some (Ad (Bv a 2):Int32)
else
some (Ad (Bv (oS (Ae (Ad a:Int) 1)) 2):Int32)
def Ch(a:Int):Option Int32:=
some (Ad (Ad (Ad a:UInt64):UInt32):Int32)
def NT(a:Int):Option Int32:=
some (Ad a:Int32)
def ND:=NT
def Wp(j6:Int->Option Int32)(Om:Int->Int->Option Int32)(h:Int)(f g:LX)(a b:Int):Option Int32:=
if(Cf b 16)then
(Aj f b).bind λ_=>
(Aj g b).bind λ_=>
(Aj f b).bind λk=>
(Aj g b).bind λm=>
(Ch (Bd (Ad k:Int) (Ad m:Int))).bind λn=>
(Ch (Ae a (Ad n:Int))).bind λo=>
Om (Ad o:Int) (Ae b 1)
else
j6 a
def Kn(h:Int)(f g:LX):Nat->Int->Int->Option Int32
|0,_,_=>none
|q+1,a,b=>Wp ND (Kn h f g q) h f g a b
def kU h f g:=Kn h f g Aq
def lH(j4:Int->LX->LX->Int->Int->Option Int32)(h:Int)(f g:LX):Option Int32:=
j4 h f g 0 0
def XD:=lH kU
def JH(b:Int)(f g:LX)(a:Int):Option Int32:=
(XD b f g).bind λk=>
(Ch (Ae (Ad k:Int) (Bv a 2))).bind λh=>
(Hy (Bk a 0)).bind λ_=>
(Hy (Bk a 0)).bind λ_=>
if(Cf (Ga (Ad h:Int) a) 0)then
some (Ad (Ah (Bv (Ad h:Int) a) 1):Int32)
else
some (Ad (Bv (Ad h:Int) a):Int32)
def Vk:=JH
def JO(j2:Int->LX->LX->Int->Option Int32)(b:Int)(f g:LX):Option Int32:=
if(geq b 9)then
j2 b f g 512
else
j2 b f g 1024
def DA:=JO Vk
def EP(a:Int):Option Int32:=
if(geq a 0)then
some 4
else
if(yh a 3)then
some 2
else
some 1
def Tr(a:Int32):Option Int32:=
if(Cf a 0)then
some (-1:Int32)
else
if(Dv a 0)then
some 1
else
some 0
abbrev Dz:=Option (Int×LX×LX)
def YV(g:Int)(b a:LX):Dz:=
some (g,b,a)
def YS:=YV
def Pj(j6:Int->LX->LX->Dz)(Om:Int->LX->Dz)(h:Int32)(g:Int)(a:LX)(f:Int)(b:LX):Dz:=
if(Cf f 16)then
(Aj b f).bind λ_=>
(Aj a f).bind λ_=>
(Aj b f).bind λk=>
(Aj a f).bind λm=>
(EP f).bind λn=>
(Tr m).bind λo=>
(Tr h).bind λp=>
(Aj b f).bind λ_=>
(Ip b f (Ae k (Bd (Bd n o) p))).bind λu=>
Om (Ae f 1) u
else
j6 g b a
def Gy(h:Int32)(g:Int)(a:LX):Nat->Int->LX->Dz
|0,_,_=>none
|q+1,f,b=>Pj YS (Gy h g a q) h g a f b
def YA h g a:=Gy h g a Aq
def XS(j4:Int32->Int->LX->Int->LX->Dz)(g:Int)(v a:LX)(h:Int32):Dz:=
j4 h g a 0 v
def JG:=XS YA
abbrev Em:=Option (Int×LX×LX)
def CO(b:Int32)(f:Int)(g a:LX):Em:=
(Aj a 0).bind λ_=>
(Ip a 0 b).bind λk=>
some (f,g,k)
def BK:=CO
def Rq(j6:Int32->Int->LX->LX->Em)(Om:Int->LX->Em)(b:Int32)(f:Int)(g:LX)(h:Int)(a:LX):Em:=
if(Dv h 0)then
(Aj a (Ah h 1)).bind λ_=>
(Aj a (Ah h 1)).bind λm=>
(Aj a h).bind λ_=>
(Ip a h m).bind λn=>
Om (Ah h 1) n
else
j6 b f g a
def Hn(b:Int32)(f:Int)(g:LX):Nat->Int->LX->Em
|0,_,_=>none
|q+1,h,a=>Rq BK (Hn b f g q) b f g h a
def aS b f g:=Hn b f g Aq
def ZQ(j4:Int32->Int->LX->Int->LX->Em)(f:Int)(g o:LX)(b:Int32):Em:=
j4 b f g 15 o
def MZ:=ZQ aS
def Uk(a:Int)(b f:LX)(g:Int32):Option (Int32×Int×LX×LX):=
(DA a b f).bind λk=>
(Ch (Ae (Ad g:Int) (Ad k:Int))).bind λh=>
(JG a b f g).bind λ(m,n,o)=>
(MZ m n o h).bind λ(p,u,v)=>
some (h,p,u,v)
def BN(b:Int32)(a:Int):Option Int32:=
(Hy (Bk a 0)).bind λ_=>
(Hy (Bk a 0)).bind λ_=>
if(Cf (Ga (Bd (Ah a 1) (Ad b:Int)) a) 0)then
some (Ad (Ah (Bv (Bd (Ah a 1) (Ad b:Int)) a) 1):Int32)
else
some (Ad (Bv (Bd (Ah a 1) (Ad b:Int)) a):Int32)
def Rk:=BN
def EI(j2:Int32->Int->Option Int32)(f:Int)(b:Int32):Option Int32:=
if(geq f 5)then
j2 b 32
else
j2 b 16
def Ot:=EI Rk
def Xf(b:Int)(a:Int32)(h:Int)(k m:LX):Option Int:=
if(geq b 8)then
(Ot 4 a).bind λf=>
some (Ad f:Int)
else
(Ot 5 a).bind λg=>
some (Ad g:Int)
def Uh(a:Int)(k:Int32)(b:Int)(f g:LX)(m:Int32):Option (Int32×Int×Int32×Int×LX×LX):=
(Uk b f g m).bind λ(n,o,p,u)=>
(Xf a k b f g).bind λv=>
(Ch (Ae (Ad n:Int) v)).bind λh=>
some (h,a,h,o,p,u)
def Ra(a:Int)(b:LX):Option Int:=
if((Cf a 1)||(Dv a 6))then
some 2
else
if(Dv (Ac b) 4000)then
some 4
else
(Hy (Bk a 0)).bind λ_=>
if(Dv (Ga (Ac b) a) 0)then
some 2
else
some 0
def YK(b:LX):Option (LX):=
some b
def YC:=YK
def Qa(j8:LX->Option (LX))(jw:Int->LX->Option (LX))(a:LX)(f:Int)(b:LX):Option (LX):=
if(Ly f 0)then
(Aj b (Ae f 1)).bind λ_=>
(Aj a f).bind λm=>
(Aj b (Ae f 1)).bind λn=>
(Ch (Ah (Ad n:Int) (Ad m:Int))).bind λo=>
(Aj b f).bind λ_=>
(Ip b f o).bind λp=>
jw (Ah f 1) p
else
j8 b
def Gv(a:LX):Nat->Int->LX->Option (LX)
|0,_,_=>none
|q+1,f,b=>Qa YC (Gv a q) a f b
def XB a:=Gv a Aq
def AY(j6:LX->Int->LX->Option (LX))(a g:LX):Option (LX):=
j6 a (Ah (Ac a) 2) g
def Pn:=AY XB
def Zx(j5:LX->LX->Option (LX))(a:LX):Option (LX):=
(mkI (Ac a) (0:Int32)).bind λk=>
(Hy (geq (Ac a) (Ac a))).bind λ_=>
(Aj a (Ah (Ac a) 1)).bind λu=>
(Aj k (Ah (Ac a) 1)).bind λ_=>
(Ip k (Ah (Ac a) 1) u).bind λh=>
if(Dv (Ac a) 1)then
(Aj a (Ah (Ac a) 1)).bind λv=>
(Aj a (Ah (Ac a) 2)).bind λw=>
(Ch (Ae (Ad v:Int) (Bv (Ad w:Int) 2))).bind λy=>
(Aj h (Ah (Ac a) 1)).bind λ_=>
(Ip h (Ah (Ac a) 1) y).bind λaa=>
j5 a aa
else
j5 a h
def Vg:=Zx Pn
abbrev Fx:=Option (LX×Int)
def iJ(f:LX):Fx:=
some (f,0)
def iW:=iJ
def LO(j6:LX->Fx)(Om:Int->LX->Fx)(a:Int)(b:LX)(g:Int)(f:LX):Fx:=
if(Cf g (Ac b))then
(Ca b g (Ae g a)).bind λh=>
(Vg h).bind λk=>
(Dd f k).bind λm=>
Om (Ae g a) m
else
j6 f
def Nl(a:Int)(b:LX):Nat->Int->LX->Fx
|0,_,_=>none
|q+1,g,f=>LO iW (Nl a b q) a b g f
def hU a b:=Nl a b Aq
def JM(j4:Int->LX->Int->LX->Fx)(a:Int)(b:LX):Fx:=
(Ra a b).bind λn=>
if(Bk n 0)then
(Ra a b).bind λo=>
some (([]:LX),o)
else
j4 a b 0 ([]:LX)
def CN:=JM hU
def AM(a f:Int)(w:LX):Option (LX):=
(CN a w).bind λ(aj,ai)=>
some aj
def Pk:=AM
def AP(J6:Int->LX->Option (LX))(b:LU)(a f:Int)(g:LX)(h:Int)(m:LX):Option (LX):=
J6 (Ae h 1) m
def Zz J6:=AP J6
def AB(Aec:Int->LX->Int->Int32->Int->LX->LX->Option (LX))(b:LU)(h a f:Int)(g:LX)(k:Int)(af:LX)(y:Int)(aa:Int32)(ab:Int)(ac ad:LX):Option (LX):=
Aec (Ae k a) af y aa ab ac ad
def Zt Aec:=AB Aec
def AL(j30:Int->LX->Int->Int32->Int->LX->LX->Option (LX))(b:LU)(h a f:Int)(g:LX)(k:Int)(ae:Int32)(m:LX)(n:Int)(o:Int32)(p:Int)(u v:LX)(y:Int)(aa:Int32)(ab:Int)(ac ad:LX):Option (LX):=
(Aj m k).bind λ_=>
(Ip m k ae).bind λaf=>
j30 k af y aa ab ac ad
def AR Aec b h a f g:=AL (Zt Aec b h a f g) b h a f g
def AK(j29:Int->Int32->LX->Int->Int32->Int->LX->LX->Int->Int32->Int->LX->LX->Option (LX))(j32:Int->LX->Option (LX))(b:LU)(a f:Int)(g:LX)(h k:Int)(m:LX)(n:Int)(o:Int32)(p:Int)(u v:LX):Option (LX):=
if(Cf k (Ac b))then
(Aj b k).bind λah=>
(
(CK ah).bind λag=>
(
(Uh n o p u v ag).bind λ(ae,y,aa,ab,ac,ad)=>
j29 k ae m n o p u v y aa ab ac ad))
else
j32 h m
def Ju(J6:Int->LX->Option (LX))(b:LU)(a f:Int)(g:LX)(h:Int):Nat->Int->LX->Int->Int32->Int->LX->LX->Option (LX)
|0,_,_,_,_,_,_,_=>none
|q+1,k,m,n,o,p,u,v=>AK (AR (Ju J6 b a f g h q) b h a f g) (Zz J6 b a f g) b a f g h k m n o p u v
def AO J6 b a f g h:=Ju J6 b a f g h Aq
def Pm(j26:Int->Int->LX->Int->Int32->Int->LX->LX->Option (LX))(j34:Int->Int->LX->Option (LX))(b:LU)(a f:Int)(g:LX)(h:Int)(w:LX):Option (LX):=
if(Cf h a)then
(WW f g).bind λ(ak,ai,al,am,an,aq)=>
j26 h h w ak ai al am an
else
j34 a f w
def Ey(b:LU)(a f:Int)(g:LX):Nat->Int->LX->Option (LX)
|0,_,_=>none
|q+1,h,w=>Pm (AO (Ey b a f g q) b a f g) Pk b a f g h w
def AZ b a f g:=Ey b a f g Aq
def CE(j18:LU->Int->Int->LX->Int->LX->Option (LX))(a f:Int)(g:LX)(b:LU):Option (LX):=
(mkI (Ac b) (0:Int32)).bind λao=>
(Hy (geq (Ac b) (Ac b))).bind λ_=>
j18 b a f g 0 ao
def Oo:=CE AZ
def Pa(g f:Int)(a:LX):Option (LX×Int):=
(Ao f a).bind λb=>
if(Bk b 0)then
some (([]:LX),b)
else
some (a,0)
abbrev Td:=Option (LX×Int)
def Kz(f a b:Int)(g:LX)(h:LU):Td:=
if(Bk f 0)then
some (([]:LX),f)
else
(
(
(Oo a b g h).bind λm=>
(Pa a b m).bind λ(n,o)=>
some (n,o)))
def Kv:=Kz
def Rw(j2:Int->Int->Int->LX->LU->Td)(a b:Int)(g:LX)(p:Int)(k:LB):Td:=
(Dy a b p).bind λy=>
if(Bk y 0)then
some (([]:LX),2)
else
(Oq k).bind λaa=>
if(Bk aa 0)then
(Oq k).bind λab=>
some (([]:LX),ab)
else
(Ca k 0 (Ah (Ac k) 4)).bind λac=>
(BO a p ac).bind λ(h,f)=>
j2 f a b g h
def Dk:=Rw Kv
def Xg(a b:Int):Option (LB):=
if(geq a 24)then
(Dd ([(Ad (Ga b 256):UInt8),(Ad (Ga (Bv b 256) 256):UInt8)]:LB) ([(Ad (Bv b 65536):UInt8)]:LB)).bind λg=>
some g
else
some ([(Ad (Ga b 256):UInt8),(Ad (Ga (Bv b 256) 256):UInt8)]:LB)
def Ko:=Xg
def NM(j2:Int->Int->Option (LB))(a:Int)(f:Int32):Option (LB):=
if(geq a 8)then
some ([(Ad (Ae (Ad f:Int) 128):UInt8)]:LB)
else
if(Cf (Ad f:Int) 0)then
(Hq a).bind λh=>
j2 a (Ae (Ad f:Int) (Bd 2 h))
else
j2 a (Ad f:Int)
def GQ:=NM Ko
abbrev Fi:=Option (LB×Int)
def dO(b:LB):Fi:=
some (b,0)
def dR:=dO
def Tk(j6:LB->Fi)(Om:Int->LB->Fi)(f:Int)(a:LX)(g:Int)(b:LB):Fi:=
if(Cf g (Ac a))then
(Aj a g).bind λh=>
(GQ f h).bind λk=>
(Dd b k).bind λm=>
Om (Ae g 1) m
else
j6 b
def Ij(f:Int)(a:LX):Nat->Int->LB->Fi
|0,_,_=>none
|q+1,g,b=>Tk dR (Ij f a q) f a g b
def dZ f a:=Ij f a Aq
def GF(j4:Int->LX->Int->LB->Fi)(f:Int)(a:LX):Fi:=
(Ao f a).bind λn=>
if(Bk n 0)then
(Ao f a).bind λo=>
some (([]:LB),o)
else
j4 f a 0 ([]:LB)
def Qw:=GF dZ
abbrev Ti:=Option (LB×Int)
def ZD(o:LX)(f:Int)(p g:LB)(h k a m n:Int)(u:LI)(b:Int)(v:LB)(w:Bool)(y:Int):Ti:=
if(Bk f 0)then
some (([]:LB),f)
else
(Qw a o).bind λ(ac,ai)=>
some (ac,0)
def cG:=ZD
def bS(j2:LX->Int->LB->LB->Int->Int->Int->Int->Int->LI->Int->LB->Bool->Int->Ti)(p g:LB)(h k a m n:Int)(u:LI)(b:Int)(v:LB)(w:Bool)(y:Int):Ti:=
(Aj u b).bind λaa=>
if(Cf (Ac g) aa)then
some (([]:LB),(-1:Int))
else
(Jq p).bind λ(ad,aj)=>
(Ca g 0 aa).bind λae=>
(nS h k a m n).bind λ(af,ag)=>
(KG h k a m n).bind λab=>
(Aj ab b).bind λ_=>
(Aj ab b).bind λah=>
(Dk af ag ad ah ae).bind λ(o,f)=>
j2 o f p g h k a m n u b v w y
def kV:=bS cG
abbrev Kk:=Option (LB×LB×Int×Int×Int×Int×Int×LI×Int×LB×Bool×Int×Int)
def gL(g a:LB)(m o p u v:Int)(b:LI)(f:Int)(n:LB)(h:Bool)(k:Int):Kk:=
if(geq (Ac b) 0)then
(lF a m o p u v g).bind λ(ag,ak,w)=>
if(Bk w 0)then
some (g,a,m,o,p,u,v,b,f,n,h,k,w)
else
(Ca a ag (Ac a)).bind λal=>
some (g,al,m,o,p,u,v,ak,f,n,h,k,0)
else
if(geq f (Ac b))then
if(Dv (Ac a) 4000)then
some (g,a,m,o,p,u,v,b,f,n,h,k,38)
else
some (g,a,m,o,p,u,v,b,f,n,h,k,(-1:Int))
else
(kV g a m o p u v b f n h k).bind λ(am,y)=>
if(Bk y 0)then
some (g,a,m,o,p,u,v,b,f,n,h,k,y)
else
(Dd ([]:LB) n).bind λan=>
(Dd an am).bind λah=>
(
(
(
(Aj b f).bind λad=>
(
(Ca a ad (Ac a)).bind λae=>
some (g,ae,m,o,p,u,v,b,(Ae f 1),ah,h,k,0)))))
def gY:=gL
def fN(g af:LB)(aa w ab ac y:Int)(b:LI)(f:Int)(n:LB)(h:Bool)(k:Int):Kk:=
(nI aa w ab ac y g).bind λaw=>
some (g,af,aa,w,ab,ac,y,b,f,n,h,k,aw)
def gB:=fN
def KC(j3:LB->LB->Int->Int->Int->Int->Int->LI->Int->LB->Bool->Int->Kk)(j4:LB->LB->Int->Int->Int->Int->Int->LI->Int->LB->Bool->Int->Kk)(g a:LB)(m o p u v:Int)(b:LI)(f:Int)(n:LB)(h:Bool)(k:Int):Kk:=
if(geq m 0)then
(Ux a).bind λ(ag,aa,w,ab,ac,y,ai)=>
if(Bk ai 0)then
some (g,a,m,o,p,u,v,b,f,n,h,k,ai)
else
(
(Ca a ag (Ac a)).bind λaf=>
(
j3 g af aa w ab ac y b f n h k))
else
j4 g a m o p u v b f n h k
def EM:=KC gB gY
abbrev Ws:=Option (LB×LB×Int×Int×Int×Int×Int×LI×Int×LB×Bool×Int)
def fL(f:LB)(g h k m n:Int)(o:LI)(p:Int)(u:Bool)(v:Int)(a b:LB):Ws:=
(Dd ([]:LI) o).bind λaf=>
some (f,a,g,h,k,m,n,af,p,b,u,v)
def fR:=fL
def eH(j2:LB->Int->Int->Int->Int->Int->LI->Int->Bool->Int->LB->LB->Ws)(f w:LB)(g h k m n:Int)(o:LI)(p:Int)(y:LB)(u:Bool)(v:Int):Ws:=
(
(
(
(Dd ([]:LB) w).bind λa=>
(
(Dd ([]:LB) y).bind λb=>
j2 f g h k m n o p u v a b))))
def oN:=eH fR
def gy(b g:LB)(h k m n o:Int)(p:LI)(u:Int)(f:LB)(v:Bool)(w a:Int):Option (LB×LB×Int×Int×Int×Int×Int×LI×Int×LB×Bool×Int×Int):=
some (b,([]:LB),0,0,0,0,0,([]:LI),0,f,false,a,a)
abbrev Hm:=Option (LB×LB×Int×Int×Int×Int×Int×LI×Int×LB×Bool×Int×Int)
def rJ(jy:LB->Int->Int->Int->Int->Int->Int->LI->LB->Hm)(a:LB)(b:Bool)(f:Int)(ar:LB)(au av aw ax ay az:Int)(bh:Bool)(be:Int)(ba:LI)(bb:LB):Hm:=
if bh then
(U4 a ar au av aw ax ay ba az bb b f).bind λ(fh,fi,fj,bc,bi,ai,fk,fl,fm,fn,fo,aj)=>
some (fh,fi,fj,bc,bi,ai,fk,fl,fm,fn,fo,aj,0)
else
if(Bk be 0)then
(gy a ar au av aw ax ay ba az bb b f be).bind λ(fp,fq,fs,ft,fu,fv,fw,fx,fy,fz,ga,gb,gc)=>
some (fp,fq,fs,ft,fu,fv,fw,fx,fy,fz,ga,gb,gc)
else
jy ar au av aw ax ay az ba bb
def Lh jy:=rJ jy
def tB(j71:LB->Int->Int->Int->Int->Int->Int->Bool->Int->LI->LB->Hm)(a:LB)(b:Bool)(f h:Int)(k:LI)(n:LB)(bj:Bool)(bk:Int)(bl:LB)(bm bn bp bq br:Int):Hm:=
j71 bl bm bn bp bq br h bj bk k n
def sU jy a b f:=tB (Lh jy a b f) a b f
def sZ(j71:LB->Int->Int->Int->Int->Int->Int->Bool->Int->LI->LB->Hm)(a:LB)(b:Bool)(f m p o u v h:Int)(n:LB)(bs:Bool)(bt:Int)(bu:LB)(bv:LI):Hm:=
j71 bu m p o u v h bs bt bv n
def tC jy a b f:=sZ (Lh jy a b f) a b f
def sO(j71:LB->Int->Int->Int->Int->Int->Int->Bool->Int->LI->LB->Hm)(a:LB)(b:Bool)(f m p o u v:Int)(k:LI)(bx:Bool)(bz:Int)(da:LB)(db:Int)(dc:LB):Hm:=
j71 da m p o u v db bx bz k dc
def sQ jy a b f:=sO (Lh jy a b f) a b f
def qM(a m:LB)(n o p u v:Int)(w:LI)(y:Int)(b:LB)(aa:Bool)(ab:Int):Option (LB×LB×Int×Int×Int×Int×Int×LI×Int×LB×Bool×Int):=
(
(
(Dd ([]:LB) b).bind λf=>
some (a,([]:LB),0,0,0,0,0,([]:LI),0,f,false,0)))
def lJ(b f:LB)(g h k m n:Int)(o:LI)(p:Int)(u:LB)(v:Bool)(w a:Int):Option (LB×LB×Int×Int×Int×Int×Int×LI×Int×LB×Bool×Int×Int):=
(qM b f g h k m n o p u v w).bind λ(y,aa,ab,ac,ad,ae,af,ag,ah,ai,aj,ak)=>
some (y,aa,ab,ac,ad,ae,af,ag,ah,ai,aj,a,a)
abbrev Xc:=Option (LB×LB×Int×Int×Int×Int×Int×LI×Int×LB×Bool×Int×Int)
def gT(bk3:LB->LB->Int->Int->Int->Int->Int->LI->Int->LB->Bool->Int->Xc)(a b:LB)(f g h k m:Int)(n:LI)(o:Int)(p:LB)(u:Bool)(v:Int):Xc:=
(EM a b f g h k m n o p u v).bind λ(bb,bc,bd,be,bf,bg,bh,bi,bj,bk,bl,bm,w)=>
if(geq w (-1:Int))then
(oN a b f g h k m n o p u v).bind λ(bn,bp,bq,br,bs,bt,bu,bv,bw,bx,bz,da)=>
some (bn,bp,bq,br,bs,bt,bu,bv,bw,bx,bz,da,0)
else
if(Bk w 0)then
(lJ a b f g h k m n o p u v w).bind λ(db,dc,dd,de,df,dg,dh,di,dj,dk,dl,dm,dn)=>
some (db,dc,dd,de,df,dg,dh,di,dj,dk,dl,dm,dn)
else
bk3 bb bc bd be bf bg bh bi bj bk bl bm
def LG:Nat->LB->LB->Int->Int->Int->Int->Int->LI->Int->LB->Bool->Int->Xc
|0,_,_,_,_,_,_,_,_,_,_,_,_=>none
|q+1,a,b,f,g,h,k,m,n,o,p,u,v=>gT (LG q) a b f g h k m n o p u v
abbrev Fy:=Option (Int×Int)
def Vo(a:LB)(f g:Int)(b h:LB)(k:Int):Fy:=
if(Cf (Ac a) k)then
some (0,24)
else
if(b==h)then
(Ca a (Ah (Ac a) k) (Ae (Ah (Ac a) k) 32)).bind λo=>
(Tw f g).bind λp=>
if(o !=p)then
some (0,12)
else
some (k,0)
else
some (k,0)
def Vj:=Vo
def Ui(j6:LB->Int->Int->LB->LB->Int->Fy)(a:LB)(f g:Int)(b h:LB):Fy:=
if(b==h)then
j6 a f g b h (Ae (Ae 32 f) 32)
else
j6 a f g b h (Ae 32 f)
def Uv:=Ui Vj
def KX(j5:LB->Int->Int->LB->LB->Fy)(a:LB):Fy:=
(Ca a (Ah (Ac a) 32) (Ac a)).bind λb=>
(Tt b).bind λ(f,g,n)=>
if(!n)then
some (0,12)
else
(Jw f g true).bind λh=>
(
if(!(b==h))then
(Jw f g false).bind λm=>
if(b !=m)then
some (0,12)
else
j5 a f g b h
else
j5 a f g b h)
def LA:=KX Uv
def JA(j4:LB->Fy)(a:LB):Fy:=
if(Cf (Ac a) 32)then
some (0,6)
else
(Ca a (Ah (Ac a) 32) (Ae (Ah (Ac a) 32) 8)).bind λu=>
if(u !=([65,80,69,84,65,71,69,88]:LB))then
some (0,6)
else
j4 a
def CJ:=JA LA
abbrev Et:=Option (Int×Int)
def ZL(a:Int):Et:=
some (a,0)
def YZ:=ZL
def FD(j6:Int->Et)(Om:LB->Int->Et)(b:LB)(a:Int):Et:=
if(Dv (Ac b) 0)then
(CJ b).bind λ(g,h)=>
if(Bk h 0)then
some (0,38)
else
(Ca b 0 (Ah (Ac b) g)).bind λk=>
Om k (Ae a 1)
else
j6 a
def Lc:Nat->LB->Int->Et
|0,_,_=>none
|q+1,b,a=>FD YZ (Lc q) b a
def aL:=Lc Aq
def BQ(j4:LB->Int->Et)(f:LB):Et:=
if(Dv (Ac f) 4000)then
some (0,38)
else
j4 f 0
def Ww:=BQ aL
abbrev VB:=Option (Int×Int×Int×Int×Int×Int×LI×Int)
def gI(a:LB)(b f g h k n:Int):VB:=
(Xv b f g h k).bind λ(ab,p)=>
if(Bk p 0)then
some (0,0,0,0,0,0,([]:LI),p)
else
(Ca a n (Ac a)).bind λac=>
(RB ac (Ac ab)).bind λ(u,v)=>
if(Bk v 0)then
some (0,0,0,0,0,0,([]:LI),v)
else
some (b,f,g,h,k,(Ae (Ae n (Bd 4 (Ac u))) 4),u,0)
def Px:=gI
def Po(j2:LB->Int->Int->Int->Int->Int->Int->VB)(a o:LB):VB:=
if(Dv (Ac o) 64)then
some (0,0,0,0,0,0,([]:LI),2)
else
if(Dv (Ac a) 100000)then
some (0,0,0,0,0,0,([]:LI),4)
else
(Va a).bind λ(m,w)=>
if(Bk w 0)then
some (0,0,0,0,0,0,([]:LI),w)
else
(Ca a m (Ac a)).bind λad=>
(JU ad).bind λ(b,f,g,h,k,y)=>
if(Bk y 0)then
some (0,0,0,0,0,0,([]:LI),y)
else
if((o==([]:LB)) !=(geq b 1))then
some (0,0,0,0,0,0,([]:LI),26)
else
if(o !=([]:LB))then
if(Cf (Ac a) (Ae (Ae m 22) 8))then
some (0,0,0,0,0,0,([]:LI),24)
else
(Ca a (Ae m 22) (Ae (Ae m 22) 8)).bind λae=>
(We ae o).bind λ(af,aa)=>
if(Bk aa 0)then
some (0,0,0,0,0,0,([]:LI),aa)
else
if(!af)then
some (0,0,0,0,0,0,([]:LI),26)
else
j2 a b f g h k (Ae (Ae m 22) 8)
else
j2 a b f g h k (Ae m 22)
def Cp:=Po Px
abbrev Ic:=Option (Int×Int×Int×Int×Int×Int×LI×Int)
def CM(m n b h k f g:Int)(o:LI):Ic:=
if(Bk n 0)then
some (0,0,0,0,0,0,([]:LI),n)
else
some (b,h,k,f,g,(Ae (Ae m (Bd 4 (Ac o))) 4),o,0)
def BY:=CM
def BZ(j4:Int->Int->Int->Int->Int->Int->Int->LI->Ic)(a:LB)(b h k f g m:Int):Ic:=
(Ca a m (Ac a)).bind λy=>
(Dx f g).bind λaa=>
(Nt y (Ac aa)).bind λ(o,n)=>
j4 m n b h k f g o
def Ku:=BZ BY
def Qs(j3:LB->Int->Int->Int->Int->Int->Int->Ic)(a u:LB):Ic:=
if(Dv (Ac a) 100000)then
some (0,0,0,0,0,0,([]:LI),4)
else
(Mc a).bind λ(p,v)=>
if(Bk v 0)then
some (0,0,0,0,0,0,([]:LI),v)
else
(Ca a p (Ac a)).bind λab=>
(Nr ab).bind λ(b,h,k,f,g,w)=>
if(Bk w 0)then
some (0,0,0,0,0,0,([]:LI),w)
else
if((u==([]:LB)) !=(geq b 1))then
some (0,0,0,0,0,0,([]:LI),26)
else
if(geq b 2)then
if(Cf (Ah (Ac a) (Ae p 22)) 8)then
some (0,0,0,0,0,0,([]:LI),24)
else
(Ca a (Ae p 22) (Ae (Ae p 22) 8)).bind λac=>
(Jl u).bind λad=>
if(ac !=ad)then
some (0,0,0,0,0,0,([]:LI),26)
else
j3 a b h k f g (Ae (Ae p 22) 8)
else
j3 a b h k f g (Ae p 22)
def Dm:=Qs Ku
def eD(a:Int):Option Int:=
some a
def dU:=eD
def Tf(j6:Int->Option Int)(Om:Int->Int->Option Int)(b h k m n o f:Int)(g:LI)(a p:Int):Option Int:=
if(Cf p b)then
(Aj g p).bind λu=>
Om (Ae a u) (Ae p 1)
else
j6 a
def Il(b h k m n o f:Int)(g:LI):Nat->Int->Int->Option Int
|0,_,_=>none
|q+1,a,p=>Tf dU (Il b h k m n o f g q) b h k m n o f g a p
def dH b h k m n o f g:=Il b h k m n o f g Aq
def dT(j4:Int->Int->Int->Int->Int->Int->Int->LI->Int->Int->Option Int)(h k m n o f:Int)(g:LI)(b:Int):Option Int:=
j4 b h k m n o f g f 0
def OX:=dT dH
abbrev Zk:=Option (LB×Int)
def NO(p:LX)(m n g b h k o:Int)(a:LI):Zk:=
if(Bk m 0)then
some (([]:LB),m)
else
(Qw b p).bind λ(af,ai)=>
some (af,0)
def NK:=NO
def NI(j2:LX->Int->Int->Int->Int->Int->Int->Int->LI->Zk)(v y:LB)(n g b h k o:Int)(a:LI)(f:Int):Zk:=
(OX n g b h k o a f).bind λu=>
(Aj a f).bind λaa=>
if(Cf (Ah (Ac v) u) aa)then
some (([]:LB),24)
else
(Jq y).bind λ(ab,ag)=>
(Aj a f).bind λac=>
(Ca v u (Ae u ac)).bind λad=>
(
(Dx h k).bind λw=>
(Aj w f).bind λ_=>
(Aj w f).bind λae=>
(Dk g b ab ae ad).bind λ(p,m)=>
j2 p m n g b h k o a)
def Pz:=NI NK
def RE(a:LB):Option (Int×Int×Int×Int×Int×Int×Int):=
if(Dv (Ac a) 100000)then
some (0,0,0,0,0,0,4)
else
(Mc a).bind λ(b,f)=>
if(Bk f 0)then
some (0,0,0,0,0,0,f)
else
(Ca a b (Ac a)).bind λg=>
(Nr g).bind λ(h,k,m,n,o,p)=>
some (b,h,k,m,n,o,p)
def NL(f:LB)(a g m n o p:Int)(b:LB):Option (Int×Int):=
if((b==([]:LB)) !=(geq g 1))then
some (0,26)
else
if(b==([]:LB))then
some (a,0)
else
if(Cf (Ac f) (Ae a 8))then
some (0,24)
else
(Ca f a (Ae a 8)).bind λh=>
(Jl b).bind λk=>
if(h !=k)then
some (0,26)
else
some ((Ae a 8),0)
def Zc(a:LB)(b o p u f g:Int):Option (LI×Int):=
(Ca a b (Ac a)).bind λh=>
(Dx f g).bind λk=>
(Nt h (Ac k)).bind λ(m,n)=>
some (m,n)
abbrev Dl:=Option (Int×Int×Int×LX×Int)
def FL(a:LB)(n b f g:Int)(v:LX):Dl:=
(Ca a n (Ac a)).bind λaf=>
(Ww af).bind λ(ao,ag)=>
if(Bk ag 0)then
some (0,0,0,([]:LX),38)
else
some (b,f,g,v,0)
def GM:=FL
def FO(bk7:Int->Int->LX->Dl)(a:LB)(o b f g k:Int)(h p:LI)(u:LX)(n m:Int)(y:LX)(w:Int)(v:LX):Dl:=
if(Bk w 0)then
some (0,0,0,([]:LX),w)
else
(Dd v y).bind λah=>
(Aj h m).bind λ_=>
(Aj h m).bind λai=>
bk7 (Ae n ai) (Ae m 1) ah
def GN bk7:=FO bk7
def Vn(j10:Int->Int->LX->Int->LX->Dl)(j12:LB->Int->Int->Int->Int->LX->Dl)(a:LB)(o b f g k:Int)(h p:LI)(u:LX)(n m:Int)(v:LX):Dl:=
if(Cf m (Ac h))then
(Aj h m).bind λ_=>
(Aj h m).bind λaj=>
if(Cf (Ah (Ac a) n) aj)then
some (0,0,0,([]:LX),24)
else
(Aj p m).bind λ_=>
(Aj h m).bind λ_=>
(Aj p m).bind λak=>
(Aj h m).bind λal=>
(Ca a n (Ae n al)).bind λam=>
(Dk b f u ak am).bind λ(y,w)=>
j10 n m y w v
else
j12 a n b f g v
def Jk(a:LB)(o b f g k:Int)(h p:LI)(u:LX):Nat->Int->Int->LX->Dl
|0,_,_,_=>none
|q+1,n,m,v=>Vn (GN (Jk a o b f g k h p u q) a o b f g k h p u) GM a o b f g k h p u n m v
def JQ a o b f g k h p u:=Jk a o b f g k h p u Aq
def JR(j7:LB->Int->Int->Int->Int->Int->LI->LI->LX->Int->Int->LX->Dl)(a aa:LB):Dl:=
if(Dv (Ac aa) 64)then
some (0,0,0,([]:LX),2)
else
(RE a).bind λ(an,o,b,f,g,k,ab)=>
if(Bk ab 0)then
some (0,0,0,([]:LX),ab)
else
(NL a (Ae an 22) o b f g k aa).bind λ(ac,ad)=>
if(Bk ad 0)then
some (0,0,0,([]:LX),ad)
else
(Zc a ac o b f g k).bind λ(h,ae)=>
if(Bk ae 0)then
some (0,0,0,([]:LX),ae)
else
(Dx g k).bind λp=>
(Jq aa).bind λ(u,ap)=>
j7 a o b f g k h p u (Ae ac (Ae (Bd 4 (Ac h)) 4)) 0 ([]:LX)
def Hi:=JR JQ
end Go.Pl
