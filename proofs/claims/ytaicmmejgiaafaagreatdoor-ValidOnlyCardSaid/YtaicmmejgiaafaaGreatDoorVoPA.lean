/- A part of a proof (see the text that ends in Proof). No conditions. -/
import Derived.Test.YtaicmmejgiaafaaGreatDoorVoBA
set_option linter.unusedVariables false
namespace Go.Pl
open Go Go.Lv
abbrev LB:=List UInt8
abbrev LI:=List Int
abbrev LX:=List Int32
abbrev LU:=List UInt32
abbrev LQ:=List UInt64
variable(c:LB)(D:LI)(z d j F O y9 Bci Bdb Bdc Bdd:Int)(e:LX)(T:LI)(i:LB)(B L Y Z l5:Int)(V:LI)(l6:Int)(U:LB)(N:Bool)(G Bb9 Bcx Bdi Bdj Bdk Bdl Bdm:Int)(Bc3:LI)(Bcy Bdn:LB)(M:LX)(A:UInt64)(I:UInt32)(P:UInt64)(p8:LB)(Bcp:LB->Option (LB))(Bcq:Int->LB->Option (LB))(J Bcr:Int)(Bce:UInt64)(Bcj:Int)(Bde:LB)(Bca:UInt64->Option UInt64)(Bcb:UInt64->Int->Option UInt64)(Bc4:Int)(Bcl:LB)(Bdo:Int)(X:UInt64)(o8:Int)(Bcf:Option Int)(Bcg:Int->Option Int)(C Bcs:Int32)(q9:LX)(E:Int)(l7 l9:LX)(Bcm:Int32)(Bct:UInt64)(o7:List LB)(p9:Int)(y5:LB)(Bcc:Int->Int->Option Int)(Bcz:LI)(Bcn Bcd:Int)(Bc0 Bdp:LB)(o9:List (LB×LB×Unit))(Bcu Bc5:Int)(Bdq:Int->Option Int)(Bc6:LI)(Bdf Bc1:Int)(Bcv:UInt8)(Bdg:UInt64)(q8:Int)(R:LU)(y7 y8:Int)(Bc2:LX)(Bc7:LQ)(Bdr:Int->LI->Option (LI))(Bdh:LI)(Bc8:UInt64)(Bcw:Bool)(Bch:Bool->Option Int)(Bc9:Bool)(Bda:List LI)
def JF:Option (Int×Int×Int×LX):=
some (2,16,4,([(1:Int32),(2:Int32),(3:Int32),(-4:Int32),(5:Int32),(600:Int32),(-700:Int32),(8:Int32),(9:Int32),(-10:Int32)]:LX))
def FN(a b f:Int)(g:LX):Option (Int×Int):=
some (a,b)
abbrev TT:=Option (Int32×Int32×Int)
def dK:TT:=
if N then
(Hz (Me (Aj z 1) 0)).bind λ_=>
some ((nP (Cy (1:Int32) (GI.toZ (Aj z 1)).toNat)),(Aj (Cy (1:Int32) (GI.toZ (Aj z 1)).toNat) 1),0)
else
some (0,0,2)
def gL:=dK
def eX(j2:Int->Bool->TT)(a:Int):TT:=
if(geq a 8)then
j2 a (geq a 8)
else
if(geq a 16)then
j2 a (geq a 16)
else
j2 a (geq a 24)
def Py:=eX gL
def Fo:Option Int:=
(Py d).bind λ(c,e,i)=>
if(((Bo i 0)||(Cg z 1))||(Eu z 6))then
some 2
else
some 0
def Qb:Option (Int×Int):=
if((Cg z 1)||(Eu z 1048576))then
some (0,2)
else
some ((oA 1 (Ca (Bg 256 z) 245)),0)
def Hh:Option (Int×Int):=
(Qb z).bind λ(c,e)=>
if(Bo e 0)then
some (0,e)
else
if((Cg d 1)||(Eu d 4000))then
some (0,2)
else
(Hz (Bo c 0)).bind λ_=>
if(Eu (Ca (Aj (Ae d c) 1) c) 1000)then
some (0,4)
else
some ((Ca (Aj (Ae d c) 1) c),0)
def FL:Option Int:=
(FN z d j e).bind λ(c,i)=>
(Fo c i).bind λA=>
if((Bo A 0)||(Cg B 1))then
some 8
else
(Hz (Bo z 0)).bind λ_=>
if(Eu B (Ca 4000 z))then
some 8
else
(Hh j B).bind λ(C,D)=>
if(Bo D 0)then
some 8
else
some 0
def E4:Option Int:=
some 0
def fM:=E4
def AS:Option Int:=
if(Cg E (Ac q9))then
(Ak q9 E).bind λz=>
if((Cg z C)||(Eu z Bcs))then
some 16
else
Bcg (Ae E 1)
else
Bcf
def Ok:Nat->Int->Option Int
|0,_=>none
|z+1,c=>AS fM (Ok z) C Bcs q9 c
def wR b f a:=Ok b f a Aq
def PQ(j4:Int32->Int32->LX->Int->Option Int)(m:Int)(a:LX):Option Int:=
(Py m).bind λ(b,f,k)=>
if(Bo k 0)then
some k
else
if(Eu (Ac a) 4000)then
some 4
else
j4 b f a 0
def Ui:=PQ wR
def Cx:Option Int:=
if(Cg z 1)then
some 8
else
(Hz (Bo z 0)).bind λ_=>
if(Bo (Ge (Ac e) z) 0)then
some 8
else
(Hz (Bo z 0)).bind λ_=>
(FL z d j e (Ca (Ac e) z)).bind λc=>
if(Bo c 0)then
some c
else
(Ui d e).bind λi=>
if(Bo i 0)then
some 8
else
some 0
abbrev TX:=Option (Int×Int×Int×Int×Int×Int)
def eL:TX:=
if(c !=([]:LB))then
some (2,z,d,j,(Ca (Ac e) z),0)
else
some (1,z,d,j,(Ca (Ac e) z),0)
def PD:=eL
def AI(j2:LB->Int->Int->Int->LX->TX)(a b f:Int)(g:LX)(h:LB):TX:=
(Cx a b f g).bind λk=>
if(Bo k 0)then
some (0,0,0,0,0,k)
else
if(Eu (Ac h) 64)then
some (0,0,0,0,0,2)
else
(Hz (Bo a 0)).bind λ_=>
(
j2 h a b f g)
def SD:=AI PD
abbrev Bu:=Option (UInt64×Int)
def eT:Bu:=
some (A,0)
def eW:=eT
def cY(j30:UInt64->Bu)(h b:UInt64)(a:LB)(f:LQ):Bu:=
j30 h
def PO:=cY eW
def BR(j29:UInt64->UInt64->LB->LQ->Bu)(KZ:UInt64->Int->Bu)(a:LB)(b:UInt64)(f:LQ)(h:UInt64)(m:Int):Bu:=
if(Cg m (Ac a))then
(Ak a m).bind λp=>
Option.bind (Ak f (GI.toZ (Qv (Ad (Bv h (GI.toZ (56:UInt64)).toNat):UInt8) p))) λ_=>
Option.bind (Ak f (GI.toZ (Qv (Ad (Bv h (GI.toZ (56:UInt64)).toNat):UInt8) p))) λu=>
KZ (Qv (Cy h (GI.toZ (8:UInt64)).toNat) u) (Ae m 1)
else
j29 h b a f
def Ot:Nat->UInt64->Int->Bu
|0,_,_=>none
|z+1,d,e=>BR PO (Ot z) c A Bc7 d e
def OG a b f:=Ot a b f Aq
def NS(j27:LB->UInt64->LQ->UInt64->Int->Bu)(b:UInt64)(a:LB)(f:LQ):Bu:=
j27 a b f b 0
def PJ:=NS OG
def cP(Lh:Int->LQ->Bu)(b:UInt64)(a:LB)(g:Int)(o:LQ):Bu:=
Lh (Ae g 1) o
def dQ Lh:=cP Lh
def dG(j24:Int->LQ->Bu)(b:UInt64)(a:LB)(g:Int)(k:UInt64)(f:LQ):Bu:=
(Ak f g).bind λ_=>
(Jb f g k).bind λo=>
j24 g o
def BD Lh b a:=dG (dQ Lh b a) b a
def AK(j23:Int->UInt64->LQ->Bu)(Aeb:UInt64->Int->Bu)(b:UInt64)(a:LB)(g:Int)(f:LQ)(k:UInt64)(n:Int):Bu:=
if(Cg n 8)then
Aeb (Qv (Cy k (GI.toZ (1:UInt64)).toNat) (Bg 4823603603198064275 (Bv k (GI.toZ (63:UInt64)).toNat))) (Ae n 1)
else
j23 g k f
def Pj(Lh:Int->LQ->Bu)(b:UInt64)(a:LB)(g:Int)(f:LQ):Nat->UInt64->Int->Bu
|0,_,_=>none
|q+1,k,n=>AK (BD Lh b a) (Pj Lh b a g f q) b a g f k n
def QQ Lh b a g f:=Pj Lh b a g f Aq
def BU(j21:Int->LQ->UInt64->Int->Bu)(j26:UInt64->LB->LQ->Bu)(b:UInt64)(a:LB)(g:Int)(f:LQ):Bu:=
if(Cg g 256)then
j21 g f (Cy (Ad g:UInt64) (GI.toZ (56:UInt64)).toNat) 0
else
j26 b a f
def Lu:Nat->Int->LQ->Bu
|0,_,_=>none
|z+1,c,d=>BU (QQ (Lu z) A p8) PJ A p8 c d
def eF b a:=Lu b a Aq
def TU(j16:UInt64->LB->Int->LQ->Bu)(b:UInt64)(a:LB):Bu:=
if(Eu (Ac a) 100000)then
some (0,4)
else
j16 b a 0 (List.replicate 256 (0:UInt64))
def ZA:=TU eF
def VC:Option (UInt64×Int):=
(ZA 0 c).bind λ(z,d)=>
some (z,d)
def Ad5:Option (LX):=
some e
def xT:=Ad5
def ZY(j6:LX->Option (LX))(Ps:Int->LX->Option (LX))(f:UInt64)(a:Int)(b:LX):Option (LX):=
if(Cg a 8)then
(Hz (Me (Bg 8 a) 0)).bind λ_=>
(Ak b a).bind λ_=>
(Jb b a (Ad (Ad (Bv f (GI.toZ (Bg 8 a)).toNat):Int8):Int32)).bind λg=>
Ps (Ae a 1) g
else
j6 b
def GJ:Nat->Int->LX->Option (LX)
|0,_,_=>none
|z+1,c,d=>ZY xT (GJ z) A c d
def Ad7 f:=GJ f Aq
def D2(j4:UInt64->Int->LX->Option (LX))(f:UInt64):Option (LX):=
j4 f 0 (List.replicate 16 (0:Int32))
def S9:=D2 Ad7
def GN:Option (LX×Int):=
if(Eu (Ac c) 64)then
some (([(0:Int32),(0:Int32),(0:Int32),(0:Int32),(0:Int32),(0:Int32),(0:Int32),(0:Int32),(0:Int32),(0:Int32),(0:Int32),(0:Int32),(0:Int32),(0:Int32),(0:Int32),(0:Int32)]:LX),2)
else
(VC c).bind λ(z,d)=>
if(Bo d 0)then
some (([(0:Int32),(0:Int32),(0:Int32),(0:Int32),(0:Int32),(0:Int32),(0:Int32),(0:Int32),(0:Int32),(0:Int32),(0:Int32),(0:Int32),(0:Int32),(0:Int32),(0:Int32),(0:Int32)]:LX),d)
else
(S9 z).bind λe=>
some (e,0)
def KQ:Option (UInt64×UInt64):=
some ((Ae (Ae (Bg (Bv A (GI.toZ (32:UInt64)).toNat) (Bv P (GI.toZ (32:UInt64)).toNat)) (Bv (Ae (Bg (Bv A (GI.toZ (32:UInt64)).toNat) (Dr P 4294967295)) (Bv (Bg (Dr A 4294967295) (Dr P 4294967295)) (GI.toZ (32:UInt64)).toNat)) (GI.toZ (32:UInt64)).toNat)) (Bv (Ae (Dr (Ae (Bg (Bv A (GI.toZ (32:UInt64)).toNat) (Dr P 4294967295)) (Bv (Bg (Dr A 4294967295) (Dr P 4294967295)) (GI.toZ (32:UInt64)).toNat)) 4294967295) (Bg (Dr A 4294967295) (Bv P (GI.toZ (32:UInt64)).toNat))) (GI.toZ (32:UInt64)).toNat)),(Bg A P))
def HF:Option (UInt64×UInt64):=
(KQ A P).bind λ(z,c)=>
some (z,c)
def Mk:Option (LI):=
some D
def Ia:=Mk
def Gl(j10:LI->Option (LI))(bk8:Int->LI->Option (LI))(b:Int)(a:LI):Option (LI):=
if(Cg b (Ac a))then
(
(aP (Ac a) b (Ac a)).bind λ_=>
(aP (Ac a) 0 b).bind λ_=>
bk8 (Ae b (PX ((Ac a)-b) (TL a 0 (b-(0:Int))).length)) (Tw a b ((Ac a)-b) (TL a 0 (b-(0:Int)))))
else
j10 a
def Ei:Nat->Int->LI->Option (LI)
|0,_,_=>none
|q+1,b,a=>Gl Ia (Ei q) b a
def Xw:=Ei Aq
def Nr:Option (LI):=
(mkI (Ad Bc8:Int) (0:Int)).bind λz=>
(Hz (geq (Ad Bc8:Int) (Ad Bc8:Int))).bind λ_=>
Bdr (PX (Ac z) Bdh.length) (G4 z Bdh)
def Xt:=Nr Xw
def Nk(j7:LI->UInt64->Option (LI))(f:LI)(h:Int):Option (LI):=
(HF (Ad (Ac f):UInt64) (Ad h:UInt64)).bind λ(m,g)=>
if((Eu m 0)||(Eu g 9223372036854775807))then
none
else
j7 f g
def Xx:=Nk Xt
def Np(j6:LI->Int->Option (LI))(f:LI)(h:Int):Option (LI):=
if(Cg h 0)then
none
else
j6 f h
def Mf:=Np Xx
def RD:Option (LI):=
some D
def Wf:=RD
def Fy(j16:LI->Option (LI))(Avl:Int->LI->Option (LI))(a:List LI)(g:Int)(f:LI):Option (LI):=
if(Cg g (Ac a))then
(Ak a g).bind λn=>
(Db f n).bind λo=>
Avl (Ae g 1) o
else
j16 f
def Dw:Nat->Int->LI->Option (LI)
|0,_,_=>none
|z+1,c,d=>Fy Wf (Dw z) Bda c d
def Mo a:=Dw a Aq
def Ml(j14:(List LI)->Int->LI->Option (LI))(a:List LI)(p:LI):Option (LI):=
j14 a 0 p
def Mq:=Ml Mo
def Mm(j13:(List LI)->LI->Option (LI))(b:Int)(a:List LI):Option (LI):=
if(Eu (Aj b (Aj (0:Int) (0:Int))) 0)then
(aP 0 0 0).bind λ_=>
(mkI (Aj b (Aj (0:Int) (0:Int))) (0:Int)).bind λu=>
(Db ([]:LI) u).bind λk=>
(aP (Ac k) 0 0).bind λ_=>
j13 a (TL k 0 ((0:Int)-(0:Int)))
else
j13 a ([]:LI)
def Wc:=Mm Mq
def Mr(j12:Int-> (List LI)->Option (LI))(a:List LI)(b:Int):Option (LI):=
if(Cg b 0)then
none
else
j12 b a
def Vz:=Mr Wc
def Gj(j11:(List LI)->Int->Option (LI))(bk9:Int->Int->Option (LI))(a:List LI)(b h:Int):Option (LI):=
if(Cg h (Ac a))then
(Ak a h).bind λm=>
if(Cg (Ae b (Ac m)) 0)then
none
else
bk9 (Ae b (Ac m)) (Ae h 1)
else
j11 a b
def Eh:Nat->Int->Int->Option (LI)
|0,_,_=>none
|z+1,c,d=>Gj Vz (Eh z) Bda c d
def Xo a:=Eh a Aq
def Nn(j9:(List LI)->Int->Int->Option (LI))(a:List LI):Option (LI):=
j9 a 0 0
def Mb:=Nn Xo
def PG:Option (LI):=
(Mb ([D,T]:List LI)).bind λz=>
some z
def Ue:Option (LI×Int):=
(Hh z d).bind λ(c,e)=>
if(Bo e 0)then
some (([]:LI),e)
else
(Qb z).bind λ(i,j)=>
(Mf ([i]:LI) (Aj c 1)).bind λA=>
(PG A ([(Aj d (Bg (Aj c 1) i))]:LI)).bind λB=>
some (B,0)
def GR:Option Int:=
(Fo z d).bind λc=>
if(Bo c 0)then
some c
else
(Ui d e).bind λi=>
if(Bo i 0)then
some i
else
if(geq (Ac e) 0)then
some 2
else
(Hz (Bo z 0)).bind λ_=>
if(Bo (Ge (Ac e) z) 0)then
some 2
else
some 0
def VL:Option Int:=
if((Cg z 1)||(Eu z 6))then
some 2
else
if(Eu (Ac e) 4000)then
some 4
else
(Hz (Bo z 0)).bind λ_=>
if(Bo (Ge (Ac e) z) 0)then
some 2
else
some 0
def Dd:Option (LX):=
(
(Db ([]:LX) e).bind λz=>
some z)
abbrev Hw:=Option (LX×Int)
def zu:Hw:=
some (e,0)
def tD:=zu
def dA(UE:Int->LX->Hw)(b a:Int)(u:LX):Hw:=
UE (Ae a b) u
def fR UE:=dA UE
def uT(j20:Int->LX->Hw)(b a:Int)(g:LX):Hw:=
if(Eu (Aj ((Ae a b)-a) 1) 0)then
(Hz (decide (0<= (Aj ((Ae a b)-a) 1)/\ (Aj ((Ae a b)-a) 1)<((Ae a b)-a)))).bind λ_=>
Option.bind (Hz (decide (0<= (Aj (Aj ((Ae a b)-a) 1) 1)/\ (Aj (Aj ((Ae a b)-a) 1) 1)<((Ae a b)-a)))) λ_=>
(Ak g (a+(Aj ((Ae a b)-a) 1))).bind λk=>
(Ak g (a+(Aj (Aj ((Ae a b)-a) 1) 1))).bind λm=>
(Hz (decide (0<= (Aj ((Ae a b)-a) 1)/\ (Aj ((Ae a b)-a) 1)<((Ae a b)-a)))).bind λ_=>
(Jb g (a+(Aj ((Ae a b)-a) 1)) (Aj k (Ca m 2))).bind λn=>
j20 a n
else
j20 a g
def cN UE b:=uT (fR UE b) b
def RH(j19:Int->LX->Hw)(Avn:Int->LX->Hw)(b a f:Int)(g:LX):Hw:=
if(Cg f (Aj ((Ae a b)-a) 1))then
(Hz (decide (0<= (Ae f 1)/\ (Ae f 1)<((Ae a b)-a)))).bind λ_=>
(Hz (decide (0<=f/\f<((Ae a b)-a)))).bind λ_=>
(Ak g (a+(Ae f 1))).bind λk=>
(Ak g (a+f)).bind λm=>
(Hz (decide (0<=f/\f<((Ae a b)-a)))).bind λ_=>
(Jb g (a+f) (Aj k m)).bind λn=>
Avn (Ae f 1) n
else
j19 a g
def AA(UE:Int->LX->Hw)(b a:Int):Nat->Int->LX->Hw
|0,_,_=>none
|q+1,f,g=>RH (cN UE b) (AA UE b a q) b a f g
def tQ UE b a:=AA UE b a Aq
def cW(j17:Int->Int->LX->Hw)(j22:LX->Hw)(b a:Int)(h:LX):Hw:=
if(Cg a (Ac h))then
(aP (Ac h) a (Ae a b)).bind λ_=>
j17 a 0 h
else
j22 h
def AD:Nat->Int->LX->Hw
|0,_,_=>none
|c+1,d,e=>cW (tQ (AD c) z) tD z d e
def tI b:=AD b Aq
def lV(j12:Int->Int->LX->Hw)(b:Int)(o:LX):Hw:=
(VL b o).bind λp=>
if(Bo p 0)then
some (([]:LX),p)
else
(Dd o).bind λv=>
j12 b 0 v
def vX:=lV tI
abbrev lN:=Option (Int×LX×LX×Int)
def Abi:lN:=
if N then
some (10,e,(List.replicate 16 (0:Int32)),0)
else
if(geq z 16)then
some (9,e,(List.replicate 16 (0:Int32)),0)
else
some (0,(List.replicate 16 (0:Int32)),(List.replicate 16 (0:Int32)),2)
def vg:=Abi
def Aah(j2:Int->LX->Bool->lN)(a:Int)(b:LX):lN:=
if(geq a 8)then
j2 a b (geq a 8)
else
j2 a b (geq a 24)
def pF:=Aah vg
def sX:Option (Int×Int32×Int×LX×LX×Int):=
(pF z e).bind λ(c,d,i,j)=>
if(Bo j 0)then
some (0,0,0,(List.replicate 16 (0:Int32)),(List.replicate 16 (0:Int32)),j)
else
some (z,0,c,d,i,0)
def Uh(a:Int)(k:Int32)(b:Int)(f m:LX):Option Int:=
(pF a f).bind λ(g,n,o,h)=>
if((Bo h 0)||(Bo g b))then
some 8
else
some 0
def eK:Option (Int×Int):=
if(geq z 8)then
some (4,0)
else
if(geq z 16)then
if(geq z 16)then
some (5,0)
else
some (0,2)
else
if(geq z 24)then
some (5,0)
else
some (0,2)
def RK:Option Int32:=
(Hz (Me z 0)).bind λ_=>
(Hz (Me z 0)).bind λ_=>
some (Ad (Z4 (Aj (Cy (Ad C:Int) (GI.toZ z).toNat) (Ad C:Int)) (GI.toZ z).toNat):Int32)
def Uj:Option (Int32×Int):=
(eK z).bind λ(c,d)=>
if(Bo d 0)then
some (0,d)
else
(RK c C).bind λe=>
some (e,0)
def GF(a:Int)(b f:LX):Option Int:=
if((Bo a 9)&&(Bo a 10))then
some 8
else
some 0
abbrev Qt:=Option (Int32×Int)
def kX(h:Int32)(a:Int)(b f:LX):Qt:=
(Hz (Me a 0)).bind λ_=>
some ((Bv h (GI.toZ a).toNat),0)
def TJ:=kX
def GW(j6:Int32->Int->LX->LX->Qt)(Ps:Int32->Int->Qt)(b:LX)(a:Int)(f:LX)(h:Int32)(g:Int):Qt:=
if(Cg g 16)then
(Ak b g).bind λm=>
(Ak f g).bind λ_=>
(Ak f g).bind λn=>
Ps (Ae h (Bg m n)) (Ae g 1)
else
j6 h a b f
def Rt:Nat->Int32->Int->Qt
|0,_,_=>none
|z+1,c,d=>GW TJ (Rt z) e B M c d
def kJ b a f:=Rt b a f Aq
def TE(j4:LX->Int->LX->Int32->Int->Qt)(a:Int)(b f:LX):Qt:=
(GF a b f).bind λk=>
if(Bo k 0)then
some (0,k)
else
(Hz (Me (Aj a 1) 0)).bind λ_=>
j4 b a f (Cy (1:Int32) (GI.toZ (Aj a 1)).toNat) 0
def PL:=TE kJ
def UW:Option Int32:=
if(geq z 0)then
some 4
else
if(Cg z 4)then
some 2
else
some 1
abbrev Qa:=Option (Int×LX×LX×Int)
def J8:Qa:=
some (z,e,M,0)
def kK:=J8
def GX(j6:Int->LX->LX->Qa)(Ps:Int->LX->Qa)(h:Int32)(f:LX)(g a:Int)(b:LX):Qa:=
if(Cg a 16)then
(Ak f a).bind λm=>
if(geq m 0)then
Ps (Ae a 1) b
else
if((Cg m 0)==(Cg h 0))then
(Ak b a).bind λ_=>
(Ak b a).bind λo=>
(UW a).bind λp=>
(Ak b a).bind λ_=>
(Jb b a (Ae o p)).bind λu=>
Ps (Ae a 1) u
else
(Ak b a).bind λ_=>
(Ak b a).bind λv=>
(UW a).bind λw=>
(Ak b a).bind λ_=>
(Jb b a (Aj v w)).bind λy=>
Ps (Ae a 1) y
else
j6 g b f
def Rm:Nat->Int->LX->Qa
|0,_,_=>none
|z+1,c,d=>GX kK (Rm z) C q9 E c d
def J0 h f g:=Rm h f g Aq
def TR(j4:Int32->LX->Int->Int->LX->Qa)(g:Int)(k f:LX)(h:Int32):Qa:=
(GF g k f).bind λn=>
if(Bo n 0)then
some (0,(List.replicate 16 (0:Int32)),(List.replicate 16 (0:Int32)),n)
else
if(geq h 0)then
some (g,k,f,0)
else
j4 h f g 0 k
def ZZ:=TR J0
abbrev gH:=Option (Int×LX×LX×Int)
def nO:gH:=
(Ak (Tw l9 1 ((16:Int)-(1:Int)) (TL l9 0 ((16:Int)-(0:Int)))) 0).bind λ_=>
(Jb (Tw l9 1 ((16:Int)-(1:Int)) (TL l9 0 ((16:Int)-(0:Int)))) 0 C).bind λz=>
some (E,l7,z,0)
def YT:=nO
def MU(j2:Int32->Int->LX->LX->gH)(b:Int)(f a:LX)(g:Int32):gH:=
(GF b f a).bind λh=>
if(Bo h 0)then
some (0,(List.replicate 16 (0:Int32)),(List.replicate 16 (0:Int32)),h)
else
(
(aP 16 1 16).bind λ_=>
(aP 16 0 16).bind λ_=>
j2 g b f a)
def jC:=MU YT
def NU:Option (Int×LX×LX):=
(ZZ z e M Bcs).bind λ(c,d,i,j)=>
(jC c d i C).bind λ(A,B,D,E)=>
some (A,B,D)
def SQ:Option (Int32×Int×LX×LX×Int):=
(PL z e M).bind λ(c,d)=>
if(Bo d 0)then
some (0,0,(List.replicate 16 (0:Int32)),(List.replicate 16 (0:Int32)),d)
else
(NU z e M C (Aj C c)).bind λ(i,j,A)=>
some ((Aj C c),i,j,A,0)
def Rl:Option (Int32×Int×Int32×Int×LX×LX×Int):=
(Uh z C E l7 l9).bind λc=>
if(Bo c 0)then
some (0,0,0,0,(List.replicate 16 (0:Int32)),(List.replicate 16 (0:Int32)),c)
else
(Uj z C).bind λ(d,e)=>
(SQ E l7 l9 (Aj Bcm d)).bind λ(i,j,A,B,D)=>
(
some (i,z,Bcm,j,A,B,D))
def iK:Option UInt32:=
some (Qv (Cy (Ad C:UInt32) (GI.toZ (1:UInt64)).toNat) (Ad (Bv C (GI.toZ (31:UInt64)).toNat):UInt32))
abbrev Cq:=Option (LU×Int)
def mL:Cq:=
some (R,0)
def QZ:=mL
def Qw(j12:LU->Cq)(Aec:Int-> (List (Int×Int32×(Int×LX×LX×Unit)×Unit))->LU->Cq)(b:LX)(a f g:Int)(k:List (Int×Int32×(Int×LX×LX×Unit)×Unit))(h:LU):Cq:=
if(Cg g (Ac b))then
(Ak b g).bind λ_=>
(Ak b g).bind λac=>
(Hz (Bo a 0)).bind λ_=>
(Ak k (Ge g a)).bind λ_=>
(Ak k (Ge g a)).bind λp=>
(Rl p.1 p.2.1 p.2.2.1.1 p.2.2.1.2.1 p.2.2.1.2.2.1 ac).bind λ(u,ad,ae,v,af,ag,w)=>
if(Bo w 0)then
some (([]:LU),w)
else
(Jb k (Ge g a) (ad,ae,(v,af,ag,()),())).bind λah=>
(iK u).bind λai=>
(Db h ([ai]:LU)).bind λaj=>
Aec (Ae g 1) ah aj
else
j12 h
def Ja:Nat->Int-> (List (Int×Int32×(Int×LX×LX×Unit)×Unit))->LU->Cq
|0,_,_,_=>none
|z+1,c,d,i=>Qw QZ (Ja z) e B L c d i
def NW b a f:=Ja b a f Aq
def RF(j10:LX->Int->Int->Int-> (List (Int×Int32×(Int×LX×LX×Unit)×Unit))->LU->Cq)(a f:Int)(b:LX)(m:List (Int×Int32×(Int×LX×LX×Unit)×Unit)):Cq:=
j10 b a f 0 m ([]:LU)
def RG:=RF NW
def RL(j9:Int->Int->LX-> (List (Int×Int32×(Int×LX×LX×Unit)×Unit))->Cq)(bk7:Int-> (List (Int×Int32×(Int×LX×LX×Unit)×Unit))->Cq)(a f:Int)(n b:LX)(o:Int)(m:List (Int×Int32×(Int×LX×LX×Unit)×Unit)):Cq:=
if(Cg o 6)then
(sX f n).bind λ(ak,al,u,am,an,v)=>
(Ak m o).bind λ_=>
(Jb m o (ak,al,(u,am,an,()),())).bind λao=>
bk7 (Ae o 1) ao
else
j9 a f b m
def BW:Nat->Int-> (List (Int×Int32×(Int×LX×LX×Unit)×Unit))->Cq
|0,_,_=>none
|c+1,i,j=>RL RG (BW c) z d e M i j
def DV a f n b:=BW a f n b Aq
def BI(j7:Int->Int->LX->LX->Int-> (List (Int×Int32×(Int×LX×LX×Unit)×Unit))->Cq)(a f:Int)(n y:LX):Cq:=
(GR a f y).bind λaa=>
if(Bo aa 0)then
some (([]:LU),aa)
else
(vX a y).bind λ(b,ab)=>
if(Bo ab 0)then
some (([]:LU),ab)
else
j7 a f n b 0 (List.replicate 6 ((0:Int),(0:Int32),((0:Int),(List.replicate 16 (0:Int32)),(List.replicate 16 (0:Int32)),()),()))
def BH:=BI DV
def mW:Option (Int×Int×UInt64×UInt64):=
some (10,10,16384,16384)
abbrev Iy:=Option ((List (Int×Int×UInt64×UInt64×Unit)))
def pJ(a:List (Int×Int×UInt64×UInt64×Unit)):Iy:=
some a
def SJ:=pJ
def SM(j6:(List (Int×Int×UInt64×UInt64×Unit))->Iy)(Ps:Int-> (List (Int×Int×UInt64×UInt64×Unit))->Iy)(b:Int)(a:List (Int×Int×UInt64×UInt64×Unit)):Iy:=
if(Cg b 6)then
(mW).bind λ(f,g,h,k)=>
(Ak a b).bind λ_=>
(Jb a b (f,g,h,k,())).bind λm=>
Ps (Ae b 1) m
else
j6 a
def AH:Nat->Int-> (List (Int×Int×UInt64×UInt64×Unit))->Iy
|0,_,_=>none
|q+1,b,a=>SM SJ (AH q) b a
def SF:=AH Aq
def BB(j4:Int-> (List (Int×Int×UInt64×UInt64×Unit))->Iy):Iy:=
j4 0 (List.replicate 6 ((0:Int),(0:Int),(0:UInt64),(0:UInt64),()))
def CO:=BB SF
def Hs:Option Int:=
if(((Cg z 0)||(Eu z 330000))||(Bo (Ac c) (Z4 (Ae z 7) (GI.toZ (3:UInt64)).toNat)))then
some 8
else
if(Eu (Dr z 7) 0)then
(Ak c (Aj (Ac c) 1)).bind λd=>
(Hz (Me (Dr z 7) 0)).bind λ_=>
if(Bo (Bv d (GI.toZ (Dr z 7)).toNat) 0)then
some 8
else
some 0
else
some 0
def jW:Option Int:=
if(!((geq (Gi (oA z 0) 24) z)&&((geq (Gi (oA d 0) 24) d)&&((geq (Gi A 68719476735) A)&&((geq (Gi P 68719476735) P)&&true)))))then
some 8
else
some 0
def SU:=jW
def GQ(j4:Int->Int->UInt64->UInt64->Option Int)(a b:Int)(f g:UInt64):Option Int:=
(
(
j4 a b f g))
def TY:=GQ SU
def GZ(j3:Int->Int->UInt64->UInt64->Option Int)(a b:Int)(f g:UInt64):Option Int:=
(
(
j3 a b f g))
def QF:=GZ TY
def GK(a f:Int)(g h:UInt64)(b:UInt32):Option (Int×UInt32):=
(Hz (Me a 0)).bind λ_=>
if(geq (Bv b (GI.toZ a).toNat) 0)then
some (0,b)
else
(Hz (Me a 0)).bind λ_=>
some (1,(Aj b (Cy (1:UInt32) (GI.toZ a).toNat)))
def Eb:Option (LB):=
(
(Db ([]:LB) c).bind λz=>
some z)
def VB:Option (LB×Int):=
(Eb c).bind λd=>
some (d,z)
abbrev Dg:=Option (LB×Int×Int)
def mY:Dg:=
some (i,z,0)
def XK:=mY
def oZ(Aot:UInt64->Int->Int->LB->Dg)(b:UInt64)(a:Int)(m:UInt64)(h f:Int)(w:LB):Dg:=
(Hz (Me (Gi h (Aj 8 (Dr f 7))) 0)).bind λ_=>
Aot (Bv m (GI.toZ (Gi h (Aj 8 (Dr f 7)))).toNat) (Aj h (Gi h (Aj 8 (Dr f 7)))) (Ae f (Gi h (Aj 8 (Dr f 7)))) w
def qG Aot:=oZ Aot
def pA(j19:UInt64->Int->Int->LB->Dg)(b:UInt64)(a:Int)(m:UInt64)(h f:Int)(u:LB):Dg:=
(Ak u (Aj (Ac u) 1)).bind λ_=>
(Hz (Me (Gi h (Aj 8 (Dr f 7))) 0)).bind λ_=>
(Hz (Me (Dr f 7) 0)).bind λ_=>
(Ak u (Aj (Ac u) 1)).bind λad=>
(Ak u (Aj (Ac u) 1)).bind λ_=>
Option.bind (Jb u (Aj (Ac u) 1) (sD ad (Cy (Ad (Dr m (Aj (Cy (1:UInt64) (GI.toZ (Gi h (Aj 8 (Dr f 7)))).toNat) 1)):UInt8) (GI.toZ (Dr f 7)).toNat))) λw=>
j19 m h f w
def MR Aot b a:=pA (qG Aot b a) b a
def MS(j18:UInt64->Int->Int->LB->Dg)(j21:Int->LB->Dg)(b:UInt64)(a:Int)(m:UInt64)(h f:Int)(o:LB):Dg:=
if(Eu h 0)then
if(geq (Dr f 7) 0)then
(Db o ([(0:UInt8)]:LB)).bind λaa=>
j18 m h f aa
else
j18 m h f o
else
j21 f o
def Mw:Nat->UInt64->Int->Int->LB->Dg
|0,_,_,_,_=>none
|z+1,c,d,e,i=>MS (MR (Mw z) A J) XK A J c d e i
def jh b a:=Mw b a Aq
def T4:Dg:=
some (i,z,0)
def pX:=T4
def Y5(Aou:UInt64->Int->Int->LB->Dg)(b:UInt64)(a:Int)(n:UInt64)(k g:Int)(ab:LB):Dg:=
(Hz (Me (Gi k (Aj 8 (Dr g 7))) 0)).bind λ_=>
Aou (Bv n (GI.toZ (Gi k (Aj 8 (Dr g 7)))).toNat) (Aj k (Gi k (Aj 8 (Dr g 7)))) (Ae g (Gi k (Aj 8 (Dr g 7)))) ab
def U6 Aou:=Y5 Aou
def T5(j26:UInt64->Int->Int->LB->Dg)(b:UInt64)(a:Int)(n:UInt64)(k g:Int)(v:LB):Dg:=
(Ak v (Aj (Ac v) 1)).bind λ_=>
(Hz (Me (Gi k (Aj 8 (Dr g 7))) 0)).bind λ_=>
(Hz (Me (Dr g 7) 0)).bind λ_=>
(Ak v (Aj (Ac v) 1)).bind λae=>
(Ak v (Aj (Ac v) 1)).bind λ_=>
Option.bind (Jb v (Aj (Ac v) 1) (sD ae (Cy (Ad (Dr n (Aj (Cy (1:UInt64) (GI.toZ (Gi k (Aj 8 (Dr g 7)))).toNat) 1)):UInt8) (GI.toZ (Dr g 7)).toNat))) λab=>
j26 n k g ab
def oU Aou b a:=T5 (U6 Aou b a) b a
def nA(j25:UInt64->Int->Int->LB->Dg)(j28:Int->LB->Dg)(b:UInt64)(a:Int)(n:UInt64)(k g:Int)(p:LB):Dg:=
if(Eu k 0)then
if(geq (Dr g 7) 0)then
(Db p ([(0:UInt8)]:LB)).bind λw=>
j25 n k g w
else
j25 n k g p
else
j28 g p
def YF:Nat->UInt64->Int->Int->LB->Dg
|0,_,_,_,_=>none
|z+1,c,d,e,i=>nA (oU (YF z) A J) pX A J c d e i
def Y0 b a:=YF b a Aq
def dD(j15:UInt64->Int->UInt64->Int->Int->LB->Dg)(j22:UInt64->Int->UInt64->Int->Int->LB->Dg)(ac:LB)(y:Int)(b:UInt64)(a:Int):Dg:=
(Hs ac y).bind λaf=>
if(Bo af 0)then
some (([]:LB),0,8)
else
if((Cg a 0)||(Eu a 64))then
some (([]:LB),0,2)
else
if(Cg a 64)then
(Hz (Me a 0)).bind λ_=>
if(Bo (Bv b (GI.toZ a).toNat) 0)then
some (([]:LB),0,16)
else
if(Eu (Ae y a) 330000)then
some (([]:LB),0,18)
else
(VB ac y).bind λ(ag,ah)=>
j15 b a b a ah ag
else
if(Eu (Ae y a) 330000)then
some (([]:LB),0,18)
else
(VB ac y).bind λ(aa,ai)=>
j22 b a b a ai aa
def PU:=dD jh Y0
def Vw:Option Bool:=
(Hz (Me J 0)).bind λ_=>
some (Me (Bv I (GI.toZ J).toNat) 48)
def ZE:Option (Int×Int):=
if((Cg z 0)||(Eu z 48))then
some (0,2)
else
some ((Gi (Ae z 1) 48),0)
def SG:Option (LB×Int×Int):=
(Hs c z).bind λe=>
if(Bo e 0)then
some (([]:LB),0,e)
else
(ZE d).bind λ(i,j)=>
if(Bo j 0)then
some (([]:LB),0,j)
else
(Hz (Me d 0)).bind λ_=>
(PU c z (Aj (Cy (1:UInt64) (GI.toZ d).toNat) 1) i).bind λ(A,B,C)=>
some (A,B,C)
abbrev XB:=Option (LB×Int×Int)
def UA:XB:=
(SG c z d).bind λ(e,i,j)=>
if(Bo j 0)then
some (([]:LB),0,j)
else
(PU e i (Ad I:UInt64) J).bind λ(A,B,C)=>
some (A,B,C)
def TQ:=UA
def jT(j2:LB->Int->Int->UInt32->Int->XB)(b:LB)(f:Int)(g:UInt32)(a:Int):XB:=
(Hs b f).bind λk=>
if(Bo k 0)then
some (([]:LB),0,k)
else
if((Cg a 0)||(Eu a 24))then
some (([]:LB),0,2)
else
(Hz (Me a 0)).bind λ_=>
(Hz (Me a 0)).bind λ_=>
(Vw g a).bind λaa=>
if aa then
j2 b f 48 g 32
else
j2 b f (Ad (Bv g (GI.toZ a).toNat):Int) (Dr g (Aj (Cy (1:UInt32) (GI.toZ a).toNat) 1)) a
def YJ:=jT TQ
abbrev Ht:=Option (LB×Int×Int×Int×UInt64×UInt64×Int)
def DT:Ht:=
(
(
some (p8,z,d,j,(Ae A (Aj (Ad I:UInt64) (Bv A (GI.toZ (4:UInt64)).toNat))),P,0)))
def QR:=DT
def TM(j10:Int->Int->Int->UInt64->UInt32->UInt64->LB->Ht)(b:UInt32)(k n:Int)(a o:UInt64)(m:LB)(u:Int):Ht:=
j10 k u n a b o m
def kW:=TM QR
def TA(j9:UInt32->Int->Int->UInt64->UInt64->LB->Int->Ht)(b:UInt32)(f:Int)(a:UInt64)(k:Int)(m:LB)(n:Int)(o:UInt64):Ht:=
if(Eu f 0)then
(Hz (Me f 0)).bind λ_=>
if(Cg (Ae a (Aj (Ad b:UInt64) (Bv a (GI.toZ (4:UInt64)).toNat))) (Cy (16:UInt64) (GI.toZ f).toNat))then
j9 b k n a o m (Aj f 1)
else
if(Cg f 24)then
(Hz (Me f 0)).bind λ_=>
if(Eu (Ae a (Aj (Ad b:UInt64) (Bv a (GI.toZ (4:UInt64)).toNat))) (Cy (32:UInt64) (GI.toZ f).toNat))then
j9 b k n a o m (Ae f 1)
else
j9 b k n a o m f
else
j9 b k n a o m f
else
if(Cg f 24)then
(Hz (Me f 0)).bind λ_=>
if(Eu (Ae a (Aj (Ad b:UInt64) (Bv a (GI.toZ (4:UInt64)).toNat))) (Cy (32:UInt64) (GI.toZ f).toNat))then
j9 b k n a o m (Ae f 1)
else
j9 b k n a o m f
else
j9 b k n a o m f
def Xi:=TA kW
def SW(j8:UInt32->Int->UInt64->Int->LB->Int->UInt64->Ht)(b:UInt32)(f h:Int)(a g:UInt64)(ac k:Int)(m:LB):Ht:=
if(Bo ac 0)then
some (([]:LB),0,0,0,0,0,ac)
else
(GK f h a g b).bind λ(ag,p)=>
if(geq ag 1)then
if(Eu h 0)then
(Hz (Me h 0)).bind λ_=>
if(Cg (Ae g (Aj (Ad p:UInt64) (Bv g (GI.toZ (4:UInt64)).toNat))) (Cy (16:UInt64) (GI.toZ h).toNat))then
j8 b f a k m (Aj h 1) (Ae g (Aj (Ad p:UInt64) (Bv g (GI.toZ (4:UInt64)).toNat)))
else
if(Cg h 24)then
(Hz (Me h 0)).bind λ_=>
if(Eu (Ae g (Aj (Ad p:UInt64) (Bv g (GI.toZ (4:UInt64)).toNat))) (Cy (32:UInt64) (GI.toZ h).toNat))then
j8 b f a k m (Ae h 1) (Ae g (Aj (Ad p:UInt64) (Bv g (GI.toZ (4:UInt64)).toNat)))
else
j8 b f a k m h (Ae g (Aj (Ad p:UInt64) (Bv g (GI.toZ (4:UInt64)).toNat)))
else
j8 b f a k m h (Ae g (Aj (Ad p:UInt64) (Bv g (GI.toZ (4:UInt64)).toNat)))
else
if(Cg h 24)then
(Hz (Me h 0)).bind λ_=>
if(Eu (Ae g (Aj (Ad p:UInt64) (Bv g (GI.toZ (4:UInt64)).toNat))) (Cy (32:UInt64) (GI.toZ h).toNat))then
j8 b f a k m (Ae h 1) (Ae g (Aj (Ad p:UInt64) (Bv g (GI.toZ (4:UInt64)).toNat)))
else
j8 b f a k m h (Ae g (Aj (Ad p:UInt64) (Bv g (GI.toZ (4:UInt64)).toNat)))
else
j8 b f a k m h (Ae g (Aj (Ad p:UInt64) (Bv g (GI.toZ (4:UInt64)).toNat)))
else
j8 b f a k m h g
def TP:=SW Xi
def TW(j7:UInt32->Int->Int->UInt64->UInt64->Int->Int->LB->Ht)(b:UInt32)(v:LB)(w f h:Int)(a g:UInt64):Ht:=
(GK f h a g b).bind λ(ad,ae)=>
(PU v w (Ad ad:UInt64) 1).bind λ(y,aa,ab)=>
if((geq ab 0)&&(geq ad 0))then
(PU y aa (Ad ae:UInt64) f).bind λ(ah,ai,aj)=>
j7 b f h a g aj ai ah
else
if(geq ab 0)then
(YJ y aa ae h).bind λ(ak,al,am)=>
j7 b f h a g am al ak
else
j7 b f h a g ab aa y
def jU:=TW TP
def UC(j6:UInt32->LB->Int->Int->Int->UInt64->UInt64->Ht)(v:LB)(w f h:Int)(a g:UInt64)(b:UInt32):Ht:=
(Hs v w).bind λan=>
if(Bo an 0)then
some (([]:LB),0,0,0,0,0,8)
else
(QF f h a g).bind λao=>
if(Bo ao 0)then
some (([]:LB),0,0,0,0,0,8)
else
j6 b v w f h a g
def XY:=UC jU
abbrev Bt:=Option (UInt32×Int)
def dV:Bt:=
some (I,0)
def OI:=dV
def DC(j30:UInt32->Bt)(Azh:UInt32->Int->Bt)(a:LB)(b:LU)(h:UInt32)(m:Int):Bt:=
if(Cg m (Ac a))then
(Ak a m).bind λp=>
(Ak b (GI.toZ (Qv (Ad h:UInt8) p))).bind λ_=>
(Ak b (GI.toZ (Qv (Ad h:UInt8) p))).bind λu=>
Azh (Qv (Bv h (GI.toZ (8:UInt64)).toNat) u) (Ae m 1)
else
j30 h
def Pb:Nat->UInt32->Int->Bt
|0,_,_=>none
|z+1,d,e=>DC OI (Pb z) c R d e
def PF a b:=Pb a b Aq
def OS(j28:LB->LU->UInt32->Int->Bt)(f:UInt32)(a:LB)(b:LU):Bt:=
j28 a b f 0
def dX:=OS PF
def OK(j27:UInt32->LB->LU->Bt)(f:UInt32)(a:LB)(b:LU):Bt:=
j27 f a b
def OZ:=OK dX
def dE(Lh:Int->LU->Bt)(f:UInt32)(a:LB)(g:Int)(o:LU):Bt:=
Lh (Ae g 1) o
def gB Lh:=dE Lh
def eP(j24:Int->LU->Bt)(f:UInt32)(a:LB)(g:Int)(k:UInt32)(b:LU):Bt:=
(Ak b g).bind λ_=>
(Jb b g k).bind λo=>
j24 g o
def BP Lh f a:=eP (gB Lh f a) f a
def BC(j23:Int->UInt32->LU->Bt)(Aeb:UInt32->Int->Bt)(f:UInt32)(a:LB)(g:Int)(b:LU)(k:UInt32)(n:Int):Bt:=
if(Cg n 8)then
Aeb (Qv (Bv k (GI.toZ (1:UInt64)).toNat) (Bg 3988292384 (Dr k 1))) (Ae n 1)
else
j23 g k b
def Oj(Lh:Int->LU->Bt)(f:UInt32)(a:LB)(g:Int)(b:LU):Nat->UInt32->Int->Bt
|0,_,_=>none
|q+1,k,n=>BC (BP Lh f a) (Oj Lh f a g b q) f a g b k n
def NP Lh f a g b:=Oj Lh f a g b Aq
def DE(j21:Int->LU->UInt32->Int->Bt)(j26:UInt32->LB->LU->Bt)(f:UInt32)(a:LB)(g:Int)(b:LU):Bt:=
if(Cg g 256)then
j21 g b (Ad g:UInt32) 0
else
j26 f a b
def Ll:Nat->Int->LU->Bt
|0,_,_=>none
|z+1,c,d=>DE (NP (Ll z) I p8) OZ I p8 c d
def dM f a:=Ll f a Aq
def TK(j16:UInt32->LB->Int->LU->Bt)(f:UInt32)(a:LB):Bt:=
if(Eu (Ac a) 100000)then
some (0,4)
else
j16 f a 0 (List.replicate 256 (0:UInt32))
def ZP:=TK dM
def Vm:Option (UInt32×Int):=
(ZP 4294967295 c).bind λ(z,d)=>
if(Bo d 0)then
some (0,d)
else
some ((B6 z),0)
def vW:Option Bool:=
if(geq J 8)then
some true
else
(Hz (Me (Bg 8 J) 0)).bind λ_=>
some (geq (Bv A (GI.toZ (Bg 8 J)).toNat) 0)
abbrev Yv:=Option (LB×Int)
def uG:Yv:=
some (c,0)
def cT:=uG
def RS(j6:LB->Yv)(Ps:Int->LB->Yv)(f:UInt64)(g:LB)(a:Int)(b:LB):Yv:=
if(Cg a (Ac g))then
(Hz (Me (Bg 8 a) 0)).bind λ_=>
(Ak b a).bind λ_=>
(Jb b a (Ad (Bv f (GI.toZ (Bg 8 a)).toNat):UInt8)).bind λk=>
Ps (Ae a 1) k
else
j6 b
def Zz:Nat->Int->LB->Yv
|0,_,_=>none
|z+1,c,d=>RS cT (Zz z) A p8 c d
def uH f g:=Zz f g Aq
def eU(j4:UInt64->LB->Int->LB->Yv)(f:UInt64)(h:Int):Yv:=
if((Cg h 1)||(Eu h 8))then
some (([]:LB),2)
else
(vW f h).bind λm=>
if(!m)then
some (([]:LB),16)
else
(mkI h (0:UInt8)).bind λg=>
(Hz (geq h h)).bind λ_=>
j4 f g 0 g
def Li:=eU uH
def NA:Option (LB):=
some c
def Tg:=NA
def Et:Option (LB):=
if(Cg p9 (Ac o7))then
(Ak o7 p9).bind λz=>
(Db y5 z).bind λc=>
Bcq (Ae p9 1) c
else
Bcp y5
def Dj:Nat->Int->LB->Option (LB)
|0,_,_=>none
|z+1,c,d=>Et Tg (Dj z) o7 c d
def Kv a:=Dj a Aq
def Ky(j14:(List LB)->Int->LB->Option (LB))(a:List LB)(p:LB):Option (LB):=
j14 a 0 p
def La:=Ky Kv
def Lc(j13:(List LB)->LB->Option (LB))(b:Int)(a:List LB):Option (LB):=
if(Eu (Aj b (Aj (0:Int) (0:Int))) 0)then
(aP 0 0 0).bind λ_=>
(mkI (Aj b (Aj (0:Int) (0:Int))) (0:UInt8)).bind λu=>
(Db ([]:LB) u).bind λk=>
(aP (Ac k) 0 0).bind λ_=>
j13 a (TL k 0 ((0:Int)-(0:Int)))
else
j13 a ([]:LB)
def To:=Lc La
def Kz(j12:Int-> (List LB)->Option (LB))(a:List LB)(b:Int):Option (LB):=
if(Cg b 0)then
none
else
j12 b a
def Tp:=Kz To
def Fg(j11:(List LB)->Int->Option (LB))(bk9:Int->Int->Option (LB))(a:List LB)(b h:Int):Option (LB):=
if(Cg h (Ac a))then
(Ak a h).bind λm=>
if(Cg (Ae b (Ac m)) 0)then
none
else
bk9 (Ae b (Ac m)) (Ae h 1)
else
j11 a b
def Dt:Nat->Int->Int->Option (LB)
|0,_,_=>none
|z+1,c,d=>Fg Tp (Dt z) o7 c d
def Ub a:=Dt a Aq
def Lw(j9:(List LB)->Int->Int->Option (LB))(a:List LB):Option (LB):=
j9 a 0 0
def Kb:=Lw Ub
abbrev Bj:=Option (LB×Int)
def PW(v:Int)(p:LB):Bj:=
(Vm p).bind λ(af,ac)=>
if(Bo ac 0)then
some (([]:LB),ac)
else
(Li (Ad af:UInt64) 4).bind λ(m,h)=>
if(Bo h 0)then
some (([]:LB),h)
else
(Kb ([p,m]:List LB)).bind λag=>
some (ag,0)
def Yn:=PW
def OM(KZ:Int-> (List (Int×Int×UInt64×UInt64×Unit))->Int->LB->Bj)(b:LU)(a g f:Int)(n:List (Int×Int×UInt64×UInt64×Unit))(k:Int)(w:LB):Bj:=
KZ (Ae f 1) n k w
def Yu KZ:=OM KZ
def QT(I0:Int->Int->LB->Bj)(h:Int)(b:LU)(f a g:Int)(n:List (Int×Int×UInt64×UInt64×Unit))(m:LB)(o k:Int)(ab:LB):Bj:=
I0 (Ae o 1) (Ae k 1) ab
def PA I0:=QT I0
def NZ(j48:Int->Int->LB->Bj)(h:Int)(b:LU)(f a g:Int)(n:List (Int×Int×UInt64×UInt64×Unit))(m:LB)(o k:Int)(y:LB):Bj:=
(Ak m (Ca o 8)).bind λ_=>
(Ak m (Ca o 8)).bind λah=>
(Hz (Me (Ge o 8) 0)).bind λ_=>
(Ak y (Ca k 8)).bind λ_=>
(Hz (Me (Ge k 8) 0)).bind λ_=>
(Ak y (Ca k 8)).bind λai=>
(Ak y (Ca k 8)).bind λ_=>
Option.bind (Jb y (Ca k 8) (sD ai (Cy (Dr (Bv ah (GI.toZ (Ge o 8)).toNat) 1) (GI.toZ (Ge k 8)).toNat))) λab=>
j48 o k ab
def Qh I0 h b f a g n m:=NZ (PA I0 h b f a g n m) h b f a g n m
def Qz(j47:Int->Int->LB->Bj)(j50:Int-> (List (Int×Int×UInt64×UInt64×Unit))->Int->LB->Bj)(b:LU)(a g h f:Int)(n:List (Int×Int×UInt64×UInt64×Unit))(m:LB)(o k:Int)(w:LB):Bj:=
if(Cg o h)then
if(geq (Ge k 8) 0)then
(Db w ([(0:UInt8)]:LB)).bind λaj=>
j47 o k aj
else
j47 o k w
else
j50 f n k w
def Fk(KZ:Int-> (List (Int×Int×UInt64×UInt64×Unit))->Int->LB->Bj)(b:LU)(a g h f:Int)(n:List (Int×Int×UInt64×UInt64×Unit))(m:LB):Nat->Int->Int->LB->Bj
|0,_,_,_=>none
|q+1,o,k,w=>Qz (Qh (Fk KZ b a g h f n m q) h b f a g n m) (Yu KZ b a g) b a g h f n m o k w
def PH KZ b a g h f n m:=Fk KZ b a g h f n m Aq
def Qp(j44:Int->Int-> (List (Int×Int×UInt64×UInt64×Unit))->LB->Int->Int->LB->Bj)(j52:Int->LB->Bj)(b:LU)(a g f:Int)(u:List (Int×Int×UInt64×UInt64×Unit))(v:Int)(p:LB):Bj:=
if(Cg f (Ac b))then
(Ak b f).bind λ_=>
(Ak b f).bind λak=>
(Hz (Bo a 0)).bind λ_=>
(Ak u (Ge f a)).bind λ_=>
(Ak u (Ge f a)).bind λaa=>
(XY ([]:LB) 0 aa.1 aa.2.1 aa.2.2.1 aa.2.2.2.1 ak).bind λ(m,h,al,am,an,ao,ad)=>
if(Bo ad 0)then
some (([]:LB),ad)
else
(Hz (Bo a 0)).bind λ_=>
(Ak u (Ge f a)).bind λ_=>
(Jb u (Ge f a) (al,am,an,ao,())).bind λn=>
j44 h f n m 0 v p
else
j52 v p
def Gq:Nat->Int-> (List (Int×Int×UInt64×UInt64×Unit))->Int->LB->Bj
|0,_,_,_,_=>none
|z+1,c,d,e,i=>Qp (PH (Gq z) R y7 y8) Yn R y7 y8 c d e i
def NR b a g:=Gq b a g Aq
def AY(j27:LU->Int->Int->Int-> (List (Int×Int×UInt64×UInt64×Unit))->Int->LB->Bj)(a g:Int)(ap aq:LX):Bj:=
(BH a g ap aq).bind λ(b,ae)=>
if(Bo ae 0)then
some (([]:LB),ae)
else
(CO).bind λar=>
j27 b a g 0 ar 0 ([]:LB)
def Pq:=AY NR
def Nt(a:Int)(b:LX):LI->Int->Option (List LX)
  |[],_=>some []
  |n::l,x=>Option.bind (By b x (Ae x (Bg n a))) λp=>Option.bind (Nt a b l (Ae x (Bg n a))) λps=>some (p::ps)
def Nq(a f:Int)(t:LX):List LX->List LB->Option (List LB×Int)
  |[],o=>some (o,0)
  |x::xs,o=>Option.bind (Pq a f t x) λy=>
    if(Bo y.2 0)=true then some ([],y.2)
    else Option.bind (Db o [y.1]) λo'=>Nq a f t xs o'
def QD:Option (List LX):=
  Option.bind (Hz (Bo z 0)) λ_=>Option.bind (Ue d (Ca (Ac e) z)) λc=>Option.bind (Hz (decide (Ac c.1<=17179869184))) λ_=>Nt z e c.1 0
def IA:Option (List LB×Int):=
  Option.bind (Cx z d j e) λc=>
    if(Bo c 0)=true then some ([],c)
    else Option.bind (GN i) λA=>
      if(Bo A.2 0)=true then some ([],A.2)
      else Option.bind (QD z j e) λB=>Nq z d A.1 B []
def UZ(b f a g h:Int):Option Bool:=
some (((((((geq b 1)||(geq b 2))&&(Eu f 0))&&(gle f 6))&&(Eu g 0))&&(gle g 1048576))&&(Eu h 0))
def GC:=UZ
def UR(j2:Int->Int->Int->Int->Int->Option Bool)(b f a g h:Int):Option Bool:=
if(geq a 8)then
if(geq a 8)then
j2 b f a g h
else
some false
else
if(geq a 16)then
if(geq a 16)then
j2 b f a g h
else
some false
else
if(geq a 24)then
j2 b f a g h
else
some false
def Xf:=UR GC
def JQ(k a m f b:Int):Option Bool:=
(Hz (Bo a 0)).bind λ_=>
if(Eu b (Ca 4000 a))then
some false
else
(Hh f b).bind λ(g,h)=>
some ((geq h 0)&&(gle g 1000))
def Pz:Option Int:=
(Xf z d j F O).bind λc=>
if(!c)then
some 8
else
(JQ z d j F O).bind λe=>
if(!e)then
some 8
else
some 0
abbrev Ls:=Option (LB×Int)
def aI:Ls:=
(Vm c).bind λ(z,d)=>
(Li (Ad z:UInt64) 4).bind λ(e,i)=>
(Db c e).bind λj=>
some (j,0)
def Yg:=aI
def Ye(j6:LB->Ls)(Ps:Int->LB->Ls)(b f g h k m:Int)(a:LB):Ls:=
if(Cg m 5)then
(Ak ([b,f,g,h,k]:LI) m).bind λw=>
(Ak ([(2:Int),(2:Int),(2:Int),(4:Int),(4:Int)]:LI) m).bind λy=>
(Li (Ad w:UInt64) y).bind λ(n,v)=>
(Db a n).bind λo=>
Ps (Ae m 1) o
else
j6 a
def Kg:Nat->Int->LB->Ls
|0,_,_=>none
|c+1,e,i=>Ye Yg (Kg c) z d j F O e i
def aR b f g h k:=Kg b f g h k Aq
def KX(j4:Int->Int->Int->Int->Int->Int->LB->Ls)(b f g h k:Int):Ls:=
(Pz b f g h k).bind λp=>
if(Bo p 0)then
some (([]:LB),p)
else
j4 b f g h k 0 ([(84:UInt8),(84:UInt8),(65:UInt8),(49:UInt8)]:LB)
def MW:=KX aR
def sE:Option (UInt64×Int):=
if(Eu (Ac c) 64)then
some (0,2)
else
(VC c).bind λ(z,d)=>
some (z,0)
def CK:Option (LB×Int):=
(sE c).bind λ(z,d)=>
if(Bo d 0)then
some (([]:LB),d)
else
(Li z 8).bind λ(e,i)=>
some (e,i)
def B7:Option Int:=
some 0
def iB:=B7
def DQ:Option Int:=
if(Cg Bcd (Ac Bcz))then
(Ak Bcz Bcd).bind λz=>
if((Cg z 5)||(Eu z Bcn))then
some 8
else
Bcc (Aj Bcn z) (Ae Bcd 1)
else
Bcf
def Pc:Nat->Int->Int->Option Int
|0,_,_=>none
|z+1,c,d=>DQ iB (Pc z) D c d
def fE a:=Pc a Aq
def CX(j4:LI->Int->Int->Option Int)(a:LI):Option Int:=
if((geq (Ac a) 0)||(Eu (Ac a) 1000))then
some 8
else
j4 a 100000 0
def Px:=CX fE
abbrev Gk:=Option (LB×Int)
def uV:Gk:=
some (c,0)
def vC:=uV
def aJ(j14:LB->Gk)(b:LB):Gk:=
(Vm b).bind λ(m,u)=>
(Li (Ad m:UInt64) 4).bind λ(n,v)=>
(Db b n).bind λg=>
j14 g
def KH:=aJ vC
def aW(bk8:Int->LB->Gk)(a:LI)(f:Int)(h:LB):Gk:=
bk8 (Ae f 1) h
def KM bk8:=aW bk8
def DP(j11:Int->LB->Gk)(j13:LB->Gk)(a:LI)(f:Int)(b:LB):Gk:=
if(Cg f (Ac a))then
(Ak a f).bind λo=>
(Li (Ad o:UInt64) 4).bind λ(p,w)=>
(Db b p).bind λh=>
j11 f h
else
j13 b
def Od:Nat->Int->LB->Gk
|0,_,_=>none
|z+1,c,d=>DP (KM (Od z) D) KH D c d
def G0 a:=Od a Aq
def OJ(j8:LI->Int->LB->Gk)(a:LI):Gk:=
(Px a).bind λk=>
if(Bo k 0)then
some (([]:LB),k)
else
j8 a 0 ([]:LB)
def SL:=OJ G0
def TG:Option Int:=
some (Ac c)
def yL:Option (LB):=
some c
def gE:=yL
def CR:Option (LB):=
if(Cg p9 (Ac o7))then
(Ak o7 p9).bind λz=>
(Db y5 z).bind λc=>
Bcq (Ae p9 1) c
else
Bcp y5
def Pr:Nat->Int->LB->Option (LB)
|0,_,_=>none
|z+1,c,d=>CR gE (Pr z) o7 c d
def A9 a:=Pr a Aq
def dP(j4:(List LB)->Int->LB->Option (LB))(a:List LB):Option (LB):=
j4 a 0 ([]:LB)
def gO:=dP A9
abbrev Ef:=Option (LB×Int)
def aC:Ef:=
if(Bo z 0)then
some (([]:LB),z)
else
(Db ([y5,Bc0,Bdp]:List LB) o7).bind λc=>
(gO c).bind λd=>
some (d,0)
def aY:=aC
def aE(j14:Int-> (List LB)->LB->LB->LB->Ef)(h:LI)(a:List LB)(b f:LB):Ef:=
(SL h).bind λ(n,k)=>
j14 k a b f n
def Ri:=aE aY
def aA(bk9:Int->LI->Ef)(a:List LB)(b f:LB)(g:Int)(m:LI):Ef:=
bk9 (Ae g 1) m
def KL bk9:=aA bk9
def CG(j11:Int->LI->Ef)(j13:LI-> (List LB)->LB->LB->Ef)(a:List LB)(b f:LB)(g:Int)(h:LI):Ef:=
if(Cg g (Ac a))then
(Ak a g).bind λ_=>
(Ak a g).bind λae=>
(TG ae).bind λk=>
(Ak h g).bind λ_=>
(Jb h g k).bind λm=>
j11 g m
else
j13 h a b f
def Po:Nat->Int->LI->Ef
|0,_,_=>none
|z+1,c,d=>CG (KL (Po z) o7 y5 Bc0) Ri o7 y5 Bc0 c d
def D0 a b f:=Po a b f Aq
def NQ(j9:(List LB)->LB->LB->Int->LI->Ef)(a:List LB)(b f:LB):Ef:=
(mkI (Ac a) (0:Int)).bind λaf=>
(Hz (geq (Ac a) (Ac a))).bind λ_=>
j9 a b f 0 af
def OU:=NQ D0
def OD(j8:(List LB)->LB->LB->Ef)(p u v:Int)(w:LX)(o:LB):Ef:=
(SD p u v w o).bind λ(y,ag,ah,ai,aj,aa)=>
if(Bo aa 0)then
some (([]:LB),aa)
else
(IA p u v w o).bind λ(a,ab)=>
if(Bo ab 0)then
some (([]:LB),ab)
else
(MW y ag ah ai aj).bind λ(b,ac)=>
if(Bo ac 0)then
some (([]:LB),ac)
else
if(geq y 2)then
(CK o).bind λ(ak,al)=>
j8 a b ak
else
j8 a b ([]:LB)
def JV:=OD OU
def My:Option (LB):=
(JF).bind λ(z,d,e,i)=>
(JV z d e i c).bind λ(j,A)=>
some j
def Gz:Option Bool:=
some (c==i)
def Kh:Option Bool:=
if(Me (Ac c) (Ac i))then
(By c 0 (Ac i)).bind λz=>
(Gz z i).bind λd=>
some d
else
some false
abbrev Kk:=Option (Int×Int)
def rO:Kk:=
some (z,0)
def VW:=rO
def Vp(j6:Int->Kk)(Ps:Int->Int->Kk)(a:LB)(b f:Int):Kk:=
if(Cg f (Ac a))then
(Ak a f).bind λg=>
if(Eu g 127)then
some (0,12)
else
Ps (sD (Cy b (GI.toZ (7:UInt64)).toNat) (Ad g:Int)) (Ae f 1)
else
j6 b
def Lf:Nat->Int->Int->Kk
|0,_,_=>none
|z+1,d,e=>Vp VW (Lf z) c d e
def UM a:=Lf a Aq
def GM(j4:LB->Int->Int->Kk)(a:LB):Kk:=
if(Bo (Ac a) 4)then
some (0,2)
else
j4 a 0 0
def GV:=GM UM
abbrev Hp:=Option (Int×Int)
def aM:Hp:=
if(Eu q8 4000)then
some (0,4)
else
if(Cg (Ac c) q8)then
some (0,24)
else
if(geq Bcv 16)then
(By c (Aj q8 10) q8).bind λz=>
(By z 0 3).bind λd=>
if(d !=([51,68,73]:LB))then
some (0,12)
else
(By z 3 (Ac z)).bind λe=>
(By c 3 10).bind λi=>
(Gz e i).bind λj=>
if(!j)then
some (0,12)
else
some (q8,0)
else
some (q8,0)
def KJ:=aM
def aT(j8:LB->UInt8->Int->Hp)(a:LB)(g:Int)(b:UInt8):Hp:=
if(geq b 16)then
j8 a b (Ae (Ae g 10) 10)
else
j8 a b (Ae g 10)
def KW:=aT KJ
def aB(j7:LB->Int->UInt8->Hp)(a:LB)(g:Int)(b:UInt8)(m:Bool):Hp:=
if m then
some (0,12)
else
j7 a g b
def KE:=aB KW
def KV(j6:LB->Int->UInt8->Bool->Hp)(a:LB)(f b:UInt8):Hp:=
(By a 6 10).bind λaa=>
(GV aa).bind λ(g,ab)=>
if(Bo ab 0)then
if true then
j6 a g b true
else
if(geq b 0)then
j6 a g b (!((Me f 2)&&(gle f 4)))
else
if(geq b 16)then
j6 a g b (!(geq f 4))
else
j6 a g b (!false)
else
(Ak a 4).bind λac=>
if(Bo ac 0)then
j6 a g b true
else
if(geq b 0)then
j6 a g b (!((Me f 2)&&(gle f 4)))
else
if(geq b 16)then
j6 a g b (!(geq f 4))
else
j6 a g b (!false)
def KK:=KV KE
def Xz(j5:LB->UInt8->UInt8->Hp)(a:LB):Hp:=
(Kh a ([(73:UInt8),(68:UInt8),(51:UInt8)]:LB)).bind λn=>
if(!n)then
some (0,6)
else
if(Cg (Ac a) 10)then
some (0,24)
else
(Ak a 3).bind λf=>
(Ak a 5).bind λb=>
(
(
(
j5 a f b)))
def MK:=Xz KK
abbrev Yx:=Option (UInt64×Int)
def ql:Yx:=
some (A,0)
def tU:=ql
def RX(j6:UInt64->Yx)(Ps:UInt64->Int->Yx)(a:LB)(f:UInt64)(b:Int):Yx:=
if(Cg b (Ac a))then
(Ak a b).bind λg=>
(Hz (Me (Bg 8 b) 0)).bind λ_=>
Ps (sD f (Cy (Ad g:UInt64) (GI.toZ (Bg 8 b)).toNat)) (Ae b 1)
else
j6 f
def Zg:Nat->UInt64->Int->Yx
|0,_,_=>none
|z+1,d,e=>RX tU (Zg z) c d e
def uK a:=Zg a Aq
def hH(j4:LB->UInt64->Int->Yx)(a:LB):Yx:=
if((Cg (Ac a) 1)||(Eu (Ac a) 8))then
some (0,2)
else
j4 a 0 0
def dT:=hH uK
def VO:Option (UInt64×Int):=
if(((Cg d 1)||(Eu d 8))||(Cg z 0))then
some (0,2)
else
if(Eu z (Aj (Ac c) d))then
some (0,24)
else
(By c z (Ae z d)).bind λe=>
(dT e).bind λ(i,j)=>
some (i,j)
def C8:Option (LB):=
some c
def lU:=C8
def YH:Option (LB):=
if(Cg Bcj (Ac ([(2000:UInt64),(Ad (Ae J 32):UInt64),(Ad Bcr:UInt64),Bce,(0:UInt64),(0:UInt64)]:LQ)))then
(Ak ([(2000:UInt64),(Ad (Ae J 32):UInt64),(Ad Bcr:UInt64),Bce,(0:UInt64),(0:UInt64)]:LQ) Bcj).bind λ_=>
(Ak ([(2000:UInt64),(Ad (Ae J 32):UInt64),(Ad Bcr:UInt64),Bce,(0:UInt64),(0:UInt64)]:LQ) Bcj).bind λz=>
(Li z 4).bind λ(c,d)=>
(Db Bde c).bind λe=>
Bcq (Ae Bcj 1) e
else
Bcp Bde
def Za:Nat->Int->LB->Option (LB)
|0,_,_=>none
|c+1,e,i=>YH lU (Za c) z d A e i
def xU a b f:=Za a b f Aq
def mK(j4:Int->Int->UInt64->Int->LB->Option (LB))(a b:Int)(f:UInt64):Option (LB):=
j4 a b f 0 ([(65:UInt8),(80:UInt8),(69:UInt8),(84:UInt8),(65:UInt8),(71:UInt8),(69:UInt8),(88:UInt8)]:LB)
def iM:=mK xU
def ND:Option (Int×Int×Bool):=
(VO c 12 4).bind λ(z,d)=>
(VO c 16 4).bind λ(e,i)=>
if(((Cg z 32)||(Eu z 3032))||(Eu e 1000))then
some (0,0,false)
else
(iM (Aj (Ad z:Int) 32) (Ad e:Int) A).bind λj=>
(Gz c j).bind λB=>
some ((Aj (Ad z:Int) 32),(Ad e:Int),B)
def iQ:Option (Int×Int):=
(Kh c ([(65:UInt8),(80:UInt8),(69:UInt8),(84:UInt8),(65:UInt8),(71:UInt8),(69:UInt8),(88:UInt8)]:LB)).bind λz=>
if(!z)then
some (0,6)
else
if(Cg (Ac c) 32)then
some (0,24)
else
(By c 0 32).bind λd=>
(ND d 2684354560).bind λ(e,i,j)=>
if(!j)then
some (0,12)
else
if(Cg (Ac c) (Ae e 64))then
some (0,24)
else
(By c (Aj (Ae e 64) 32) (Ae e 64)).bind λA=>
(iM e i 2147483648).bind λB=>
(Gz A B).bind λC=>
if(!C)then
some (0,12)
else
some ((Ae e 64),0)
def Ug:Option (Int×Int):=
(MK c).bind λ(z,d)=>
if(Bo d 6)then
some (z,d)
else
(iQ c).bind λ(e,i)=>
some (e,i)
def Rr(b:List UInt8):Nat->Int->Option (Int×Int)
  |0,_=>none
  |q+1,x=>Option.bind (By b x (Ac b)) λs=>Option.bind (Ug s) λr=>
    if geq r.2 (6:Int)=true then some (x,0)
    else if(geq r.2 (0:Int)&&Eu (Ae x r.1) (4000:Int))=true then some (0,4)
    else if Bo r.2 (0:Int)=true then some (0,r.2)
    else Rr b q (Ae x r.1)
def Uu(b:List UInt8):Option (Int×Int):=Rr b Aq 0
def Iw:Option Bool:=
if(Me (Ac c) (Ac i))then
(By c 0 (Ac i)).bind λz=>
some (z==i)
else
some false
def Te:Option Bool:=
(Iw c i).bind λz=>
some z
abbrev Ns:=Option (Int×Int×Int×Int×Int×Int)
def gM:Ns:=
(Ak D 0).bind λ_=>
(Ak D 0).bind λz=>
(Ak D 1).bind λ_=>
(Ak D 1).bind λc=>
(Ak D 2).bind λ_=>
(Ak D 2).bind λd=>
(Ak D 3).bind λ_=>
(Ak D 3).bind λe=>
(Ak D 4).bind λ_=>
(Ak D 4).bind λi=>
(Xf z c d e i).bind λj=>
if(!j)then
some (0,0,0,0,0,12)
else
(JQ z c d e i).bind λA=>
if(!A)then
some (0,0,0,0,0,4)
else
some (z,c,d,e,i,0)
def AV:=gM
def AX(j6:LI->Ns)(Ps:Int->Int->LI->Ns)(b:LB)(g f:Int)(a:LI):Ns:=
if(Cg f 5)then
(Ak ([(2:Int),(2:Int),(2:Int),(4:Int),(4:Int)]:LI) f).bind λh=>
(VO b g h).bind λ(v,ae)=>
(Ak a f).bind λ_=>
(Jb a f (Ad v:Int)).bind λw=>
Ps (Ae g h) (Ae f 1) w
else
j6 a
def Lk:Nat->Int->Int->LI->Ns
|0,_,_,_=>none
|z+1,d,e,i=>AX AV (Lk z) c d e i
def OQ b:=Lk b Aq
def PZ(j4:LB->Int->Int->LI->Ns)(b:LB):Ns:=
(By b 0 (Gi 4 (Ac b))).bind λy=>
(Te ([84,84,65,49]:LB) y).bind λaa=>
if(!aa)then
some (0,0,0,0,0,12)
else
if(Cg (Ac b) 22)then
some (0,0,0,0,0,24)
else
(VO b 18 4).bind λ(ab,af)=>
(By b 0 18).bind λac=>
(Vm ac).bind λ(ad,ag)=>
if(Bo (Ad ad:UInt64) ab)then
some (0,0,0,0,0,22)
else
j4 b 4 0 (List.replicate 5 (0:Int))
def IC:=PZ OQ
def Xj:Option (LI×Int):=
(Pz z d j F O).bind λc=>
if(Bo c 0)then
some (([]:LI),c)
else
(Ue F O).bind λ(e,i)=>
some (e,i)
def Pu:Option (Int×Int×Int×Int×Int×Int×Int×Int×Int×Int×LI×Int):=
if(Eu (Ac c) 100000)then
some (0,0,0,0,0,0,0,0,0,0,([]:LI),4)
else
(Uu c).bind λ(z,d)=>
if(Bo d 0)then
some (0,0,0,0,0,0,0,0,0,0,([]:LI),d)
else
(By c z (Ac c)).bind λe=>
(IC e).bind λ(i,j,A,B,C,D)=>
if(Bo D 0)then
some (i,j,A,B,C,0,0,0,0,0,([]:LI),D)
else
(Xj i j A B C).bind λ(E,F)=>
if(geq i 2)then
some (i,j,A,B,C,z,(Ae z 22),(Ae (Ae z 22) 8),0,0,E,0)
else
some (i,j,A,B,C,z,(Ae z 22),(Ae z 22),0,0,E,0)
def Vv:Option (Bool×Int):=
(CK i).bind λ(z,d)=>
if((Bo d 0)||(Bo (Ac c) (Ac z)))then
some (false,2)
else
(Gz c z).bind λe=>
some (e,0)
abbrev Qq:=Option (LI×Int)
def lB:Qq:=
(Px D).bind λz=>
if(Bo z 0)then
some (([]:LI),12)
else
some (D,0)
def GP:=lB
def GU(j6:LI->Qq)(Ps:Int->LI->Qq)(a:LB)(f:LI)(g:Int)(b:LI):Qq:=
if(Cg g (Ac f))then
(VO a (Bg 4 g) 4).bind λ(k,u)=>
(Ak b g).bind λ_=>
(Jb b g (Ad k:Int)).bind λm=>
Ps (Ae g 1) m
else
j6 b
def Ro:Nat->Int->LI->Qq
|0,_,_=>none
|z+1,d,e=>GU GP (Ro z) c D d e
def kH a f:=Ro a f Aq
def UB(j4:LB->LI->Int->LI->Qq)(a:LB)(h:Int):Qq:=
if((Cg h 1)||(Eu h 1000))then
some (([]:LI),2)
else
if(Cg (Ac a) (Ae (Bg 4 h) 4))then
some (([]:LI),24)
else
(VO a (Bg 4 h) 4).bind λ(n,v)=>
(By a 0 (Bg 4 h)).bind λo=>
(Vm o).bind λ(p,w)=>
if(Bo (Ad p:UInt64) n)then
some (([]:LI),22)
else
(mkI h (0:Int)).bind λf=>
(Hz (geq h h)).bind λ_=>
j4 a f 0 f
def GB:=UB kH
def CE:Option (LB×Int):=
if(Cg (Ac c) 5)then
some (([]:LB),24)
else
if(Eu (Ac c) 41254)then
some (([]:LB),4)
else
(By c 0 (Aj (Ac c) 4)).bind λz=>
(Vm z).bind λ(d,e)=>
if(Bo e 0)then
some (([]:LB),e)
else
(By c (Aj (Ac c) 4) (Ac c)).bind λi=>
(dT i).bind λ(j,A)=>
if((Bo A 0)||(Bo j (Ad d:UInt64)))then
some (([]:LB),22)
else
(By c 0 (Aj (Ac c) 4)).bind λB=>
some (B,0)
def iy:Option (LB×Int×Int):=
if(Eu (Ac c) 41250)then
some (([]:LB),0,4)
else
(Eb c).bind λz=>
some (z,(Bg 8 (Ac c)),0)
def Abm:Option UInt64:=
some A
def uJ:=Abm
def fH(j6:UInt64->Option UInt64)(Ps:UInt64->Int->Option UInt64)(b f:Int)(h:LB)(k:Int)(g:UInt64)(a:Int):Option UInt64:=
if(Cg a f)then
(Ak h (Z4 (Ae b a) (GI.toZ (3:UInt64)).toNat)).bind λm=>
(Hz (Me (Dr (Ae b a) 7) 0)).bind λ_=>
(Hz (Me (Gi (Aj f a) (Aj 8 (Dr (Ae b a) 7))) 0)).bind λ_=>
(Hz (Me a 0)).bind λ_=>
Ps (sD g (Cy (Ad (Dr (Bv m (GI.toZ (Dr (Ae b a) 7)).toNat) (Aj (Cy (1:UInt8) (GI.toZ (Gi (Aj f a) (Aj 8 (Dr (Ae b a) 7)))).toNat) 1)):UInt64) (GI.toZ a).toNat)) (Ae a (Gi (Aj f a) (Aj 8 (Dr (Ae b a) 7))))
else
j6 g
def IL:Nat->UInt64->Int->Option UInt64
|0,_,_=>none
|c+1,e,j=>fH uJ (IL c) z d i B e j
def wm b f h k:=IL b f h k Aq
def tG(j4:Int->Int->LB->Int->UInt64->Int->Option UInt64)(h:LB)(k b f:Int):Option UInt64:=
j4 b f h k 0 0
def pO:=tG wm
abbrev Er:=Option (LB×Int×Int)
def pR:Er:=
some (i,z,0)
def XM:=pR
def oH(KZ:Int->Int->LB->Er)(a:Int)(g:LB)(b f h:Int)(u:LB):Er:=
KZ (Ae f 64) h u
def MJ KZ:=oH KZ
def oJ(I0:UInt64->Int->Int->LB->Er)(a f:Int)(g:LB)(b:Int)(m n:UInt64)(k h:Int)(w:LB):Er:=
(Hz (Me (Gi k (Aj 8 (Dr h 7))) 0)).bind λ_=>
I0 (Bv n (GI.toZ (Gi k (Aj 8 (Dr h 7)))).toNat) (Aj k (Gi k (Aj 8 (Dr h 7)))) (Ae h (Gi k (Aj 8 (Dr h 7)))) w
def pE I0:=oJ I0
def qK(j48:UInt64->Int->Int->LB->Er)(a f:Int)(g:LB)(b:Int)(m n:UInt64)(k h:Int)(v:LB):Er:=
(Ak v (Aj (Ac v) 1)).bind λ_=>
(Hz (Me (Gi k (Aj 8 (Dr h 7))) 0)).bind λ_=>
(Hz (Me (Dr h 7) 0)).bind λ_=>
(Ak v (Aj (Ac v) 1)).bind λaa=>
(Ak v (Aj (Ac v) 1)).bind λ_=>
Option.bind (Jb v (Aj (Ac v) 1) (sD aa (Cy (Ad (Dr n (Aj (Cy (1:UInt64) (GI.toZ (Gi k (Aj 8 (Dr h 7)))).toNat) 1)):UInt8) (GI.toZ (Dr h 7)).toNat))) λw=>
j48 n k h w
def MT I0 a f g b m:=qK (pE I0 a f g b m) a f g b m
def MQ(j47:UInt64->Int->Int->LB->Er)(j50:Int->Int->LB->Er)(a:Int)(g:LB)(b f:Int)(m n:UInt64)(k h:Int)(u:LB):Er:=
if(Eu k 0)then
if(geq (Dr h 7) 0)then
(Db u ([(0:UInt8)]:LB)).bind λab=>
j47 n k h ab
else
j47 n k h u
else
j50 f h u
def Mx(KZ:Int->Int->LB->Er)(a:Int)(g:LB)(b f:Int)(m:UInt64):Nat->UInt64->Int->Int->LB->Er
|0,_,_,_,_=>none
|q+1,n,k,h,u=>MQ (MT (Mx KZ a g b f m q) a f g b m) (MJ KZ a g b) a g b f m n k h u
def ZB KZ a g b f m:=Mx KZ a g b f m Aq
def YY(j44:Int->UInt64->UInt64->Int->Int->LB->Er)(j52:Int->LB->Er)(a:Int)(g:LB)(b f o:Int)(p:LB):Er:=
if(Cg f a)then
(pO g b f (Gi 64 (Aj a f))).bind λm=>
j44 f m m (Gi 64 (Aj a f)) o p
else
j52 o p
def Vk:Nat->Int->Int->LB->Er
|0,_,_,_=>none
|c+1,d,e,j=>YY (ZB (Vk c) z i B) XM z i B d e j
def mX a g b:=Vk a g b Aq
def fL(j27:Int->LB->Int->Int->Int->LB->Er)(g:LB)(b y a:Int):Er:=
(Hs g b).bind λac=>
if(Bo ac 0)then
some (([]:LB),0,8)
else
if(((Cg y 0)||(Eu y a))||(Eu a b))then
some (([]:LB),0,2)
else
j27 a g b y 0 ([]:LB)
def eZ:=fL mX
def CT:Option (UInt64×Int):=
(Hs c z).bind λe=>
if(Bo e 0)then
some (0,8)
else
if(((Cg j 0)||(Eu j 64))||(Cg d 0))then
some (0,2)
else
if(Eu d (Aj z j))then
some (0,24)
else
(pO c z d j).bind λi=>
some (i,0)
def Fx:Option Int:=
if(geq A 0)then
some 64
else
(Ak ([(0:UInt8),(1:UInt8),(56:UInt8),(2:UInt8),(57:UInt8),(49:UInt8),(28:UInt8),(3:UInt8),(61:UInt8),(58:UInt8),(42:UInt8),(50:UInt8),(38:UInt8),(29:UInt8),(17:UInt8),(4:UInt8),(62:UInt8),(47:UInt8),(59:UInt8),(36:UInt8),(45:UInt8),(43:UInt8),(51:UInt8),(22:UInt8),(53:UInt8),(39:UInt8),(33:UInt8),(30:UInt8),(24:UInt8),(18:UInt8),(12:UInt8),(5:UInt8),(63:UInt8),(55:UInt8),(48:UInt8),(27:UInt8),(60:UInt8),(41:UInt8),(37:UInt8),(16:UInt8),(46:UInt8),(35:UInt8),(44:UInt8),(21:UInt8),(52:UInt8),(32:UInt8),(23:UInt8),(11:UInt8),(54:UInt8),(26:UInt8),(40:UInt8),(15:UInt8),(34:UInt8),(20:UInt8),(31:UInt8),(10:UInt8),(25:UInt8),(14:UInt8),(19:UInt8),(9:UInt8),(13:UInt8),(8:UInt8),(7:UInt8),(6:UInt8)]:LB) (GI.toZ (Bv (Bg (Dr A (nP A)) 285870213051353865) (GI.toZ (58:UInt64)).toNat))).bind λz=>
some (Ad z:Int)
abbrev Hj:=Option (Int×Int×Int)
def yM:Hj:=
some (0,0,24)
def yI:=yM
def J6(j10:Hj):Hj:=
j10
def I7:=J6 yI
def jY(j9:Hj)(f a:Int):Hj:=
if(geq f 48)then
some (f,(Ae 0 (Ae a f)),0)
else
j9
def kN:=jY I7
def kG(j8:Int->Int->Hj)(f b a:Int):Hj:=
if(Cg f (Gi 48 (Aj b a)))then
some (f,(Ae (Ae (0:Int) (1:Int)) (Ae a f)),0)
else
j8 f a
def kU:=kG kN
def kQ(j7:Int->Int->Int->Hj)(h:Int)(k:UInt64)(a:Int)(g:LB)(b:Int):Hj:=
if(Bo h 0)then
some (0,0,h)
else
(Fx (B6 k)).bind λf=>
j7 f b a
def TH:=kQ kU
def Xv(j6:Int->UInt64->Int->LB->Int->Hj)(g:LB)(b a:Int):Hj:=
(Hs g b).bind λm=>
if(Bo m 0)then
some (0,0,m)
else
if(Cg a 0)then
some (0,0,2)
else
if(Me a b)then
some (0,0,24)
else
(
(
(CT g b a (Gi 48 (Aj b a))).bind λ(k,h)=>
j6 h k a g b))
def GH:=Xv TH
abbrev fO:=Option (UInt32×Int×Int)
def YL:fO:=
(CT i B d L).bind λ(c,e)=>
if(Bo e 0)then
some (0,0,e)
else
if(Cg j 48)then
(Hz (Me z 0)).bind λ_=>
some ((sD (Cy (Ad j:UInt32) (GI.toZ z).toNat) (Ad c:UInt32)),(Ae d L),0)
else
(Vw (Ad c:UInt32) z).bind λA=>
if(!A)then
some (0,0,12)
else
some ((Ad c:UInt32),(Ae d L),0)
def ZJ:=YL
def oX(j2:Int->Int->Int->LB->Int->Int->fO)(g:LB)(h v a:Int):fO:=
(Hs g h).bind λo=>
if(Bo o 0)then
some (0,0,o)
else
if((Cg a 0)||(Eu a 24))then
some (0,0,2)
else
(GH g h v).bind λ(f,b,p)=>
if(Bo p 0)then
some (0,0,p)
else
if(geq f 48)then
j2 a b f g h 32
else
j2 a b f g h a
def iU:=oX ZJ
abbrev Js:=Option (UInt32×Int×Int×Int×UInt64×UInt64×Int)
def jV:Js:=
some (I,J,Bcr,Bcj,(Ae X (Aj (Ad I:UInt64) (Bv X (GI.toZ (4:UInt64)).toNat))),Bct,0)
def kE:=jV
def pM(j10:UInt32->Int->Int->Int->UInt64->UInt64->Js)(f:UInt32)(k m:Int)(b n:UInt64)(w:Int):Js:=
j10 f k w m b n
def nC:=pM kE
def qD(j9:UInt32->Int->Int->UInt64->UInt64->Int->Js)(f:UInt32)(k a:Int)(b:UInt64)(m:Int)(n:UInt64):Js:=
if(Eu a 0)then
(Hz (Me a 0)).bind λ_=>
if(Cg (Ae b (Aj (Ad f:UInt64) (Bv b (GI.toZ (4:UInt64)).toNat))) (Cy (16:UInt64) (GI.toZ a).toNat))then
j9 f k m b n (Aj a 1)
else
if(Cg a 24)then
(Hz (Me a 0)).bind λ_=>
if(Eu (Ae b (Aj (Ad f:UInt64) (Bv b (GI.toZ (4:UInt64)).toNat))) (Cy (32:UInt64) (GI.toZ a).toNat))then
j9 f k m b n (Ae a 1)
else
j9 f k m b n a
else
j9 f k m b n a
else
if(Cg a 24)then
(Hz (Me a 0)).bind λ_=>
if(Eu (Ae b (Aj (Ad f:UInt64) (Bv b (GI.toZ (4:UInt64)).toNat))) (Cy (32:UInt64) (GI.toZ a).toNat))then
j9 f k m b n (Ae a 1)
else
j9 f k m b n a
else
j9 f k m b n a
def DM:=qD nC
def XN(j8:UInt32->Int->Int->UInt64->Int->UInt64->Js)(a h:Int)(b g:UInt64)(f:UInt32)(k:Int):Js:=
(GK a h b g f).bind λ(ad,o)=>
if(geq ad 1)then
if(Eu h 0)then
(Hz (Me h 0)).bind λ_=>
if(Cg (Ae g (Aj (Ad o:UInt64) (Bv g (GI.toZ (4:UInt64)).toNat))) (Cy (16:UInt64) (GI.toZ h).toNat))then
j8 f k a b (Aj h 1) (Ae g (Aj (Ad o:UInt64) (Bv g (GI.toZ (4:UInt64)).toNat)))
else
if(Cg h 24)then
(Hz (Me h 0)).bind λ_=>
if(Eu (Ae g (Aj (Ad o:UInt64) (Bv g (GI.toZ (4:UInt64)).toNat))) (Cy (32:UInt64) (GI.toZ h).toNat))then
j8 f k a b (Ae h 1) (Ae g (Aj (Ad o:UInt64) (Bv g (GI.toZ (4:UInt64)).toNat)))
else
j8 f k a b h (Ae g (Aj (Ad o:UInt64) (Bv g (GI.toZ (4:UInt64)).toNat)))
else
j8 f k a b h (Ae g (Aj (Ad o:UInt64) (Bv g (GI.toZ (4:UInt64)).toNat)))
else
if(Cg h 24)then
(Hz (Me h 0)).bind λ_=>
if(Eu (Ae g (Aj (Ad o:UInt64) (Bv g (GI.toZ (4:UInt64)).toNat))) (Cy (32:UInt64) (GI.toZ h).toNat))then
j8 f k a b (Ae h 1) (Ae g (Aj (Ad o:UInt64) (Bv g (GI.toZ (4:UInt64)).toNat)))
else
j8 f k a b h (Ae g (Aj (Ad o:UInt64) (Bv g (GI.toZ (4:UInt64)).toNat)))
else
j8 f k a b h (Ae g (Aj (Ad o:UInt64) (Bv g (GI.toZ (4:UInt64)).toNat)))
else
j8 f k a b h g
def XT:=XN DM
def XX(j7:Int->Int->UInt64->UInt64->UInt32->Int->Js)(p:Int)(u:LB)(v a h:Int)(b g:UInt64):Js:=
(CT u v p 1).bind λ(ae,aa)=>
if(Bo aa 0)then
some (0,0,0,0,0,0,aa)
else
if(geq ae 0)then
(CT u v (Ae p 1) a).bind λ(af,ab)=>
if(Bo ab 0)then
some (0,0,0,0,0,0,ab)
else
j7 a h b g (Ad af:UInt32) (Ae (Ae p 1) a)
else
(iU u v (Ae p 1) h).bind λ(y,ag,ac)=>
if(Bo ac 0)then
some (0,0,0,0,0,0,ac)
else
(Hz (Me a 0)).bind λ_=>
if(Cg (Ae y (Cy (1:UInt32) (GI.toZ a).toNat)) y)then
some (0,0,0,0,0,0,12)
else
j7 a h b g (Ae y (Cy (1:UInt32) (GI.toZ a).toNat)) ag
def qH:=XX XT
def ZW(j6:Int->LB->Int->Int->Int->UInt64->UInt64->Js)(u:LB)(v p a h:Int)(b g:UInt64):Js:=
(Hs u v).bind λah=>
if(Bo ah 0)then
some (0,0,0,0,0,0,8)
else
(QF a h b g).bind λai=>
if(Bo ai 0)then
some (0,0,0,0,0,0,8)
else
j6 p u v a h b g
def FY:=ZW qH
abbrev Br:=Option (LU×Int×Int)
def mA:Br:=
some (R,z,0)
def QG:=mA
def QA(Lh:Int->Int-> (List (Int×Int×UInt64×UInt64×Unit))->LU->Br)(a f:Int)(g:LB)(b k v:Int)(w:UInt32)(h:Int)(ah:List (Int×Int×UInt64×UInt64×Unit))(n:LU):Br:=
(Db n ([w]:LU)).bind λak=>
Lh (Ae k v) (Ae h 1) ah ak
def NV Lh:=QA Lh
def Yl(j22:Int->Int->UInt32->Int-> (List (Int×Int×UInt64×UInt64×Unit))->LU->Br)(a f:Int)(g:LB)(b k h y:Int)(w:UInt32)(v:Int)(m:List (Int×Int×UInt64×UInt64×Unit))(n:LU)(aa ab:Int)(ac ad:UInt64):Br:=
if(Bo y 0)then
some (([]:LU),0,y)
else
(Hz (Bo a 0)).bind λ_=>
(Ak m (Ge h a)).bind λ_=>
(Jb m (Ge h a) (aa,ab,ac,ad,())).bind λah=>
j22 k v w h ah n
def Ql Lh a f g b:=Yl (NV Lh a f g b) a f g b
def Ra(j21:Int->Int->Int->UInt32->Int-> (List (Int×Int×UInt64×UInt64×Unit))->LU->Int->Int->UInt64->UInt64->Br)(j24:Int->LU->Br)(a f:Int)(g:LB)(b k h:Int)(m:List (Int×Int×UInt64×UInt64×Unit))(n:LU):Br:=
if(Cg h (Bg f a))then
(eZ g b k (Gi (Ae k 81) b)).bind λ(ag,ae,af)=>
if(Bo af 0)then
some (([]:LU),0,af)
else
(Hz (Bo a 0)).bind λ_=>
(Ak m (Ge h a)).bind λ_=>
(
(
(Ak m (Ge h a)).bind λo=>
(
(FY ag ae 0 o.1 o.2.1 o.2.2.1 o.2.2.2.1).bind λ(w,v,aa,ab,ac,ad,y)=>
j21 k h y w v m n aa ab ac ad)))
else
j24 k n
def Lj:Nat->Int->Int-> (List (Int×Int×UInt64×UInt64×Unit))->LU->Br
|0,_,_,_,_=>none
|c+1,e,j,A,C=>Ra (Ql (Lj c) z d i B) QG z d i B e j A C
def QU a f g b:=Lj a f g b Aq
def NO(j16:Int->Int->LB->Int->Int->Int-> (List (Int×Int×UInt64×UInt64×Unit))->LU->Br)(a f:Int)(g:LB)(b:Int)(p:List (Int×Int×UInt64×UInt64×Unit)):Br:=
j16 a f g b 0 0 p ([]:LU)
def NK:=NO QU
def NX(j15:Int->Int->LB->Int-> (List (Int×Int×UInt64×UInt64×Unit))->Br)(Aov:Int-> (List (Int×Int×UInt64×UInt64×Unit))->Br)(a f:Int)(g:LB)(b u:Int)(p:List (Int×Int×UInt64×UInt64×Unit)):Br:=
if(Cg u 6)then
(mW).bind λ(al,ae,af,am)=>
(Ak p u).bind λ_=>
(Jb p u (al,ae,af,am,())).bind λan=>
Aov (Ae u 1) an
else
j15 a f g b p
def Yj:Nat->Int-> (List (Int×Int×UInt64×UInt64×Unit))->Br
|0,_,_=>none
|c+1,e,j=>NX NK (Yj c) z d i B e j
def Yw a f g b:=Yj a f g b Aq
def CA(j13:Int->Int->LB->Int->Int-> (List (Int×Int×UInt64×UInt64×Unit))->Br)(a f:Int)(g:LB)(b:Int):Br:=
j13 a f g b 0 (List.replicate 6 ((0:Int),(0:Int),(0:UInt64),(0:UInt64),()))
def CC:=CA Yw
def Vu:Option Int32:=
some (Qv (Ad (Bv I (GI.toZ (1:UInt64)).toNat):Int32) (nP (Ad (Dr I 1):Int32)))
def gQ:Option (Int32×Int×LX×LX×Int):=
(PL z e M).bind λ(c,d)=>
if(Bo d 0)then
some (0,0,(List.replicate 16 (0:Int32)),(List.replicate 16 (0:Int32)),d)
else
(NU z e M (Ae C c) C).bind λ(i,j,A)=>
some ((Ae C c),i,j,A,0)
def Kj:Option (Int32×Int×Int32×Int×LX×LX×Int):=
(Uh z C E l7 l9).bind λc=>
if(Bo c 0)then
some (0,0,0,0,(List.replicate 16 (0:Int32)),(List.replicate 16 (0:Int32)),c)
else
(Uj z C).bind λ(d,e)=>
(gQ E l7 l9 Bcm).bind λ(i,j,A,B,D)=>
(
some ((Ae i d),z,(Ae i d),j,A,B,D))
abbrev Gd:=Option (LX×Int)
def U7:Gd:=
some (e,0)
def nU:=U7
def oR(UE:Int->LX->Gd)(b a:Int)(h:LX):Gd:=
UE (Ae a b) h
def YQ UE:=oR UE
def MM(j20:Int->LX->Gd)(K2:Int->LX->Gd)(b a g:Int)(h:LX):Gd:=
if(Me g 0)then
(Hz (decide (0<= (Ae g 1)/\ (Ae g 1)<((Ae a b)-a)))).bind λ_=>
(Hz (decide (0<=g/\g<((Ae a b)-a)))).bind λ_=>
(Ak h (a+(Ae g 1))).bind λn=>
(Ak h (a+g)).bind λo=>
(Hz (decide (0<=g/\g<((Ae a b)-a)))).bind λ_=>
(Jb h (a+g) (Aj n o)).bind λp=>
K2 (Aj g 1) p
else
j20 a h
def Vt(UE:Int->LX->Gd)(b a:Int):Nat->Int->LX->Gd
|0,_,_=>none
|q+1,g,h=>MM (YQ UE b) (Vt UE b a q) b a g h
def XL UE b a:=Vt UE b a Aq
def WX(j18:Int->Int->LX->Gd)(b a:Int)(u:LX):Gd:=
j18 a (Aj (Aj ((Ae a b)-a) 1) 1) u
def YZ UE b:=WX (XL UE b) b
def XF(j17:Int->LX->Gd)(j22:LX->Gd)(b a:Int)(f:LX):Gd:=
if(Cg a (Ac f))then
(aP (Ac f) a (Ae a b)).bind λ_=>
if(Eu (Aj ((Ae a b)-a) 1) 0)then
(Hz (decide (0<= (Aj ((Ae a b)-a) 1)/\ (Aj ((Ae a b)-a) 1)<((Ae a b)-a)))).bind λ_=>
Option.bind (Hz (decide (0<= (Aj (Aj ((Ae a b)-a) 1) 1)/\ (Aj (Aj ((Ae a b)-a) 1) 1)<((Ae a b)-a)))) λ_=>
(Ak f (a+(Aj ((Ae a b)-a) 1))).bind λv=>
(Ak f (a+(Aj (Aj ((Ae a b)-a) 1) 1))).bind λw=>
(Hz (decide (0<= (Aj ((Ae a b)-a) 1)/\ (Aj ((Ae a b)-a) 1)<((Ae a b)-a)))).bind λ_=>
(Jb f (a+(Aj ((Ae a b)-a) 1)) (Ae v (Ca w 2))).bind λy=>
j17 a y
else
j17 a f
else
j22 f
def Qo:Nat->Int->LX->Gd
|0,_,_=>none
|c+1,d,e=>XF (YZ (Qo c) z) nU z d e
def pB b:=Qo b Aq
def gT(j12:Int->Int->LX->Gd)(b:Int)(k:LX):Gd:=
(VL b k).bind λm=>
if(Bo m 0)then
some (([]:LX),m)
else
(Dd k).bind λaa=>
j12 b 0 aa
def oE:=gT pB
abbrev Bw:=Option (LX×Int)
def LG:Bw:=
(oE z e).bind λ(c,i)=>
if(Bo i 0)then
some (([]:LX),i)
else
(Ui d c).bind λj=>
if(Bo j 0)then
some (([]:LX),j)
else
some (c,0)
def Ko:=LG
def LV(Aov:Int-> (List (Int×Int32×(Int×LX×LX×Unit)×Unit))->LX->Bw)(a:Int)(f:LU)(b g:Int)(y:Int32)(v:Int)(h:List (Int×Int32×(Int×LX×LX×Unit)×Unit))(k:LX)(aa:Int)(w:Int32)(ab:Int)(ac ad:LX):Bw:=
if(Bo v 0)then
some (([]:LX),v)
else
(Jb h (Ge g a) (aa,w,(ab,ac,ad,()),())).bind λai=>
(Db k ([y]:LX)).bind λaj=>
Aov (Ae g 1) ai aj
def Wr Aov:=LV Aov
def Kn(j16:Int->Int32->Int-> (List (Int×Int32×(Int×LX×LX×Unit)×Unit))->LX->Int->Int32->Int->LX->LX->Bw)(j18:Int->Int->LX->Bw)(f:LU)(a b g:Int)(h:List (Int×Int32×(Int×LX×LX×Unit)×Unit))(k:LX):Bw:=
if(Cg g (Ac f))then
(Ak f g).bind λag=>
(Hz (Bo a 0)).bind λ_=>
(Ak h (Ge g a)).bind λ_=>
(
(Ak h (Ge g a)).bind λm=>
(
(Vu ag).bind λae=>
(
(Kj m.1 m.2.1 m.2.2.1.1 m.2.2.1.2.1 m.2.2.1.2.2.1 ae).bind λ(y,aa,w,ab,ac,ad,v)=>
j16 g y v h k aa w ab ac ad)))
else
j18 a b k
def Hv:Nat->Int-> (List (Int×Int32×(Int×LX×LX×Unit)×Unit))->LX->Bw
|0,_,_,_=>none
|z+1,c,d,e=>Kn (Wr (Hv z) y7 R y8) Ko R y7 y8 c d e
def MI f a b:=Hv f a b Aq
def MC(j13:LU->Int->Int->Int-> (List (Int×Int32×(Int×LX×LX×Unit)×Unit))->LX->Bw)(f:LU)(a b:Int)(n:List (Int×Int32×(Int×LX×LX×Unit)×Unit)):Bw:=
j13 f a b 0 n ([]:LX)
def MH:=MC MI
def MF(j12:LU->Int->Int-> (List (Int×Int32×(Int×LX×LX×Unit)×Unit))->Bw)(Aec:Int-> (List (Int×Int32×(Int×LX×LX×Unit)×Unit))->Bw)(f:LU)(a b:Int)(o:LX)(p:Int)(n:List (Int×Int32×(Int×LX×LX×Unit)×Unit)):Bw:=
if(Cg p 6)then
(sX b o).bind λ(ak,af,ae,al,am,w)=>
(Ak n p).bind λ_=>
(Jb n p (ak,af,(ae,al,am,()),())).bind λan=>
Aec (Ae p 1) an
else
j12 f a b n
def Xa:Nat->Int-> (List (Int×Int32×(Int×LX×LX×Unit)×Unit))->Bw
|0,_,_=>none
|z+1,c,d=>MF MH (Xa z) R y7 y8 Bc2 c d
def Wx f a b o:=Xa f a b o Aq
def Yt(j10:LU->Int->Int->LX->Int-> (List (Int×Int32×(Int×LX×LX×Unit)×Unit))->Bw)(a b:Int)(o:LX)(f:LU):Bw:=
j10 f a b o 0 (List.replicate 6 ((0:Int),(0:Int32),((0:Int),(List.replicate 16 (0:Int32)),(List.replicate 16 (0:Int32)),()),()))
def Rg:=Yt Wx
def Tt:Option (LX×Int):=
(Fo z d).bind λc=>
if(Bo c 0)then
some (([]:LX),c)
else
if(Cg B 1)then
some (([]:LX),2)
else
(Hz (Bo z 0)).bind λ_=>
if(Eu B (Ca 4000 z))then
some (([]:LX),2)
else
(CE U).bind λ(i,j)=>
if(Bo j 0)then
some (([]:LX),j)
else
(iy i).bind λ(A,C,D)=>
if(Bo D 0)then
some (([]:LX),D)
else
(CC z B A C).bind λ(E,F,G)=>
if(Bo G 0)then
some (([]:LX),G)
else
if(Me (Aj C F) 8)then
some (([]:LX),12)
else
(CT A C F (Aj C F)).bind λ(I,J)=>
if((Bo J 0)||(Bo I 0))then
some (([]:LX),12)
else
(Rg z d e E).bind λ(L,M)=>
some (L,M)
abbrev mS:=Option (Int×Int)
def uL:mS:=
(By c (Aj (Ac c) 32) (Ac c)).bind λz=>
(ND z 0).bind λ(d,e,i)=>
if i then
if(Cg (Aj (Ac c) 32) d)then
some (0,24)
else
some ((Ae d 32),0)
else
(By c (Aj (Ac c) 32) (Ac c)).bind λj=>
(ND j 2147483648).bind λ(A,B,C)=>
if(!C)then
some (0,12)
else
if(Cg (Ac c) (Ae A 64))then
some (0,24)
else
(By c (Aj (Ac c) (Ae A 64)) (Ae (Aj (Ac c) (Ae A 64)) 32)).bind λD=>
(iM A B 2684354560).bind λE=>
(Gz D E).bind λF=>
if(!F)then
some (0,12)
else
some ((Ae A 64),0)
def tA:=uL
def uB(j2:LB->mS)(a:LB):mS:=
if(Cg (Aj (Ac a) 32) 0)then
some (0,6)
else
(By a (Aj (Ac a) 32) (Ac a)).bind λv=>
(Kh v ([(65:UInt8),(80:UInt8),(69:UInt8),(84:UInt8),(65:UInt8),(71:UInt8),(69:UInt8),(88:UInt8)]:LB)).bind λw=>
if(!w)then
some (0,6)
else
j2 a
def nY:=uB tA
abbrev Fc:=Option (Int×Int)
def sJ:Fc:=
some (z,0)
def WC:=sJ
def WK(bk8:Int->LB->Fc)(a:Int)(g:LB):Fc:=
bk8 (Ae a 1) g
def WH bk8:=WK bk8
def WA(j12:Int->LB->Fc)(a f:Int)(b:LB):Fc:=
if(geq f 0)then
some (0,38)
else
(By b 0 (Aj (Ac b) f)).bind λg=>
j12 a g
def GA bk8:=WA (WH bk8)
def KU(j11:Int->Int->LB->Fc)(j14:Int->Fc)(a:Int)(b:LB):Fc:=
if(Eu (Ac b) 0)then
(nY b).bind λ(f,k)=>
j11 a f b
else
j14 a
def Re:Nat->Int->LB->Fc
|0,_,_=>none
|q+1,a,b=>KU (GA (Re q)) WC a b
def vA:=Re Aq
def KR(j8:Int->LB->Fc)(h:LB):Fc:=
if(Eu (Ac h) 4000)then
some (0,38)
else
j8 0 h
def MO:=KR vA
abbrev Bp:=Option (Int×Int×Int×LX×Int)
def cK:Bp:=
(By c z (Ac c)).bind λi=>
(MO i).bind λ(A,B)=>
if(Bo B 0)then
some (0,0,0,([]:LX),38)
else
some (d,j,F,e,0)
def OX:=cK
def dZ(Aeb:Int->Int->LX->Bp)(a:LB)(w:LI)(m f g h o p n b ab ae:Int)(ac:LX)(k:LI)(y aj ak aa:Int)(an ad:LX):Bp:=
if(Bo ak 0)then
some (0,0,0,([]:LX),ak)
else
(Db ad an).bind λau=>
Aeb (Ae y aj) (Ae aa 1) au
def OT Aeb:=dZ Aeb
def CU(j24:Int->Int->Int->Int->LX->LX->Bp)(j26:LB->Int->Int->Int->Int->LX->Bp)(a:LB)(w:LI)(m f g h o p n b ab ae:Int)(ac:LX)(k:LI)(y aa:Int)(ad:LX):Bp:=
if(Cg aa (Ac w))then
(Ak w aa).bind λ_=>
(Ak w aa).bind λaj=>
if(Cg (Ac a) (Ae y aj))then
some (0,0,0,([]:LX),24)
else
(Ak k aa).bind λ_=>
(By a y (Ae y aj)).bind λav=>
(Ak k aa).bind λaw=>
(Tt f g ac aw av).bind λ(an,ak)=>
j24 y aj ak aa an ad
else
j26 a y f g h ad
def Ox:Nat->Int->Int->LX->Bp
|0,_,_,_=>none
|i+1,A,B,C=>CU (OT (Ox i) c D z d j F O y9 Bci Bdb Bdc Bdd e T) OX c D z d j F O y9 Bci Bdb Bdc Bdd e T A B C
def eC a w m f g h o p n b ab ae ac k:=Ox a w m f g h o p n b ab ae ac k Aq
def Pg(j21:LB->LI->Int->Int->Int->Int->Int->Int->Int->Int->Int->Int->LX->LI->Int->Int->LX->Bp)(a u:LB)(m f g h o p n b:Int)(k:LI)(ao ab ae:Int)(w:LI):Bp:=
if(Bo ao 0)then
some (0,0,0,([]:LX),ao)
else
(GN u).bind λ(ac,bc)=>
j21 a w m f g h o p n b ab ae ac k ab 0 ([]:LX)
def Oy:=Pg eC
def OA(j20:LB->LB->Int->Int->Int->Int->Int->Int->Int->Int->LI->Int->Int->Int->LI->Bp)(a u:LB)(v:LI)(m f g h o p n b af:Int)(k:LI):Bp:=
j20 a u m f g h o p n b k 0 (Ae (Ae b (Bg 4 (Ac v))) 4) af v
def ON:=OA Oy
def BS(j19:LB->LB->LI->Int->Int->Int->Int->Int->Int->Int->Int->Int->LI->Bp)(Avn:Int->Int->Bp)(v:LI)(a u:LB)(m f g h o p n b:Int)(k:LI)(ag af:Int):Bp:=
if(Cg ag (Ac v))then
(Ak v ag).bind λ_=>
(Ak v ag).bind λax=>
Avn (Ae ag 1) (Ae af ax)
else
j19 a u v m f g h o p n b af k
def Oh:Nat->Int->Int->Bp
|0,_,_=>none
|z+1,c,d=>BS ON (Oh z) D i U G Bb9 Bcx Bdi Bdj Bdk Bdl Bdm Bc3 c d
def cI v a u m f g h o p n b k:=Oh v a u m f g h o p n b k Aq
def AW(j20:LB->LB->Int->Int->Int->Int->Int->Int->Int->Int->LI->Int->Int->Int->LI->Bp)(j17:LI->LB->LB->Int->Int->Int->Int->Int->Int->Int->Int->LI->Int->Int->Bp)(al:Int)(a u:LB)(m f g h o p n b ah ai:Int)(v k:LI):Bp:=
if(Bo al 0)then
j20 a u m f g h o p n b k al ah ai ([]:LI)
else
j17 v a u m f g h o p n b k 0 (Ae (Ae b (Bg 4 (Ac v))) 4)
def NI:=AW Oy cI
def PK(j20:LB->LB->Int->Int->Int->Int->Int->Int->Int->Int->LI->Int->Int->Int->LI->Bp)(j16:Int->LB->LB->Int->Int->Int->Int->Int->Int->Int->Int->Int->Int->LI->LI->Bp)(a u:LB)(m f g h o p n b ah ai:Int)(k:LI):Bp:=
if(Cg (Ac a) b)then
j20 a u m f g h o p n b k 24 ah ai ([]:LI)
else
(By a b (Ac a)).bind λay=>
(GB ay (Ac k)).bind λ(v,al)=>
j16 al a u m f g h o p n b ah ai v k
def CM:=PK Oy NI
def CJ(j15:LB->LB->Int->Int->Int->Int->Int->Int->Int->Int->Int->Int->LI->Bp)(a u:LB)(m f g h o p n b ah ai:Int)(k:LI)(am:Int):Bp:=
if(Bo am 0)then
some (0,0,0,([]:LX),am)
else
j15 a u m f g h o p n b ah ai k
def Oz:=CJ CM
def TC(j14:LB->LB->Int->Int->Int->Int->Int->Int->Int->Int->Int->Int->LI->Int->Bp)(a u:LB):Bp:=
if(Eu (Ac u) 64)then
some (0,0,0,([]:LX),2)
else
(Pu a).bind λ(m,f,g,h,o,p,n,b,ah,ai,k,ap)=>
if(Bo ap 0)then
some (0,0,0,([]:LX),ap)
else
if((u==([]:LB)) !=(geq m 1))then
j14 a u m f g h o p n b ah ai k 26
else
if(geq m 1)then
j14 a u m f g h o p n b ah ai k 0
else
if(Cg (Ac a) b)then
j14 a u m f g h o p n b ah ai k 24
else
(By a n b).bind λaz=>
(Vv az u).bind λ(ba,bd)=>
if(!ba)then
j14 a u m f g h o p n b ah ai k 26
else
j14 a u m f g h o p n b ah ai k 0
def Hl:=TC Oz
def gX:Option Int:=
if((((Cg z 1)||(Eu z 6))||(Cg j 1))||(Eu j 1048576))then
some 8
else
if(geq d 8)then
if(geq d 8)then
some 0
else
some 8
else
if(geq d 16)then
if(geq d 16)then
some 0
else
some 8
else
if(geq d 24)then
some 0
else
some 8
def kP:Option (Bool×Int):=
(gX z d j).bind λc=>
if(Bo c 0)then
some (false,c)
else
some (((Eu z 2)||(Eu d 16)),0)
def sW:Option (LB):=
if N then
(By ([(1:UInt8),(0:UInt8),(0:UInt8),(0:UInt8),(0:UInt8),(0:UInt8),(16:UInt8),(0:UInt8),(128:UInt8),(0:UInt8),(0:UInt8),(170:UInt8),(0:UInt8),(56:UInt8),(155:UInt8),(113:UInt8)]:LB) 0 16).bind λz=>
(Db Bcy z).bind λc=>
some c
else
some Bcy
def VR:=sW
def UH(j8:Bool->LB->Option (LB))(K3:Int->LB->Option (LB))(a:Bool)(h:Int)(f:LQ)(g:Int)(b:LB):Option (LB):=
if(Cg g h)then
(Ak f g).bind λ_=>
(Ak f g).bind λv=>
(Ak ([(2:Int),(2:Int),(4:Int),(4:Int),(2:Int),(2:Int),(2:Int),(2:Int),(4:Int)]:LI) g).bind λw=>
(Li v w).bind λ(y,ac)=>
(Db b y).bind λaa=>
K3 (Ae g 1) aa
else
j8 a b
def FU:Nat->Int->LB->Option (LB)
|0,_,_=>none
|z+1,c,d=>UH VR (FU z) N G Bc7 c d
def qP a h f:=FU a h f Aq
def VT(j6:Bool->Int->LQ->Int->LB->Option (LB))(a:Bool)(h:Int)(f:LQ):Option (LB):=
j6 a h f 0 ([]:LB)
def sO:=VT qP
def UO(j5:Bool->Int->LQ->Option (LB))(m k n:Int)(a:Bool)(o:UInt64):Option (LB):=
if a then
(Ak ([(1:UInt64),(Ad m:UInt64),(Ad n:UInt64),(Bg (Ad n:UInt64) (Ad (Ca (Bg m k) 8):UInt64)),(Ad (Ca (Bg m k) 8):UInt64),(Ad k:UInt64),(22:UInt64),(Ad k:UInt64),o]:LQ) 0).bind λ_=>
(Jb ([(1:UInt64),(Ad m:UInt64),(Ad n:UInt64),(Bg (Ad n:UInt64) (Ad (Ca (Bg m k) 8):UInt64)),(Ad (Ca (Bg m k) 8):UInt64),(Ad k:UInt64),(22:UInt64),(Ad k:UInt64),o]:LQ) 0 65534).bind λab=>
j5 a 9 ab
else
j5 a 6 ([(1:UInt64),(Ad m:UInt64),(Ad n:UInt64),(Bg (Ad n:UInt64) (Ad (Ca (Bg m k) 8):UInt64)),(Ad (Ca (Bg m k) 8):UInt64),(Ad k:UInt64),(22:UInt64),(Ad k:UInt64),o]:LQ)
def kZ:=UO sO
def gY:Option (LB×Int):=
(kP z d j).bind λ(c,e)=>
if(Bo e 0)then
some (([]:LB),e)
else
(Hz (Me z 0)).bind λ_=>
(kZ z d j c (Aj (Cy (1:UInt64) (GI.toZ z).toNat) 1)).bind λi=>
some (i,0)
abbrev Cv:=Option (LB×Int)
def uX:Cv:=
some (c,0)
def aZ:=uX
def aU(Lh:Int->LB->Cv)(b:Int)(a:LX)(f:Int)(h:LB):Cv:=
Lh (Ae f 1) h
def KO Lh:=aU Lh
def Xy(j28:Int->LB->Cv)(Aed:Int->LB->Cv)(b:Int)(a:LX)(k:Int32)(f m:Int)(h:LB):Cv:=
if(Cg m (Ca b 8))then
(Hz (Me (Bg 8 m) 0)).bind λ_=>
(Db h ([(Ad (Bv k (GI.toZ (Bg 8 m)).toNat):UInt8)]:LB)).bind λp=>
Aed (Ae m 1) p
else
j28 f h
def Hx(Lh:Int->LB->Cv)(b:Int)(a:LX)(k:Int32)(f:Int):Nat->Int->LB->Cv
|0,_,_=>none
|q+1,m,h=>Xy (KO Lh b a) (Hx Lh b a k f q) b a k f m h
def KY Lh b a k f:=Hx Lh b a k f Aq
def KD(j26:Int32->Int->Int->LB->Cv)(b:Int)(a:LX)(f:Int)(g:LB)(k:Int32):Cv:=
j26 k f 0 g
def Mv Lh b a:=KD (KY Lh b a) b a
def Yc(j25:Int->LB->Int32->Cv)(j30:LB->Cv)(b:Int)(a:LX)(f:Int)(g:LB):Cv:=
if(Cg f (Ac a))then
(Ak a f).bind λn=>
if(geq b 8)then
j25 f g (Ae n 128)
else
j25 f g n
else
j30 g
def Fp:Nat->Int->LB->Cv
|0,_,_=>none
|c+1,d,i=>Yc (Mv (Fp c) z e) aZ z e d i
def vB b a:=Fp b a Aq
def PR(j16:Int->LX->Int->LB->Cv)(b:Int)(a:LX):Cv:=
(Ui b a).bind λo=>
if(Bo o 0)then
some (([]:LB),o)
else
j16 b a 0 ([]:LB)
def JW:=PR vB
def yV:Option Bool:=
some (geq (Ac c) 4)
def fV:=yV
def fF(j6:LB->Option Bool)(Ps:Int->Option Bool)(a:LB)(b:Int):Option Bool:=
if(Cg b (Ac a))then
(Ak a b).bind λ_=>
(Ak a b).bind λf=>
if((Cg f 32)||(Eu f 126))then
some false
else
Ps (Ae b 1)
else
j6 a
def QC:Nat->Int->Option Bool
|0,_=>none
|z+1,d=>fF fV (QC z) c d
def yG a:=QC a Aq
def gI(j4:LB->Int->Option Bool)(a:LB):Option Bool:=
j4 a 0
def dC:=gI yG
def jw:Option Int:=
some z
def oF:=jw
def oN:Option Int:=
if(Cg Bc5 (Ac o9))then
(Ak o9 Bc5).bind λz=>
Bcc (Ae Bcu (Ae (Ae 8 (Ac z.2.1)) (Dr (Ac z.2.1) 1))) (Ae Bc5 1)
else
Bcg Bcu
def XI:Nat->Int->Int->Option Int
|0,_,_=>none
|z+1,c,d=>oN oF (XI z) o9 c d
def T0 a:=XI a Aq
def oQ(j4:(List (LB×LB×Unit))->Int->Int->Option Int)(a:List (LB×LB×Unit)):Option Int:=
j4 a 4 0
def UQ:=oQ T0
def YE(a f:LB):Option Bool:=
(dC a).bind λb=>
some (!b)
def xW:Option Int:=
some 0
def H7:=xW
def C1:Option Int:=
if Bcw then
some 8
else
Bcf
def DH:=C1 H7
def yA:Option Int:=
Bch Bc9
def fC:=yA DH
def yX:Option Int:=
Bch (Me (-1:Int) (0:Int))
def gR:=yX fC
def C0(Aow:Int->Option Int)(a:List (LB×LB×Unit))(b:Int):Option Int:=
Aow (Ae b 1)
def xL Aow:=C0 Aow
def H5(j26:Bool->Option Int)(j23:Int->Option Int)(a:List (LB×LB×Unit))(b:Int)(g:Bool):Option Int:=
if g then
j26 (Me b 0)
else
j23 b
def gP Aow a:=H5 fC (xL Aow a) a
def gA(j22:Int->Bool->Option Int)(j25:Option Int)(a:List (LB×LB×Unit))(b:Int):Option Int:=
if(Cg b (Ac a))then
(Ak a b).bind λk=>
(YE k.1 k.2.1).bind λg=>
j22 b g
else
j25
def PB:Nat->Int->Option Int
|0,_=>none
|z+1,c=>gA (gP (PB z) o9) gR o9 c
def yR a:=PB a Aq
def yU:Option Int:=
Bch Bc9
def eH:=yU DH
def yB:Option Int:=
Bch (Me (-1:Int) (0:Int))
def fX:=yB eH
def yY(KZ:Int->Option Int)(a:List (LB×LB×Unit))(f:Int):Option Int:=
KZ (Ae f 1)
def xR KZ:=yY KZ
def yW(j34:Bool->Option Int)(j31:Int->Option Int)(a:List (LB×LB×Unit))(f:Int)(h:Bool):Option Int:=
if h then
j34 (Me f 0)
else
j31 f
def gG KZ a:=yW eH (xR KZ a) a
def gC(j30:Int->Bool->Option Int)(j33:Option Int)(a:List (LB×LB×Unit))(f:Int):Option Int:=
if(Cg f (Ac a))then
(Ak a f).bind λm=>
(YE m.1 m.2.1).bind λh=>
j30 f h
else
j33
def PC:Nat->Int->Option Int
|0,_=>none
|z+1,c=>gC (gG (PC z) o9) fX o9 c
def zZ a:=PC a Aq
def SY(j35:Bool->Option Int)(j19:(List (LB×LB×Unit))->Int->Option Int)(j27:(List (LB×LB×Unit))->Int->Option Int)(u:LB)(a:List (LB×LB×Unit)):Option Int:=
if(Eu (Ac a) 20)then
some 4
else
(dC u).bind λv=>
if(!v)then
if true then
j35 true
else
j19 a 0
else
(UQ a).bind λw=>
if(Eu (Ae w 8) 100000)then
j35 true
else
j27 a 0
def FQ:=SY DH yR zZ
def iI:Option LB:=
(Li (Ad B:UInt64) 4).bind λ(z,_)=>
(Db c i).bind λd=>
Db d z
def nN:List (LB×LB×Unit)->LB->Option LB
|[],o=>some o
|c::l,o=>
(iI o c.1 (Ac c.2.1)).bind λp=>
(Db p c.2.1).bind λu=>
(mkI (Dr (Ac c.2.1) 1) (0:UInt8)).bind λz=>
(Db u z).bind λv=>
nN l v
def ZM:Option (LB×Int):=
(FQ c o9).bind λz=>
if(Bo z 0)then
some (([]:LB),z)
else
(UQ o9).bind λd=>
(iI [] [82,73,70,70] d).bind λe=>
(Db e c).bind λi=>
(nN o9 i).bind λj=>
some (j,0)
def P9:Option (LB×Int):=
(Cx z d j e).bind λc=>
if(Bo c 0)then
some (([]:LB),c)
else
(gY z d j).bind λ(i,A)=>
(JW d e).bind λ(B,C)=>
(ZM ([87,65,86,69]:LB) ([(([102,109,116,32]:LB),i,()),(([100,97,116,97]:LB),B,())]:List (LB×LB×Unit))).bind λ(D,E)=>
some (D,E)
def K6:Option (LB×Int):=
(Hl c i).bind λ(z,d,e,j,A)=>
if(Bo A 0)then
some (([]:LB),A)
else
(P9 z d e j).bind λ(B,C)=>
some (B,C)
def SK:Option Int:=
(Hl c i).bind λ(z,d,e,j,A)=>
some A
def Cl:Option Bool:=
(Hl c i).bind λ(z,d,e,j,A)=>
(K6 c i).bind λ(C,D)=>
(SK c i).bind λE=>
some (((((geq E B)&&(geq A B))&&(geq D B))&&((geq B 0)==(Eu (Ac j) 0)))&&((geq B 0)==(Eu (Ac C) 0)))
def Gt:Option Bool:=
(My [120]).bind λb=>
if(Cg (Ac b) 40)then
some false
else
(Db [] b).bind λf=>
(Ak f (Aj (Ac f) 6)).bind λg=>
(Jb f (Aj (Ac f) 6) (Qv g 1)).bind λh=>
(Cl b [120] 0).bind λk=>
if(!k)then
some false
else
(Cl b [] 26).bind λm=>
if(!m)then
some false
else
(Cl b [121] 26).bind λn=>
if(!n)then
some false
else
(Db b [0]).bind λo=>
(Cl o [120] 38).bind λp=>
if(!p)then
some false
else
(By b 0 (Aj (Ac b) 1)).bind λu=>
(Cl u [120] 24).bind λv=>
if(!v)then
some false
else
Cl h [120] 22
def CB:Option Bool:=
some (((Eu (Ac c) 4000)&&(Cg (Ac c) 99900))||(Eu (Ac c) 100100))
abbrev De:=Option (Int×Int×Int×Int×Int×Int)
def aX(a:LB)(m n o p u f g b ad y:Int)(h:LI):De:=
if(Cg (Ac a) y)then
some (0,0,0,0,0,24)
else
some (f,g,b,ad,y,0)
def aL:=aX
def aF(j12:LB->Int->Int->Int->Int->Int->Int->Int->Int->Int->Int->LI->De)(a:LB)(m n o p u f g b:Int)(h:LI)(ae ad y:Int):De:=
if(Bo ae 0)then
some (0,0,0,0,0,ae)
else
j12 a m n o p u f g b ad y h
def Mu:=aF aL
def aD(j11:LB->Int->Int->Int->Int->Int->Int->Int->Int->LI->Int->Int->Int->De)(a:LB)(k:LI)(m n o p u f g b v:Int)(h:LI):De:=
j11 a m n o p u f g b h 0 (Ae (Ae b (Bg 4 (Ac k))) 4) v
def Yd:=aD Mu
def AN(j10:LB->LI->Int->Int->Int->Int->Int->Int->Int->Int->Int->LI->De)(bk8:Int->Int->De)(k:LI)(a:LB)(m n o p u f g b:Int)(h:LI)(w v:Int):De:=
if(Cg w (Ac k))then
(Ak k w).bind λ_=>
(Ak k w).bind λag=>
bk8 (Ae w 1) (Ae v ag)
else
j10 a k m n o p u f g b v h
def Oi:Nat->Int->Int->De
|0,_,_=>none
|z+1,c,d=>AN Yd (Oi z) D i B L Y Z l5 l6 G Bb9 Bc3 c d
def fA k a m n o p u f g b h:=Oi k a m n o p u f g b h Aq
def QI(j11:LB->Int->Int->Int->Int->Int->Int->Int->Int->LI->Int->Int->Int->De)(j8:LI->LB->Int->Int->Int->Int->Int->Int->Int->Int->LI->Int->Int->De)(aa:Int)(a:LB)(m n o p u f g b ab ac:Int)(k h:LI):De:=
if(Bo aa 0)then
j11 a m n o p u f g b h aa ab ac
else
j8 k a m n o p u f g b h 0 (Ae (Ae b (Bg 4 (Ac k))) 4)
def hU:=QI Mu fA
def OE(j11:LB->Int->Int->Int->Int->Int->Int->Int->Int->LI->Int->Int->Int->De)(j7:Int->LB->Int->Int->Int->Int->Int->Int->Int->Int->Int->Int->LI->LI->De)(a:LB):De:=
(Pu a).bind λ(m,n,o,p,u,f,g,b,ab,ac,h,af)=>
if(Bo af 0)then
some (0,0,0,0,0,af)
else
if(Cg (Ac a) b)then
j11 a m n o p u f g b h 24 ab ac
else
(By a b (Ac a)).bind λah=>
(GB ah (Ac h)).bind λ(k,aa)=>
j7 aa a m n o p u f g b ab ac k h
def KA:=OE Mu hU
def Dx(a b f:Int)(g:LX):Option (Int×Int):=
some (a,b)
def Hu:Option Int:=
if(geq z 8)then
some 128
else
if(geq z 16)then
some 32768
else
if(geq z 24)then
some 8388608
else
some 0
def Cf:Option Int:=
if((Cg z 1)||(Eu z 6))then
some 2
else
(Hu d).bind λc=>
if(geq c 0)then
some 2
else
some 0
def bR:Option Int:=
some 0
def EA:=bR
def Cc:Option Int:=
if(Cg p9 (Ac q9))then
(Ak q9 p9).bind λz=>
if(Cg (Ad z:Int) (nP E))then
some 16
else
(Ak q9 p9).bind λc=>
if(Me (Ad c:Int) E)then
some 16
else
Bcg (Ae p9 1)
else
Bcf
def Ay:Nat->Int->Option Int
|0,_=>none
|z+1,c=>Cc EA (Ay z) e B c
def bX a b:=Ay a b Aq
def Cs(j4:LX->Int->Int->Option Int)(k:Int)(a:LX):Option Int:=
(Hu k).bind λb=>
if(geq b 0)then
some 2
else
if(Eu (Ac a) 4000)then
some 4
else
j4 a b 0
def Ap:=Cs bX
def Bm:Option Int:=
(Cf z d).bind λc=>
if(Bo c 0)then
some 2
else
(Ap d e).bind λi=>
if(Bo i 0)then
(Ap d e).bind λj=>
some j
else
if(Cg (Ac e) 1)then
some 2
else
(Hz (Bo z 0)).bind λ_=>
if(Eu (Ge (Ac e) z) 0)then
some 2
else
some 0
def Cr:Option Int:=
(Cf z d).bind λc=>
if((Bo c 0)||(Cg j 1))then
some 2
else
(Hz (Bo z 0)).bind λ_=>
if(Eu j (Ca 4000 z))then
some 2
else
some 0
def Nb:Option (Int×Int):=
if((Cg z 1)||(Eu z 1048576))then
some (0,2)
else
if(geq (Ca (Bg z 256) 245) 0)then
some (1,0)
else
some ((Ca (Bg z 256) 245),0)
abbrev Gs:=Option (LI×Int)
def Oa:Gs:=
if(Eu (Ac D) 1000)then
some (([]:LI),4)
else
some (D,0)
def Ks:=Oa
def Gg(j6:LI->Gs)(Ps:Int->LI->Gs)(b f:Int)(a:LI):Gs:=
if(Eu f 0)then
(Db a ([(Gi f b)]:LI)).bind λh=>
Ps (Aj f (Gi f b)) h
else
j6 a
def Cu:Nat->Int->LI->Gs
|0,_,_=>none
|c+1,d,e=>Gg Ks (Cu c) z d e
def Ws b:=Cu b Aq
def Kt(j4:Int->Int->LI->Gs)(k g:Int):Gs:=
(Nb k).bind λ(b,m)=>
if(((Bo m 0)||(Cg g 1))||(Eu g 4000))then
some (([]:LI),2)
else
j4 b g ([]:LI)
def Pp:=Kt Ws
def Fe:Option (Int×Int):=
(Pp z d).bind λ(c,e)=>
some ((Ac c),e)
def Tq:Option Bool:=
(Dx z d j e).bind λ(c,i)=>
(Cr c i B).bind λA=>
if(Bo A 0)then
some false
else
(Fe j B).bind λ(C,D)=>
some (geq D 0)
def Bk:Option Int:=
(Dx z d j e).bind λ(c,i)=>
(Bm c i e).bind λA=>
if(Bo A 0)then
some 8
else
(Hz (Bo z 0)).bind λ_=>
(Tq z d j e (Ca (Ac e) z)).bind λB=>
if(!B)then
some 8
else
some 0
def Vy:Option Bool:=
(KA c).bind λ(z,d,e,j,A,B)=>
(Bk G Bb9 Bcx M).bind λC=>
if(((((Bo C 0)||(Bo B 0))||(Cg z 0))||(Eu z A))||(Eu A (Ac c)))then
some false
else
(JV G Bb9 Bcx M i).bind λ(D,E)=>
if(N&&(geq E 0))then
(By c z A).bind λF=>
some (D==F)
else
some false
def Wb:=Vy
def We(j2:LB->LB->Bool->Int->Int->Int->LX->Option Bool)(a b:LB):Option Bool:=
(Gt).bind λf=>
(CB a).bind λab=>
if((ab||(Eu (Ac b) 64))||(!f))then
some f
else
(Hl a b).bind λ(k,m,n,g,p)=>
if(Bo p 0)then
if(f&&(geq (Ac g) 0))then
(SK a b).bind λh=>
some (geq h p)
else
some false
else
j2 a b f k m n g
def Qg:=We Wb
def uC:Option (LB):=
(
(Db ([]:LB) c).bind λz=>
some z)
def fZ:Option (LI):=
(
(Db ([]:LI) D).bind λz=>
some z)
def X2:Option (LB×LB×Int×Int×Int×Int×Int×LI×Int×LB×Bool×Int):=
(uC i).bind λz=>
(uC U).bind λd=>
(fZ V).bind λe=>
some (c,z,B,L,Y,Z,l5,e,l6,d,N,G)
def Ww:Option Bool:=
if((((geq z 1)||(geq z 2))&&(Me d 1))&&(gle d 6))then
some ((((((geq j 8)||(geq j 16))||(geq j 24))&&(Me F 1))&&(gle F 1048576))&&(Me O 1))
else
some (((false&&(Me F 1))&&(gle F 1048576))&&(Me O 1))
def Tl:Option Int:=
some (oA 1 (Ca (Bg 256 z) 245))
def Md:Option (LI):=
some D
def Mh:=Md
def Il(j6:LI->Option (LI))(Ps:Int->LI->Option (LI))(a f:Int)(b:LI):Option (LI):=
if(Eu f 0)then
(Tl a).bind λg=>
(Db b ([(Gi f g)]:LI)).bind λh=>
(Tl a).bind λk=>
Ps (Aj f k) h
else
j6 b
def En:Nat->Int->LI->Option (LI)
|0,_,_=>none
|c+1,d,e=>Il Mh (En c) z d e
def DY a:=En a Aq
def EM(j4:Int->Int->LI->Option (LI))(a m:Int):Option (LI):=
j4 a m ([]:LI)
def Di:=EM DY
def DK(h a k f b:Int):Option Bool:=
(
(Hz (Bo a 0)).bind λ_=>
(
if(Eu b (Ca 4000 a))then
some true
else
(Di f b).bind λg=>
some (Eu (Ac g) 1000)))
def lX(a f g h k:Int)(b:LB):Option Int:=
if((b==([]:LB)) !=(geq a 1))then
some 26
else
some 0
def DI:Option Int:=
if(Eu z 100000)then
some 8
else
some 0
def CV:=DI
def EO:Option Int:=
(Ak Bcz Bcd).bind λz=>
Bcc (Ae Bcn z) (Ae Bcd 1)
def EU K3:=EO K3
def So:Option Int:=
if(Cg Bc1 (Ac Bc6))then
(Ak Bc6 Bc1).bind λz=>
if(Cg z 5)then
some 8
else
(Ak Bc6 Bc1).bind λc=>
if(Eu c 100000)then
some 8
else
Bcc Bdf Bc1
else
Bdq Bdf
def Iq:Nat->Int->Int->Option Int
|0,_,_=>none
|z+1,c,d=>So (EU (Iq z) D) CV D c d
def FA a:=Iq a Aq
def Ry(j6:LI->Int->Int->Option Int)(a:LI):Option Int:=
if((Cg (Ac a) 1)||(Eu (Ac a) 1000))then
some 8
else
j6 a 0 0
def Is:=Ry FA
def IU(g h k a b:Int):Option (LI):=
(Di a b).bind λf=>
some f
def mI(f a b g h:Int):Option (Int×Int):=
some (a,b)
abbrev Fb:=Option (Int×Int)
def bL:Fb:=
some (z,0)
def bY:=bL
def Sn(j6:Int->Fb)(Ps:Int->Int->Fb)(a:LB)(b f:Int):Fb:=
if(Cg f 4)then
(Ak a f).bind λg=>
if(Me g 128)then
some (0,12)
else
(Ak a f).bind λh=>
Ps (Ae (Bg 128 b) (Ad h:Int)) (Ae f 1)
else
j6 b
def Io:Nat->Int->Int->Fb
|0,_,_=>none
|z+1,d,e=>Sn bY (Io z) c d e
def EH a:=Io a Aq
def EY(j4:LB->Int->Int->Fb)(a:LB):Fb:=
if(Bo (Ac a) 4)then
some (0,2)
else
j4 a 0 0
def Yr:=EY EH
abbrev Gh:=Option (Int×Int)
def JA:Gh:=
if(Eu z 4000)then
some (0,4)
else
if(Cg (Ac c) z)then
some (0,24)
else
(Ak c 5).bind λd=>
if(geq d 16)then
(By c (Aj z 10) z).bind λe=>
(By c 3 10).bind λi=>
(Db ([51,68,73]:LB) i).bind λj=>
if(e !=j)then
some (0,12)
else
some (z,0)
else
some (z,0)
def Tu:=JA
def HR(j6:LB->Int->Gh)(a:LB)(b:Int):Gh:=
(Ak a 5).bind λo=>
if(geq o 16)then
j6 a (Ae (Ae 10 b) 10)
else
j6 a (Ae 10 b)
def Ua:=HR Tu
def IF(j5:LB->Int->Gh)(a:LB):Gh:=
if(Cg (Ac a) 10)then
some (0,24)
else
(By a 6 10).bind λp=>
(Yr p).bind λ(b,f)=>
(Ak a 3).bind λu=>
if(Cg u 2)then
if true then
if true then
if(true||(Bo f 0))then
some (0,12)
else
j5 a b
else
(Ak a 5).bind λv=>
if(Bo v 0)then
(Ak a 5).bind λw=>
if(Bo w 16)then
if(true||(Bo f 0))then
some (0,12)
else
j5 a b
else
(Ak a 3).bind λy=>
if((Bo y 4)||(Bo f 0))then
some (0,12)
else
j5 a b
else
if(false||(Bo f 0))then
some (0,12)
else
j5 a b
else
(Ak a 4).bind λaa=>
if(Bo aa 0)then
if(true||(Bo f 0))then
some (0,12)
else
j5 a b
else
(Ak a 5).bind λab=>
if(Bo ab 0)then
(Ak a 5).bind λac=>
if(Bo ac 16)then
if(true||(Bo f 0))then
some (0,12)
else
j5 a b
else
(Ak a 3).bind λad=>
if((Bo ad 4)||(Bo f 0))then
some (0,12)
else
j5 a b
else
if(false||(Bo f 0))then
some (0,12)
else
j5 a b
else
(Ak a 3).bind λae=>
if(Eu ae 4)then
if true then
if(true||(Bo f 0))then
some (0,12)
else
j5 a b
else
(Ak a 5).bind λaf=>
if(Bo af 0)then
(Ak a 5).bind λag=>
if(Bo ag 16)then
if(true||(Bo f 0))then
some (0,12)
else
j5 a b
else
(Ak a 3).bind λah=>
if((Bo ah 4)||(Bo f 0))then
some (0,12)
else
j5 a b
else
if(false||(Bo f 0))then
some (0,12)
else
j5 a b
else
(Ak a 4).bind λai=>
if(Bo ai 0)then
if(true||(Bo f 0))then
some (0,12)
else
j5 a b
else
(Ak a 5).bind λaj=>
if(Bo aj 0)then
(Ak a 5).bind λak=>
if(Bo ak 16)then
if(true||(Bo f 0))then
some (0,12)
else
j5 a b
else
(Ak a 3).bind λal=>
if((Bo al 4)||(Bo f 0))then
some (0,12)
else
j5 a b
else
if(false||(Bo f 0))then
some (0,12)
else
j5 a b
def JZ:=IF Ua
def HW(j4:LB->Gh)(a:LB):Gh:=
if(Cg (Ac a) 3)then
some (0,6)
else
(By a 0 3).bind λam=>
if(am !=([73,68,51]:LB))then
some (0,6)
else
j4 a
def BF:=HW JZ
def NT:Option UInt64:=
some A
def PN:=NT
def Yy:Option UInt64:=
if(Me o8 0)then
(Ak Bcl o8).bind λz=>
Bcb (Ae (Bg 256 X) (Ad z:UInt64)) (Aj o8 1)
else
Bca X
def Lt:Nat->UInt64->Int->Option UInt64
|0,_,_=>none
|z+1,d,e=>Yy PN (Lt z) c d e
def OV a:=Lt a Aq
def OR(j4:LB->UInt64->Int->Option UInt64)(a:LB):Option UInt64:=
j4 a 0 (Aj (Ac a) 1)
def Da:=OR OV
def Tf:Option (Int×Int×Bool):=
(By c 12 16).bind λz=>
(Da z).bind λd=>
(By c 16 20).bind λe=>
(Da e).bind λi=>
if(((Cg d 32)||(Eu d 3032))||(Eu i 1000))then
some (0,0,false)
else
some ((Aj (Ad d:Int) 32),(Ad i:Int),true)
def Zq:Option (LB):=
some c
def Zd:=Zq
def Pn(j6:LB->Option (LB))(Ps:UInt64->Int->LB->Option (LB))(b:Int)(f:UInt64)(g:Int)(a:LB):Option (LB):=
if(Cg g b)then
(Db a ([(Ad (AG f 256):UInt8)]:LB)).bind λh=>
Ps (Ca f 256) (Ae g 1) h
else
j6 a
def Gu:Nat->UInt64->Int->LB->Option (LB)
|0,_,_,_=>none
|c+1,d,e,i=>Pn Zd (Gu c) z d e i
def Zp b:=Gu b Aq
def Zx(j4:Int->UInt64->Int->LB->Option (LB))(k:UInt64)(b:Int):Option (LB):=
j4 b k 0 ([]:LB)
def Dv:=Zx Zp
def Pe:Option (LB):=
(Dv 2000 4).bind λc=>
(Db ([(65:UInt8),(80:UInt8),(69:UInt8),(84:UInt8),(65:UInt8),(71:UInt8),(69:UInt8),(88:UInt8)]:LB) c).bind λe=>
(Dv (Ad (Ae z 32):UInt64) 4).bind λi=>
(Db e i).bind λj=>
(Dv (Ad d:UInt64) 4).bind λB=>
(Db j B).bind λC=>
(Dv A 4).bind λD=>
(Db C D).bind λE=>
(mkI (8:Int) (0:UInt8)).bind λF=>
(Db E F).bind λG=>
some G
def Ti:Option (LB):=
(Pe z d 2684354560).bind λc=>
some c
def Ke:Option (LB):=
if N then
(Pe z d 2147483648).bind λc=>
some c
else
(Pe z d 0).bind λe=>
some e
abbrev Jn:=Option (Int×Int)
def ES:Jn:=
if(Cg (Ac c) (Ae 64 z))then
some (0,24)
else
(By c (Aj (Ae 64 z) 32) (Ae 64 z)).bind λe=>
(Ke z d true).bind λi=>
if(e !=i)then
some (0,12)
else
some ((Ae 64 z),0)
def FI:=ES
def EJ(j4:LB->Int->Int->Jn)(a:LB):Jn:=
if(Cg (Ac a) 32)then
some (0,24)
else
(By a 0 32).bind λk=>
(Tf k).bind λ(b,f,m)=>
if(!m)then
some (0,12)
else
(By a 0 32).bind λn=>
(Ti b f).bind λo=>
if(n !=o)then
some (0,12)
else
j4 a b f
def ER:=EJ FI
def ED(j3:LB->Jn)(a:LB):Jn:=
if(Cg (Ac a) 8)then
some (0,6)
else
(By a 0 8).bind λp=>
if(p !=([65,80,69,84,65,71,69,88]:LB))then
some (0,6)
else
j3 a
def Yo:=ED ER
abbrev Ff:=Option (LI×Int)
def EP(K3:Int->LI->Ff)(a:LB)(b:Int)(f:LI)(g h:Int):Ff:=
if(geq h 6)then
some (f,0)
else
if(Bo h 0)then
some (([]:LI),h)
else
if(Eu (Ae b g) 4000)then
some (([]:LI),4)
else
(Db f ([g]:LI)).bind λm=>
K3 (Ae b g) m
def Mg K3:=EP K3
def Sr(j9:Int->LI->Int->Int->Ff)(a:LB)(b:Int)(f:LI):Ff:=
(By a b (Ac a)).bind λn=>
(BF n).bind λ(o,k)=>
if(geq k 6)then
(By a b (Ac a)).bind λp=>
(Yo p).bind λ(u,v)=>
j9 b f u v
else
j9 b f o k
def Ma:Nat->Int->LI->Ff
|0,_,_=>none
|z+1,d,e=>Sr (Mg (Ma z) c) c d e
def cC a:=Ma a Aq
def bE(j6:LB->Int->LI->Ff)(a:LB):Ff:=
j6 a 0 ([]:LI)
def OC:=bE cC
abbrev Fl:=Option (Int×Int)
def EC:Fl:=
some (d,z)
def FG:=EC
def Rw(j6:Int->Int->Fl)(Ps:Int->Int->Fl)(a:Int)(b:LI)(f g:Int):Fl:=
if(Cg g (Ac b))then
(Ak b g).bind λ_=>
(Ak b g).bind λh=>
Ps (Ae f h) (Ae g 1)
else
j6 a f
def Ig:Nat->Int->Int->Fl
|0,_,_=>none
|c+1,d,e=>Rw FG (Ig c) z T d e
def Rz a b:=Ig a b Aq
def EN(j4:Int->LI->Int->Int->Fl)(k:LB):Fl:=
(OC k).bind λ(b,a)=>
j4 a b 0 0
def Ly:=EN Rz
def Ny:Option Bool:=
if(Cg (Ac c) (Ac i))then
(By i 0 (Ac c)).bind λz=>
some (c==z)
else
some false
def IX:Option UInt32:=
if Bcw then
some (Qv (Ca I 2) 3988292384)
else
some (Ca I 2)
def HT:=IX
def HH(j2:UInt32->Bool->Option UInt32)(a:UInt32)(f:Int):Option UInt32:=
if(geq f 1)then
j2 a (!(geq (AG a 2) 1))
else
j2 a (geq (AG a 2) 1)
def CZ:=HH HT
def JK:Option UInt32:=
some I
def KC:=JK
def Ux(j6:UInt32->Option UInt32)(Ps:UInt32->UInt8->Int->Option UInt32)(a:UInt32)(b:UInt8)(f:Int):Option UInt32:=
if(Cg f 8)then
(CZ a (Ad (AG b 2):Int)).bind λg=>
Ps g (Ca b 2) (Ae f 1)
else
j6 a
def Jl:Nat->UInt32->UInt8->Int->Option UInt32
|0,_,_,_=>none
|q+1,a,b,f=>Ux KC (Jl q) a b f
def dJ:=Jl Aq
def gS(j4:UInt32->UInt8->Int->Option UInt32)(h:UInt32)(k:UInt8):Option UInt32:=
j4 h k 0
def SH:=gS dJ
def BY:Option UInt32:=
some I
def DS:=BY
def Qe(j6:UInt32->Option UInt32)(Ps:UInt32->Int->Option UInt32)(a:LB)(b:UInt32)(f:Int):Option UInt32:=
if(Cg f (Ac a))then
(Ak a f).bind λg=>
(SH b g).bind λh=>
Ps h (Ae f 1)
else
j6 b
def Ho:Nat->UInt32->Int->Option UInt32
|0,_,_=>none
|z+1,d,e=>Qe DS (Ho z) c d e
def CQ a:=Ho a Aq
def BQ(j4:LB->UInt32->Int->Option UInt32)(k:UInt32)(a:LB):Option UInt32:=
j4 a k 0
def LH:=BQ CQ
def Rh:Option UInt32:=
(LH 4294967295 c).bind λz=>
some (Aj 4294967295 z)
abbrev Gf:=Option (Int×Int×Int×Int×Int×Int)
def IP:Gf:=
(Ww (Ad A:Int) (Ad P:Int) (Ad Bce:Int) (Ad X:Int) (Ad Bct:Int)).bind λz=>
if(!z)then
some (0,0,0,0,0,12)
else
(DK (Ad A:Int) (Ad P:Int) (Ad Bce:Int) (Ad X:Int) (Ad Bct:Int)).bind λc=>
if c then
some (0,0,0,0,0,4)
else
some ((Ad A:Int),(Ad P:Int),(Ad Bce:Int),(Ad X:Int),(Ad Bct:Int),0)
def JG:=IP
def IQ(j6:UInt64->UInt64->UInt64->UInt64->UInt64->Gf)(a:LB):Gf:=
(By a 4 6).bind λu=>
(By a 6 8).bind λp=>
(By a 8 10).bind λo=>
(By a 10 14).bind λn=>
(By a 14 18).bind λm=>
(
(Da u).bind λk=>
(
(Da p).bind λh=>
(
(Da o).bind λg=>
(
(Da n).bind λf=>
(
(Da m).bind λb=>
(
j6 k h g f b))))))
def JN:=IQ JG
def IE(j5:LB->Gf)(a:LB):Gf:=
if(Cg (Ac a) 22)then
some (0,0,0,0,0,24)
else
(By a 18 22).bind λy=>
(By a 0 18).bind λaa=>
(Da y).bind λab=>
(Rh aa).bind λac=>
if(Bo ab (Ad ac:UInt64))then
some (0,0,0,0,0,22)
else
j5 a
def JJ:=IE JN
def HZ(j4:LB->Gf)(a:LB):Gf:=
(By a 0 (Gi 4 (Ac a))).bind λad=>
(By ([84,84,65,49]:LB) 0 (Gi 4 (Ac a))).bind λae=>
if(ad !=ae)then
some (0,0,0,0,0,12)
else
j4 a
def Nd:=HZ JJ
abbrev Qd:=Option (Int×Int×Int×Int×Int×Int×Int)
def Zn:Qd:=
(Nd i).bind λ(c,d,e,j,A,B)=>
if(geq B 24)then
some (0,0,0,0,0,0,(-1:Int))
else
some ((Ae z 22),c,d,e,j,A,B)
def Zb:=Zn
def Ze(j2:Int->LB->Qd)(f:LB):Qd:=
(Ly f).bind λ(b,g)=>
if(geq g 24)then
some (0,0,0,0,0,0,(-1:Int))
else
if(Bo g 0)then
some (0,0,0,0,0,0,g)
else
(By f b (Ac f)).bind λa=>
(Ny a ([73,68,51]:LB)).bind λu=>
if u then
some (0,0,0,0,0,0,(-1:Int))
else
(Ny a ([65,80,69,84,65,71,69,88]:LB)).bind λv=>
if v then
some (0,0,0,0,0,0,(-1:Int))
else
j2 b a
def Ur:=Ze Zb
def JM:Option UInt64:=
if Bcw then
some (Qv (Bg A 2) 4823603603198064275)
else
some (Bg A 2)
def Tv:=JM
def IJ(j2:UInt64->Bool->Option UInt64)(a:UInt64)(f:Int):Option UInt64:=
if(geq f 1)then
j2 a (!(Me a 9223372036854775808))
else
j2 a (Me a 9223372036854775808)
def DA:=IJ Tv
def JS:Option UInt64:=
some A
def HJ:=JS
def Vi:Option UInt64:=
if(Eu q8 0)then
(Hz (Bo q8 0)).bind λ_=>
(DA Bdg (Ge (Ca (Ad Bcv:Int) q8) 2)).bind λz=>
Bcb z (Ca q8 2)
else
Bca Bdg
def Jm:Nat->UInt64->Int->Option UInt64
|0,_,_=>none
|z+1,c,d=>Vi HJ (Jm z) Bcv c d
def dB b:=Jm b Aq
def dR(j4:UInt8->UInt64->Int->Option UInt64)(h:UInt64)(b:UInt8):Option UInt64:=
j4 b h 128
def RJ:=dR dB
def CP:Option UInt64:=
some A
def CN:=CP
def Qn:Option UInt64:=
if(Cg o8 (Ac Bcl))then
(Ak Bcl o8).bind λz=>
(RJ X z).bind λc=>
Bcb c (Ae o8 1)
else
Bca X
def Hn:Nat->UInt64->Int->Option UInt64
|0,_,_=>none
|z+1,d,e=>Qn CN (Hn z) c d e
def YO a:=Hn a Aq
def XC(j4:LB->UInt64->Int->Option UInt64)(k:UInt64)(a:LB):Option UInt64:=
j4 a k 0
def Wk:=XC YO
def SB:Option UInt64:=
(Wk 0 c).bind λz=>
some z
def Jp:Option (LB):=
(SB c).bind λz=>
(Dv z 8).bind λd=>
some d
abbrev Dp:=Option (LI×Int)
def JC:Dp:=
(Is D).bind λz=>
if(Bo z 0)then
some (([]:LI),12)
else
some (D,0)
def Uo:=JC
def Uf(j8:LI->Dp)(K3:Int->LI->Dp)(b:LB)(a g:Int)(f:LI):Dp:=
if(Cg g a)then
(By b (Bg 4 g) (Ae (Bg 4 g) 4)).bind λk=>
(Da k).bind λm=>
(Db f ([(Ad m:Int)]:LI)).bind λn=>
K3 (Ae g 1) n
else
j8 f
def Jk:Nat->Int->LI->Dp
|0,_,_=>none
|d+1,e,i=>Uf Uo (Jk d) c z e i
def JP b a:=Jk b a Aq
def HK(j6:LB->Int->Int->LI->Dp)(b:LB)(a:Int):Dp:=
j6 b a 0 ([]:LI)
def ID:=HK JP
def HM(j5:LB->Int->Dp)(b:LB)(a:Int):Dp:=
if((Cg a 1)||(Eu a 1000))then
some (([]:LI),2)
else
if(Cg (Ac b) (Ae (Bg 4 a) 4))then
some (([]:LI),24)
else
(By b (Bg 4 a) (Ae (Bg 4 a) 4)).bind λo=>
(By b 0 (Bg 4 a)).bind λp=>
(Da o).bind λu=>
(Rh p).bind λv=>
if(Bo u (Ad v:UInt64))then
some (([]:LI),22)
else
j5 b a
def Nf:=HM ID
abbrev Ir:=Option (Int×LI×Int)
def ZG:Ir:=
if(geq d 24)then
some (0,([]:LI),(-1:Int))
else
some ((Ae (Ae z (Bg 4 (Ac T))) 4),T,d)
def YS:=ZG
def ZT(j4:Int->Int->LI->Ir)(a:LB)(b k m n o f:Int):Ir:=
(By a f (Ac a)).bind λp=>
(IU b k m n o).bind λu=>
(Nf p (Ac u)).bind λ(h,g)=>
j4 f g h
def YU:=ZT YS
def ZI(j3:LB->Int->Int->Int->Int->Int->Int->Ir)(a:LB)(b k m n o:Int)(v:LB):Ir:=
if(geq b 2)then
if(Cg (Ac a) 8)then
some (0,([]:LI),(-1:Int))
else
(By a 0 8).bind λw=>
(Jp v).bind λy=>
if(w !=y)then
some (0,([]:LI),26)
else
j3 a b k m n o 8
else
j3 a b k m n o 0
def jN:=ZI YU
def SA:Option (UInt64×Int):=
if(Eu (Ac p8) 100000)then
some (0,4)
else
(Wk A p8).bind λz=>
some (z,0)
def VS:Option (UInt64×Int):=
(SA 0 c).bind λ(z,d)=>
some (z,d)
def jO:Option (LX):=
some e
def jJ:=jO
def PM(K3:UInt64->Int->LX->Option (LX))(b:UInt64)(f:Int)(a:LX)(g:Int32):Option (LX):=
(Ak a f).bind λ_=>
(Jb a f g).bind λh=>
K3 (Ca b 256) (Ae f 1) h
def Yp K3:=PM K3
def Yk(j8:UInt64->Int->LX->Int32->Option (LX))(j10:LX->Option (LX))(b:UInt64)(f:Int)(a:LX):Option (LX):=
if(Cg f 8)then
if(Eu (Ad (AG b 256):Int32) 127)then
j8 b f a (Aj (Ad (AG b 256):Int32) 256)
else
j8 b f a (Ad (AG b 256):Int32)
else
j10 a
def Jd:Nat->UInt64->Int->LX->Option (LX)
|0,_,_,_=>none
|q+1,b,f,a=>Yk (Yp (Jd q)) jJ b f a
def lI:=Jd Aq
def mO(j6:UInt64->Int->LX->Option (LX))(k:UInt64):Option (LX):=
j6 k 0 (List.replicate 16 (0:Int32))
def aO:=mO lI
def Ju:Option (LX×Int):=
if(Eu (Ac c) 64)then
some (([(0:Int32),(0:Int32),(0:Int32),(0:Int32),(0:Int32),(0:Int32),(0:Int32),(0:Int32),(0:Int32),(0:Int32),(0:Int32),(0:Int32),(0:Int32),(0:Int32),(0:Int32),(0:Int32)]:LX),2)
else
(VS c).bind λ(z,d)=>
(aO z).bind λe=>
some (e,0)
def Wn:Option (LB):=
(Rh c).bind λz=>
(Db ([]:LB) c).bind λd=>
(Db d ([(Ad z:UInt8),(Ad (Bv z (GI.toZ (8:UInt64)).toNat):UInt8),(Ad (Bv z (GI.toZ (16:UInt64)).toNat):UInt8),(Ad (Bv z (GI.toZ (24:UInt64)).toNat):UInt8)]:LB)).bind λe=>
some e
def Nw:Option Int:=
if(Cg (Ac c) 5)then
some 24
else
if(Eu (Ac c) 41254)then
some 4
else
(By c 0 (Aj (Ac c) 4)).bind λz=>
(Wn z).bind λd=>
if(d !=c)then
some 22
else
some 0
def Ln:Option (Int×Int×UInt64×UInt64):=
some (10,10,16384,16384)
def bQ:Option UInt64:=
some A
def bD:=bQ
def Sp:Option UInt64:=
if(Cg o8 Bc4)then
Bcb (Bg X 2) (Ae o8 1)
else
Bca X
def Ie:Nat->UInt64->Int->Option UInt64
|0,_,_=>none
|c+1,d,e=>Sp bD (Ie c) z d e
def bN b:=Ie b Aq
def bA(j4:Int->UInt64->Int->Option UInt64)(b:Int):Option UInt64:=
j4 b 1 0
def Fh:=bA bN
def FV(a g:Int)(h k:UInt64)(b:UInt32):Option Bool:=
(Fh a).bind λf=>
some (Cg (Ad b:UInt64) f)
def CF(a g:Int)(h k:UInt64)(b:UInt32):Option UInt32:=
(Fh a).bind λf=>
some (Ad (Aj (Ad b:UInt64) f):UInt32)
abbrev Xc:=Option (Int×UInt64)
def JX:Xc:=
if(Cg z 24)then
(Fh (Ae z 5)).bind λc=>
if(Eu (Aj (Ae A P) (Ca A 16)) c)then
some ((Ae z 1),(Aj (Ae A P) (Ca A 16)))
else
some (z,(Aj (Ae A P) (Ca A 16)))
else
some (z,(Aj (Ae A P) (Ca A 16)))
def Tx:=JX
def IG(j2:Int->UInt64->UInt64->Xc)(b:Int)(a f:UInt64):Xc:=
if(Eu b 0)then
(Fh (Ae b 4)).bind λh=>
if(Cg (Aj (Ae a f) (Ca a 16)) h)then
some ((Aj b 1),(Aj (Ae a f) (Ca a 16)))
else
j2 b a f
else
j2 b a f
def Th:=IG Tx
abbrev Sg:=Option (Int×Int×UInt64×UInt64)
def CY(f:UInt32)(g a:Int)(h b:UInt64)(w:Int)(y:UInt64):Sg:=
(Th g h (Ad f:UInt64)).bind λ(aa,ab)=>
some (aa,w,ab,y)
def Qi:=CY
def AU(j2:UInt32->Int->Int->UInt64->UInt64->Int->UInt64->Sg)(g a:Int)(h b:UInt64)(f:UInt32):Sg:=
(FV g a h b f).bind λo=>
if(!o)then
(
(
(CF g a h b f).bind λk=>
(Th a b (Ad k:UInt64)).bind λ(m,n)=>
j2 f g a h b m n))
else
j2 f g a h b a b
def Wh:=AU Qi
abbrev Eo:=Option (Int×Int×UInt64×UInt64)
def YK:Eo:=
some (z,d,A,P)
def XA:=YK
def CW(j6:Int->Int->UInt64->UInt64->Eo)(Ps:Int->Int->Int->UInt64->UInt64->Eo)(a:Int)(b:LU)(m f g:Int)(h k:UInt64):Eo:=
if(Cg m (Ac b))then
(Ak b m).bind λn=>
(Wh f g h k n).bind λ(o,p,u,v)=>
Ps (Ae m a) o p u v
else
j6 f g h k
def Lb:Nat->Int->Int->Int->UInt64->UInt64->Eo
|0,_,_,_,_,_=>none
|c+1,d,e,i,j,A=>CW XA (Lb c) z R d e i j A
def ZS a b:=Lb a b Aq
def BO(j4:Int->LU->Int->Int->Int->UInt64->UInt64->Eo)(a:Int)(b:LU):Eo:=
(Ln).bind λ(w,y,aa,ab)=>
(Hz (Bo a 0)).bind λ_=>
j4 a b (Ge (Ac b) a) w y aa ab
def Nu:=BO ZS
def QM:Option Int:=
some (Ge z 2)
def QY:=QM
def Yq:Option Int:=
if(Cg Bcu (Ge Bcn 8))then
Bcc (Ca Bcd 2) (Ae Bcu 1)
else
Bcg Bcd
def Lz:Nat->Int->Int->Option Int
|0,_,_=>none
|c+1,d,e=>Yq QY (Lz c) z d e
def QN a:=Lz a Aq
def QP(j4:Int->Int->Int->Option Int)(g:LB)(k a:Int):Option Int:=
(Ak g (Ca a 8)).bind λh=>
j4 a (Ad h:Int) 0
def Ki:=QP QN
abbrev Dy:=Option (LB×Int)
def LN:Dy:=
(Ak i (Ca j 8)).bind λ_=>
(Ak i (Ca j 8)).bind λc=>
(Ak i (Ca j 8)).bind λ_=>
(Jb i (Ca j 8) (Ae c (Ad (Bg z d):UInt8))).bind λe=>
some (e,(Ae j 1))
def Wi:=LN
def Xe(j8:Int->Int->Int->LB->Dy)(K3:Int->Int->Dy)(b a:Int)(f:LB)(g h:Int):Dy:=
if(Cg h (Ge a 8))then
K3 (Bg g 2) (Ae h 1)
else
j8 b g a f
def Ku:Nat->Int->Int->Dy
|0,_,_=>none
|c+1,e,j=>Xe Wi (Ku c) z d i e j
def LM b a f:=Ku b a f Aq
def MA(j6:Int->Int->LB->Int->Int->Dy)(b a:Int)(f:LB):Dy:=
j6 b a f 1 0
def Wl:=MA LM
def LO(j5:Int->Int->LB->Dy)(k:LB)(a b:Int):Dy:=
if(geq (Ge a 8) 0)then
(Db k ([(0:UInt8)]:LB)).bind λo=>
j5 b a o
else
j5 b a k
def Vn:=LO Wl
abbrev Ea:=Option (LB×Int)
def WQ:Ea:=
some (i,z)
def VX:=WQ
def Pm(j6:Int->LB->Ea)(Ps:Int->Int->LB->Ea)(f:Int)(g:LB)(h k a:Int)(b:LB):Ea:=
if(Cg k f)then
(Ki g h k).bind λm=>
(Vn b a m).bind λ(n,o)=>
Ps (Ae k 1) o n
else
j6 a b
def Gw:Nat->Int->Int->LB->Ea
|0,_,_,_=>none
|c+1,d,e,j=>Pm VX (Gw c) z i B d e j
def VV f g h:=Gw f g h Aq
def WS(j4:Int->LB->Int->Int->Int->LB->Ea)(g:LB)(h p f:Int):Ea:=
j4 f g h p 0 ([]:LB)
def IV:=WS VV
def bV:Option UInt64:=
some A
def bH:=bV
def Sm:Option UInt64:=
if(Me o8 0)then
(Ki Bcl Bdo (Ae Bc4 o8)).bind λz=>
Bcb (Ae (Bg 2 X) (Ad z:UInt64)) (Aj o8 1)
else
Bca X
def If:Nat->UInt64->Int->Option UInt64
|0,_,_=>none
|c+1,d,e=>Sm bH (If c) z i B d e
def EK b f g:=If b f g Aq
def EV(j4:Int->LB->Int->UInt64->Int->Option UInt64)(f:LB)(g b m:Int):Option UInt64:=
j4 b f g 0 (Aj m 1)
def Qu:=EV EK
abbrev Gm:=Option (Int×Int)
def ME(b a:Int)(g:LB)(f:Int):Gm:=
if(geq a 48)then
some (a,(Ae b a))
else
if(Me (Ae b a) f)then
some ((-1:Int),0)
else
some (a,(Ae (Ae b a) 1))
def Xd:=ME
def Wz(j6:Int->Int->LB->Int->Gm)(Ps:Int->Gm)(b:Int)(g:LB)(f a:Int):Gm:=
if((Cg (Ae b a) f)&&(Cg a 48))then
(Ki g f (Ae b a)).bind λh=>
if(geq h 1)then
Ps (Ae a 1)
else
j6 b a g f
else
j6 b a g f
def Kl:Nat->Int->Gm
|0,_=>none
|c+1,d=>Wz Xd (Kl c) z i B d
def jI b g f:=Kl b g f Aq
def jQ(j4:Int->LB->Int->Int->Gm)(g:LB)(f b:Int):Gm:=
j4 b g f 0
def US:=jQ jI
def AP:Option Int:=
(Fh J).bind λz=>
(Hz (Bo z 0)).bind λ_=>
some (Ad (Gi 48 (Ca (Ad I:UInt64) z)):Int)
abbrev Ym:=Option (UInt32×Int×Int)
def Wp:Ym:=
if((Cg d 0)||(Cg (Aj B j) L))then
some (0,0,24)
else
(Qu i B j L).bind λc=>
if(Cg d 48)then
(Fh z).bind λe=>
some ((Ad (Ae (Bg (Ad d:UInt64) e) c):UInt32),(Ae j L),0)
else
(AP (Ad c:UInt32) z).bind λA=>
if(Cg A d)then
some (0,0,12)
else
some ((Ad c:UInt32),(Ae j L),0)
def Xb:=Wp
def LJ(j2:Int->Int->Int->LB->Int->Int->Ym)(h:LB)(f n g:Int):Ym:=
if(Me n f)then
some (0,0,24)
else
(US h f n).bind λ(a,b)=>
if(geq a 48)then
j2 g a b h f 32
else
j2 g a b h f g
def GD:=LJ Xb
def FZ(g:LB)(b a f n:Int)(v w:UInt64):Option (UInt32×Int×Int):=
if(Me a b)then
some (0,0,24)
else
(Ki g b a).bind λo=>
if(geq o 0)then
if(Cg (Aj (Aj b a) 1) f)then
some (0,0,24)
else
(Qu g b (Ae a 1) f).bind λp=>
some ((Ad p:UInt32),(Ae (Ae a 1) f),0)
else
(GD g b (Ae a 1) n).bind λ(h,u,k)=>
if(Bo k 0)then
some (0,0,k)
else
(Fh f).bind λm=>
if(Eu (Ae (Ad h:UInt64) m) 4294967295)then
some (0,0,12)
else
some ((Ad (Ae (Ad h:UInt64) m):UInt32),u,0)
abbrev Bl:=Option (LU×Int)
def bW:Bl:=
some (R,0)
def bK:=bW
def Sd(j18:LU->Bl)(Lh:Int->Bl)(a:LB)(b:LU)(m:Int):Bl:=
if(Cg m (Bg 8 (Ac a)))then
(Ki a (Bg 8 (Ac a)) m).bind λn=>
if(Bo n 0)then
some (b,12)
else
Lh (Ae m 1)
else
j18 b
def Ij:Nat->Int->Bl
|0,_=>none
|z+1,d=>Sd bK (Ij z) c R d
def EL a b:=Ij a b Aq
def EF(j16:LB->LU->Int->Bl)(f:Int)(a:LB)(b:LU):Bl:=
if(Eu (Aj (Bg 8 (Ac a)) f) 7)then
some (b,12)
else
j16 a b f
def Ta:=EF EL
def EW(Aec:Int->Int->LU->Bl)(g h:Int)(a:LB)(f k:Int)(b:LU)(p u:Int)(v w:UInt64):Bl:=
(IV a (Bg 8 (Ac a)) f (Gi (Ae f 81) (Bg 8 (Ac a)))).bind λ(y,aa)=>
(FZ y aa 0 p u v w).bind λ(ab,ac,o)=>
if(Bo o 0)then
some (b,o)
else
(Db b ([ab]:LU)).bind λad=>
Aec (Ae f ac) (Ae k 1) ad
def Ih Aec:=EW Aec
def FB(j13:Int->Int->LU->Int->Int->UInt64->UInt64->Bl)(j15:Int->LB->LU->Bl)(g h:Int)(a:LB)(f k:Int)(b:LU):Bl:=
if(Cg k (Bg h g))then
(Ln).bind λ(n,ae,af,ag)=>
if(Me k g)then
(Nu g b).bind λ(ah,ai,aj,ak)=>
j13 f k b ah ai aj ak
else
j13 f k b n ae af ag
else
j15 f a b
def Ep:Nat->Int->Int->LU->Bl
|0,_,_,_=>none
|c+1,e,j,A=>FB (Ih (Ep c) z d i) Ta z d i e j A
def bG g h a:=Ep g h a Aq
def JH(j10:Int->Int->LB->Int->Int->LU->Bl)(g h:Int)(a:LB):Bl:=
j10 g h a 0 0 ([]:LU)
def AR:=JH bG
def mP:Option (Int×Int):=
if(geq z 8)then
some (4,0)
else
if((geq z 16)||(geq z 24))then
some (5,0)
else
some (0,2)
def qR:Option (Int×LX×LX×Int):=
(mP z).bind λ(c,d)=>
if(Bo d 0)then
some (0,(List.replicate 16 (0:Int32)),(List.replicate 16 (0:Int32)),2)
else
if(geq z 16)then
some (9,e,(List.replicate 16 (0:Int32)),0)
else
some (10,e,(List.replicate 16 (0:Int32)),0)
def UG:Option (Int×Int32×Int×LX×LX×Int):=
(qR z e).bind λ(c,d,i,j)=>
if(Bo j 0)then
some (0,0,0,(List.replicate 16 (0:Int32)),(List.replicate 16 (0:Int32)),2)
else
some (z,0,c,d,i,0)
def BK:Option Int32:=
if(geq (AG I 2) 0)then
some (Ad (Ca I 2):Int32)
else
some (Ad (Ca (nP (Ae (Ad I:Int) 1)) 2):Int32)
def Ck:Option Int32:=
some (Ad (Ad (Ad z:UInt64):UInt32):Int32)
def MG:Option Int32:=
some (Ad z:Int32)
def LK:=MG
def Wg(j6:Int->Option Int32)(Ps:Int->Int->Option Int32)(h:Int)(b f:LX)(g a:Int):Option Int32:=
if(Cg a 16)then
(Ak b a).bind λ_=>
(Ak f a).bind λ_=>
(Ak b a).bind λk=>
(Ak f a).bind λm=>
(Ck (Bg (Ad k:Int) (Ad m:Int))).bind λn=>
(Ck (Ae g (Ad n:Int))).bind λo=>
Ps (Ad o:Int) (Ae a 1)
else
j6 g
def Kq:Nat->Int->Int->Option Int32
|0,_,_=>none
|c+1,d,i=>Wg LK (Kq c) z e M d i
def jE h b f:=Kq h b f Aq
def jP(j4:Int->LX->LX->Int->Int->Option Int32)(h:Int)(b f:LX):Option Int32:=
j4 h b f 0 0
def UL:=jP jE
def HO:Option Int32:=
(UL z e M).bind λc=>
(Ck (Ae (Ad c:Int) (Ca J 2))).bind λd=>
(Hz (Bo J 0)).bind λ_=>
(Hz (Bo J 0)).bind λ_=>
if(Cg (Ge (Ad d:Int) J) 0)then
some (Ad (Aj (Ca (Ad d:Int) J) 1):Int32)
else
some (Ad (Ca (Ad d:Int) J):Int32)
def Uz:=HO
def HV(j2:Int->LX->LX->Int->Option Int32)(b:Int)(f g:LX):Option Int32:=
if(geq b 9)then
j2 b f g 512
else
j2 b f g 1024
def BT:=HV Uz
def DL:Option Int32:=
if(geq z 0)then
some 4
else
if(gle z 3)then
some 2
else
some 1
def Td:Option Int32:=
if(Cg C 0)then
some (-1:Int32)
else
if(Eu C 0)then
some 1
else
some 0
abbrev Dz:=Option (Int×LX×LX)
def WU:Dz:=
some (z,e,M)
def WO:=WU
def Om(j6:Int->LX->LX->Dz)(Ps:Int->LX->Dz)(h:Int32)(g:Int)(b:LX)(a:Int)(f:LX):Dz:=
if(Cg a 16)then
(Ak f a).bind λ_=>
(Ak b a).bind λ_=>
(Ak f a).bind λk=>
(Ak b a).bind λm=>
(DL a).bind λn=>
(Td m).bind λo=>
(Td h).bind λp=>
(Ak f a).bind λ_=>
(Jb f a (Ae k (Bg (Bg n o) p))).bind λu=>
Ps (Ae a 1) u
else
j6 g f b
def Gy:Nat->Int->LX->Dz
|0,_,_=>none
|z+1,c,d=>Om WO (Gy z) C E l7 c d
def VN h g b:=Gy h g b Aq
def VE(j4:Int32->Int->LX->Int->LX->Dz)(g:Int)(v b:LX)(h:Int32):Dz:=
j4 h g b 0 v
def HN:=VE VN
abbrev Em:=Option (Int×LX×LX)
def BN:Em:=
(Ak l9 0).bind λ_=>
(Jb l9 0 C).bind λz=>
some (E,l7,z)
def AL:=BN
def Qy(j6:Int32->Int->LX->LX->Em)(Ps:Int->LX->Em)(b:Int32)(f:Int)(g:LX)(h:Int)(a:LX):Em:=
if(Eu h 0)then
(Ak a (Aj h 1)).bind λ_=>
(Ak a (Aj h 1)).bind λm=>
(Ak a h).bind λ_=>
(Jb a h m).bind λn=>
Ps (Aj h 1) n
else
j6 b f g a
def Hr:Nat->Int->LX->Em
|0,_,_=>none
|z+1,c,d=>Qy AL (Hr z) C E l7 c d
def YR b f g:=Hr b f g Aq
def XP(j4:Int32->Int->LX->Int->LX->Em)(f:Int)(g o:LX)(b:Int32):Em:=
j4 b f g 15 o
def LD:=XP YR
def Uc:Option (Int32×Int×LX×LX):=
(BT z e M).bind λc=>
(Ck (Ae (Ad C:Int) (Ad c:Int))).bind λd=>
(HN z e M C).bind λ(i,j,A)=>
(LD i j A d).bind λ(B,D,E)=>
some (d,B,D,E)
def AQ:Option Int32:=
(Hz (Bo E 0)).bind λ_=>
(Hz (Bo E 0)).bind λ_=>
if(Cg (Ge (Bg (Aj E 1) (Ad C:Int)) E) 0)then
some (Ad (Aj (Ca (Bg (Aj E 1) (Ad C:Int)) E) 1):Int32)
else
some (Ad (Ca (Bg (Aj E 1) (Ad C:Int)) E):Int32)
def Qs:=AQ
def DB(j2:Int32->Int->Option Int32)(f:Int)(b:Int32):Option Int32:=
if(geq f 5)then
j2 b 32
else
j2 b 16
def Nx:=DB Qs
def Wu(b:Int)(a:Int32)(h:Int)(k m:LX):Option Int:=
if(geq b 8)then
(Nx 4 a).bind λf=>
some (Ad f:Int)
else
(Nx 5 a).bind λg=>
some (Ad g:Int)
def Ty:Option (Int32×Int×Int32×Int×LX×LX):=
(Uc E l7 l9 Bcm).bind λ(c,d,e,i)=>
(Wu z C E l7 l9).bind λj=>
(Ck (Ae (Ad c:Int) j)).bind λA=>
some (A,z,A,d,e,i)
def Qj:Option Int:=
if((Cg z 1)||(Eu z 6))then
some 2
else
if(Eu (Ac e) 4000)then
some 4
else
(Hz (Bo z 0)).bind λ_=>
if(Eu (Ge (Ac e) z) 0)then
some 2
else
some 0
def WB:Option (LX):=
some e
def VQ:=WB
def Ph(j8:LX->Option (LX))(K3:Int->LX->Option (LX))(a:LX)(f:Int)(b:LX):Option (LX):=
if(Me f 0)then
(Ak b (Ae f 1)).bind λ_=>
(Ak a f).bind λk=>
(Ak b (Ae f 1)).bind λm=>
(Ck (Aj (Ad m:Int) (Ad k:Int))).bind λn=>
(Ak b f).bind λ_=>
(Jb b f n).bind λo=>
K3 (Aj f 1) o
else
j8 b
def Gv:Nat->Int->LX->Option (LX)
|0,_,_=>none
|z+1,c,d=>Ph VQ (Gv z) e c d
def UK a:=Gv a Aq
def AE(j6:LX->Int->LX->Option (LX))(a p:LX):Option (LX):=
j6 a (Aj (Ac a) 2) p
def Oq:=AE UK
def Zh(j5:LX->LX->Option (LX))(a:LX):Option (LX):=
(mkI (Ac a) (0:Int32)).bind λh=>
(Hz (geq (Ac a) (Ac a))).bind λ_=>
(Ak a (Aj (Ac a) 1)).bind λu=>
(Ak h (Aj (Ac a) 1)).bind λ_=>
(Jb h (Aj (Ac a) 1) u).bind λg=>
if(Eu (Ac a) 1)then
(Ak a (Aj (Ac a) 1)).bind λv=>
(Ak a (Aj (Ac a) 2)).bind λw=>
(Ck (Ae (Ad v:Int) (Ca (Ad w:Int) 2))).bind λy=>
(Ak g (Aj (Ac a) 1)).bind λ_=>
(Jb g (Aj (Ac a) 1) y).bind λaa=>
j5 a aa
else
j5 a g
def Uw:=Zh Oq
abbrev Ga:=Option (LX×Int)
def fS:Ga:=
some (e,0)
def gJ:=fS
def JY(j6:LX->Ga)(Ps:Int->LX->Ga)(a:Int)(b:LX)(g:Int)(f:LX):Ga:=
if(Cg g (Ac b))then
(By b g (Ae g a)).bind λh=>
(Uw h).bind λk=>
(Db f k).bind λm=>
Ps (Ae g a) m
else
j6 f
def Mz:Nat->Int->LX->Ga
|0,_,_=>none
|c+1,d,i=>JY gJ (Mz c) z e d i
def fK a b:=Mz a b Aq
def HS(j4:Int->LX->Int->LX->Ga)(a:Int)(b:LX):Ga:=
(Qj a b).bind λn=>
if(Bo n 0)then
(Qj a b).bind λo=>
some (([]:LX),o)
else
j4 a b 0 ([]:LX)
def BM:=HS fK
def Zt(b f:Int)(w:LX):Option (LX):=
(BM b w).bind λ(aj,ai)=>
some aj
def On:=Zt
def Zw(K2:Int->LX->Option (LX))(a:LU)(b f:Int)(h:LX)(g:Int)(m:LX):Option (LX):=
K2 (Ae g 1) m
def Zj K2:=Zw K2
def Zm(Aed:Int->LX->Int->Int32->Int->LX->LX->Option (LX))(a:LU)(g b f:Int)(h:LX)(k:Int)(ah:LX)(y:Int)(aa:Int32)(ab:Int)(ac ad:LX):Option (LX):=
Aed (Ae k b) ah y aa ab ac ad
def Zc Aed:=Zm Aed
def Zs(j30:Int->LX->Int->Int32->Int->LX->LX->Option (LX))(a:LU)(g b f:Int)(h:LX)(k:Int)(ae:Int32)(m:LX)(n:Int)(o:Int32)(p:Int)(u v:LX)(y:Int)(aa:Int32)(ab:Int)(ac ad:LX):Option (LX):=
(Ak m k).bind λ_=>
(Jb m k ae).bind λah=>
j30 k ah y aa ab ac ad
def Zy Aed a g b f h:=Zs (Zc Aed a g b f h) a g b f h
def Zr(j29:Int->Int32->LX->Int->Int32->Int->LX->LX->Int->Int32->Int->LX->LX->Option (LX))(j32:Int->LX->Option (LX))(a:LU)(b f:Int)(h:LX)(g k:Int)(m:LX)(n:Int)(o:Int32)(p:Int)(u v:LX):Option (LX):=
if(Cg k (Ac a))then
(Ak a k).bind λag=>
(
(BK ag).bind λaf=>
(
(Ty n o p u v af).bind λ(ae,y,aa,ab,ac,ad)=>
j29 k ae m n o p u v y aa ab ac ad))
else
j32 g m
def Jz(K2:Int->LX->Option (LX))(a:LU)(b f:Int)(h:LX)(g:Int):Nat->Int->LX->Int->Int32->Int->LX->LX->Option (LX)
|0,_,_,_,_,_,_,_=>none
|q+1,k,m,n,o,p,u,v=>Zr (Zy (Jz K2 a b f h g q) a g b f h) (Zj K2 a b f h) a b f h g k m n o p u v
def Zv K2 a b f h g:=Jz K2 a b f h g Aq
def Oo(j26:Int->Int->LX->Int->Int32->Int->LX->LX->Option (LX))(j34:Int->Int->LX->Option (LX))(a:LU)(b f:Int)(h:LX)(g:Int)(w:LX):Option (LX):=
if(Cg g b)then
(UG f h).bind λ(ak,ai,al,am,an,aq)=>
j26 g g w ak ai al am an
else
j34 b f w
def Ez:Nat->Int->LX->Option (LX)
|0,_,_=>none
|z+1,c,d=>Oo (Zv (Ez z) R y7 y8 Bc2) On R y7 y8 Bc2 c d
def AF a b f h:=Ez a b f h Aq
def BE(j18:LU->Int->Int->LX->Int->LX->Option (LX))(b f:Int)(h:LX)(a:LU):Option (LX):=
(mkI (Ac a) (0:Int32)).bind λao=>
(Hz (geq (Ac a) (Ac a))).bind λ_=>
j18 a b f h 0 ao
def Nv:=BE AF
def Nz(g f:Int)(a:LX):Option (LX×Int):=
(Ap f a).bind λb=>
if(Bo b 0)then
some (([]:LX),b)
else
some (a,0)
abbrev Sa:=Option (LX×Int)
def Fv:Sa:=
if(Bo z 0)then
some (([]:LX),z)
else
(
(
(Nv d j e R).bind λc=>
(Nz d j c).bind λ(i,A)=>
some (i,A)))
def Fs:=Fv
def Rc(j2:Int->Int->Int->LX->LU->Sa)(a b:Int)(g:LX)(p:Int)(k:LB):Sa:=
(Cr a b p).bind λy=>
if(Bo y 0)then
some (([]:LX),2)
else
(Nw k).bind λaa=>
if(Bo aa 0)then
(Nw k).bind λab=>
some (([]:LX),ab)
else
(By k 0 (Aj (Ac k) 4)).bind λac=>
(AR a p ac).bind λ(h,f)=>
j2 f a b g h
def El:=Rc Fs
def Wv:Option (LB):=
if(geq z 24)then
(Db ([(Ad (Ge d 256):UInt8),(Ad (Ge (Ca d 256) 256):UInt8)]:LB) ([(Ad (Ca d 65536):UInt8)]:LB)).bind λc=>
some c
else
some ([(Ad (Ge d 256):UInt8),(Ad (Ge (Ca d 256) 256):UInt8)]:LB)
def Kr:=Wv
def LZ(j2:Int->Int->Option (LB))(a:Int)(f:Int32):Option (LB):=
if(geq a 8)then
some ([(Ad (Ae (Ad f:Int) 128):UInt8)]:LB)
else
if(Cg (Ad f:Int) 0)then
(Hu a).bind λh=>
j2 a (Ae (Ad f:Int) (Bg 2 h))
else
j2 a (Ad f:Int)
def FJ:=LZ Kr
abbrev Fi:=Option (LB×Int)
def bJ:Fi:=
some (c,0)
def bM:=bJ
def Sj(j6:LB->Fi)(Ps:Int->LB->Fi)(b:Int)(a:LX)(g:Int)(f:LB):Fi:=
if(Cg g (Ac a))then
(Ak a g).bind λh=>
(FJ b h).bind λk=>
(Db f k).bind λm=>
Ps (Ae g 1) m
else
j6 f
def Ik:Nat->Int->LB->Fi
|0,_,_=>none
|c+1,d,i=>Sj bM (Ik c) z e d i
def bU b a:=Ik b a Aq
def EX(j4:Int->LX->Int->LB->Fi)(b:Int)(a:LX):Fi:=
(Ap b a).bind λn=>
if(Bo n 0)then
(Ap b a).bind λo=>
some (([]:LB),o)
else
j4 b a 0 ([]:LB)
def Qf:=EX bU
abbrev Sf:=Option (LB×Int)
def WZ(o:LX)(f:Int)(p g:LB)(h k a m n:Int)(u:LI)(b:Int)(v:LB)(w:Bool)(y:Int):Sf:=
if(Bo f 0)then
some (([]:LB),f)
else
(Qf a o).bind λ(ac,ai)=>
some (ac,0)
def ZV:=WZ
def ZL(j2:LX->Int->LB->LB->Int->Int->Int->Int->Int->LI->Int->LB->Bool->Int->Sf)(p g:LB)(h k a m n:Int)(u:LI)(b:Int)(v:LB)(w:Bool)(y:Int):Sf:=
(Ak u b).bind λaa=>
if(Cg (Ac g) aa)then
some (([]:LB),(-1:Int))
else
(Ju p).bind λ(ad,aj)=>
(By g 0 aa).bind λae=>
(mI h k a m n).bind λ(af,ag)=>
(IU h k a m n).bind λab=>
(Ak ab b).bind λ_=>
(Ak ab b).bind λah=>
(El af ag ad ah ae).bind λ(o,f)=>
j2 o f p g h k a m n u b v w y
def jF:=ZL ZV
abbrev Km:=Option (LB×LB×Int×Int×Int×Int×Int×LI×Int×LB×Bool×Int×Int)
def eJ:Km:=
if(geq (Ac V) 0)then
(jN i B L Y Z l5 c).bind λ(z,d,e)=>
if(Bo e 0)then
some (c,i,B,L,Y,Z,l5,V,l6,U,N,G,e)
else
(By i z (Ac i)).bind λj=>
some (c,j,B,L,Y,Z,l5,d,l6,U,N,G,0)
else
if(geq l6 (Ac V))then
if(Eu (Ac i) 4000)then
some (c,i,B,L,Y,Z,l5,V,l6,U,N,G,38)
else
some (c,i,B,L,Y,Z,l5,V,l6,U,N,G,(-1:Int))
else
(jF c i B L Y Z l5 V l6 U N G).bind λ(A,C)=>
if(Bo C 0)then
some (c,i,B,L,Y,Z,l5,V,l6,U,N,G,C)
else
(Db ([]:LB) U).bind λD=>
(Db D A).bind λE=>
(
(
(
(Ak V l6).bind λF=>
(
(By i F (Ac i)).bind λI=>
some (c,I,B,L,Y,Z,l5,V,(Ae l6 1),E,N,G,0)))))
def fG:=eJ
def dI:Km:=
(lX B L Y Z l5 c).bind λz=>
some (c,i,B,L,Y,Z,l5,V,l6,U,N,G,z)
def dY:=dI
def IK(j3:LB->LB->Int->Int->Int->Int->Int->LI->Int->LB->Bool->Int->Km)(j4:LB->LB->Int->Int->Int->Int->Int->LI->Int->LB->Bool->Int->Km)(g a:LB)(m n o p u:Int)(b:LI)(f:Int)(v:LB)(h:Bool)(k:Int):Km:=
if(geq m 0)then
(Ur a).bind λ(ac,ae,w,af,ag,y,ai)=>
if(Bo ai 0)then
some (g,a,m,n,o,p,u,b,f,v,h,k,ai)
else
(
(By a ac (Ac a)).bind λad=>
(
j3 g ad ae w af ag y b f v h k))
else
j4 g a m n o p u b f v h k
def DG:=IK dY fG
abbrev Wj:=Option (LB×LB×Int×Int×Int×Int×Int×LI×Int×LB×Bool×Int)
def dF:Wj:=
(Db ([]:LI) T).bind λe=>
some (c,Bcy,z,d,j,F,O,e,B,Bdn,N,G)
def dL:=dF
def cF(j2:LB->Int->Int->Int->Int->Int->LI->Int->Bool->Int->LB->LB->Wj)(f w:LB)(g h k m n:Int)(o:LI)(p:Int)(y:LB)(u:Bool)(v:Int):Wj:=
(
(
(
(Db ([]:LB) w).bind λa=>
(
(Db ([]:LB) y).bind λb=>
j2 f g h k m n o p u v a b))))
def nJ:=cF dL
def jq(b g:LB)(h k m n o:Int)(p:LI)(u:Int)(f:LB)(v:Bool)(w a:Int):Option (LB×LB×Int×Int×Int×Int×Int×LI×Int×LB×Bool×Int×Int):=
some (b,([]:LB),0,0,0,0,0,([]:LI),0,f,false,a,a)
abbrev Hq:=Option (LB×LB×Int×Int×Int×Int×Int×LI×Int×LB×Bool×Int×Int)
def qS(ng:LB->Int->Int->Int->Int->Int->Int->LI->LB->Hq)(a:LB)(b:Bool)(f:Int)(ap:LB)(aq ar au av aw ax:Int)(bf:Bool)(bc:Int)(ay:LI)(az:LB):Hq:=
if bf then
(X2 a ap aq ar au av aw ay ax az b f).bind λ(dq,dr,ds,ba,bg,ae,dt,du,dv,dw,dx,af)=>
some (dq,dr,ds,ba,bg,ae,dt,du,dv,dw,dx,af,0)
else
if(Bo bc 0)then
(jq a ap aq ar au av aw ay ax az b f bc).bind λ(dy,dz,fa,fb,fc,fd,fe,ff,fg,fh,fi,fj,fk)=>
some (dy,dz,fa,fb,fc,fd,fe,ff,fg,fh,fi,fj,fk)
else
ng ap aq ar au av aw ax ay az
def Lg ng:=qS ng
def sH(j71:LB->Int->Int->Int->Int->Int->Int->Bool->Int->LI->LB->Hq)(a:LB)(b:Bool)(f h:Int)(k:LI)(o:LB)(fl:Bool)(fm:Int)(fn:LB)(fo fp fq fs ft:Int):Hq:=
j71 fn fo fp fq fs ft h fl fm k o
def sA ng a b f:=sH (Lg ng a b f) a b f
def sF(j71:LB->Int->Int->Int->Int->Int->Int->Bool->Int->LI->LB->Hq)(a:LB)(b:Bool)(f m p n u v h:Int)(o:LB)(fw:Bool)(fx:Int)(fy:LB)(fz:LI):Hq:=
j71 fy m p n u v h fw fx fz o
def sI ng a b f:=sF (Lg ng a b f) a b f
def rU(j71:LB->Int->Int->Int->Int->Int->Int->Bool->Int->LI->LB->Hq)(a:LB)(b:Bool)(f m p n u v:Int)(k:LI)(gg:Bool)(gh:Int)(gi:LB)(gj:Int)(gk:LB):Hq:=
j71 gi m p n u v gj gg gh k gk
def rW ng a b f:=rU (Lg ng a b f) a b f
def pT(a m:LB)(n o p u v:Int)(w:LI)(y:Int)(b:LB)(aa:Bool)(ab:Int):Option (LB×LB×Int×Int×Int×Int×Int×LI×Int×LB×Bool×Int):=
(
(
(Db ([]:LB) b).bind λf=>
some (a,([]:LB),0,0,0,0,0,([]:LI),0,f,false,0)))
def jR:Option (LB×LB×Int×Int×Int×Int×Int×LI×Int×LB×Bool×Int×Int):=
(pT c i B L Y Z l5 V l6 U N G).bind λ(z,d,e,j,A,C,D,E,F,I,J,M)=>
some (z,d,e,j,A,C,D,E,F,I,J,Bb9,Bb9)
abbrev Wq:=Option (LB×LB×Int×Int×Int×Int×Int×LI×Int×LB×Bool×Int×Int)
def eY(bk3:LB->LB->Int->Int->Int->Int->Int->LI->Int->LB->Bool->Int->Wq)(a b:LB)(f g h k m:Int)(n:LI)(o:Int)(p:LB)(u:Bool)(v:Int):Wq:=
(DG a b f g h k m n o p u v).bind λ(bb,bc,bd,be,bf,bg,bh,bi,bj,bk,bl,bm,w)=>
if(geq w (-1:Int))then
(nJ a b f g h k m n o p u v).bind λ(bn,bp,bq,br,bs,bt,bu,bv,bw,bx,bz,da)=>
some (bn,bp,bq,br,bs,bt,bu,bv,bw,bx,bz,da,0)
else
if(Bo w 0)then
(jR a b f g h k m n o p u v w).bind λ(db,dc,dd,de,df,dg,dh,di,dj,dk,dl,dm,dn)=>
some (db,dc,dd,de,df,dg,dh,di,dj,dk,dl,dm,dn)
else
bk3 bb bc bd be bf bg bh bi bj bk bl bm
def JR:Nat->LB->LB->Int->Int->Int->Int->Int->LI->Int->LB->Bool->Int->Wq
|0,_,_,_,_,_,_,_,_,_,_,_,_=>none
|q+1,a,b,f,g,h,k,m,n,o,p,u,v=>eY (JR q) a b f g h k m n o p u v
abbrev Gb:=Option (Int×Int)
def Vh:Gb:=
if(Cg (Ac c) G)then
some (0,24)
else
if(i==U)then
(By c (Aj (Ac c) G) (Ae (Aj (Ac c) G) 32)).bind λe=>
(Ti z d).bind λj=>
if(e !=j)then
some (0,12)
else
some (G,0)
else
some (G,0)
def Uy:=Vh
def Tz(j6:LB->Int->Int->LB->LB->Int->Gb)(a:LB)(f g:Int)(b h:LB):Gb:=
if(b==h)then
j6 a f g b h (Ae (Ae 32 f) 32)
else
j6 a f g b h (Ae 32 f)
def Up:=Tz Uy
def JL(j5:LB->Int->Int->LB->LB->Gb)(a:LB):Gb:=
(By a (Aj (Ac a) 32) (Ac a)).bind λb=>
(Tf b).bind λ(f,g,n)=>
if(!n)then
some (0,12)
else
(Ke f g true).bind λh=>
(
if(!(b==h))then
(Ke f g false).bind λm=>
if(b !=m)then
some (0,12)
else
j5 a f g b h
else
j5 a f g b h)
def JO:=JL Up
def HI(j4:LB->Gb)(a:LB):Gb:=
if(Cg (Ac a) 32)then
some (0,6)
else
(By a (Aj (Ac a) 32) (Ae (Aj (Ac a) 32) 8)).bind λu=>
if(u !=([65,80,69,84,65,71,69,88]:LB))then
some (0,6)
else
j4 a
def BJ:=HI JO
abbrev Es:=Option (Int×Int)
def XJ:Es:=
some (z,0)
def WW:=XJ
def DW(j6:Int->Es)(Ps:LB->Int->Es)(b:LB)(a:Int):Es:=
if(Eu (Ac b) 0)then
(BJ b).bind λ(g,h)=>
if(Bo h 0)then
some (0,38)
else
(By b 0 (Aj (Ac b) g)).bind λk=>
Ps k (Ae a 1)
else
j6 a
def Ld:Nat->LB->Int->Es
|0,_,_=>none
|q+1,b,a=>DW WW (Ld q) b a
def YM:=Ld Aq
def AT(j4:LB->Int->Es)(f:LB):Es:=
if(Eu (Ac f) 4000)then
some (0,38)
else
j4 f 0
def Wm:=AT YM
abbrev SX:=Option (Int×Int×Int×Int×Int×Int×LI×Int)
def eD:SX:=
(Xj z d j F O).bind λ(e,i)=>
if(Bo i 0)then
some (0,0,0,0,0,0,([]:LI),i)
else
(By c y9 (Ac c)).bind λA=>
(GB A (Ac e)).bind λ(B,C)=>
if(Bo C 0)then
some (0,0,0,0,0,0,([]:LI),C)
else
some (z,d,j,F,O,(Ae (Ae y9 (Bg 4 (Ac B))) 4),B,0)
def Uk:=eD
def Ud(j2:LB->Int->Int->Int->Int->Int->Int->SX)(a n:LB):SX:=
if(Eu (Ac n) 64)then
some (0,0,0,0,0,0,([]:LI),2)
else
if(Eu (Ac a) 100000)then
some (0,0,0,0,0,0,([]:LI),4)
else
(Uu a).bind λ(f,w)=>
if(Bo w 0)then
some (0,0,0,0,0,0,([]:LI),w)
else
(By a f (Ac a)).bind λad=>
(IC ad).bind λ(b,g,h,k,m,y)=>
if(Bo y 0)then
some (0,0,0,0,0,0,([]:LI),y)
else
if((n==([]:LB)) !=(geq b 1))then
some (0,0,0,0,0,0,([]:LI),26)
else
if(n !=([]:LB))then
if(Cg (Ac a) (Ae (Ae f 22) 8))then
some (0,0,0,0,0,0,([]:LI),24)
else
(By a (Ae f 22) (Ae (Ae f 22) 8)).bind λae=>
(Vv ae n).bind λ(af,aa)=>
if(Bo aa 0)then
some (0,0,0,0,0,0,([]:LI),aa)
else
if(!af)then
some (0,0,0,0,0,0,([]:LI),26)
else
j2 a b g h k m (Ae (Ae f 22) 8)
else
j2 a b g h k m (Ae f 22)
def Fj:=Ud Uk
abbrev Ic:=Option (Int×Int×Int×Int×Int×Int×LI×Int)
def BL:Ic:=
if(Bo d 0)then
some (0,0,0,0,0,0,([]:LI),d)
else
some (j,F,O,y9,Bci,(Ae (Ae z (Bg 4 (Ac T))) 4),T,0)
def AZ:=BL
def BA(j4:Int->Int->Int->Int->Int->Int->Int->LI->Ic)(a:LB)(b h k f g n:Int):Ic:=
(By a n (Ac a)).bind λy=>
(Di f g).bind λaa=>
(Nf y (Ac aa)).bind λ(p,o)=>
j4 n o b h k f g p
def Kx:=BA AZ
def Qc(j3:LB->Int->Int->Int->Int->Int->Int->Ic)(a u:LB):Ic:=
if(Eu (Ac a) 100000)then
some (0,0,0,0,0,0,([]:LI),4)
else
(Ly a).bind λ(m,v)=>
if(Bo v 0)then
some (0,0,0,0,0,0,([]:LI),v)
else
(By a m (Ac a)).bind λab=>
(Nd ab).bind λ(b,h,k,f,g,w)=>
if(Bo w 0)then
some (0,0,0,0,0,0,([]:LI),w)
else
if((u==([]:LB)) !=(geq b 1))then
some (0,0,0,0,0,0,([]:LI),26)
else
if(geq b 2)then
if(Cg (Aj (Ac a) (Ae m 22)) 8)then
some (0,0,0,0,0,0,([]:LI),24)
else
(By a (Ae m 22) (Ae (Ae m 22) 8)).bind λac=>
(Jp u).bind λad=>
if(ac !=ad)then
some (0,0,0,0,0,0,([]:LI),26)
else
j3 a b h k f g (Ae (Ae m 22) 8)
else
j3 a b h k f g (Ae m 22)
def Ds:=Qc Kx
def bZ:Option Int:=
some z
def bP:=bZ
def Sc(j6:Int->Option Int)(Ps:Int->Int->Option Int)(b h k m n o f:Int)(g:LI)(a p:Int):Option Int:=
if(Cg p b)then
(Ak g p).bind λu=>
Ps (Ae a u) (Ae p 1)
else
j6 a
def Im:Nat->Int->Int->Option Int
|0,_,_=>none
|c+1,e,i=>Sc bP (Im c) z d j F O y9 Bci T e i
def bB b h k m n o f g:=Im b h k m n o f g Aq
def bO(j4:Int->Int->Int->Int->Int->Int->Int->LI->Int->Int->Option Int)(h k m n o f:Int)(g:LI)(b:Int):Option Int:=
j4 b h k m n o f g f 0
def NL:=bO bB
abbrev Ys:=Option (LB×Int)
def MB(u:LX)(n o g f h k p:Int)(b:LI):Ys:=
if(Bo n 0)then
some (([]:LB),n)
else
(Qf f u).bind λ(af,ai)=>
some (af,0)
def LW:=MB
def LR(j2:LX->Int->Int->Int->Int->Int->Int->Int->LI->Ys)(v y:LB)(o g f h k p:Int)(b:LI)(a:Int):Ys:=
(NL o g f h k p b a).bind λm=>
(Ak b a).bind λaa=>
if(Cg (Aj (Ac v) m) aa)then
some (([]:LB),24)
else
(Ju y).bind λ(ab,ag)=>
(Ak b a).bind λac=>
(By v m (Ae m ac)).bind λad=>
(
(Di h k).bind λw=>
(Ak w a).bind λ_=>
(Ak w a).bind λae=>
(El g f ab ae ad).bind λ(u,n)=>
j2 u n o g f h k p b)
def Pf:=LR LW
def Dh:Option (Int×Int×Int×Int×Int×Int×Int):=
if(Eu (Ac c) 100000)then
some (0,0,0,0,0,0,4)
else
(Ly c).bind λ(z,d)=>
if(Bo d 0)then
some (0,0,0,0,0,0,d)
else
(By c z (Ac c)).bind λe=>
(Nd e).bind λ(i,j,A,B,C,D)=>
some (z,i,j,A,B,C,D)
def LY(f:LB)(a g m n o p:Int)(b:LB):Option (Int×Int):=
if((b==([]:LB)) !=(geq g 1))then
some (0,26)
else
if(b==([]:LB))then
some (a,0)
else
if(Cg (Ac f) (Ae a 8))then
some (0,24)
else
(By f a (Ae a 8)).bind λh=>
(Jp b).bind λk=>
if(h !=k)then
some (0,26)
else
some ((Ae a 8),0)
def Lp(a:LB)(b o p u f g:Int):Option (LI×Int):=
(By a b (Ac a)).bind λh=>
(Di f g).bind λk=>
(Nf h (Ac k)).bind λ(m,n)=>
some (m,n)
abbrev Dq:=Option (Int×Int×Int×LX×Int)
def EE:Dq:=
(By c z (Ac c)).bind λi=>
(Wm i).bind λ(A,B)=>
if(Bo B 0)then
some (0,0,0,([]:LX),38)
else
some (d,j,F,e,0)
def FD:=EE
def EG(bk7:Int->Int->LX->Dq)(a:LB)(o f g h n:Int)(b p:LI)(u:LX)(m k:Int)(y:LX)(w:Int)(v:LX):Dq:=
if(Bo w 0)then
some (0,0,0,([]:LX),w)
else
(Db v y).bind λah=>
(Ak b k).bind λ_=>
(Ak b k).bind λai=>
bk7 (Ae m ai) (Ae k 1) ah
def FE bk7:=EG bk7
def Vg(j10:Int->Int->LX->Int->LX->Dq)(j12:LB->Int->Int->Int->Int->LX->Dq)(a:LB)(o f g h n:Int)(b p:LI)(u:LX)(m k:Int)(v:LX):Dq:=
if(Cg k (Ac b))then
(Ak b k).bind λ_=>
(Ak b k).bind λaj=>
if(Cg (Aj (Ac a) m) aj)then
some (0,0,0,([]:LX),24)
else
(Ak p k).bind λ_=>
(Ak b k).bind λ_=>
(Ak p k).bind λak=>
(Ak b k).bind λal=>
(By a m (Ae m al)).bind λam=>
(El f g u ak am).bind λ(y,w)=>
j10 m k y w v
else
j12 a m f g h v
def Jo:Nat->Int->Int->LX->Dq
|0,_,_,_=>none
|e+1,i,A,B=>Vg (FE (Jo e) c z d j F O T V M) FD c z d j F O T V M i A B
def HX a o f g h n b p u:=Jo a o f g h n b p u Aq
def HY(j7:LB->Int->Int->Int->Int->Int->LI->LI->LX->Int->Int->LX->Dq)(a aa:LB):Dq:=
if(Eu (Ac aa) 64)then
some (0,0,0,([]:LX),2)
else
(Dh a).bind λ(an,o,f,g,h,n,ab)=>
if(Bo ab 0)then
some (0,0,0,([]:LX),ab)
else
(LY a (Ae an 22) o f g h n aa).bind λ(ac,ad)=>
if(Bo ad 0)then
some (0,0,0,([]:LX),ad)
else
(Lp a ac o f g h n).bind λ(b,ae)=>
if(Bo ae 0)then
some (0,0,0,([]:LX),ae)
else
(Di h n).bind λp=>
(Ju aa).bind λ(u,ap)=>
j7 a o f g h n b p u (Ae ac (Ae (Bg 4 (Ac b)) 4)) 0 ([]:LX)
def Hm:=HY HX
abbrev Dc:=Option (Int×Int×Int×Int×Int×Int)
def DZ:Dc:=
if(Cg (Ac c) B)then
some (0,0,0,0,0,24)
else
some (z,(Ae z 22),d,(Ae (Ae d (Bg 4 (Ac T))) 4),B,0)
def Sy:=DZ
def Tc(j8:LB->Int->Int->LI->Int->Dc)(K3:Int->Int->Dc)(b:LB)(a f:Int)(g:LI)(k h:Int):Dc:=
if(Cg k (Ac g))then
(Ak g k).bind λ_=>
(Ak g k).bind λy=>
K3 (Ae k 1) (Ae h y)
else
j8 b a f g h
def Ip:Nat->Int->Int->Dc
|0,_,_=>none
|e+1,i,j=>Tc Sy (Ip e) c z d T i j
def FH b a f g:=Ip b a f g Aq
def FF(j6:LB->Int->Int->LI->Int->Int->Dc)(b:LB)(m n o p u a f:Int):Dc:=
if(Cg (Ac b) f)then
some (0,0,0,0,0,24)
else
(Lp b f m n o p u).bind λ(g,v)=>
if(Bo v 0)then
some (0,0,0,0,0,v)
else
j6 b a f g 0 (Ae (Ae f (Bg 4 (Ac g))) 4)
def Ii:=FF FH
def FC(j5:LB->Int->Int->Int->Int->Int->Int->Int->Dc)(b:LB):Dc:=
(Dh b).bind λ(a,m,n,o,p,u,w)=>
if(Bo w 0)then
some (0,0,0,0,0,w)
else
if(geq m 2)then
j5 b m n o p u a (Ae (Ae a 22) 8)
else
j5 b m n o p u a (Ae a 22)
def NM:=FC Ii
end Go.Pl
