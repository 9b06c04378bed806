/- A part of a proof (see the text that ends in Proof). No conditions. -/
import Derived.Test.YtheamkpclkijmaaGreatDoorMdBA
set_option linter.unusedVariables false
namespace Go.Pl
open Go Go.Lv
abbrev LB:=List UInt8
abbrev LI:=List Int
abbrev LX:=List Int32
abbrev LU:=List UInt32
abbrev LQ:=List UInt64
variable(c:LB)(E:LI)(z d B R U q9 Bbi Bb4 Bb5 Bb6:Int)(i:LX)(l7:LI)(e Bbv:LB)(A F N O P:Int)(J:LI)(L:Int)(M:LB)(C:Bool)(D Bbj:Int)(Bca Bcb:LB)(X:List (UInt8×Int×Unit))(Bbw:Bool)(Bbm Bbq Bbx:Int)(Bcc:List (UInt8×Int×Unit))(j:UInt64)(V:UInt32)(Y:UInt64)(Ba5:LB)(Bbc:UInt64->Option UInt64)(Bbd:UInt64->Int->Option UInt64)(l5:Int)(Bbk:LB)(Bby:Int)(p8:UInt64)(o7:Int)(Ba6:Option Int)(Bbe:Int->Option Int)(I Bbz:Int32)(T:LX)(G:Int)(o8 o9:LX)(l6:Int32)(Bbl Bbn:UInt64)(Bcd:Int32)(Bbg:Int->Int->Option Int)(Bbh:LI)(r9 q8:Int)(Ba8:List LB)(Bbr Bbs Bce:LB)(Bcf:Int->Option Int)(Bb0:LI)(Bbo Bbt:Int)(Bbf:UInt8)(Bb7:UInt64)(l9:Int)(Z:LU)(Bba Bbb:Int)(Bbu:LX)(Bb8:List (UInt8×Int×Unit))(Bb1:Int)(Bcg:LQ)(Bch:Int->LI->Option (LI))(Bb9:LI)(Bb2:UInt64)(Ba7:Bool->Option Int)(p9:Bool)(Bbp:Int)(Bb3:List LI)
def lB(a b f:Int)(g:LX):Option (Int×Int):=
some (a,b)
abbrev UU:=Option (Int32×Int32×Int)
def xK:UU:=
if C then
(Jv (Lk (Am z 1) 0)).bind λ_=>
some ((nH (Ec (1:Int32) (GI.toZ (Am z 1)).toNat)),(Am (Ec (1:Int32) (GI.toZ (Am z 1)).toNat) 1),0)
else
some (0,0,2)
def E7:=xK
def yY(j2:Int->Bool->UU)(a:Int):UU:=
if(geq a 8)then
j2 a (geq a 8)
else
if(geq a 16)then
j2 a (geq a 16)
else
j2 a (geq a 24)
def LD:=yY E7
def Tf:Option Int:=
(LD d).bind λ(c,e,i)=>
if(((Bg i 0)||(Ch z 1))||(Dw z 6))then
some 2
else
some 0
def CJ:Option (Int×Int):=
if((Ch z 1)||(Dw z 1048576))then
some (0,2)
else
some ((bW 1 (Cy (Bv 256 z) 245)),0)
def Ta:Option (Int×Int):=
(CJ z).bind λ(c,e)=>
if(Bg e 0)then
some (0,e)
else
if((Ch d 1)||(Dw d 4000))then
some (0,2)
else
(Jv (Bg c 0)).bind λ_=>
if(Dw (Cy (Am (Ae d c) 1) c) 1000)then
some (0,4)
else
some ((Cy (Am (Ae d c) 1) c),0)
def L7:Option Int:=
(lB z d B i).bind λ(c,e)=>
(Tf c e).bind λj=>
if((Bg j 0)||(Ch A 1))then
some 8
else
(Jv (Bg z 0)).bind λ_=>
if(Dw A (Cy 4000 z))then
some 8
else
(Ta B A).bind λ(C,D)=>
if(Bg D 0)then
some 8
else
some 0
def D7:Option Int:=
some 0
def fI:=D7
def CY:Option Int:=
if(Ch G (Ac T))then
(Ak T G).bind λz=>
if((Ch z I)||(Dw z Bbz))then
some 16
else
Bbe (Ae G 1)
else
Ba6
def Qe:Nat->Int->Option Int
|0,_=>none
|z+1,c=>CY fI (Qe z) I Bbz T c
def wK b f a:=Qe b f a Ar
def QU(j4:Int32->Int32->LX->Int->Option Int)(m:Int)(a:LX):Option Int:=
(LD m).bind λ(b,f,k)=>
if(Bg k 0)then
some k
else
if(Dw (Ac a) 4000)then
some 4
else
j4 b f a 0
def Vu:=QU wK
def HI:Option Int:=
if(Ch z 1)then
some 8
else
(Jv (Bg z 0)).bind λ_=>
if(Bg (Hu (Ac i) z) 0)then
some 8
else
(Jv (Bg z 0)).bind λ_=>
(L7 z d B i (Cy (Ac i) z)).bind λc=>
if(Bg c 0)then
some c
else
(Vu d i).bind λe=>
if(Bg e 0)then
some 8
else
some 0
abbrev UY:=Option (Int×Int×Int×Int×Int×Int)
def yN:UY:=
if(c !=([]:LB))then
some (2,z,d,B,(Cy (Ac i) z),0)
else
some (1,z,d,B,(Cy (Ac i) z),0)
def eO:=yN
def OW(j2:LB->Int->Int->Int->LX->UY)(a b f:Int)(g:LX)(h:LB):UY:=
(HI a b f g).bind λk=>
if(Bg k 0)then
some (0,0,0,0,0,k)
else
if(Dw (Ac h) 64)then
some (0,0,0,0,0,2)
else
(Jv (Bg a 0)).bind λ_=>
(
j2 h a b f g)
def tV:=OW eO
abbrev Ca:=Option (UInt64×Int)
def eS:Ca:=
some (j,0)
def eU:=eS
def dC(j30:UInt64->Ca)(h b:UInt64)(a:LB)(f:LQ):Ca:=
j30 h
def QT:=dC eU
def DS(j29:UInt64->UInt64->LB->LQ->Ca)(aH:UInt64->Int->Ca)(a:LB)(b:UInt64)(f:LQ)(h:UInt64)(m:Int):Ca:=
if(Ch m (Ac a))then
(Ak a m).bind λp=>
Option.bind (Ak f (GI.toZ (Yj (Ad (Cn h (GI.toZ (56:UInt64)).toNat):UInt8) p))) λ_=>
Option.bind (Ak f (GI.toZ (Yj (Ad (Cn h (GI.toZ (56:UInt64)).toNat):UInt8) p))) λu=>
aH (Yj (Ec h (GI.toZ (8:UInt64)).toNat) u) (Ae m 1)
else
j29 h b a f
def Qj:Nat->UInt64->Int->Ca
|0,_,_=>none
|z+1,d,e=>DS QT (Qj z) c j Bcg d e
def PO a b f:=Qj a b f Ar
def PF(j27:LB->UInt64->LQ->UInt64->Int->Ca)(b:UInt64)(a:LB)(f:LQ):Ca:=
j27 a b f b 0
def QN:=PF PO
def cW(Mp:Int->LQ->Ca)(b:UInt64)(a:LB)(g:Int)(o:LQ):Ca:=
Mp (Ae g 1) o
def dP Mp:=cW Mp
def dF(j24:Int->LQ->Ca)(b:UInt64)(a:LB)(g:Int)(k:UInt64)(f:LQ):Ca:=
(Ak f g).bind λ_=>
(Lz f g k).bind λo=>
j24 g o
def DG Mp b a:=dF (dP Mp b a) b a
def CQ(j23:Int->UInt64->LQ->Ca)(Ad2:UInt64->Int->Ca)(b:UInt64)(a:LB)(g:Int)(f:LQ)(k:UInt64)(n:Int):Ca:=
if(Ch n 8)then
Ad2 (Yj (Ec k (GI.toZ (1:UInt64)).toNat) (Bv 4823603603198064275 (Cn k (GI.toZ (63:UInt64)).toNat))) (Ae n 1)
else
j23 g k f
def Qr(Mp:Int->LQ->Ca)(b:UInt64)(a:LB)(g:Int)(f:LQ):Nat->UInt64->Int->Ca
|0,_,_=>none
|q+1,k,n=>CQ (DG Mp b a) (Qr Mp b a g f q) b a g f k n
def RQ Mp b a g f:=Qr Mp b a g f Ar
def DU(j21:Int->LQ->UInt64->Int->Ca)(j26:UInt64->LB->LQ->Ca)(b:UInt64)(a:LB)(g:Int)(f:LQ):Ca:=
if(Ch g 256)then
j21 g f (Ec (Ad g:UInt64) (GI.toZ (56:UInt64)).toNat) 0
else
j26 b a f
def Nc:Nat->Int->LQ->Ca
|0,_,_=>none
|z+1,c,d=>DU (RQ (Nc z) j Ba5) QN j Ba5 c d
def eD b a:=Nc b a Ar
def UW(j16:UInt64->LB->Int->LQ->Ca)(b:UInt64)(a:LB):Ca:=
if(Dw (Ac a) 100000)then
some (0,4)
else
j16 b a 0 (List.replicate 256 (0:UInt64))
def ZQ:=UW eD
def VU:Option (UInt64×Int):=
(ZQ 0 c).bind λ(z,d)=>
some (z,d)
def Adv:Option (LX):=
some i
def xL:=Adv
def aF(j6:LX->Option (LX))(Pp:Int->LX->Option (LX))(f:UInt64)(a:Int)(b:LX):Option (LX):=
if(Ch a 8)then
(Jv (Lk (Bv 8 a) 0)).bind λ_=>
(Ak b a).bind λ_=>
(Lz b a (Ad (Ad (Cn f (GI.toZ (Bv 8 a)).toNat):Int8):Int32)).bind λg=>
Pp (Ae a 1) g
else
j6 b
def IA:Nat->Int->LX->Option (LX)
|0,_,_=>none
|z+1,c,d=>aF xL (IA z) j c d
def Adx f:=IA f Ar
def C8(j4:UInt64->Int->LX->Option (LX))(f:UInt64):Option (LX):=
j4 f 0 (List.replicate 16 (0:Int32))
def S6:=C8 Adx
def Qv:Option (LX×Int):=
if(Dw (Ac c) 64)then
some (([(0:Int32),(0:Int32),(0:Int32),(0:Int32),(0:Int32),(0:Int32),(0:Int32),(0:Int32),(0:Int32),(0:Int32),(0:Int32),(0:Int32),(0:Int32),(0:Int32),(0:Int32),(0:Int32)]:LX),2)
else
(VU c).bind λ(z,d)=>
if(Bg d 0)then
some (([(0:Int32),(0:Int32),(0:Int32),(0:Int32),(0:Int32),(0:Int32),(0:Int32),(0:Int32),(0:Int32),(0:Int32),(0:Int32),(0:Int32),(0:Int32),(0:Int32),(0:Int32),(0:Int32)]:LX),d)
else
(S6 z).bind λe=>
some (e,0)
def MB:Option (UInt64×UInt64):=
some ((Ae (Ae (Bv (Cn j (GI.toZ (32:UInt64)).toNat) (Cn Y (GI.toZ (32:UInt64)).toNat)) (Cn (Ae (Bv (Cn j (GI.toZ (32:UInt64)).toNat) (Er Y 4294967295)) (Cn (Bv (Er j 4294967295) (Er Y 4294967295)) (GI.toZ (32:UInt64)).toNat)) (GI.toZ (32:UInt64)).toNat)) (Cn (Ae (Er (Ae (Bv (Cn j (GI.toZ (32:UInt64)).toNat) (Er Y 4294967295)) (Cn (Bv (Er j 4294967295) (Er Y 4294967295)) (GI.toZ (32:UInt64)).toNat)) 4294967295) (Bv (Er j 4294967295) (Cn Y (GI.toZ (32:UInt64)).toNat))) (GI.toZ (32:UInt64)).toNat)),(Bv j Y))
def IX:Option (UInt64×UInt64):=
(MB j Y).bind λ(z,c)=>
some (z,c)
def Nu:Option (LI):=
some E
def Je:=Nu
def He(j10:LI->Option (LI))(bk8:Int->LI->Option (LI))(b:Int)(a:LI):Option (LI):=
if(Ch b (Ac a))then
(
(iW (Ac a) b (Ac a)).bind λ_=>
(iW (Ac a) 0 b).bind λ_=>
bk8 (Ae b (QZ ((Ac a)-b) (WG a 0 (b-(0:Int))).length)) (Vh a b ((Ac a)-b) (WG a 0 (b-(0:Int)))))
else
j10 a
def Es:Nat->Int->LI->Option (LI)
|0,_,_=>none
|q+1,b,a=>He Je (Es q) b a
def Zf:=Es Ar
def Pm:Option (LI):=
(mkI (Ad Bb2:Int) (0:Int)).bind λz=>
(Jv (geq (Ad Bb2:Int) (Ad Bb2:Int))).bind λ_=>
Bch (QZ (Ac z) Bb9.length) (E9 z Bb9)
def Zb:=Pm Zf
def Pe(j7:LI->UInt64->Option (LI))(f:LI)(h:Int):Option (LI):=
(IX (Ad (Ac f):UInt64) (Ad h:UInt64)).bind λ(m,g)=>
if((Dw m 0)||(Dw g 9223372036854775807))then
none
else
j7 f g
def Zg:=Pe Zb
def Pj(j6:LI->Int->Option (LI))(f:LI)(h:Int):Option (LI):=
if(Ch h 0)then
none
else
j6 f h
def Nq:=Pj Zg
def SC:Option (LI):=
some E
def Xq:=SC
def Gq(j16:LI->Option (LI))(Au8:Int->LI->Option (LI))(a:List LI)(g:Int)(f:LI):Option (LI):=
if(Ch g (Ac a))then
(Ak a g).bind λn=>
(Df f n).bind λo=>
Au8 (Ae g 1) o
else
j16 f
def Ee:Nat->Int->LI->Option (LI)
|0,_,_=>none
|z+1,c,d=>Gq Xq (Ee z) Bb3 c d
def Ny a:=Ee a Ar
def Nv(j14:(List LI)->Int->LI->Option (LI))(a:List LI)(p:LI):Option (LI):=
j14 a 0 p
def Nz:=Nv Ny
def Nw(j13:(List LI)->LI->Option (LI))(b:Int)(a:List LI):Option (LI):=
if(Dw (Am b (Am (0:Int) (0:Int))) 0)then
(iW 0 0 0).bind λ_=>
(mkI (Am b (Am (0:Int) (0:Int))) (0:Int)).bind λu=>
(Df ([]:LI) u).bind λk=>
(iW (Ac k) 0 0).bind λ_=>
j13 a (WG k 0 ((0:Int)-(0:Int)))
else
j13 a ([]:LI)
def Xn:=Nw Nz
def Oa(j12:Int-> (List LI)->Option (LI))(a:List LI)(b:Int):Option (LI):=
if(Ch b 0)then
none
else
j12 b a
def Xl:=Oa Xn
def Hb(j11:(List LI)->Int->Option (LI))(bk9:Int->Int->Option (LI))(a:List LI)(b h:Int):Option (LI):=
if(Ch h (Ac a))then
(Ak a h).bind λm=>
if(Ch (Ae b (Ac m)) 0)then
none
else
bk9 (Ae b (Ac m)) (Ae h 1)
else
j11 a b
def Ep:Nat->Int->Int->Option (LI)
|0,_,_=>none
|z+1,c,d=>Hb Xl (Ep z) Bb3 c d
def Yw a:=Ep a Ar
def Ph(j9:(List LI)->Int->Int->Option (LI))(a:List LI):Option (LI):=
j9 a 0 0
def Ni:=Ph Yw
def QL:Option (LI):=
(Ni ([E,l7]:List LI)).bind λz=>
some z
def Vo:Option (LI×Int):=
(Ta z d).bind λ(c,e)=>
if(Bg e 0)then
some (([]:LI),e)
else
(CJ z).bind λ(i,j)=>
(Nq ([i]:LI) (Am c 1)).bind λA=>
(QL A ([(Am d (Bv (Am c 1) i))]:LI)).bind λB=>
some (B,0)
def jK:Option Int:=
(Tf z d).bind λc=>
if(Bg c 0)then
some c
else
(Vu d i).bind λe=>
if(Bg e 0)then
some e
else
if(geq (Ac i) 0)then
some 2
else
(Jv (Bg z 0)).bind λ_=>
if(Bg (Hu (Ac i) z) 0)then
some 2
else
some 0
def WK:Option Int:=
if((Ch z 1)||(Dw z 6))then
some 2
else
if(Dw (Ac i) 4000)then
some 4
else
(Jv (Bg z 0)).bind λ_=>
if(Bg (Hu (Ac i) z) 0)then
some 2
else
some 0
def Em:Option (LX):=
(
(Df ([]:LX) i).bind λz=>
some z)
abbrev Iu:=Option (LX×Int)
def yx:Iu:=
some (i,0)
def sM:=yx
def ou(VC:Int->LX->Iu)(b a:Int)(u:LX):Iu:=
VC (Ae a b) u
def zy VC:=ou VC
def Aa8(j20:Int->LX->Iu)(b a:Int)(g:LX):Iu:=
if(Dw (Am ((Ae a b)-a) 1) 0)then
(Jv (decide (0<= (Am ((Ae a b)-a) 1)/\ (Am ((Ae a b)-a) 1)<((Ae a b)-a)))).bind λ_=>
Option.bind (Jv (decide (0<= (Am (Am ((Ae a b)-a) 1) 1)/\ (Am (Am ((Ae a b)-a) 1) 1)<((Ae a b)-a)))) λ_=>
(Ak g (a+(Am ((Ae a b)-a) 1))).bind λk=>
(Ak g (a+(Am (Am ((Ae a b)-a) 1) 1))).bind λm=>
(Jv (decide (0<= (Am ((Ae a b)-a) 1)/\ (Am ((Ae a b)-a) 1)<((Ae a b)-a)))).bind λ_=>
(Lz g (a+(Am ((Ae a b)-a) 1)) (Am k (Cy m 2))).bind λn=>
j20 a n
else
j20 a g
def sO VC b:=Aa8 (zy VC b) b
def sL(j19:Int->LX->Iu)(H4:Int->LX->Iu)(b a f:Int)(g:LX):Iu:=
if(Ch f (Am ((Ae a b)-a) 1))then
(Jv (decide (0<= (Ae f 1)/\ (Ae f 1)<((Ae a b)-a)))).bind λ_=>
(Jv (decide (0<=f/\f<((Ae a b)-a)))).bind λ_=>
(Ak g (a+(Ae f 1))).bind λk=>
(Ak g (a+f)).bind λm=>
(Jv (decide (0<=f/\f<((Ae a b)-a)))).bind λ_=>
(Lz g (a+f) (Am k m)).bind λn=>
H4 (Ae f 1) n
else
j19 a g
def fH(VC:Int->LX->Iu)(b a:Int):Nat->Int->LX->Iu
|0,_,_=>none
|q+1,f,g=>sL (sO VC b) (fH VC b a q) b a f g
def tA VC b a:=fH VC b a Ar
def sT(j17:Int->Int->LX->Iu)(j22:LX->Iu)(b a:Int)(h:LX):Iu:=
if(Ch a (Ac h))then
(iW (Ac h) a (Ae a b)).bind λ_=>
j17 a 0 h
else
j22 h
def gG:Nat->Int->LX->Iu
|0,_,_=>none
|c+1,d,e=>sT (tA (gG c) z) sM z d e
def nu b:=gG b Ar
def yS(j12:Int->Int->LX->Iu)(b:Int)(o:LX):Iu:=
(WK b o).bind λp=>
if(Bg p 0)then
some (([]:LX),p)
else
(Em o).bind λv=>
j12 b 0 v
def Agm:=yS nu
abbrev lA:=Option (Int×LX×LX×Int)
def Aa5:lA:=
if C then
some (10,i,(List.replicate 16 (0:Int32)),0)
else
if(geq z 16)then
some (9,i,(List.replicate 16 (0:Int32)),0)
else
some (0,(List.replicate 16 (0:Int32)),(List.replicate 16 (0:Int32)),2)
def ug:=Aa5
def zq(j2:Int->LX->Bool->lA)(a:Int)(b:LX):lA:=
if(geq a 8)then
j2 a b (geq a 8)
else
j2 a b (geq a 24)
def oQ:=zq ug
def sG:Option (Int×Int32×Int×LX×LX×Int):=
(oQ z i).bind λ(c,d,e,j)=>
if(Bg j 0)then
some (0,0,0,(List.replicate 16 (0:Int32)),(List.replicate 16 (0:Int32)),j)
else
some (z,0,c,d,e,0)
def Vt(a:Int)(k:Int32)(b:Int)(f m:LX):Option Int:=
(oQ a f).bind λ(g,n,o,h)=>
if((Bg h 0)||(Bg g b))then
some 8
else
some 0
def eJ:Option (Int×Int):=
if(geq z 8)then
some (4,0)
else
if(geq z 16)then
if(geq z 16)then
some (5,0)
else
some (0,2)
else
if(geq z 24)then
some (5,0)
else
some (0,2)
def SI:Option Int32:=
(Jv (Lk z 0)).bind λ_=>
(Jv (Lk z 0)).bind λ_=>
some (Ad (Y4 (Am (Ec (Ad I:Int) (GI.toZ z).toNat) (Ad I:Int)) (GI.toZ z).toNat):Int32)
def Vv:Option (Int32×Int):=
(eJ z).bind λ(c,d)=>
if(Bg d 0)then
some (0,d)
else
(SI c I).bind λe=>
some (e,0)
def HX(a:Int)(b f:LX):Option Int:=
if((Bg a 9)&&(Bg a 10))then
some 8
else
some 0
abbrev Rs:=Option (Int32×Int)
def kG(h:Int32)(a:Int)(b f:LX):Rs:=
(Jv (Lk a 0)).bind λ_=>
some ((Cn h (GI.toZ a).toNat),0)
def UM:=kG
def IL(j6:Int32->Int->LX->LX->Rs)(Pp:Int32->Int->Rs)(b:LX)(a:Int)(f:LX)(h:Int32)(g:Int):Rs:=
if(Ch g 16)then
(Ak b g).bind λm=>
(Ak f g).bind λ_=>
(Ak f g).bind λn=>
Pp (Ae h (Bv m n)) (Ae g 1)
else
j6 h a b f
def Tg:Nat->Int32->Int->Rs
|0,_,_=>none
|z+1,c,d=>IL UM (Tg z) i A T c d
def jU b a f:=Tg b a f Ar
def UJ(j4:LX->Int->LX->Int32->Int->Rs)(a:Int)(b f:LX):Rs:=
(HX a b f).bind λk=>
if(Bg k 0)then
some (0,k)
else
(Jv (Lk (Am a 1) 0)).bind λ_=>
j4 b a f (Ec (1:Int32) (GI.toZ (Am a 1)).toNat) 0
def QO:=UJ jU
def VP:Option Int32:=
if(geq z 0)then
some 4
else
if(Ch z 4)then
some 2
else
some 1
abbrev Rc:=Option (Int×LX×LX×Int)
def J6:Rc:=
some (z,i,T,0)
def jV:=J6
def IM(j6:Int->LX->LX->Rc)(Pp:Int->LX->Rc)(h:Int32)(f:LX)(g a:Int)(b:LX):Rc:=
if(Ch a 16)then
(Ak f a).bind λm=>
if(geq m 0)then
Pp (Ae a 1) b
else
if((Ch m 0)==(Ch h 0))then
(Ak b a).bind λ_=>
(Ak b a).bind λo=>
(VP a).bind λp=>
(Ak b a).bind λ_=>
(Lz b a (Ae o p)).bind λu=>
Pp (Ae a 1) u
else
(Ak b a).bind λ_=>
(Ak b a).bind λv=>
(VP a).bind λw=>
(Ak b a).bind λ_=>
(Lz b a (Am v w)).bind λy=>
Pp (Ae a 1) y
else
j6 g b f
def So:Nat->Int->LX->Rc
|0,_,_=>none
|z+1,c,d=>IM jV (So z) I T G c d
def I7 h f g:=So h f g Ar
def UT(j4:Int32->LX->Int->Int->LX->Rc)(g:Int)(k f:LX)(h:Int32):Rc:=
(HX g k f).bind λn=>
if(Bg n 0)then
some (0,(List.replicate 16 (0:Int32)),(List.replicate 16 (0:Int32)),n)
else
if(geq h 0)then
some (g,k,f,0)
else
j4 h f g 0 k
def aG:=UT I7
abbrev fY:=Option (Int×LX×LX×Int)
def nG:fY:=
(Ak (Vh o9 1 ((16:Int)-(1:Int)) (WG o9 0 ((16:Int)-(0:Int)))) 0).bind λ_=>
(Lz (Vh o9 1 ((16:Int)-(1:Int)) (WG o9 0 ((16:Int)-(0:Int)))) 0 I).bind λz=>
some (G,o8,z,0)
def ZI:=nG
def NX(j2:Int32->Int->LX->LX->fY)(b:Int)(f a:LX)(g:Int32):fY:=
(HX b f a).bind λh=>
if(Bg h 0)then
some (0,(List.replicate 16 (0:Int32)),(List.replicate 16 (0:Int32)),h)
else
(
(iW 16 1 16).bind λ_=>
(iW 16 0 16).bind λ_=>
j2 g b f a)
def iM:=NX ZI
def XY:Option (Int×LX×LX):=
(aG z i T Bcd).bind λ(c,d,e,j)=>
(iM c d e l6).bind λ(A,B,C,D)=>
some (A,B,C)
def gP:Option (Int32×Int×LX×LX×Int):=
(QO z i T).bind λ(c,d)=>
if(Bg d 0)then
some (0,0,(List.replicate 16 (0:Int32)),(List.replicate 16 (0:Int32)),d)
else
(XY z i T l6 (Am l6 c)).bind λ(e,j,A)=>
some ((Am l6 c),e,j,A,0)
def IH:Option (Int32×Int×Int32×Int×LX×LX×Int):=
(Vt z I G o8 o9).bind λc=>
if(Bg c 0)then
some (0,0,0,0,(List.replicate 16 (0:Int32)),(List.replicate 16 (0:Int32)),c)
else
(Vv z I).bind λ(d,e)=>
(gP G o8 o9 (Am l6 d)).bind λ(i,j,A,B,C)=>
(
some (i,z,l6,j,A,B,C))
def N3:Option UInt32:=
some (Yj (Ec (Ad I:UInt32) (GI.toZ (1:UInt64)).toNat) (Ad (Cn I (GI.toZ (31:UInt64)).toNat):UInt32))
abbrev De:=Option (LU×Int)
def mD:De:=
some (Z,0)
def RY:=mD
def RO(j12:LU->De)(Ad3:Int-> (List (Int×Int32×(Int×LX×LX×Unit)×Unit))->LU->De)(b:LX)(a f g:Int)(k:List (Int×Int32×(Int×LX×LX×Unit)×Unit))(h:LU):De:=
if(Ch g (Ac b))then
(Ak b g).bind λ_=>
(Ak b g).bind λac=>
(Jv (Bg a 0)).bind λ_=>
(Ak k (Hu g a)).bind λ_=>
(Ak k (Hu g a)).bind λp=>
(IH p.1 p.2.1 p.2.2.1.1 p.2.2.1.2.1 p.2.2.1.2.2.1 ac).bind λ(u,ad,ae,v,af,ag,w)=>
if(Bg w 0)then
some (([]:LU),w)
else
(Lz k (Hu g a) (ad,ae,(v,af,ag,()),())).bind λah=>
(N3 u).bind λai=>
(Df h ([ai]:LU)).bind λaj=>
Ad3 (Ae g 1) ah aj
else
j12 h
def AF:Nat->Int-> (List (Int×Int32×(Int×LX×LX×Unit)×Unit))->LU->De
|0,_,_,_=>none
|z+1,c,d,e=>RO RY (AF z) i A F c d e
def PJ b a f:=AF b a f Ar
def SF(j10:LX->Int->Int->Int-> (List (Int×Int32×(Int×LX×LX×Unit)×Unit))->LU->De)(a f:Int)(b:LX)(m:List (Int×Int32×(Int×LX×LX×Unit)×Unit)):De:=
j10 b a f 0 m ([]:LU)
def mS:=SF PJ
def SK(j9:Int->Int->LX-> (List (Int×Int32×(Int×LX×LX×Unit)×Unit))->De)(bk7:Int-> (List (Int×Int32×(Int×LX×LX×Unit)×Unit))->De)(a f:Int)(n b:LX)(o:Int)(m:List (Int×Int32×(Int×LX×LX×Unit)×Unit)):De:=
if(Ch o 6)then
(sG f n).bind λ(ak,al,u,am,an,v)=>
(Ak m o).bind λ_=>
(Lz m o (ak,al,(u,am,an,()),())).bind λao=>
bk7 (Ae o 1) ao
else
j9 a f b m
def DV:Nat->Int-> (List (Int×Int32×(Int×LX×LX×Unit)×Unit))->De
|0,_,_=>none
|c+1,e,j=>SK mS (DV c) z d i T e j
def pU a f n b:=DV a f n b Ar
def SY(j7:Int->Int->LX->LX->Int-> (List (Int×Int32×(Int×LX×LX×Unit)×Unit))->De)(a f:Int)(n y:LX):De:=
(jK a f y).bind λaa=>
if(Bg aa 0)then
some (([]:LU),aa)
else
(Agm a y).bind λ(b,ab)=>
if(Bg ab 0)then
some (([]:LU),ab)
else
j7 a f n b 0 (List.replicate 6 ((0:Int),(0:Int32),((0:Int),(List.replicate 16 (0:Int32)),(List.replicate 16 (0:Int32)),()),()))
def dM:=SY pU
def mP:Option (Int×Int×UInt64×UInt64):=
some (10,10,16384,16384)
abbrev Ka:=Option ((List (Int×Int×UInt64×UInt64×Unit)))
def oT(a:List (Int×Int×UInt64×UInt64×Unit)):Ka:=
some a
def TP:=oT
def TX(j6:(List (Int×Int×UInt64×UInt64×Unit))->Ka)(Pp:Int-> (List (Int×Int×UInt64×UInt64×Unit))->Ka)(b:Int)(a:List (Int×Int×UInt64×UInt64×Unit)):Ka:=
if(Ch b 6)then
(mP).bind λ(f,g,h,k)=>
(Ak a b).bind λ_=>
(Lz a b (f,g,h,k,())).bind λm=>
Pp (Ae b 1) m
else
j6 a
def CK:Nat->Int-> (List (Int×Int×UInt64×UInt64×Unit))->Ka
|0,_,_=>none
|q+1,b,a=>TX TP (CK q) b a
def oV:=CK Ar
def SV(j4:Int-> (List (Int×Int×UInt64×UInt64×Unit))->Ka):Ka:=
j4 0 (List.replicate 6 ((0:Int),(0:Int),(0:UInt64),(0:UInt64),()))
def fC:=SV oV
def Kh:Option Int:=
if(((Ch z 0)||(Dw z 330000))||(Bg (Ac c) (Y4 (Ae z 7) (GI.toZ (3:UInt64)).toNat)))then
some 8
else
if(Dw (Er z 7) 0)then
(Ak c (Am (Ac c) 1)).bind λd=>
(Jv (Lk (Er z 7) 0)).bind λ_=>
if(Bg (Cn d (GI.toZ (Er z 7)).toNat) 0)then
some 8
else
some 0
else
some 0
def jI:Option Int:=
if(!((geq (Ej (bW z 0) 24) z)&&((geq (Ej (bW d 0) 24) d)&&((geq (Ej j 68719476735) j)&&((geq (Ej Y 68719476735) Y)&&true)))))then
some 8
else
some 0
def UG:=jI
def II(j4:Int->Int->UInt64->UInt64->Option Int)(a b:Int)(f g:UInt64):Option Int:=
(
(
j4 a b f g))
def UZ:=II UG
def IP(j3:Int->Int->UInt64->UInt64->Option Int)(a b:Int)(f g:UInt64):Option Int:=
(
(
j3 a b f g))
def RD:=IP UZ
def IB(a f:Int)(g h:UInt64)(b:UInt32):Option (Int×UInt32):=
(Jv (Lk a 0)).bind λ_=>
if(geq (Cn b (GI.toZ a).toNat) 0)then
some (0,b)
else
(Jv (Lk a 0)).bind λ_=>
some (1,(Am b (Ec (1:UInt32) (GI.toZ a).toNat)))
def Gm:Option (LB):=
(
(Df ([]:LB) c).bind λz=>
some z)
def qV:Option (LB×Int):=
(Gm c).bind λd=>
some (d,z)
abbrev Dp:=Option (LB×Int×Int)
def R8:Dp:=
some (e,z,0)
def nL:=R8
def X8(An4:UInt64->Int->Int->LB->Dp)(b:UInt64)(a:Int)(m:UInt64)(h f:Int)(w:LB):Dp:=
(Jv (Lk (Ej h (Am 8 (Er f 7))) 0)).bind λ_=>
An4 (Cn m (GI.toZ (Ej h (Am 8 (Er f 7)))).toNat) (Am h (Ej h (Am 8 (Er f 7)))) (Ae f (Ej h (Am 8 (Er f 7)))) w
def iw An4:=X8 An4
def X9(j19:UInt64->Int->Int->LB->Dp)(b:UInt64)(a:Int)(m:UInt64)(h f:Int)(u:LB):Dp:=
(Ak u (Am (Ac u) 1)).bind λ_=>
(Jv (Lk (Ej h (Am 8 (Er f 7))) 0)).bind λ_=>
(Jv (Lk (Er f 7) 0)).bind λ_=>
(Ak u (Am (Ac u) 1)).bind λad=>
(Ak u (Am (Ac u) 1)).bind λ_=>
Option.bind (Lz u (Am (Ac u) 1) (uR ad (Ec (Ad (Er m (Am (Ec (1:UInt64) (GI.toZ (Ej h (Am 8 (Er f 7)))).toNat) 1)):UInt8) (GI.toZ (Er f 7)).toNat))) λw=>
j19 m h f w
def nT An4 b a:=X9 (iw An4 b a) b a
def nX(j18:UInt64->Int->Int->LB->Dp)(j21:Int->LB->Dp)(b:UInt64)(a:Int)(m:UInt64)(h f:Int)(o:LB):Dp:=
if(Dw h 0)then
if(geq (Er f 7) 0)then
(Df o ([(0:UInt8)]:LB)).bind λaa=>
j18 m h f aa
else
j18 m h f o
else
j21 f o
def YD:Nat->UInt64->Int->Int->LB->Dp
|0,_,_,_,_=>none
|z+1,c,d,e,i=>nX (nT (YD z) j l5) nL j l5 c d e i
def Z7 b a:=YD b a Ar
def S9:Dp:=
some (e,z,0)
def pI:=S9
def X2(An5:UInt64->Int->Int->LB->Dp)(b:UInt64)(a:Int)(n:UInt64)(k g:Int)(ab:LB):Dp:=
(Jv (Lk (Ej k (Am 8 (Er g 7))) 0)).bind λ_=>
An5 (Cn n (GI.toZ (Ej k (Am 8 (Er g 7)))).toNat) (Am k (Ej k (Am 8 (Er g 7)))) (Ae g (Ej k (Am 8 (Er g 7)))) ab
def U3 An5:=X2 An5
def T0(j26:UInt64->Int->Int->LB->Dp)(b:UInt64)(a:Int)(n:UInt64)(k g:Int)(v:LB):Dp:=
(Ak v (Am (Ac v) 1)).bind λ_=>
(Jv (Lk (Ej k (Am 8 (Er g 7))) 0)).bind λ_=>
(Jv (Lk (Er g 7) 0)).bind λ_=>
(Ak v (Am (Ac v) 1)).bind λae=>
(Ak v (Am (Ac v) 1)).bind λ_=>
Option.bind (Lz v (Am (Ac v) 1) (uR ae (Ec (Ad (Er n (Am (Ec (1:UInt64) (GI.toZ (Ej k (Am 8 (Er g 7)))).toNat) 1)):UInt8) (GI.toZ (Er g 7)).toNat))) λab=>
j26 n k g ab
def oK An5 b a:=T0 (U3 An5 b a) b a
def mT(j25:UInt64->Int->Int->LB->Dp)(j28:Int->LB->Dp)(b:UInt64)(a:Int)(n:UInt64)(k g:Int)(p:LB):Dp:=
if(Dw k 0)then
if(geq (Er g 7) 0)then
(Df p ([(0:UInt8)]:LB)).bind λw=>
j25 n k g w
else
j25 n k g p
else
j28 g p
def YX:Nat->UInt64->Int->Int->LB->Dp
|0,_,_,_,_=>none
|z+1,c,d,e,i=>mT (oK (YX z) j l5) pI j l5 c d e i
def W6 b a:=YX b a Ar
def sZ(j15:UInt64->Int->UInt64->Int->Int->LB->Dp)(j22:UInt64->Int->UInt64->Int->Int->LB->Dp)(ac:LB)(y:Int)(b:UInt64)(a:Int):Dp:=
(Kh ac y).bind λaf=>
if(Bg af 0)then
some (([]:LB),0,8)
else
if((Ch a 0)||(Dw a 64))then
some (([]:LB),0,2)
else
if(Ch a 64)then
(Jv (Lk a 0)).bind λ_=>
if(Bg (Cn b (GI.toZ a).toNat) 0)then
some (([]:LB),0,16)
else
if(Dw (Ae y a) 330000)then
some (([]:LB),0,18)
else
(qV ac y).bind λ(ag,ah)=>
j15 b a b a ah ag
else
if(Dw (Ae y a) 330000)then
some (([]:LB),0,18)
else
(qV ac y).bind λ(aa,ai)=>
j22 b a b a ai aa
def fJ:=sZ Z7 W6
def OE:Option Bool:=
(Jv (Lk l5 0)).bind λ_=>
some (Lk (Cn V (GI.toZ l5).toNat) 48)
def pB:Option (Int×Int):=
if((Ch z 0)||(Dw z 48))then
some (0,2)
else
some ((Ej (Ae z 1) 48),0)
def tY:Option (LB×Int×Int):=
(Kh c z).bind λe=>
if(Bg e 0)then
some (([]:LB),0,e)
else
(pB d).bind λ(i,j)=>
if(Bg j 0)then
some (([]:LB),0,j)
else
(Jv (Lk d 0)).bind λ_=>
(fJ c z (Am (Ec (1:UInt64) (GI.toZ d).toNat) 1) i).bind λ(A,B,C)=>
some (A,B,C)
abbrev XW:=Option (LB×Int×Int)
def J4:XW:=
(tY c z d).bind λ(e,i,j)=>
if(Bg j 0)then
some (([]:LB),0,j)
else
(fJ e i (Ad V:UInt64) l5).bind λ(A,B,C)=>
some (A,B,C)
def J1:=J4
def I0(j2:LB->Int->Int->UInt32->Int->XW)(b:LB)(f:Int)(g:UInt32)(a:Int):XW:=
(Kh b f).bind λk=>
if(Bg k 0)then
some (([]:LB),0,k)
else
if((Ch a 0)||(Dw a 24))then
some (([]:LB),0,2)
else
(Jv (Lk a 0)).bind λ_=>
(Jv (Lk a 0)).bind λ_=>
(OE g a).bind λaa=>
if aa then
j2 b f 48 g 32
else
j2 b f (Ad (Cn g (GI.toZ a).toNat):Int) (Er g (Am (Ec (1:UInt32) (GI.toZ a).toNat) 1)) a
def zE:=I0 J1
abbrev Iq:=Option (LB×Int×Int×Int×UInt64×UInt64×Int)
def RZ:Iq:=
(
(
some (Ba5,z,d,B,(Ae j (Am (Ad V:UInt64) (Cn j (GI.toZ (4:UInt64)).toNat))),Y,0)))
def gB:=RZ
def kA(j10:Int->Int->Int->UInt64->UInt32->UInt64->LB->Iq)(b:UInt32)(k n:Int)(a o:UInt64)(m:LB)(u:Int):Iq:=
j10 k u n a b o m
def J2:=kA gB
def jF(j9:UInt32->Int->Int->UInt64->UInt64->LB->Int->Iq)(b:UInt32)(f:Int)(a:UInt64)(k:Int)(m:LB)(n:Int)(o:UInt64):Iq:=
if(Dw f 0)then
(Jv (Lk f 0)).bind λ_=>
if(Ch (Ae a (Am (Ad b:UInt64) (Cn a (GI.toZ (4:UInt64)).toNat))) (Ec (16:UInt64) (GI.toZ f).toNat))then
j9 b k n a o m (Am f 1)
else
if(Ch f 24)then
(Jv (Lk f 0)).bind λ_=>
if(Dw (Ae a (Am (Ad b:UInt64) (Cn a (GI.toZ (4:UInt64)).toNat))) (Ec (32:UInt64) (GI.toZ f).toNat))then
j9 b k n a o m (Ae f 1)
else
j9 b k n a o m f
else
j9 b k n a o m f
else
if(Ch f 24)then
(Jv (Lk f 0)).bind λ_=>
if(Dw (Ae a (Am (Ad b:UInt64) (Cn a (GI.toZ (4:UInt64)).toNat))) (Ec (32:UInt64) (GI.toZ f).toNat))then
j9 b k n a o m (Ae f 1)
else
j9 b k n a o m f
else
j9 b k n a o m f
def jJ:=jF J2
def jD(j8:UInt32->Int->UInt64->Int->LB->Int->UInt64->Iq)(b:UInt32)(f h:Int)(a g:UInt64)(ac k:Int)(m:LB):Iq:=
if(Bg ac 0)then
some (([]:LB),0,0,0,0,0,ac)
else
(IB f h a g b).bind λ(ag,p)=>
if(geq ag 1)then
if(Dw h 0)then
(Jv (Lk h 0)).bind λ_=>
if(Ch (Ae g (Am (Ad p:UInt64) (Cn g (GI.toZ (4:UInt64)).toNat))) (Ec (16:UInt64) (GI.toZ h).toNat))then
j8 b f a k m (Am h 1) (Ae g (Am (Ad p:UInt64) (Cn g (GI.toZ (4:UInt64)).toNat)))
else
if(Ch h 24)then
(Jv (Lk h 0)).bind λ_=>
if(Dw (Ae g (Am (Ad p:UInt64) (Cn g (GI.toZ (4:UInt64)).toNat))) (Ec (32:UInt64) (GI.toZ h).toNat))then
j8 b f a k m (Ae h 1) (Ae g (Am (Ad p:UInt64) (Cn g (GI.toZ (4:UInt64)).toNat)))
else
j8 b f a k m h (Ae g (Am (Ad p:UInt64) (Cn g (GI.toZ (4:UInt64)).toNat)))
else
j8 b f a k m h (Ae g (Am (Ad p:UInt64) (Cn g (GI.toZ (4:UInt64)).toNat)))
else
if(Ch h 24)then
(Jv (Lk h 0)).bind λ_=>
if(Dw (Ae g (Am (Ad p:UInt64) (Cn g (GI.toZ (4:UInt64)).toNat))) (Ec (32:UInt64) (GI.toZ h).toNat))then
j8 b f a k m (Ae h 1) (Ae g (Am (Ad p:UInt64) (Cn g (GI.toZ (4:UInt64)).toNat)))
else
j8 b f a k m h (Ae g (Am (Ad p:UInt64) (Cn g (GI.toZ (4:UInt64)).toNat)))
else
j8 b f a k m h (Ae g (Am (Ad p:UInt64) (Cn g (GI.toZ (4:UInt64)).toNat)))
else
j8 b f a k m h g
def J0:=jD jJ
def kI(j7:UInt32->Int->Int->UInt64->UInt64->Int->Int->LB->Iq)(b:UInt32)(v:LB)(w f h:Int)(a g:UInt64):Iq:=
(IB f h a g b).bind λ(ad,ae)=>
(fJ v w (Ad ad:UInt64) 1).bind λ(y,aa,ab)=>
if((geq ab 0)&&(geq ad 0))then
(fJ y aa (Ad ae:UInt64) f).bind λ(ah,ai,aj)=>
j7 b f h a g aj ai ah
else
if(geq ab 0)then
(zE y aa ae h).bind λ(ak,al,am)=>
j7 b f h a g am al ak
else
j7 b f h a g ab aa y
def I1:=kI J0
def kK(j6:UInt32->LB->Int->Int->Int->UInt64->UInt64->Iq)(v:LB)(w f h:Int)(a g:UInt64)(b:UInt32):Iq:=
(Kh v w).bind λan=>
if(Bg an 0)then
some (([]:LB),0,0,0,0,0,8)
else
(RD f h a g).bind λao=>
if(Bg ao 0)then
some (([]:LB),0,0,0,0,0,8)
else
j6 b v w f h a g
def yM:=kK I1
abbrev Bz:=Option (UInt32×Int)
def dV:Bz:=
some (V,0)
def PR:=dV
def EY(j30:UInt32->Bz)(Ay2:UInt32->Int->Bz)(a:LB)(b:LU)(h:UInt32)(m:Int):Bz:=
if(Ch m (Ac a))then
(Ak a m).bind λp=>
(Ak b (GI.toZ (Yj (Ad h:UInt8) p))).bind λ_=>
(Ak b (GI.toZ (Yj (Ad h:UInt8) p))).bind λu=>
Ay2 (Yj (Cn h (GI.toZ (8:UInt64)).toNat) u) (Ae m 1)
else
j30 h
def Qk:Nat->UInt32->Int->Bz
|0,_,_=>none
|z+1,d,e=>EY PR (Qk z) c Z d e
def QJ a b:=Qk a b Ar
def QC(j28:LB->LU->UInt32->Int->Bz)(f:UInt32)(a:LB)(b:LU):Bz:=
j28 a b f 0
def dW:=QC QJ
def PW(j27:UInt32->LB->LU->Bz)(f:UInt32)(a:LB)(b:LU):Bz:=
j27 f a b
def QF:=PW dW
def dE(Mp:Int->LU->Bz)(f:UInt32)(a:LB)(g:Int)(o:LU):Bz:=
Mp (Ae g 1) o
def fV Mp:=dE Mp
def eN(j24:Int->LU->Bz)(f:UInt32)(a:LB)(g:Int)(k:UInt32)(b:LU):Bz:=
(Ak b g).bind λ_=>
(Lz b g k).bind λo=>
j24 g o
def DQ Mp f a:=eN (fV Mp f a) f a
def DF(j23:Int->UInt32->LU->Bz)(Ad2:UInt32->Int->Bz)(f:UInt32)(a:LB)(g:Int)(b:LU)(k:UInt32)(n:Int):Bz:=
if(Ch n 8)then
Ad2 (Yj (Cn k (GI.toZ (1:UInt64)).toNat) (Bv 3988292384 (Er k 1))) (Ae n 1)
else
j23 g k b
def Qc(Mp:Int->LU->Bz)(f:UInt32)(a:LB)(g:Int)(b:LU):Nat->UInt32->Int->Bz
|0,_,_=>none
|q+1,k,n=>DF (DQ Mp f a) (Qc Mp f a g b q) f a g b k n
def PC Mp f a g b:=Qc Mp f a g b Ar
def EZ(j21:Int->LU->UInt32->Int->Bz)(j26:UInt32->LB->LU->Bz)(f:UInt32)(a:LB)(g:Int)(b:LU):Bz:=
if(Ch g 256)then
j21 g b (Ad g:UInt32) 0
else
j26 f a b
def Mt:Nat->Int->LU->Bz
|0,_,_=>none
|z+1,c,d=>EZ (PC (Mt z) V Ba5) QF V Ba5 c d
def dJ f a:=Mt f a Ar
def UQ(j16:UInt32->LB->Int->LU->Bz)(f:UInt32)(a:LB):Bz:=
if(Dw (Ac a) 100000)then
some (0,4)
else
j16 f a 0 (List.replicate 256 (0:UInt32))
def ZW:=UQ dJ
def Wu:Option (UInt32×Int):=
(ZW 4294967295 c).bind λ(z,d)=>
if(Bg d 0)then
some (0,d)
else
some ((B3 z),0)
def vR:Option Bool:=
if(geq l5 8)then
some true
else
(Jv (Lk (Bv 8 l5) 0)).bind λ_=>
some (geq (Cn j (GI.toZ (Bv 8 l5)).toNat) 0)
abbrev AQ:=Option (LB×Int)
def tR:AQ:=
some (c,0)
def cZ:=tR
def TB(j6:LB->AQ)(Pp:Int->LB->AQ)(f:UInt64)(g:LB)(a:Int)(b:LB):AQ:=
if(Ch a (Ac g))then
(Jv (Lk (Bv 8 a) 0)).bind λ_=>
(Ak b a).bind λ_=>
(Lz b a (Ad (Cn f (GI.toZ (Bv 8 a)).toNat):UInt8)).bind λk=>
Pp (Ae a 1) k
else
j6 b
def BZ:Nat->Int->LB->AQ
|0,_,_=>none
|z+1,c,d=>TB cZ (BZ z) j Ba5 c d
def tS f g:=BZ f g Ar
def eT(j4:UInt64->LB->Int->LB->AQ)(f:UInt64)(h:Int):AQ:=
if((Ch h 1)||(Dw h 8))then
some (([]:LB),2)
else
(vR f h).bind λm=>
if(!m)then
some (([]:LB),16)
else
(mkI h (0:UInt8)).bind λg=>
(Jv (geq h h)).bind λ_=>
j4 f g 0 g
def Yq:=eT tS
def OJ:Option (LB):=
some c
def Uf:=OJ
def Um(j16:LB->Option (LB))(Au8:Int->LB->Option (LB))(a:List LB)(g:Int)(f:LB):Option (LB):=
if(Ch g (Ac a))then
(Ak a g).bind λn=>
(Df f n).bind λo=>
Au8 (Ae g 1) o
else
j16 f
def Md:Nat->Int->LB->Option (LB)
|0,_,_=>none
|z+1,c,d=>Um Uf (Md z) Ba8 c d
def Ua a:=Md a Ar
def Un(j14:(List LB)->Int->LB->Option (LB))(a:List LB)(p:LB):Option (LB):=
j14 a 0 p
def OC:=Un Ua
def Uy(j13:(List LB)->LB->Option (LB))(b:Int)(a:List LB):Option (LB):=
if(Dw (Am b (Am (0:Int) (0:Int))) 0)then
(iW 0 0 0).bind λ_=>
(mkI (Am b (Am (0:Int) (0:Int))) (0:UInt8)).bind λu=>
(Df ([]:LB) u).bind λk=>
(iW (Ac k) 0 0).bind λ_=>
j13 a (WG k 0 ((0:Int)-(0:Int)))
else
j13 a ([]:LB)
def OD:=Uy OC
def Uo(j12:Int-> (List LB)->Option (LB))(a:List LB)(b:Int):Option (LB):=
if(Ch b 0)then
none
else
j12 b a
def OG:=Uo OD
def Wb(j11:(List LB)->Int->Option (LB))(bk9:Int->Int->Option (LB))(a:List LB)(b h:Int):Option (LB):=
if(Ch h (Ac a))then
(Ak a h).bind λm=>
if(Ch (Ae b (Ac m)) 0)then
none
else
bk9 (Ae b (Ac m)) (Ae h 1)
else
j11 a b
def Na:Nat->Int->Int->Option (LB)
|0,_,_=>none
|z+1,c,d=>Wb OG (Na z) Ba8 c d
def PL a:=Na a Ar
def Wl(j9:(List LB)->Int->Int->Option (LB))(a:List LB):Option (LB):=
j9 a 0 0
def CF:=Wl PL
abbrev Br:=Option (LB×Int)
def lW(v:Int)(p:LB):Br:=
(Wu p).bind λ(af,ac)=>
if(Bg ac 0)then
some (([]:LB),ac)
else
(Yq (Ad af:UInt64) 4).bind λ(m,h)=>
if(Bg h 0)then
some (([]:LB),h)
else
(CF ([p,m]:List LB)).bind λag=>
some (ag,0)
def QG:=lW
def lE(aH:Int-> (List (Int×Int×UInt64×UInt64×Unit))->Int->LB->Br)(b:LU)(a g f:Int)(n:List (Int×Int×UInt64×UInt64×Unit))(k:Int)(w:LB):Br:=
aH (Ae f 1) n k w
def RU aH:=lE aH
def mL(H5:Int->Int->LB->Br)(h:Int)(b:LU)(f a g:Int)(n:List (Int×Int×UInt64×UInt64×Unit))(m:LB)(o k:Int)(ab:LB):Br:=
H5 (Ae o 1) (Ae k 1) ab
def lH H5:=mL H5
def kW(j48:Int->Int->LB->Br)(h:Int)(b:LU)(f a g:Int)(n:List (Int×Int×UInt64×UInt64×Unit))(m:LB)(o k:Int)(y:LB):Br:=
(Ak m (Cy o 8)).bind λ_=>
(Ak m (Cy o 8)).bind λah=>
(Jv (Lk (Hu o 8) 0)).bind λ_=>
(Ak y (Cy k 8)).bind λ_=>
(Jv (Lk (Hu k 8) 0)).bind λ_=>
(Ak y (Cy k 8)).bind λai=>
(Ak y (Cy k 8)).bind λ_=>
Option.bind (Lz y (Cy k 8) (uR ai (Ec (Er (Cn ah (GI.toZ (Hu o 8)).toNat) 1) (GI.toZ (Hu k 8)).toNat))) λab=>
j48 o k ab
def PT H5 h b f a g n m:=kW (lH H5 h b f a g n m) h b f a g n m
def RS(j47:Int->Int->LB->Br)(j50:Int-> (List (Int×Int×UInt64×UInt64×Unit))->Int->LB->Br)(b:LU)(a g h f:Int)(n:List (Int×Int×UInt64×UInt64×Unit))(m:LB)(o k:Int)(w:LB):Br:=
if(Ch o h)then
if(geq (Hu k 8) 0)then
(Df w ([(0:UInt8)]:LB)).bind λaj=>
j47 o k aj
else
j47 o k w
else
j50 f n k w
def AN(aH:Int-> (List (Int×Int×UInt64×UInt64×Unit))->Int->LB->Br)(b:LU)(a g h f:Int)(n:List (Int×Int×UInt64×UInt64×Unit))(m:LB):Nat->Int->Int->LB->Br
|0,_,_,_=>none
|q+1,o,k,w=>RS (PT (AN aH b a g h f n m q) h b f a g n m) (RU aH b a g) b a g h f n m o k w
def QM aH b a g h f n m:=AN aH b a g h f n m Ar
def QS(j44:Int->Int-> (List (Int×Int×UInt64×UInt64×Unit))->LB->Int->Int->LB->Br)(j52:Int->LB->Br)(b:LU)(a g f:Int)(u:List (Int×Int×UInt64×UInt64×Unit))(v:Int)(p:LB):Br:=
if(Ch f (Ac b))then
(Ak b f).bind λ_=>
(Ak b f).bind λak=>
(Jv (Bg a 0)).bind λ_=>
(Ak u (Hu f a)).bind λ_=>
(Ak u (Hu f a)).bind λaa=>
(yM ([]:LB) 0 aa.1 aa.2.1 aa.2.2.1 aa.2.2.2.1 ak).bind λ(m,h,al,am,an,ao,ad)=>
if(Bg ad 0)then
some (([]:LB),ad)
else
(Jv (Bg a 0)).bind λ_=>
(Ak u (Hu f a)).bind λ_=>
(Lz u (Hu f a) (al,am,an,ao,())).bind λn=>
j44 h f n m 0 v p
else
j52 v p
def AJ:Nat->Int-> (List (Int×Int×UInt64×UInt64×Unit))->Int->LB->Br
|0,_,_,_,_=>none
|z+1,c,d,e,i=>QS (QM (AJ z) Z Bba Bbb) QG Z Bba Bbb c d e i
def kT b a g:=AJ b a g Ar
def SO(j27:LU->Int->Int->Int-> (List (Int×Int×UInt64×UInt64×Unit))->Int->LB->Br)(a g:Int)(ap aq:LX):Br:=
(dM a g ap aq).bind λ(b,ae)=>
if(Bg ae 0)then
some (([]:LB),ae)
else
(fC).bind λar=>
j27 b a g 0 ar 0 ([]:LB)
def FI:=SO kT
def Wp(a:Int)(b:LX):LI->Int->Option (List LX)
  |[],_=>some []
  |n::l,x=>Option.bind (Bi b x (Ae x (Bv n a))) λp=>Option.bind (Wp a b l (Ae x (Bv n a))) λps=>some (p::ps)
def IY(a f:Int)(t:LX):List LX->List LB->Option (List LB×Int)
  |[],o=>some (o,0)
  |x::xs,o=>Option.bind (FI a f t x) λy=>
    if(Bg y.2 0)=true then some ([],y.2)
    else Option.bind (Df o [y.1]) λo'=>IY a f t xs o'
def fQ:Option (List LX):=
  Option.bind (Jv (Bg z 0)) λ_=>Option.bind (Vo d (Cy (Ac i) z)) λc=>Option.bind (Jv (decide (Ac c.1<=17179869184))) λ_=>Wp z i c.1 0
def dS:Option (List LB×Int):=
  Option.bind (HI z d B i) λc=>
    if(Bg c 0)=true then some ([],c)
    else Option.bind (Qv e) λj=>
      if(Bg j.2 0)=true then some ([],j.2)
      else Option.bind (fQ z B i) λA=>IY z d j.1 A []
def HO(b f a g h:Int):Option Bool:=
some (((((((geq b 1)||(geq b 2))&&(Dw f 0))&&(pV f 6))&&(Dw g 0))&&(pV g 1048576))&&(Dw h 0))
def Qp:=HO
def HJ(j2:Int->Int->Int->Int->Int->Option Bool)(b f a g h:Int):Option Bool:=
if(geq a 8)then
if(geq a 8)then
j2 b f a g h
else
some false
else
if(geq a 16)then
if(geq a 16)then
j2 b f a g h
else
some false
else
if(geq a 24)then
j2 b f a g h
else
some false
def Pd:=HJ Qp
def KU(k a m f b:Int):Option Bool:=
(Jv (Bg a 0)).bind λ_=>
if(Dw b (Cy 4000 a))then
some false
else
(Ta f b).bind λ(g,h)=>
some ((geq h 0)&&(pV g 1000))
def Rb:Option Int:=
(Pd z d B R U).bind λc=>
if(!c)then
some 8
else
(KU z d B R U).bind λe=>
if(!e)then
some 8
else
some 0
abbrev Mz:=Option (LB×Int)
def uN:Mz:=
(Wu c).bind λ(z,d)=>
(Yq (Ad z:UInt64) 4).bind λ(e,i)=>
(Df c e).bind λj=>
some (j,0)
def bF:=uN
def ML(j6:LB->Mz)(Pp:Int->LB->Mz)(b f g h k m:Int)(a:LB):Mz:=
if(Ch m 5)then
(Ak ([b,f,g,h,k]:LI) m).bind λw=>
(Ak ([(2:Int),(2:Int),(2:Int),(4:Int),(4:Int)]:LI) m).bind λy=>
(Yq (Ad w:UInt64) y).bind λ(n,v)=>
(Df a n).bind λo=>
Pp (Ae m 1) o
else
j6 a
def Of:Nat->Int->LB->Mz
|0,_,_=>none
|c+1,e,i=>ML bF (Of c) z d B R U e i
def uS b f g h k:=Of b f g h k Ar
def bI(j4:Int->Int->Int->Int->Int->Int->LB->Mz)(b f g h k:Int):Mz:=
(Rb b f g h k).bind λp=>
if(Bg p 0)then
some (([]:LB),p)
else
j4 b f g h k 0 ([(84:UInt8),(84:UInt8),(65:UInt8),(49:UInt8)]:LB)
def oF:=bI uS
def rJ:Option (UInt64×Int):=
if(Dw (Ac c) 64)then
some (0,2)
else
(VU c).bind λ(z,d)=>
some (z,0)
def EG:Option (LB×Int):=
(rJ c).bind λ(z,d)=>
if(Bg d 0)then
some (([]:LB),d)
else
(Yq z 8).bind λ(e,i)=>
some (e,i)
def B4:Option Int:=
some 0
def gQ:=B4
def FK:Option Int:=
if(Ch q8 (Ac Bbh))then
(Ak Bbh q8).bind λz=>
if((Ch z 5)||(Dw z r9))then
some 8
else
Bbg (Am r9 z) (Ae q8 1)
else
Ba6
def Ql:Nat->Int->Int->Option Int
|0,_,_=>none
|z+1,c,d=>FK gQ (Ql z) E c d
def eY a:=Ql a Ar
def EP(j4:LI->Int->Int->Option Int)(a:LI):Option Int:=
if((geq (Ac a) 0)||(Dw (Ac a) 1000))then
some 8
else
j4 a 100000 0
def Pb:=EP eY
abbrev Hc:=Option (LB×Int)
def uL:Hc:=
some (c,0)
def uV:=uL
def uO(j14:LB->Hc)(b:LB):Hc:=
(Wu b).bind λ(m,u)=>
(Yq (Ad m:UInt64) 4).bind λ(n,v)=>
(Df b n).bind λg=>
j14 g
def aO:=uO uV
def uX(bk8:Int->LB->Hc)(a:LI)(f:Int)(h:LB):Hc:=
bk8 (Ae f 1) h
def aU bk8:=uX bk8
def gI(j11:Int->LB->Hc)(j13:LB->Hc)(a:LI)(f:Int)(b:LB):Hc:=
if(Ch f (Ac a))then
(Ak a f).bind λo=>
(Yq (Ad o:UInt64) 4).bind λ(p,w)=>
(Df b p).bind λh=>
j11 f h
else
j13 b
def OY:Nat->Int->LB->Hc
|0,_,_=>none
|z+1,c,d=>gI (aU (OY z) E) aO E c d
def E5 a:=OY a Ar
def dN(j8:LI->Int->LB->Hc)(a:LI):Hc:=
(Pb a).bind λk=>
if(Bg k 0)then
some (([]:LB),k)
else
j8 a 0 ([]:LB)
def uE:=dN E5
def jM:Option Int:=
some (Ac c)
def yD:Option (LB):=
some c
def fX:=yD
def fF(j6:LB->Option (LB))(Pp:Int->LB->Option (LB))(a:List LB)(f:Int)(b:LB):Option (LB):=
if(Ch f (Ac a))then
(Ak a f).bind λg=>
(Df b g).bind λh=>
Pp (Ae f 1) h
else
j6 b
def RP:Nat->Int->LB->Option (LB)
|0,_,_=>none
|z+1,c,d=>fF fX (RP z) Ba8 c d
def A4 a:=RP a Ar
def dO(j4:(List LB)->Int->LB->Option (LB))(a:List LB):Option (LB):=
j4 a 0 ([]:LB)
def uG:=dO A4
abbrev En:=Option (LB×Int)
def uJ:En:=
if(Bg z 0)then
some (([]:LB),z)
else
(Df ([Bbr,Bbs,Bce]:List LB) Ba8).bind λc=>
(uG c).bind λd=>
some (d,0)
def uY:=uJ
def uK(j14:Int-> (List LB)->LB->LB->LB->En)(h:LI)(a:List LB)(b f:LB):En:=
(uE h).bind λ(n,k)=>
j14 k a b f n
def bG:=uK uY
def uI(bk9:Int->LI->En)(a:List LB)(b f:LB)(g:Int)(m:LI):En:=
bk9 (Ae g 1) m
def aT bk9:=uI bk9
def eX(j11:Int->LI->En)(j13:LI-> (List LB)->LB->LB->En)(a:List LB)(b f:LB)(g:Int)(h:LI):En:=
if(Ch g (Ac a))then
(Ak a g).bind λ_=>
(Ak a g).bind λae=>
(jM ae).bind λk=>
(Ak h g).bind λ_=>
(Lz h g k).bind λm=>
j11 g m
else
j13 h a b f
def RE:Nat->Int->LI->En
|0,_,_=>none
|z+1,c,d=>eX (aT (RE z) Ba8 Bbr Bbs) bG Ba8 Bbr Bbs c d
def C6 a b f:=RE a b f Ar
def cX(j9:(List LB)->LB->LB->Int->LI->En)(a:List LB)(b f:LB):En:=
(mkI (Ac a) (0:Int)).bind λaf=>
(Jv (geq (Ac a) (Ac a))).bind λ_=>
j9 a b f 0 af
def xY:=cX C6
def dH(j8:(List LB)->LB->LB->En)(p u v:Int)(w:LX)(o:LB):En:=
(tV p u v w o).bind λ(y,ag,ah,ai,aj,aa)=>
if(Bg aa 0)then
some (([]:LB),aa)
else
(dS p u v w o).bind λ(a,ab)=>
if(Bg ab 0)then
some (([]:LB),ab)
else
(oF y ag ah ai aj).bind λ(b,ac)=>
if(Bg ac 0)then
some (([]:LB),ac)
else
if(geq y 2)then
(EG o).bind λ(ak,al)=>
j8 a b ak
else
j8 a b ([]:LB)
def uB:=dH xY
def oX:Option (Int×Int):=
if((Ch z 0)||(Dw z 100000))then
some (0,2)
else
some ((Ae (bW z 8022) 8000),0)
def CA:Option (LB×LB×Int×Int×Int×Int×Int×LI×Int×LB×Bool×Int×Int):=
if(Dw (Ac c) 64)then
some (([]:LB),([]:LB),0,0,0,0,0,([]:LI),0,([]:LB),false,0,2)
else
some (c,([]:LB),0,0,0,0,0,([]:LI),0,([]:LB),false,0,0)
def Hv:Option (LB):=
(
(Df ([]:LB) c).bind λz=>
some z)
def Ga:Option (LI):=
(
(Df ([]:LI) E).bind λz=>
some z)
def Dg:Option (LB×LB×Int×Int×Int×Int×Int×LI×Int×LB×Bool×Int):=
(Hv e).bind λz=>
(Hv M).bind λd=>
(Ga J).bind λi=>
some (c,z,A,F,N,O,P,i,L,d,C,D)
def Dh:Option (LI×Int):=
(Rb z d B R U).bind λc=>
if(Bg c 0)then
some (([]:LI),c)
else
(Vo R U).bind λ(e,i)=>
some (e,i)
def Mw(a f g h k:Int)(b:LB):Option Int:=
if((b==([]:LB)) !=(geq a 1))then
some 26
else
some 0
def aL(y:Int)(o p:LB)(h b f k m:Int)(g:LI)(a:Int)(n:LB)(u:Bool)(v:Int):Option Bool:=
some (pV (Ac n) y)
def MF:=aL
def Zk(j8:Int->LB->LB->Int->Int->Int->Int->Int->LI->Int->LB->Bool->Int->Option Bool)(H8:Int->Int->Option Bool)(w:LI)(o p:LB)(h b f k m:Int)(g:LI)(a:Int)(n:LB)(u:Bool)(v y aa:Int):Option Bool:=
if(Ch aa (Ac w))then
(Ak w aa).bind λac=>
H8 (Ae y (Cy (Bv (Bv ac b) f) 8)) (Ae aa 1)
else
j8 y o p h b f k m g a n u v
def Oe:Nat->Int->Int->Option Bool
|0,_,_=>none
|z+1,c,d=>Zk MF (Oe z) E e Bbv A F N O P J L M C D c d
def bD w o p h b f k m g a n u v:=Oe w o p h b f k m g a n u v Ar
def ME(j6:LI->LB->LB->Int->Int->Int->Int->Int->LI->Int->LB->Bool->Int->Int->Int->Option Bool)(o p:LB)(h b f k m:Int)(g:LI)(a:Int)(n:LB)(u:Bool)(v:Int)(ab:LI):Option Bool:=
if(geq (Ac g) 0)then
some ((geq a 0)&&(geq (Ac n) 0))
else
(Pb g).bind λad=>
if((((Bg ad 0)||(Bg (Ac g) (Ac ab)))||(Ch a 0))||(Dw a (Ac ab)))then
some false
else
(Bi ab 0 a).bind λw=>
j6 w o p h b f k m g a n u v 0 0
def bB:=ME bD
def MK(j5:LB->LB->Int->Int->Int->Int->Int->LI->Int->LB->Bool->Int->LI->Option Bool)(o p:LB)(h b f k m:Int)(g:LI)(a:Int)(n:LB)(u:Bool)(v:Int):Option Bool:=
if((geq h 0)&&((geq b 0)&&((geq f 0)&&((geq k 0)&&((geq m 0)&&true)))))then
some (((geq (Ac g) 0)&&(geq a 0))&&(geq (Ac n) 0))
else
(Dh h b f k m).bind λ(ab,ae)=>
if(Bg ae 0)then
some false
else
(Mw h b f k m o).bind λaf=>
if(Bg af 0)then
some false
else
j5 o p h b f k m g a n u v ab
def Ws:=MK bB
def Jb:Option Bool:=
some (c==e)
def Le:Option Bool:=
if(Lk (Ac c) (Ac e))then
(Bi c 0 (Ac e)).bind λz=>
(Jb z e).bind λd=>
some d
else
some false
abbrev Lh:=Option (Int×Int)
def qU:Lh:=
some (z,0)
def WT:=qU
def Wx(j6:Int->Lh)(Pp:Int->Int->Lh)(a:LB)(b f:Int):Lh:=
if(Ch f (Ac a))then
(Ak a f).bind λg=>
if(Dw g 127)then
some (0,12)
else
Pp (uR (Ec b (GI.toZ (7:UInt64)).toNat) (Ad g:Int)) (Ae f 1)
else
j6 b
def Mk:Nat->Int->Int->Lh
|0,_,_=>none
|z+1,d,e=>Wx WT (Mk z) c d e
def VJ a:=Mk a Ar
def ID(j4:LB->Int->Int->Lh)(a:LB):Lh:=
if(Bg (Ac a) 4)then
some (0,2)
else
j4 a 0 0
def IK:=ID VJ
abbrev Il:=Option (Int×Int)
def aR:Il:=
if(Dw l9 4000)then
some (0,4)
else
if(Ch (Ac c) l9)then
some (0,24)
else
if(geq Bbf 16)then
(Bi c (Am l9 10) l9).bind λz=>
(Bi z 0 3).bind λd=>
if(d !=([51,68,73]:LB))then
some (0,12)
else
(Bi z 3 (Ac z)).bind λe=>
(Bi c 3 10).bind λi=>
(Jb e i).bind λj=>
if(!j)then
some (0,12)
else
some (l9,0)
else
some (l9,0)
def LR:=aR
def bA(j8:LB->UInt8->Int->Il)(a:LB)(g:Int)(b:UInt8):Il:=
if(geq b 16)then
j8 a b (Ae (Ae g 10) 10)
else
j8 a b (Ae g 10)
def MO:=bA LR
def aI(j7:LB->Int->UInt8->Il)(a:LB)(g:Int)(b:UInt8)(m:Bool):Il:=
if m then
some (0,12)
else
j7 a g b
def LK:=aI MO
def MN(j6:LB->Int->UInt8->Bool->Il)(a:LB)(f b:UInt8):Il:=
(Bi a 6 10).bind λaa=>
(IK aa).bind λ(g,ab)=>
if(Bg ab 0)then
if true then
j6 a g b true
else
if(geq b 0)then
j6 a g b (!((Lk f 2)&&(pV f 4)))
else
if(geq b 16)then
j6 a g b (!(geq f 4))
else
j6 a g b (!false)
else
(Ak a 4).bind λac=>
if(Bg ac 0)then
j6 a g b true
else
if(geq b 0)then
j6 a g b (!((Lk f 2)&&(pV f 4)))
else
if(geq b 16)then
j6 a g b (!(geq f 4))
else
j6 a g b (!false)
def LW:=MN LK
def Zm(j5:LB->UInt8->UInt8->Il)(a:LB):Il:=
(Le a ([(73:UInt8),(68:UInt8),(51:UInt8)]:LB)).bind λn=>
if(!n)then
some (0,6)
else
if(Ch (Ac a) 10)then
some (0,24)
else
(Ak a 3).bind λf=>
(Ak a 5).bind λb=>
(
(
(
j5 a f b)))
def NR:=Zm LW
abbrev AS:=Option (UInt64×Int)
def oq:AS:=
some (j,0)
def tF:=oq
def TE(j6:UInt64->AS)(Pp:UInt64->Int->AS)(a:LB)(f:UInt64)(b:Int):AS:=
if(Ch b (Ac a))then
(Ak a b).bind λg=>
(Jv (Lk (Bv 8 b) 0)).bind λ_=>
Pp (uR f (Ec (Ad g:UInt64) (GI.toZ (Bv 8 b)).toNat)) (Ae b 1)
else
j6 f
def BB:Nat->UInt64->Int->AS
|0,_,_=>none
|z+1,d,e=>TE tF (BB z) c d e
def tU a:=BB a Ar
def gN(j4:LB->UInt64->Int->AS)(a:LB):AS:=
if((Ch (Ac a) 1)||(Dw (Ac a) 8))then
some (0,2)
else
j4 a 0 0
def dT:=gN tU
def WN:Option (UInt64×Int):=
if(((Ch d 1)||(Dw d 8))||(Ch z 0))then
some (0,2)
else
if(Dw z (Am (Ac c) d))then
some (0,24)
else
(Bi c z (Ae z d)).bind λe=>
(dT e).bind λ(i,j)=>
some (i,j)
def C2:Option (LB):=
some c
def lJ:=C2
def YZ(j6:LB->Option (LB))(Pp:Int->LB->Option (LB))(a b:Int)(f:UInt64)(h:Int)(g:LB):Option (LB):=
if(Ch h (Ac ([(2000:UInt64),(Ad (Ae a 32):UInt64),(Ad b:UInt64),f,(0:UInt64),(0:UInt64)]:LQ)))then
(Ak ([(2000:UInt64),(Ad (Ae a 32):UInt64),(Ad b:UInt64),f,(0:UInt64),(0:UInt64)]:LQ) h).bind λ_=>
(Ak ([(2000:UInt64),(Ad (Ae a 32):UInt64),(Ad b:UInt64),f,(0:UInt64),(0:UInt64)]:LQ) h).bind λk=>
(Yq k 4).bind λ(m,o)=>
(Df g m).bind λn=>
Pp (Ae h 1) n
else
j6 g
def AV:Nat->Int->LB->Option (LB)
|0,_,_=>none
|c+1,e,i=>YZ lJ (AV c) z d j e i
def xM a b f:=AV a b f Ar
def mC(j4:Int->Int->UInt64->Int->LB->Option (LB))(a b:Int)(f:UInt64):Option (LB):=
j4 a b f 0 ([(65:UInt8),(80:UInt8),(69:UInt8),(84:UInt8),(65:UInt8),(71:UInt8),(69:UInt8),(88:UInt8)]:LB)
def gZ:=mC xM
def OP:Option (Int×Int×Bool):=
(WN c 12 4).bind λ(z,d)=>
(WN c 16 4).bind λ(e,i)=>
if(((Ch z 32)||(Dw z 3032))||(Dw e 1000))then
some (0,0,false)
else
(gZ (Am (Ad z:Int) 32) (Ad e:Int) j).bind λA=>
(Jb c A).bind λB=>
some ((Am (Ad z:Int) 32),(Ad e:Int),B)
def iA:Option (Int×Int):=
(Le c ([(65:UInt8),(80:UInt8),(69:UInt8),(84:UInt8),(65:UInt8),(71:UInt8),(69:UInt8),(88:UInt8)]:LB)).bind λz=>
if(!z)then
some (0,6)
else
if(Ch (Ac c) 32)then
some (0,24)
else
(Bi c 0 32).bind λd=>
(OP d 2684354560).bind λ(e,i,j)=>
if(!j)then
some (0,12)
else
if(Ch (Ac c) (Ae e 64))then
some (0,24)
else
(Bi c (Am (Ae e 64) 32) (Ae e 64)).bind λA=>
(gZ e i 2147483648).bind λB=>
(Jb A B).bind λC=>
if(!C)then
some (0,12)
else
some ((Ae e 64),0)
def Vs:Option (Int×Int):=
(NR c).bind λ(z,d)=>
if(Bg d 6)then
some (z,d)
else
(iA c).bind λ(e,i)=>
some (e,i)
def Te(b:List UInt8):Nat->Int->Option (Int×Int)
  |0,_=>none
  |q+1,x=>Option.bind (Bi b x (Ac b)) λs=>Option.bind (Vs s) λr=>
    if geq r.2 (6:Int)=true then some (x,0)
    else if(geq r.2 (0:Int)&&Dw (Ae x r.1) (4000:Int))=true then some (0,4)
    else if Bg r.2 (0:Int)=true then some (0,r.2)
    else Te b q (Ae x r.1)
def Iy(b:List UInt8):Option (Int×Int):=Te b Ar 0
def Ah:Option (Bool×Int):=
some (false,z)
def Gi:Option Bool:=
if(Lk (Ac c) (Ac e))then
(Bi c 0 (Ac e)).bind λz=>
some (z==e)
else
some false
def Ia:Option Bool:=
(Gi c e).bind λz=>
some z
def uP:Option Bool:=
some false
def aQ:=uP
def Sd(j6:Option Bool)(Pp:Int->Option Bool)(a:LB)(b:Int):Option Bool:=
if(Ch b 2)then
(Ak ([([73,68,51]:LB),([65,80,69,84,65,71,69,88]:LB)]:List LB) b).bind λf=>
if(Ch (Ac a) (Ac f))then
(Ia f a).bind λg=>
if g then
some true
else
Pp (Ae b 1)
else
Pp (Ae b 1)
else
j6
def Iw:Nat->Int->Option Bool
|0,_=>none
|z+1,d=>Sd aQ (Iw z) c d
def aS a:=Iw a Ar
def MI(j4:LB->Int->Option Bool)(a:LB):Option Bool:=
j4 a 0
def Pc:=MI aS
abbrev Pn:=Option (Int×Int×Int×Int×Int×Int)
def gC:Pn:=
(Ak E 0).bind λ_=>
(Ak E 0).bind λz=>
(Ak E 1).bind λ_=>
(Ak E 1).bind λc=>
(Ak E 2).bind λ_=>
(Ak E 2).bind λd=>
(Ak E 3).bind λ_=>
(Ak E 3).bind λe=>
(Ak E 4).bind λ_=>
(Ak E 4).bind λi=>
(Pd z c d e i).bind λj=>
if(!j)then
some (0,0,0,0,0,12)
else
(KU z c d e i).bind λA=>
if(!A)then
some (0,0,0,0,0,4)
else
some (z,c,d,e,i,0)
def DB:=gC
def DC(j6:LI->Pn)(Pp:Int->Int->LI->Pn)(b:LB)(g f:Int)(a:LI):Pn:=
if(Ch f 5)then
(Ak ([(2:Int),(2:Int),(2:Int),(4:Int),(4:Int)]:LI) f).bind λh=>
(WN b g h).bind λ(v,ae)=>
(Ak a f).bind λ_=>
(Lz a f (Ad v:Int)).bind λw=>
Pp (Ae g h) (Ae f 1) w
else
j6 a
def Ms:Nat->Int->Int->LI->Pn
|0,_,_,_=>none
|z+1,d,e,i=>DC DB (Ms z) c d e i
def QA b:=Ms b Ar
def RB(j4:LB->Int->Int->LI->Pn)(b:LB):Pn:=
(Bi b 0 (Ej 4 (Ac b))).bind λy=>
(Ia ([84,84,65,49]:LB) y).bind λaa=>
if(!aa)then
some (0,0,0,0,0,12)
else
if(Ch (Ac b) 22)then
some (0,0,0,0,0,24)
else
(WN b 18 4).bind λ(ab,af)=>
(Bi b 0 18).bind λac=>
(Wu ac).bind λ(ad,ag)=>
if(Bg (Ad ad:UInt64) ab)then
some (0,0,0,0,0,22)
else
j4 b 4 0 (List.replicate 5 (0:Int))
def Mh:=RB QA
def Xg:Option (Bool×Int):=
(EG e).bind λ(z,d)=>
if((Bg d 0)||(Bg (Ac c) (Ac z)))then
some (false,2)
else
(Jb c z).bind λi=>
some (i,0)
abbrev Rp:=Option (LI×Int)
def kL:Rp:=
(Pb E).bind λz=>
if(Bg z 0)then
some (([]:LI),12)
else
some (E,0)
def IG:=kL
def IJ(j6:LI->Rp)(Pp:Int->LI->Rp)(a:LB)(f:LI)(g:Int)(b:LI):Rp:=
if(Ch g (Ac f))then
(WN a (Bv 4 g) 4).bind λ(k,u)=>
(Ak b g).bind λ_=>
(Lz b g (Ad k:Int)).bind λm=>
Pp (Ae g 1) m
else
j6 b
def Sp:Nat->Int->LI->Rp
|0,_,_=>none
|z+1,d,e=>IJ IG (Sp z) c E d e
def jT a f:=Sp a f Ar
def VB(j4:LB->LI->Int->LI->Rp)(a:LB)(h:Int):Rp:=
if((Ch h 1)||(Dw h 1000))then
some (([]:LI),2)
else
if(Ch (Ac a) (Ae (Bv 4 h) 4))then
some (([]:LI),24)
else
(WN a (Bv 4 h) 4).bind λ(n,v)=>
(Bi a 0 (Bv 4 h)).bind λo=>
(Wu o).bind λ(p,w)=>
if(Bg (Ad p:UInt64) n)then
some (([]:LI),22)
else
(mkI h (0:Int)).bind λf=>
(Jv (geq h h)).bind λ_=>
j4 a f 0 f
def HV:=VB jT
def Yt(f a b g h:Int):Option (Int×Int):=
some (a,b)
def EB:Option (LB×Int):=
if(Ch (Ac c) 5)then
some (([]:LB),24)
else
if(Dw (Ac c) 41254)then
some (([]:LB),4)
else
(Bi c 0 (Am (Ac c) 4)).bind λz=>
(Wu z).bind λ(d,e)=>
if(Bg e 0)then
some (([]:LB),e)
else
(Bi c (Am (Ac c) 4) (Ac c)).bind λi=>
(dT i).bind λ(j,A)=>
if((Bg A 0)||(Bg j (Ad d:UInt64)))then
some (([]:LB),22)
else
(Bi c 0 (Am (Ac c) 4)).bind λB=>
some (B,0)
def Z5:Option (LB×Int×Int):=
if(Dw (Ac c) 41250)then
some (([]:LB),0,4)
else
(Gm c).bind λz=>
some (z,(Bv 8 (Ac c)),0)
def Aa7:Option UInt64:=
some j
def tT:=Aa7
def eZ(j6:UInt64->Option UInt64)(Pp:UInt64->Int->Option UInt64)(b f:Int)(h:LB)(k:Int)(g:UInt64)(a:Int):Option UInt64:=
if(Ch a f)then
(Ak h (Y4 (Ae b a) (GI.toZ (3:UInt64)).toNat)).bind λm=>
(Jv (Lk (Er (Ae b a) 7) 0)).bind λ_=>
(Jv (Lk (Ej (Am f a) (Am 8 (Er (Ae b a) 7))) 0)).bind λ_=>
(Jv (Lk a 0)).bind λ_=>
Pp (uR g (Ec (Ad (Er (Cn m (GI.toZ (Er (Ae b a) 7)).toNat) (Am (Ec (1:UInt8) (GI.toZ (Ej (Am f a) (Am 8 (Er (Ae b a) 7)))).toNat) 1)):UInt64) (GI.toZ a).toNat)) (Ae a (Ej (Am f a) (Am 8 (Er (Ae b a) 7))))
else
j6 g
def JY:Nat->UInt64->Int->Option UInt64
|0,_,_=>none
|c+1,i,j=>eZ tT (JY c) z d e A i j
def uo b f h k:=JY b f h k Ar
def sP(j4:Int->Int->LB->Int->UInt64->Int->Option UInt64)(h:LB)(k b f:Int):Option UInt64:=
j4 b f h k 0 0
def pA:=sP uo
abbrev Fc:=Option (LB×Int×Int)
def pD:Fc:=
some (e,z,0)
def YH:=pD
def nZ(aH:Int->Int->LB->Fc)(a:Int)(g:LB)(b f h:Int)(u:LB):Fc:=
aH (Ae f 64) h u
def NQ aH:=nZ aH
def oB(H5:UInt64->Int->Int->LB->Fc)(a f:Int)(g:LB)(b:Int)(m n:UInt64)(k h:Int)(w:LB):Fc:=
(Jv (Lk (Ej k (Am 8 (Er h 7))) 0)).bind λ_=>
H5 (Cn n (GI.toZ (Ej k (Am 8 (Er h 7)))).toNat) (Am k (Ej k (Am 8 (Er h 7)))) (Ae h (Ej k (Am 8 (Er h 7)))) w
def oP H5:=oB H5
def pS(j48:UInt64->Int->Int->LB->Fc)(a f:Int)(g:LB)(b:Int)(m n:UInt64)(k h:Int)(v:LB):Fc:=
(Ak v (Am (Ac v) 1)).bind λ_=>
(Jv (Lk (Ej k (Am 8 (Er h 7))) 0)).bind λ_=>
(Jv (Lk (Er h 7) 0)).bind λ_=>
(Ak v (Am (Ac v) 1)).bind λaa=>
(Ak v (Am (Ac v) 1)).bind λ_=>
Option.bind (Lz v (Am (Ac v) 1) (uR aa (Ec (Ad (Er n (Am (Ec (1:UInt64) (GI.toZ (Ej k (Am 8 (Er h 7)))).toNat) 1)):UInt8) (GI.toZ (Er h 7)).toNat))) λw=>
j48 n k h w
def NW H5 a f g b m:=pS (oP H5 a f g b m) a f g b m
def NV(j47:UInt64->Int->Int->LB->Fc)(j50:Int->Int->LB->Fc)(a:Int)(g:LB)(b f:Int)(m n:UInt64)(k h:Int)(u:LB):Fc:=
if(Dw k 0)then
if(geq (Er h 7) 0)then
(Df u ([(0:UInt8)]:LB)).bind λab=>
j47 n k h ab
else
j47 n k h u
else
j50 f h u
def Om(aH:Int->Int->LB->Fc)(a:Int)(g:LB)(b f:Int)(m:UInt64):Nat->UInt64->Int->Int->LB->Fc
|0,_,_,_,_=>none
|q+1,n,k,h,u=>NV (NW (Om aH a g b f m q) a f g b m) (NQ aH a g b) a g b f m n k h u
def ZR aH a g b f m:=Om aH a g b f m Ar
def ZM(j44:Int->UInt64->UInt64->Int->Int->LB->Fc)(j52:Int->LB->Fc)(a:Int)(g:LB)(b f o:Int)(p:LB):Fc:=
if(Ch f a)then
(pA g b f (Ej 64 (Am a f))).bind λm=>
j44 f m m (Ej 64 (Am a f)) o p
else
j52 o p
def Wr:Nat->Int->Int->LB->Fc
|0,_,_,_=>none
|c+1,d,i,j=>ZM (ZR (Wr c) z e A) YH z e A d i j
def mR a g b:=Wr a g b Ar
def fG(j27:Int->LB->Int->Int->Int->LB->Fc)(g:LB)(b y a:Int):Fc:=
(Kh g b).bind λac=>
if(Bg ac 0)then
some (([]:LB),0,8)
else
if(((Ch y 0)||(Dw y a))||(Dw a b))then
some (([]:LB),0,2)
else
j27 a g b y 0 ([]:LB)
def eV:=fG mR
def EM:Option (UInt64×Int):=
(Kh c z).bind λe=>
if(Bg e 0)then
some (0,8)
else
if(((Ch B 0)||(Dw B 64))||(Ch d 0))then
some (0,2)
else
if(Dw d (Am z B))then
some (0,24)
else
(pA c z d B).bind λi=>
some (i,0)
def Gp:Option Int:=
if(geq j 0)then
some 64
else
(Ak ([(0:UInt8),(1:UInt8),(56:UInt8),(2:UInt8),(57:UInt8),(49:UInt8),(28:UInt8),(3:UInt8),(61:UInt8),(58:UInt8),(42:UInt8),(50:UInt8),(38:UInt8),(29:UInt8),(17:UInt8),(4:UInt8),(62:UInt8),(47:UInt8),(59:UInt8),(36:UInt8),(45:UInt8),(43:UInt8),(51:UInt8),(22:UInt8),(53:UInt8),(39:UInt8),(33:UInt8),(30:UInt8),(24:UInt8),(18:UInt8),(12:UInt8),(5:UInt8),(63:UInt8),(55:UInt8),(48:UInt8),(27:UInt8),(60:UInt8),(41:UInt8),(37:UInt8),(16:UInt8),(46:UInt8),(35:UInt8),(44:UInt8),(21:UInt8),(52:UInt8),(32:UInt8),(23:UInt8),(11:UInt8),(54:UInt8),(26:UInt8),(40:UInt8),(15:UInt8),(34:UInt8),(20:UInt8),(31:UInt8),(10:UInt8),(25:UInt8),(14:UInt8),(19:UInt8),(9:UInt8),(13:UInt8),(8:UInt8),(7:UInt8),(6:UInt8)]:LB) (GI.toZ (Cn (Bv (Er j (nH j)) 285870213051353865) (GI.toZ (58:UInt64)).toNat))).bind λz=>
some (Ad z:Int)
abbrev Ie:=Option (Int×Int×Int)
def yE:Ie:=
some (0,0,24)
def yA:=yE
def J3(j10:Ie):Ie:=
j10
def I4:=J3 yA
def jN(j9:Ie)(f a:Int):Ie:=
if(geq f 48)then
some (f,(Ae 0 (Ae a f)),0)
else
j9
def jY:=jN I4
def jS(j8:Int->Int->Ie)(f b a:Int):Ie:=
if(Ch f (Ej 48 (Am b a)))then
some (f,(Ae (Ae (0:Int) (1:Int)) (Ae a f)),0)
else
j8 f a
def kF:=jS jY
def kB(j7:Int->Int->Int->Ie)(h:Int)(k:UInt64)(a:Int)(g:LB)(b:Int):Ie:=
if(Bg h 0)then
some (0,0,h)
else
(Gp (B3 k)).bind λf=>
j7 f b a
def UK:=kB kF
def Ze(j6:Int->UInt64->Int->LB->Int->Ie)(g:LB)(b a:Int):Ie:=
(Kh g b).bind λm=>
if(Bg m 0)then
some (0,0,m)
else
if(Ch a 0)then
some (0,0,2)
else
if(Lk a b)then
some (0,0,24)
else
(
(
(EM g b a (Ej 48 (Am b a))).bind λ(k,h)=>
j6 h k a g b))
def HZ:=Ze UK
abbrev fK:=Option (UInt32×Int×Int)
def ZC:fK:=
(EM e A d F).bind λ(c,i)=>
if(Bg i 0)then
some (0,0,i)
else
if(Ch B 48)then
(Jv (Lk z 0)).bind λ_=>
some ((uR (Ec (Ad B:UInt32) (GI.toZ z).toNat) (Ad c:UInt32)),(Ae d F),0)
else
(OE (Ad c:UInt32) z).bind λj=>
if(!j)then
some (0,0,12)
else
some ((Ad c:UInt32),(Ae d F),0)
def ZU:=ZC
def oM(j2:Int->Int->Int->LB->Int->Int->fK)(g:LB)(h v a:Int):fK:=
(Kh g h).bind λo=>
if(Bg o 0)then
some (0,0,o)
else
if((Ch a 0)||(Dw a 24))then
some (0,0,2)
else
(HZ g h v).bind λ(f,b,p)=>
if(Bg p 0)then
some (0,0,p)
else
if(geq f 48)then
j2 a b f g h 32
else
j2 a b f g h a
def iG:=oM ZU
abbrev Kw:=Option (UInt32×Int×Int×Int×UInt64×UInt64×Int)
def jH:Kw:=
some (V,l5,Bby,o7,(Ae Bbl (Am (Ad V:UInt64) (Cn Bbl (GI.toZ (4:UInt64)).toNat))),Bbn,0)
def jQ:=jH
def oY(j10:UInt32->Int->Int->Int->UInt64->UInt64->Kw)(f:UInt32)(k m:Int)(b n:UInt64)(w:Int):Kw:=
j10 f k w m b n
def mU:=oY jQ
def pO(j9:UInt32->Int->Int->UInt64->UInt64->Int->Kw)(f:UInt32)(k a:Int)(b:UInt64)(m:Int)(n:UInt64):Kw:=
if(Dw a 0)then
(Jv (Lk a 0)).bind λ_=>
if(Ch (Ae b (Am (Ad f:UInt64) (Cn b (GI.toZ (4:UInt64)).toNat))) (Ec (16:UInt64) (GI.toZ a).toNat))then
j9 f k m b n (Am a 1)
else
if(Ch a 24)then
(Jv (Lk a 0)).bind λ_=>
if(Dw (Ae b (Am (Ad f:UInt64) (Cn b (GI.toZ (4:UInt64)).toNat))) (Ec (32:UInt64) (GI.toZ a).toNat))then
j9 f k m b n (Ae a 1)
else
j9 f k m b n a
else
j9 f k m b n a
else
if(Ch a 24)then
(Jv (Lk a 0)).bind λ_=>
if(Dw (Ae b (Am (Ad f:UInt64) (Cn b (GI.toZ (4:UInt64)).toNat))) (Ec (32:UInt64) (GI.toZ a).toNat))then
j9 f k m b n (Ae a 1)
else
j9 f k m b n a
else
j9 f k m b n a
def FG:=pO mU
def YI(j8:UInt32->Int->Int->UInt64->Int->UInt64->Kw)(a h:Int)(b g:UInt64)(f:UInt32)(k:Int):Kw:=
(IB a h b g f).bind λ(ad,o)=>
if(geq ad 1)then
if(Dw h 0)then
(Jv (Lk h 0)).bind λ_=>
if(Ch (Ae g (Am (Ad o:UInt64) (Cn g (GI.toZ (4:UInt64)).toNat))) (Ec (16:UInt64) (GI.toZ h).toNat))then
j8 f k a b (Am h 1) (Ae g (Am (Ad o:UInt64) (Cn g (GI.toZ (4:UInt64)).toNat)))
else
if(Ch h 24)then
(Jv (Lk h 0)).bind λ_=>
if(Dw (Ae g (Am (Ad o:UInt64) (Cn g (GI.toZ (4:UInt64)).toNat))) (Ec (32:UInt64) (GI.toZ h).toNat))then
j8 f k a b (Ae h 1) (Ae g (Am (Ad o:UInt64) (Cn g (GI.toZ (4:UInt64)).toNat)))
else
j8 f k a b h (Ae g (Am (Ad o:UInt64) (Cn g (GI.toZ (4:UInt64)).toNat)))
else
j8 f k a b h (Ae g (Am (Ad o:UInt64) (Cn g (GI.toZ (4:UInt64)).toNat)))
else
if(Ch h 24)then
(Jv (Lk h 0)).bind λ_=>
if(Dw (Ae g (Am (Ad o:UInt64) (Cn g (GI.toZ (4:UInt64)).toNat))) (Ec (32:UInt64) (GI.toZ h).toNat))then
j8 f k a b (Ae h 1) (Ae g (Am (Ad o:UInt64) (Cn g (GI.toZ (4:UInt64)).toNat)))
else
j8 f k a b h (Ae g (Am (Ad o:UInt64) (Cn g (GI.toZ (4:UInt64)).toNat)))
else
j8 f k a b h (Ae g (Am (Ad o:UInt64) (Cn g (GI.toZ (4:UInt64)).toNat)))
else
j8 f k a b h g
def YO:=YI FG
def YT(j7:Int->Int->UInt64->UInt64->UInt32->Int->Kw)(p:Int)(u:LB)(v a h:Int)(b g:UInt64):Kw:=
(EM u v p 1).bind λ(ae,aa)=>
if(Bg aa 0)then
some (0,0,0,0,0,0,aa)
else
if(geq ae 0)then
(EM u v (Ae p 1) a).bind λ(af,ab)=>
if(Bg ab 0)then
some (0,0,0,0,0,0,ab)
else
j7 a h b g (Ad af:UInt32) (Ae (Ae p 1) a)
else
(iG u v (Ae p 1) h).bind λ(y,ag,ac)=>
if(Bg ac 0)then
some (0,0,0,0,0,0,ac)
else
(Jv (Lk a 0)).bind λ_=>
if(Ch (Ae y (Ec (1:UInt32) (GI.toZ a).toNat)) y)then
some (0,0,0,0,0,0,12)
else
j7 a h b g (Ae y (Ec (1:UInt32) (GI.toZ a).toNat)) ag
def pP:=YT YO
def aD(j6:Int->LB->Int->Int->Int->UInt64->UInt64->Kw)(u:LB)(v p a h:Int)(b g:UInt64):Kw:=
(Kh u v).bind λah=>
if(Bg ah 0)then
some (0,0,0,0,0,0,8)
else
(RD a h b g).bind λai=>
if(Bg ai 0)then
some (0,0,0,0,0,0,8)
else
j6 p u v a h b g
def HR:=aD pP
abbrev Bw:=Option (LU×Int×Int)
def lP:Bw:=
some (Z,z,0)
def RF:=lP
def RC(Mp:Int->Int-> (List (Int×Int×UInt64×UInt64×Unit))->LU->Bw)(a f:Int)(g:LB)(b k v:Int)(w:UInt32)(h:Int)(ah:List (Int×Int×UInt64×UInt64×Unit))(n:LU):Bw:=
(Df n ([w]:LU)).bind λak=>
Mp (Ae k v) (Ae h 1) ah ak
def PH Mp:=RC Mp
def Zz(j22:Int->Int->UInt32->Int-> (List (Int×Int×UInt64×UInt64×Unit))->LU->Bw)(a f:Int)(g:LB)(b k h y:Int)(w:UInt32)(v:Int)(m:List (Int×Int×UInt64×UInt64×Unit))(n:LU)(aa ab:Int)(ac ad:UInt64):Bw:=
if(Bg y 0)then
some (([]:LU),0,y)
else
(Jv (Bg a 0)).bind λ_=>
(Ak m (Hu h a)).bind λ_=>
(Lz m (Hu h a) (aa,ab,ac,ad,())).bind λah=>
j22 k v w h ah n
def Rl Mp a f g b:=Zz (PH Mp a f g b) a f g b
def Rv(j21:Int->Int->Int->UInt32->Int-> (List (Int×Int×UInt64×UInt64×Unit))->LU->Int->Int->UInt64->UInt64->Bw)(j24:Int->LU->Bw)(a f:Int)(g:LB)(b k h:Int)(m:List (Int×Int×UInt64×UInt64×Unit))(n:LU):Bw:=
if(Ch h (Bv f a))then
(eV g b k (Ej (Ae k 81) b)).bind λ(ag,ae,af)=>
if(Bg af 0)then
some (([]:LU),0,af)
else
(Jv (Bg a 0)).bind λ_=>
(Ak m (Hu h a)).bind λ_=>
(
(
(Ak m (Hu h a)).bind λo=>
(
(HR ag ae 0 o.1 o.2.1 o.2.2.1 o.2.2.2.1).bind λ(w,v,aa,ab,ac,ad,y)=>
j21 k h y w v m n aa ab ac ad)))
else
j24 k n
def Mr:Nat->Int->Int-> (List (Int×Int×UInt64×UInt64×Unit))->LU->Bw
|0,_,_,_,_=>none
|c+1,i,j,B,C=>Rv (Rl (Mr c) z d e A) RF z d e A i j B C
def RT a f g b:=Mr a f g b Ar
def PA(j16:Int->Int->LB->Int->Int->Int-> (List (Int×Int×UInt64×UInt64×Unit))->LU->Bw)(a f:Int)(g:LB)(b:Int)(p:List (Int×Int×UInt64×UInt64×Unit)):Bw:=
j16 a f g b 0 0 p ([]:LU)
def OV:=PA RT
def PK(j15:Int->Int->LB->Int-> (List (Int×Int×UInt64×UInt64×Unit))->Bw)(An6:Int-> (List (Int×Int×UInt64×UInt64×Unit))->Bw)(a f:Int)(g:LB)(b u:Int)(p:List (Int×Int×UInt64×UInt64×Unit)):Bw:=
if(Ch u 6)then
(mP).bind λ(al,ae,af,am)=>
(Ak p u).bind λ_=>
(Lz p u (al,ae,af,am,())).bind λan=>
An6 (Ae u 1) an
else
j15 a f g b p
def Zx:Nat->Int-> (List (Int×Int×UInt64×UInt64×Unit))->Bw
|0,_,_=>none
|c+1,i,j=>PK OV (Zx c) z d e A i j
def AR a f g b:=Zx a f g b Ar
def DX(j13:Int->Int->LB->Int->Int-> (List (Int×Int×UInt64×UInt64×Unit))->Bw)(a f:Int)(g:LB)(b:Int):Bw:=
j13 a f g b 0 (List.replicate 6 ((0:Int),(0:Int),(0:UInt64),(0:UInt64),()))
def DY:=DX AR
def Xf:Option Int32:=
some (Yj (Ad (Cn V (GI.toZ (1:UInt64)).toNat):Int32) (nH (Ad (Er V 1):Int32)))
def gE:Option (Int32×Int×LX×LX×Int):=
(QO z i T).bind λ(c,d)=>
if(Bg d 0)then
some (0,0,(List.replicate 16 (0:Int32)),(List.replicate 16 (0:Int32)),d)
else
(XY z i T (Ae l6 c) l6).bind λ(e,j,A)=>
some ((Ae l6 c),e,j,A,0)
def Lg:Option (Int32×Int×Int32×Int×LX×LX×Int):=
(Vt z I G o8 o9).bind λc=>
if(Bg c 0)then
some (0,0,0,0,(List.replicate 16 (0:Int32)),(List.replicate 16 (0:Int32)),c)
else
(Vv z I).bind λ(d,e)=>
(gE G o8 o9 l6).bind λ(i,j,A,B,C)=>
(
some ((Ae i d),z,(Ae i d),j,A,B,C))
abbrev Gw:=Option (LX×Int)
def U4:Gw:=
some (i,0)
def nM:=U4
def oG(VC:Int->LX->Gw)(b a:Int)(h:LX):Gw:=
VC (Ae a b) h
def ZG VC:=oG VC
def NT(j20:Int->LX->Gw)(J9:Int->LX->Gw)(b a g:Int)(h:LX):Gw:=
if(Lk g 0)then
(Jv (decide (0<= (Ae g 1)/\ (Ae g 1)<((Ae a b)-a)))).bind λ_=>
(Jv (decide (0<=g/\g<((Ae a b)-a)))).bind λ_=>
(Ak h (a+(Ae g 1))).bind λn=>
(Ak h (a+g)).bind λo=>
(Jv (decide (0<=g/\g<((Ae a b)-a)))).bind λ_=>
(Lz h (a+g) (Am n o)).bind λp=>
J9 (Am g 1) p
else
j20 a h
def Xd(VC:Int->LX->Gw)(b a:Int):Nat->Int->LX->Gw
|0,_,_=>none
|q+1,g,h=>NT (ZG VC b) (Xd VC b a q) b a g h
def YG VC b a:=Xd VC b a Ar
def XS(j18:Int->Int->LX->Gw)(b a:Int)(u:LX):Gw:=
j18 a (Am (Am ((Ae a b)-a) 1) 1) u
def ZN VC b:=XS (YG VC b) b
def YB(j17:Int->LX->Gw)(j22:LX->Gw)(b a:Int)(f:LX):Gw:=
if(Ch a (Ac f))then
(iW (Ac f) a (Ae a b)).bind λ_=>
if(Dw (Am ((Ae a b)-a) 1) 0)then
(Jv (decide (0<= (Am ((Ae a b)-a) 1)/\ (Am ((Ae a b)-a) 1)<((Ae a b)-a)))).bind λ_=>
Option.bind (Jv (decide (0<= (Am (Am ((Ae a b)-a) 1) 1)/\ (Am (Am ((Ae a b)-a) 1) 1)<((Ae a b)-a)))) λ_=>
(Ak f (a+(Am ((Ae a b)-a) 1))).bind λv=>
(Ak f (a+(Am (Am ((Ae a b)-a) 1) 1))).bind λw=>
(Jv (decide (0<= (Am ((Ae a b)-a) 1)/\ (Am ((Ae a b)-a) 1)<((Ae a b)-a)))).bind λ_=>
(Lz f (a+(Am ((Ae a b)-a) 1)) (Ae v (Cy w 2))).bind λy=>
j17 a y
else
j17 a f
else
j22 f
def Ro:Nat->Int->LX->Gw
|0,_,_=>none
|c+1,d,e=>YB (ZN (Ro c) z) nM z d e
def oN b:=Ro b Ar
def gK(j12:Int->Int->LX->Gw)(b:Int)(k:LX):Gw:=
(WK b k).bind λm=>
if(Bg m 0)then
some (([]:LX),m)
else
(Em k).bind λaa=>
j12 b 0 aa
def nW:=gK oN
abbrev Cg:=Option (LX×Int)
def MT:Cg:=
(nW z i).bind λ(c,e)=>
if(Bg e 0)then
some (([]:LX),e)
else
(Vu d c).bind λj=>
if(Bg j 0)then
some (([]:LX),j)
else
some (c,0)
def Lp:=MT
def NB(An6:Int-> (List (Int×Int32×(Int×LX×LX×Unit)×Unit))->LX->Cg)(a:Int)(f:LU)(b g:Int)(y:Int32)(v:Int)(h:List (Int×Int32×(Int×LX×LX×Unit)×Unit))(k:LX)(aa:Int)(w:Int32)(ab:Int)(ac ad:LX):Cg:=
if(Bg v 0)then
some (([]:LX),v)
else
(Lz h (Hu g a) (aa,w,(ab,ac,ad,()),())).bind λai=>
(Df k ([y]:LX)).bind λaj=>
An6 (Ae g 1) ai aj
def Yd An6:=NB An6
def Ln(j16:Int->Int32->Int-> (List (Int×Int32×(Int×LX×LX×Unit)×Unit))->LX->Int->Int32->Int->LX->LX->Cg)(j18:Int->Int->LX->Cg)(f:LU)(a b g:Int)(h:List (Int×Int32×(Int×LX×LX×Unit)×Unit))(k:LX):Cg:=
if(Ch g (Ac f))then
(Ak f g).bind λag=>
(Jv (Bg a 0)).bind λ_=>
(Ak h (Hu g a)).bind λ_=>
(
(Ak h (Hu g a)).bind λm=>
(
(Xf ag).bind λae=>
(
(Lg m.1 m.2.1 m.2.2.1.1 m.2.2.1.2.1 m.2.2.1.2.2.1 ae).bind λ(y,aa,w,ab,ac,ad,v)=>
j16 g y v h k aa w ab ac ad)))
else
j18 a b k
def Is:Nat->Int-> (List (Int×Int32×(Int×LX×LX×Unit)×Unit))->LX->Cg
|0,_,_,_=>none
|z+1,c,d,e=>Ln (Yd (Is z) Bba Z Bbb) Lp Z Bba Bbb c d e
def NP f a b:=Is f a b Ar
def NJ(j13:LU->Int->Int->Int-> (List (Int×Int32×(Int×LX×LX×Unit)×Unit))->LX->Cg)(f:LU)(a b:Int)(n:List (Int×Int32×(Int×LX×LX×Unit)×Unit)):Cg:=
j13 f a b 0 n ([]:LX)
def NO:=NJ NP
def NL(j12:LU->Int->Int-> (List (Int×Int32×(Int×LX×LX×Unit)×Unit))->Cg)(Ad3:Int-> (List (Int×Int32×(Int×LX×LX×Unit)×Unit))->Cg)(f:LU)(a b:Int)(o:LX)(p:Int)(n:List (Int×Int32×(Int×LX×LX×Unit)×Unit)):Cg:=
if(Ch p 6)then
(sG b o).bind λ(ak,af,ae,al,am,w)=>
(Ak n p).bind λ_=>
(Lz n p (ak,af,(ae,al,am,()),())).bind λan=>
Ad3 (Ae p 1) an
else
j12 f a b n
def Yl:Nat->Int-> (List (Int×Int32×(Int×LX×LX×Unit)×Unit))->Cg
|0,_,_=>none
|z+1,c,d=>NL NO (Yl z) Z Bba Bbb Bbu c d
def Yh f a b o:=Yl f a b o Ar
def AP(j10:LU->Int->Int->LX->Int-> (List (Int×Int32×(Int×LX×LX×Unit)×Unit))->Cg)(a b:Int)(o:LX)(f:LU):Cg:=
j10 f a b o 0 (List.replicate 6 ((0:Int),(0:Int32),((0:Int),(List.replicate 16 (0:Int32)),(List.replicate 16 (0:Int32)),()),()))
def Se:=AP Yh
def Mq:Option (LX×Int):=
(Tf z d).bind λc=>
if(Bg c 0)then
some (([]:LX),c)
else
if(Ch A 1)then
some (([]:LX),2)
else
(Jv (Bg z 0)).bind λ_=>
if(Dw A (Cy 4000 z))then
some (([]:LX),2)
else
(EB M).bind λ(e,j)=>
if(Bg j 0)then
some (([]:LX),j)
else
(Z5 e).bind λ(B,C,D)=>
if(Bg D 0)then
some (([]:LX),D)
else
(DY z A B C).bind λ(E,F,G)=>
if(Bg G 0)then
some (([]:LX),G)
else
if(Lk (Am C F) 8)then
some (([]:LX),12)
else
(EM B C F (Am C F)).bind λ(I,J)=>
if((Bg J 0)||(Bg I 0))then
some (([]:LX),12)
else
(Se z d i E).bind λ(L,N)=>
some (L,N)
abbrev Di:=Option (LB×Int)
def uM:Di:=
some (c,0)
def bH:=uM
def bC(Mp:Int->LB->Di)(b:Int)(a:LX)(f:Int)(h:LB):Di:=
Mp (Ae f 1) h
def LZ Mp:=bC Mp
def Zl(j28:Int->LB->Di)(Ad4:Int->LB->Di)(b:Int)(a:LX)(k:Int32)(f m:Int)(h:LB):Di:=
if(Ch m (Cy b 8))then
(Jv (Lk (Bv 8 m) 0)).bind λ_=>
(Df h ([(Ad (Cn k (GI.toZ (Bv 8 m)).toNat):UInt8)]:LB)).bind λp=>
Ad4 (Ae m 1) p
else
j28 f h
def Ja(Mp:Int->LB->Di)(b:Int)(a:LX)(k:Int32)(f:Int):Nat->Int->LB->Di
|0,_,_=>none
|q+1,m,h=>Zl (LZ Mp b a) (Ja Mp b a k f q) b a k f m h
def MP Mp b a k f:=Ja Mp b a k f Ar
def LJ(j26:Int32->Int->Int->LB->Di)(b:Int)(a:LX)(f:Int)(g:LB)(k:Int32):Di:=
j26 k f 0 g
def Og Mp b a:=LJ (MP Mp b a) b a
def Zp(j25:Int->LB->Int32->Di)(j30:LB->Di)(b:Int)(a:LX)(f:Int)(g:LB):Di:=
if(Ch f (Ac a))then
(Ak a f).bind λn=>
if(geq b 8)then
j25 f g (Ae n 128)
else
j25 f g n
else
j30 g
def Ge:Nat->Int->LB->Di
|0,_,_=>none
|c+1,d,e=>Zp (Og (Ge c) z i) bH z i d e
def uU b a:=Ge b a Ar
def QV(j16:Int->LX->Int->LB->Di)(b:Int)(a:LX):Di:=
(Vu b a).bind λo=>
if(Bg o 0)then
some (([]:LB),o)
else
j16 b a 0 ([]:LB)
def Ra:=QV uU
def Zd:Option Int:=
some (-1:Int)
def Mg:=Zd
def Eb:Option Int:=
if(Ch q8 (Ac Bbh))then
(Ak Bbh q8).bind λz=>
if(geq r9 z)then
some q8
else
Bbe (Ae q8 1)
else
Ba6
def Bt:Nat->Int->Option Int
|0,_=>none
|c+1,d=>Eb Mg (Bt c) E z d
def Mi a b:=Bt a b Ar
def Hf(j4:LI->Int->Int->Option Int)(a:LI)(b:Int):Option Int:=
j4 a b 0
def Ig:=Hf Mi
def Ha:Option Bool:=
(Ig E z).bind λc=>
some (Lk c 0)
def Pg:Option Bool:=
(Ha ([(4:Int),(12:Int),(16:Int),(22:Int),(24:Int),(26:Int),(38:Int)]:LI) z).bind λc=>
some c
def TW:Option Int:=
if(!C)then
some 8
else
some 0
def Bk:=TW
def TK:Option Int:=
Ba7 ((true==true)&&((geq (0:Int) (0:Int))&&true))
def Ur:=TK Bk
def SE:Option Int:=
Ba7 ((p9==true)&&((geq Bbp 0)&&true))
def Dy:=SE Bk
def UA(j13:Bool->Int->Option Int)(g ax:LB)(ay az ab ba af b:Int)(n:Bool)(o:Int)(f:LI)(k:LB):Option Int:=
(Mw ay az ab ba af g).bind λdi=>
(Ah di).bind λ(dj,ai)=>
j13 dj ai
def Ug:=UA Dy
def SZ:Option Int:=
Ba7 ((p9==true)&&((geq Bbp 0)&&true))
def Ih:=SZ Bk
def SN(j25:Bool->Int->Option Int)(g a:LB)(h p m u v b:Int)(n:Bool)(o:Int)(f:LI)(k:LB)(de:Int):Option Int:=
(Dh h p m u v).bind λ(dm,be)=>
if(Bg be 0)then
(Ah be).bind λ(aj,bg)=>
j25 aj bg
else
(Bi a de (Ac a)).bind λdn=>
(HV dn (Ac dm)).bind λ(dp,ab)=>
if(geq ab 24)then
j25 true 0
else
if(Bg ab 0)then
(Ah ab).bind λ(dq,af)=>
j25 dq af
else
(Bi a (Ae (Ae de (Bv 4 (Ac dp))) 4) (Ac a)).bind λfc=>
j25 false 0
def Ir:=SN Ih
def SS(j25:Bool->Int->Option Int)(j24:LB->LB->Int->Int->Int->Int->Int->Int->Bool->Int->LI->LB->Int->Option Int)(bh:Bool)(bf:Int)(g a:LB)(h p m u v b:Int)(n:Bool)(o:Int)(f:LI)(k:LB):Option Int:=
if(Bg bf 0)then
(Ah bf).bind λ(dr,be)=>
j25 dr be
else
if(!bh)then
(Ah 26).bind λ(aj,bg)=>
j25 aj bg
else
j24 g a h p m u v b n o f k 8
def TO:=SS Ih Ir
def TS(j15:Bool->Int->LB->LB->Int->Int->Int->Int->Int->Int->Bool->Int->LI->LB->Option Int)(g a:LB)(h p m u v b:Int)(n:Bool)(o:Int)(f:LI)(k:LB):Option Int:=
(Bi a 0 8).bind λds=>
(Xg ds g).bind λ(bh,bf)=>
j15 bh bf g a h p m u v b n o f k
def Ue:=TS TO
def SM:Option Int:=
Ba7 ((p9==true)&&((geq Bbp 0)&&true))
def Fh:=SM Bk
def Uv(j28:Bool->Int->Option Int)(y ac:Int)(g a:LB)(h p m u v b:Int)(n:Bool)(o:Int)(ak:LX)(f:LI)(k:LB):Option Int:=
if(Bg ac 0)then
(Ah ac).bind λ(bi,bj)=>
j28 bi bj
else
(Ra m ak).bind λ(bk,bb)=>
if(Bg bb 0)then
(Ah bb).bind λ(bl,bm)=>
j28 bl bm
else
(Df k bk).bind λdv=>
(
(Bi a y (Ac a)).bind λdw=>
j28 false 0)
def FQ:=Uv Fh
def ED(j27:Int->Int->LB->LB->Int->Int->Int->Int->Int->Int->Bool->Int->LX->LI->LB->Option Int)(y:Int)(g a:LB)(h p m u v b:Int)(n:Bool)(o:Int)(bc:LX)(ag f:LI)(k:LB):Option Int:=
(Ak ag b).bind λ_=>
(Bi a 0 y).bind λdx=>
(Ak ag b).bind λdy=>
(Yt h p m u v).bind λ(dz,bd)=>
(Mq dz bd bc dy dx).bind λ(ak,ac)=>
j27 y ac g a h p m u v b n o ak f k
def CU:=ED FQ
def Xc(j13:Bool->Int->Option Int)(j12:LB->LB->Int->Int->Int->Int->Int->Int->Bool->Int->LI->LB->Option Int)(j25:Bool->Int->Option Int)(j23:LB->LB->Int->Int->Int->Int->Int->Int->Bool->Int->LI->LB->Option Int)(j24:LB->LB->Int->Int->Int->Int->Int->Int->Bool->Int->LI->LB->Int->Option Int)(j28:Bool->Int->Option Int)(j26:Int->LB->LB->Int->Int->Int->Int->Int->Int->Bool->Int->LX->LI->LI->LB->Option Int)(j22:Bool->Option Int)(j21:Option Int)(al am:LB)(an ao ap aq ar:Int)(au:LI)(ad:Int)(ae:LB)(aa:Bool)(w:Int):Option Int:=
if(Dw (Ac al) 64)then
some 8
else
if((geq w 0)&&(!aa))then
(Dg al am an ao ap aq ar au ad ae aa w).bind λ(g,a,h,p,m,u,v,f,b,k,n,o)=>
(Ws al am an ao ap aq ar au ad ae aa w).bind λbn=>
if bn then
if(geq h 0)then
(Iy a).bind λ(ah,av)=>
if(geq av 24)then
j13 true 0
else
if(Bg av 0)then
(Ah av).bind λ(bp,bq)=>
j13 bp bq
else
(Bi a ah (Ac a)).bind λbr=>
(Pc br).bind λaj=>
if aj then
j13 true 0
else
(Bi a ah (Ac a)).bind λbs=>
(Mh bs).bind λ(ay,az,ab,ba,af,aw)=>
if(geq aw 24)then
j13 true 0
else
if(Bg aw 0)then
(Ah aw).bind λ(bt,bu)=>
j13 bt bu
else
(
(Bi a (Ae ah 22) (Ac a)).bind λax=>
(
j12 g ax ay az ab ba af b n o f k))
else
if(geq (Ac f) 0)then
if(geq h 2)then
if(Ch (Ac a) 8)then
j25 true 0
else
j23 g a h p m u v b n o f k
else
j24 g a h p m u v b n o f k 0
else
if(Ch b (Ac f))then
(Ak f b).bind λ_=>
(Ak f b).bind λy=>
if(Ch (Ac a) y)then
j28 true 0
else
(Qv g).bind λ(bc,ai)=>
if(Bg ai 0)then
(Ah ai).bind λ(bv,bw)=>
j28 bv bw
else
(Dh h p m u v).bind λ(ag,bx)=>
if((Bg bx 0)||(Lk b (Ac ag)))then
(Ah 8).bind λ(bz,da)=>
j28 bz da
else
j26 y g a h p m u v b n o bc ag f k
else
if(Dw (Ac a) 4000)then
(Ah 38).bind λ(db,bd)=>
j22 ((db==true)&&((geq bd 0)&&true))
else
j21
else
j22 false
else
if((geq (Ac am) 0)&&(geq (Ac au) 0))then
if((((geq an 0)&&((geq ao 0)&&((geq ap 0)&&((geq aq 0)&&((geq ar 0)&&true)))))&&(geq ad 0))&&(pV (Ac ae) 12000))then
if(geq w 0)then
j22 true
else
if(!aa)then
(Pg w).bind λdc=>
j22 dc
else
j22 false
else
j22 false
else
if((false&&(geq ad 0))&&(pV (Ac ae) 12000))then
if(geq w 0)then
j22 true
else
if(!aa)then
(Pg w).bind λdd=>
j22 dd
else
j22 false
else
j22 false
def Et:=Xc Dy Ug Ih Ue Ir Fh CU Bk Ur
def Po:Option (LB×LB×Int×Int×Int×Int×Int×LI×Int×LB×Bool×Int×Int):=
(Et c e A F N O P J L M C D).bind λz=>
if(Bg z 0)then
some (([]:LB),([]:LB),0,0,0,0,0,([]:LI),0,([]:LB),false,0,z)
else
if(Bg D 0)then
(
(
(Dg c e A F N O P J L M C D).bind λ(d,i,j,B,E,G,I,R,T,U,V,X)=>
(
some (d,i,j,B,E,G,I,R,T,U,V,X,D))))
else
if C then
(Dg c e A F N O P J L M C D).bind λ(Y,Z,l5,l6,l7,l9,o7,o8,o9,p8,p9,q8)=>
some (Y,Z,l5,l6,l7,l9,o7,o8,o9,p8,p9,q8,36)
else
(Dg c e A F N O P J L M C D).bind λ(q9,r9,Ba5,Ba6,Ba7,Ba8,Bba,Bbb,Bbc,Bbd,Bbe,Bbf)=>
some (q9,r9,Ba5,Ba6,Ba7,Ba8,Bba,Bbb,Bbc,Bbd,Bbe,Bbf,0)
def ZX(b g:LB)(h k m n o:Int)(p:LI)(u:Int)(f:LB)(v:Bool)(w a:Int):Option (LB×LB×Int×Int×Int×Int×Int×LI×Int×LB×Bool×Int×Int):=
some (b,([]:LB),0,0,0,0,0,([]:LI),0,f,false,a,a)
abbrev Ap:=Option (LB×LB×Int×Int×Int×Int×Int×LI×Int×LB×Bool×Int×Int)
def HB(OK:LB->Int->Int->Int->Int->Int->Int->LI->LB->Ap)(a:LB)(b:Bool)(f:Int)(av:LB)(aw ax ay az ba bb:Int)(dy:Bool)(dk:Int)(bc:LI)(bd:LB):Ap:=
if dy then
(Dg a av aw ax ay az ba bc bb bd b f).bind λ(dz,fa,fb,ap,be,ae,fc,fd,fe,ff,fg,af)=>
some (dz,fa,fb,ap,be,ae,fc,fd,fe,ff,fg,af,0)
else
if(Bg dk 0)then
(ZX a av aw ax ay az ba bc bb bd b f dk).bind λ(fh,fi,fj,fk,fl,fm,fn,fo,fp,fq,fs,ft,fu)=>
some (fh,fi,fj,fk,fl,fm,fn,fo,fp,fq,fs,ft,fu)
else
OK av aw ax ay az ba bb bc bd
def By OK:=HB OK
def rZ(j71:LB->Int->Int->Int->Int->Int->Int->Bool->Int->LI->LB->Ap)(a:LB)(b:Bool)(f:Int)(g:LB)(m o n p u h:Int)(k:LI)(v:LB):Ap:=
j71 g m o n p u h true 0 k v
def Xe OK a b f:=rZ (By OK a b f) a b f
def rM(j71:LB->Int->Int->Int->Int->Int->Int->Bool->Int->LI->LB->Ap)(a:LB)(b:Bool)(f h:Int)(k:LI)(v:LB)(fv:Bool)(fw:Int)(fx:LB)(fy fz ga gb gc:Int):Ap:=
j71 fx fy fz ga gb gc h fv fw k v
def Mn OK a b f:=rM (By OK a b f) a b f
def WW(j62:Int->LI->LB->Bool->Int->LB->Int->Int->Int->Int->Int->Ap)(a:LB)(b:Bool)(f:Int)(ag:LB)(ah ai y aj aa h:Int)(k:LI)(v:LB):Ap:=
(Mw ah ai y aj aa a).bind λgd=>
(Ah gd).bind λ(ge,ak)=>
j62 h k v ge ak ag ah ai y aj aa
def Qd OK a b f:=WW (Mn OK a b f) a b f
def rK(j71:LB->Int->Int->Int->Int->Int->Int->Bool->Int->LI->LB->Ap)(a:LB)(b:Bool)(f m o n p u h:Int)(v:LB)(bf:Bool)(bg:Int)(bh:LB)(bi:LI):Ap:=
j71 bh m o n p u h bf bg bi v
def Kf OK a b f:=rK (By OK a b f) a b f
def Xk(j75:Int->Int->Int->Int->Int->Int->LB->Bool->Int->LB->LI->Ap)(a:LB)(b:Bool)(f:Int)(g:LB)(m o n p u h:Int)(k:LI)(v:LB)(dl:Int):Ap:=
(Dh m o n p u).bind λ(gf,ar)=>
if(Bg ar 0)then
(Ah ar).bind λ(al,bj)=>
j75 m o n p u h v al bj g k
else
(Bi g dl (Ac g)).bind λgg=>
(HV gg (Ac gf)).bind λ(dm,y)=>
if(geq y 24)then
j75 m o n p u h v true 0 g k
else
if(Bg y 0)then
(Ah y).bind λ(gh,aa)=>
j75 m o n p u h v gh aa g k
else
(Bi g (Ae (Ae dl (Bv 4 (Ac dm))) 4) (Ac g)).bind λgi=>
j75 m o n p u h v false 0 gi dm
def Mo OK a b f:=Xk (Kf OK a b f) a b f
def IE(j75:Int->Int->Int->Int->Int->Int->LB->Bool->Int->LB->LI->Ap)(j74:LB->Int->Int->Int->Int->Int->Int->LI->LB->Int->Ap)(a:LB)(b:Bool)(f:Int)(bk:Bool)(au:Int)(g:LB)(m o n p u h:Int)(k:LI)(v:LB):Ap:=
if(Bg au 0)then
(Ah au).bind λ(gj,ar)=>
j75 m o n p u h v gj ar g k
else
if(!bk)then
(Ah 26).bind λ(al,bj)=>
j75 m o n p u h v al bj g k
else
j74 g m o n p u h k v 8
def VF OK a b f:=IE (Kf OK a b f) (Mo OK a b f) a b f
def HH(j64:Bool->Int->LB->Int->Int->Int->Int->Int->Int->LI->LB->Ap)(a:LB)(b:Bool)(f:Int)(g:LB)(m o n p u h:Int)(k:LI)(v:LB):Ap:=
(Bi g 0 8).bind λgk=>
(Xg gk a).bind λ(bk,au)=>
j64 bk au g m o n p u h k v
def Wq OK a b f:=HH (VF OK a b f) a b f
def rB(j71:LB->Int->Int->Int->Int->Int->Int->Bool->Int->LI->LB->Ap)(a:LB)(b:Bool)(f m o n p u:Int)(k:LI)(bl:Bool)(bm:Int)(bn:LB)(bp:Int)(bq:LB):Ap:=
j71 bn m o n p u bp bl bm k bq
def Mm OK a b f:=rB (By OK a b f) a b f
def Xa(j78:Int->Int->Int->Int->Int->LI->Bool->Int->LB->Int->LB->Ap)(a:LB)(b:Bool)(f w ab:Int)(g:LB)(m o n p u h:Int)(am:LX)(k:LI)(v:LB):Ap:=
if(Bg ab 0)then
(Ah ab).bind λ(br,bs)=>
j78 m o n p u k br bs g h v
else
(Ra n am).bind λ(bt,af)=>
if(Bg af 0)then
(Ah af).bind λ(bu,bv)=>
j78 m o n p u k bu bv g h v
else
(Df v bt).bind λbw=>
(
(Bi g w (Ac g)).bind λbx=>
j78 m o n p u k false 0 bx (Ae h 1) bw)
def HU OK a b f:=Xa (Mm OK a b f) a b f
def HG(j77:Int->Int->LB->Int->Int->Int->Int->Int->Int->LX->LI->LB->Ap)(a:LB)(b:Bool)(f w:Int)(g:LB)(m o n p u h:Int)(aq:LX)(ac k:LI)(v:LB):Ap:=
(Ak ac h).bind λ_=>
(Bi g 0 w).bind λgl=>
(Ak ac h).bind λgm=>
(Yt m o n p u).bind λ(be,ae)=>
(Mq be ae aq gm gl).bind λ(am,ab)=>
j77 w ab g m o n p u h am k v
def Xj OK a b f:=HG (HU OK a b f) a b f
def Ho(j62:Int->LI->LB->Bool->Int->LB->Int->Int->Int->Int->Int->Ap)(j61:LB->Int->Int->Int->Int->Int->Int->LI->LB->Ap)(j75:Int->Int->Int->Int->Int->Int->LB->Bool->Int->LB->LI->Ap)(j73:LB->Int->Int->Int->Int->Int->Int->LI->LB->Ap)(j74:LB->Int->Int->Int->Int->Int->Int->LI->LB->Int->Ap)(j78:Int->Int->Int->Int->Int->LI->Bool->Int->LB->Int->LB->Ap)(j76:Int->LB->Int->Int->Int->Int->Int->Int->LX->LI->LI->LB->Ap)(j71:LB->Int->Int->Int->Int->Int->Int->Bool->Int->LI->LB->Ap)(j70:LB->Int->Int->Int->Int->Int->Int->LI->LB->Ap)(a:LB)(b:Bool)(f:Int)(g:LB)(m o n p u h:Int)(k:LI)(v:LB):Ap:=
if(geq m 0)then
(Iy g).bind λ(ad,an)=>
if(geq an 24)then
j62 h k v true 0 g m o n p u
else
if(Bg an 0)then
(Ah an).bind λ(bz,da)=>
j62 h k v bz da g m o n p u
else
(Bi g ad (Ac g)).bind λdb=>
(Pc db).bind λal=>
if al then
j62 h k v true 0 g m o n p u
else
(Bi g ad (Ac g)).bind λdc=>
(Mh dc).bind λ(ah,ai,y,aj,aa,ao)=>
if(geq ao 24)then
j62 h k v true 0 g m o n p u
else
if(Bg ao 0)then
(Ah ao).bind λ(dd,de)=>
j62 h k v dd de g m o n p u
else
(
(Bi g (Ae ad 22) (Ac g)).bind λag=>
(
j61 ag ah ai y aj aa h k v))
else
if(geq (Ac k) 0)then
if(geq m 2)then
if(Ch (Ac g) 8)then
j75 m o n p u h v true 0 g k
else
j73 g m o n p u h k v
else
j74 g m o n p u h k v 0
else
if(Ch h (Ac k))then
(Ak k h).bind λ_=>
(Ak k h).bind λw=>
if(Ch (Ac g) w)then
j78 m o n p u k true 0 g h v
else
(Qv a).bind λ(aq,ak)=>
if(Bg ak 0)then
(Ah ak).bind λ(df,dg)=>
j78 m o n p u k df dg g h v
else
(Dh m o n p u).bind λ(ac,dh)=>
if((Bg dh 0)||(Lk h (Ac ac)))then
(Ah 8).bind λ(di,ap)=>
j78 m o n p u k di ap g h v
else
j76 w g m o n p u h aq ac k v
else
if(Dw (Ac g) 4000)then
(Ah 38).bind λ(dj,ae)=>
j71 g m o n p u h dj ae k v
else
j70 g m o n p u h k v
def Bd:Nat->LB->Int->Int->Int->Int->Int->Int->LI->LB->Ap
|0,_,_,_,_,_,_,_,_,_=>none
|z+1,d,e,i,j,A,B,E,F,G=>Ho (Mn (Bd z) c C D) (Qd (Bd z) c C D) (Kf (Bd z) c C D) (Wq (Bd z) c C D) (Mo (Bd z) c C D) (Mm (Bd z) c C D) (Xj (Bd z) c C D) (By (Bd z) c C D) (Xe (Bd z) c C D) c C D d e i j A B E F G
def rC a b f:=Bd a b f Ar
def Sj(j37:LB->Bool->Int->LB->Int->Int->Int->Int->Int->Int->LI->LB->Ap)(gn go:LB)(gp gq gr gs gt:Int)(gu:LI)(gv:Int)(gw:LB)(gx:Bool)(gy:Int)(gz:LB):Ap:=
(Po gn go gp gq gr gs gt gu gv gw gx gy).bind λ(a,dn,dp,dq,dr,ds,dt,du,dv,dw,b,f,dx)=>
if(Bg dx 0)then
some (a,dn,dp,dq,dr,ds,dt,du,dv,dw,b,f,dx)
else
(Df dn gz).bind λha=>
j37 a b f ha dp dq dr ds dt dv du dw
def Cv:=Sj rC
def Vg:Option (Int×Int):=
(Et c e A F N O P J L M C D).bind λz=>
if(Bg z 0)then
some (0,z)
else
some ((Ae (Ac e) (Bv 8 (Ac J))),0)
def Zv:Option Int:=
(CA ([]:LB)).bind λ(z,d,e,i,j,A,B,C,D,E,F,G,I)=>
(Cv z d e i j A B C D E F G c).bind λ(J,L,M,N,O,P,R,T,U,V,X,Y,Z)=>
(Vg J L M N O P R T U V X Y).bind λ(l5,l6)=>
if(((Bg I 0)||(Bg Z 0))||(Bg l6 0))then
some (-1:Int)
else
some l5
def Re:Option Bool:=
(uB 1 8 8000 ([(0:Int32)]:LX) ([]:LB)).bind λ(a,g)=>
if((Bg g 0)||(Bg (Ac a) 36))then
some false
else
(oX 0).bind λ(b,f)=>
(Bi a 0 30).bind λh=>
(Zv h).bind λk=>
if(geq k 8)then
(Bi a 0 35).bind λm=>
(Zv m).bind λn=>
some (((geq n 13)&&(geq f 0))&&(geq b 16022))
else
some ((false&&(geq f 0))&&(geq b 16022))
def EW:Option Bool:=
some (((Dw (Ac c) 5000)&&(Ch (Ac c) 12000))||(Dw (Ac c) 12100))
def Ff:Option Bool:=
some (((Dw (Ac X) 60)&&(pV (Ac X) 200))||(Dw (Ac X) 210))
def bM:Option Int:=
some 0
def FW:=bM
def Jj:Option Int:=
if(Ch Bb1 (Ac Bb8))then
(Ak Bb8 Bb1).bind λz=>
if((((Ch z.1 1)||(Dw z.1 3))||(Ch z.2.1 0))||(Dw z.2.1 100000))then
some 2
else
if((geq z.1 3)&&(Bg z.2.1 0))then
some 2
else
Bbe (Ae Bb1 1)
else
Ba6
def Dt:Nat->Int->Option Int
|0,_=>none
|z+1,c=>Jj FW (Dt z) X c
def GV a:=Dt a Ar
def Nn(j4:(List (UInt8×Int×Unit))->Int->Option Int)(a:List (UInt8×Int×Unit)):Option Int:=
if(Dw (Ac a) 200)then
some 4
else
j4 a 0
def Gc:=Nn GV
def Zn:Option Bool:=
if p9 then
some ((Lk l9 0)&&(pV l9 100000))
else
if(geq Bbf 3)then
some (geq l9 0)
else
some false
def aX:=Zn
def aM(j2:UInt8->Int->Bool->Option Bool)(a:UInt8)(b:Int):Option Bool:=
if(geq a 1)then
j2 a b (geq a 1)
else
j2 a b (geq a 2)
def ZL:=aM aX
def EI:Option Bool:=
(ZL Bbf l9).bind λz=>
some (!z)
def qJ:Option Int:=
some 0
def rR:=qJ
def rU:Option Int:=
if p9 then
some 2
else
Ba6
def rW:=rU rR
def qP:Option Int:=
Ba7 p9
def VX:=qP rW
def rD:Option Int:=
Ba7 (Lk (-1:Int) (0:Int))
def WC:=rD VX
def VW(An7:Int->Option Int)(a:List (UInt8×Int×Unit))(b:Int):Option Int:=
An7 (Ae b 1)
def XN An7:=VW An7
def WQ(j18:Bool->Option Int)(j15:Int->Option Int)(a:List (UInt8×Int×Unit))(b:Int)(g:Bool):Option Int:=
if g then
j18 (Lk b 0)
else
j15 b
def HD An7 a:=WQ VX (XN An7 a) a
def Xb(j14:Int->Bool->Option Int)(j17:Option Int)(a:List (UInt8×Int×Unit))(b:Int):Option Int:=
if(Ch b (Ac a))then
(Ak a b).bind λh=>
(EI h.1 h.2.1).bind λg=>
j14 b g
else
j17
def Ml:Nat->Int->Option Int
|0,_=>none
|z+1,c=>Xb (HD (Ml z) X) WC X c
def rI a:=Ml a Ar
def MC(j11:(List (UInt8×Int×Unit))->Int->Option Int)(a:List (UInt8×Int×Unit)):Option Int:=
if(Dw (Ac a) 200)then
some 4
else
j11 a 0
def NY:=MC rI
def Pf:Option (LB×LB×Int×Int×Int×Int×Int×LI×Int×LB×Bool×Int×LB×Int):=
(Et c e A F N O P J L M C D).bind λz=>
if(Bg z 0)then
some (([]:LB),([]:LB),0,0,0,0,0,([]:LI),0,([]:LB),false,0,([]:LB),z)
else
if(Ch Bbj 0)then
some (([]:LB),([]:LB),0,0,0,0,0,([]:LI),0,([]:LB),false,0,([]:LB),2)
else
(Dg c e A F N O P J L M C D).bind λ(d,i,j,B,E,G,I,R,T,U,V,X)=>
(Bi U 0 (Ej Bbj (Ac U))).bind λY=>
(Hv Y).bind λZ=>
(Bi U (Ej Bbj (Ac U)) (Ac U)).bind λl5=>
some (d,i,j,B,E,G,I,R,T,l5,V,X,Z,0)
abbrev mK:=Option (Int×Int)
def tW:mK:=
(Bi c (Am (Ac c) 32) (Ac c)).bind λz=>
(OP z 0).bind λ(d,e,i)=>
if i then
if(Ch (Am (Ac c) 32) d)then
some (0,24)
else
some ((Ae d 32),0)
else
(Bi c (Am (Ac c) 32) (Ac c)).bind λj=>
(OP j 2147483648).bind λ(A,B,C)=>
if(!C)then
some (0,12)
else
if(Ch (Ac c) (Ae A 64))then
some (0,24)
else
(Bi c (Am (Ac c) (Ae A 64)) (Ae (Am (Ac c) (Ae A 64)) 32)).bind λD=>
(gZ A B 2684354560).bind λE=>
(Jb D E).bind λF=>
if(!F)then
some (0,12)
else
some ((Ae A 64),0)
def sI:=tW
def tM(j2:LB->mK)(a:LB):mK:=
if(Ch (Am (Ac a) 32) 0)then
some (0,6)
else
(Bi a (Am (Ac a) 32) (Ac a)).bind λv=>
(Le v ([(65:UInt8),(80:UInt8),(69:UInt8),(84:UInt8),(65:UInt8),(71:UInt8),(69:UInt8),(88:UInt8)]:LB)).bind λw=>
if(!w)then
some (0,6)
else
j2 a
def nQ:=tM sI
abbrev Fs:=Option (Int×Int)
def rO:Fs:=
some (z,0)
def XA:=rO
def XH(bk8:Int->LB->Fs)(a:Int)(g:LB):Fs:=
bk8 (Ae a 1) g
def XD bk8:=XH bk8
def WY(j12:Int->LB->Fs)(a f:Int)(b:LB):Fs:=
if(geq f 0)then
some (0,38)
else
(Bi b 0 (Am (Ac b) f)).bind λg=>
j12 a g
def HT bk8:=WY (XD bk8)
def MM(j11:Int->Int->LB->Fs)(j14:Int->Fs)(a:Int)(b:LB):Fs:=
if(Dw (Ac b) 0)then
(nQ b).bind λ(f,k)=>
j11 a f b
else
j14 a
def Sa:Nat->Int->LB->Fs
|0,_,_=>none
|q+1,a,b=>MM (HT (Sa q)) XA a b
def uT:=Sa Ar
def MG(j8:Int->LB->Fs)(h:LB):Fs:=
if(Dw (Ac h) 4000)then
some (0,38)
else
j8 0 h
def DP:=MG uT
def Vq(p a:LB)(g u v w y:Int)(b:LI)(h:Int)(aa:LB)(ab:Bool)(ac:Int):Option Int:=
if(geq g 0)then
(Iy a).bind λ(k,f)=>
if(Bg f 0)then
some f
else
(Bi a k (Ac a)).bind λm=>
(Mh m).bind λ(ad,ae,af,ag,ah,n)=>
some n
else
if((Ch h (Ac b))||(geq (Ac b) 0))then
some 24
else
(DP a).bind λ(ai,o)=>
some o
def Fz:Option (LB×LB×Int×Int×Int×Int×Int×LI×Int×LB×Bool×Int×Int):=
(Po c e A F N O P J L M C D).bind λ(z,d,i,j,B,E,G,I,R,T,U,V,X)=>
if(Bg X 0)then
some (z,d,i,j,B,E,G,I,R,T,U,V,X)
else
(Vq z d i j B E G I R T U V).bind λY=>
if(Bg Y 0)then
(ZX z d i j B E G I R T U V Y).bind λ(Z,l5,l6,l7,l9,o7,o8,o9,p8,p9,q8,q9,r9)=>
some (Z,l5,l6,l7,l9,o7,o8,o9,p8,p9,q8,q9,r9)
else
some (z,([]:LB),0,0,0,0,0,([]:LI),0,T,true,0,0)
abbrev Bl:=Option (LB×LB×Int×Int×Int×Int×Int×LI×Int×LB×Bool×Int×(List (Int×LB×Unit))×Int)
def TL(f:LB)(g h k m n o:Int)(p:LB)(u:Bool)(v:Int)(a:LB)(aa:List (Int×LB×Unit))(w:LB)(y:LI):Bl:=
some (f,w,g,h,k,m,n,y,o,p,u,v,aa,0)
def SP:=TL
def TQ(j32:LB->Int->Int->Int->Int->Int->Int->LB->Bool->Int->LB-> (List (Int×LB×Unit))->LB->LI->Bl)(aa:List (Int×LB×Unit))(f:LB)(g h k m n o:Int)(p:LB)(u:Bool)(v:Int)(a w:LB)(y:LI):Bl:=
j32 f g h k m n o p u v a aa w y
def CT:=TQ SP
def Us(H4:Int->LB->Int->Int->Int->Int->Int->Int->LB->Bool->Int->LB-> (List (Int×LB×Unit))->LB->LI->Bl)(b:List (UInt8×Int×Unit))(ab:Int)(dm:LB)(dn dp dq dr ds dt:Int)(du:LB)(dv:Bool)(dw:Int)(dx:LB)(dy:List (Int×LB×Unit))(dz:LB)(fa:LI):Bl:=
H4 (Ae ab 1) dm dn dp dq dr ds dt du dv dw dx dy dz fa
def Fk H4:=Us H4
def Uq(j29:Int->LB->Int->Int->Int->Int->Int->Int->LB->Bool->Int->LB-> (List (Int×LB×Unit))->LB->LI->Bl)(b:List (UInt8×Int×Unit))(ac:UInt8×Int×Unit)(a:LB)(ad ab:Int)(f w:LB)(g h k m n:Int)(y:LI)(o:Int)(p:LB)(u:Bool)(v:Int)(ae:LB)(af ag ah ai aj ak:Int)(al:LB)(am:Bool)(an:Int)(aa:List (Int×LB×Unit))(ao:LB)(ap:LI):Bl:=
(
(Bi a (Ej ac.2.1 (Ac a)) (Ac a)).bind λbv=>
(Df aa ([(ad,([]:LB),())]:List (Int×LB×Unit))).bind λar=>
j29 ab ae af ag ah ai aj ak al am an bv ar ao ap)
def FP H4 b:=Uq (Fk H4 b) b
def UD(j29:Int->LB->Int->Int->Int->Int->Int->Int->LB->Bool->Int->LB-> (List (Int×LB×Unit))->LB->LI->Bl)(b:List (UInt8×Int×Unit))(au ab:Int)(f w:LB)(g h k m n:Int)(y:LI)(o:Int)(p:LB)(u:Bool)(v:Int)(a av:LB)(aw ax ay az ba bb:Int)(bc:LB)(bd:Bool)(be:Int)(bf:LB)(aa:List (Int×LB×Unit))(ar:LB)(bg:LI):Bl:=
(Df aa ([(au,bf,())]:List (Int×LB×Unit))).bind λfb=>
j29 ab av aw ax ay az ba bb bc bd be a fb ar bg
def CO H4 b:=UD (Fk H4 b) b
def TV(j29:Int->LB->Int->Int->Int->Int->Int->Int->LB->Bool->Int->LB-> (List (Int×LB×Unit))->LB->LI->Bl)(b:List (UInt8×Int×Unit))(bh ab:Int)(f w:LB)(g h k m n:Int)(y:LI)(o:Int)(p:LB)(u:Bool)(v:Int)(a bi:LB)(bj bk bl bm bn bp:Int)(bq:LB)(br:Bool)(bs:Int)(aa:List (Int×LB×Unit))(bt:LB)(bu:LI):Bl:=
(Df aa ([(bh,([]:LB),())]:List (Int×LB×Unit))).bind λfc=>
j29 ab bi bj bk bl bm bn bp bq br bs a fc bt bu
def DJ H4 b:=TV (Fk H4 b) b
def Oo(j26:(UInt8×Int×Unit)->LB->Int->Int->LB->LB->Int->Int->Int->Int->Int->LI->Int->LB->Bool->Int->LB->Int->Int->Int->Int->Int->Int->LB->Bool->Int-> (List (Int×LB×Unit))->LB->LI->Bl)(j33:Int->Int->LB->LB->Int->Int->Int->Int->Int->LI->Int->LB->Bool->Int->LB->LB->Int->Int->Int->Int->Int->Int->LB->Bool->Int->LB-> (List (Int×LB×Unit))->LB->LI->Bl)(j34:Int->Int->LB->LB->Int->Int->Int->Int->Int->LI->Int->LB->Bool->Int->LB->LB->Int->Int->Int->Int->Int->Int->LB->Bool->Int-> (List (Int×LB×Unit))->LB->LI->Bl)(j29:Int->LB->Int->Int->Int->Int->Int->Int->LB->Bool->Int->LB-> (List (Int×LB×Unit))->LB->LI->Bl)(j31:(List (Int×LB×Unit))->LB->Int->Int->Int->Int->Int->Int->LB->Bool->Int->LB->LB->LI->Bl)(b:List (UInt8×Int×Unit))(ab:Int)(f:LB)(g h k m n o:Int)(p:LB)(u:Bool)(v:Int)(a:LB)(aa:List (Int×LB×Unit))(w:LB)(y:LI):Bl:=
if(Ch ab (Ac b))then
(Ak b ab).bind λac=>
if(geq ac.1 1)then
(
(
(
(Bi a 0 (Ej ac.2.1 (Ac a))).bind λaq=>
(
(Cv f w g h k m n y o p u v aq).bind λ(ae,ao,af,ag,ah,ai,aj,ap,ak,al,am,an,ad)=>
j26 ac a ad ab f w g h k m n y o p u v ae af ag ah ai aj ak al am an aa ao ap))))
else
if(geq ac.1 2)then
(
(
(
(Pf f w g h k m n y o p u v ac.2.1).bind λ(av,ar,aw,ax,ay,az,ba,bg,bb,bc,bd,be,bf,au)=>
j33 au ab f w g h k m n y o p u v a av aw ax ay az ba bb bc bd be bf aa ar bg)))
else
if(geq ac.1 3)then
(
(
(
(Fz f w g h k m n y o p u v).bind λ(bi,bt,bj,bk,bl,bm,bn,bu,bp,bq,br,bs,bh)=>
j34 bh ab f w g h k m n y o p u v a bi bj bk bl bm bn bp bq br bs aa bt bu)))
else
j29 ab f g h k m n o p u v a aa w y
else
j31 aa f g h k m n o p u v a w y
def Fg:Nat->Int->LB->Int->Int->Int->Int->Int->Int->LB->Bool->Int->LB-> (List (Int×LB×Unit))->LB->LI->Bl
|0,_,_,_,_,_,_,_,_,_,_,_,_,_,_,_=>none
|z+1,c,d,e,i,j,A,B,C,D,E,F,G,I,J,L=>Oo (FP (Fg z) X) (CO (Fg z) X) (DJ (Fg z) X) (Fk (Fg z) X) CT X c d e i j A B C D E F G I J L
def oW b:=Fg b Ar
def HL(j17:(List (UInt8×Int×Unit))->Int->LB->Int->Int->Int->Int->Int->Int->LB->Bool->Int->LB-> (List (Int×LB×Unit))->LB->LI->Bl)(fd fe:LB)(b:List (UInt8×Int×Unit)):Bl:=
(NY b).bind λbx=>
if(Bg bx 0)then
some (([]:LB),([]:LB),0,0,0,0,0,([]:LI),0,([]:LB),false,0,([]:List (Int×LB×Unit)),bx)
else
(CA fd).bind λ(ff,fg,fh,fi,fj,fk,fl,fm,fn,fo,fp,fq,bz)=>
if(Bg bz 0)then
some (([]:LB),([]:LB),0,0,0,0,0,([]:LI),0,([]:LB),false,0,([]:List (Int×LB×Unit)),bz)
else
j17 b 0 ff fh fi fj fk fl fn fo fp fq fe ([]:List (Int×LB×Unit)) fg fm
def Yz:=HL oW
abbrev Kn:=Option (Int×Int×Int)
def uQ:Kn:=
some (z,d,0)
def aK:=uQ
def Zj(bk7:LB->Int->Int->Int->LB->Int->Int->Int->Int->Int->Int->LB->Bool->Int->LB->LI->Kn)(a:List (UInt8×Int×Unit))(b f g:Int)(ax af:LB)(ag ah ai aj ak al:Int)(ae:LB)(am:Bool)(an:Int)(ao:LB)(ap:LI):Kn:=
(Vg af ao ag ah ai aj ak ap al ae am an).bind λ(ay,aq)=>
if(Bg aq 0)then
some (0,0,aq)
else
bk7 ax (bW b ay) (bW f (Ac ae)) (Ae g 1) af ag ah ai aj ak al ae am an ao ap
def Rz bk7:=Zj bk7
def EA(j10:Int->Int->Int->LB->LB->Int->Int->Int->Int->Int->Int->LB->Bool->Int->LB->LI->Kn)(j12:Int->Int->Kn)(a:List (UInt8×Int×Unit))(h:LB)(b f g:Int)(k:LB)(m n o p u v:Int)(w:LB)(y:Bool)(aa:Int)(ab:LB)(ac:LI):Kn:=
if(Ch g (Ac a))then
(Ak a g).bind λad=>
if(geq ad.1 1)then
(Bi h 0 (Ej ad.2.1 (Ac h))).bind λaz=>
(Cv k ab m n o p u ac v w y aa az).bind λ(ba,bb,bc,bd,be,bf,bg,bh,bi,bj,bk,bl,fa)=>
(Bi h (Ej ad.2.1 (Ac h)) (Ac h)).bind λbm=>
j10 b f g bm ba bc bd be bf bg bi bj bk bl bb bh
else
if(geq ad.1 2)then
(Pf k ab m n o p u ac v w y aa ad.2.1).bind λ(bn,bp,bq,br,bs,bt,bu,bv,bw,bx,bz,da,fb,fc)=>
j10 b f g h bn bq br bs bt bu bw bx bz da bp bv
else
if(geq ad.1 3)then
(Fz k ab m n o p u ac v w y aa).bind λ(db,dc,dd,de,df,dg,dh,di,dj,dk,dl,dm,fd)=>
j10 b f g h db dd de df dg dh dj dk dl dm dc di
else
j10 b f g h k m n o p u v w y aa ab ac
else
j12 b f
def Qx:Nat->LB->Int->Int->Int->LB->Int->Int->Int->Int->Int->Int->LB->Bool->Int->LB->LI->Kn
|0,_,_,_,_,_,_,_,_,_,_,_,_,_,_,_,_=>none
|z+1,c,d,e,i,j,A,B,C,D,E,F,G,I,J,L,M=>EA (Rz (Qx z) X) aK X c d e i j A B C D E F G I J L M
def xD a:=Qx a Ar
def QP(j7:(List (UInt8×Int×Unit))->LB->Int->Int->Int->LB->Int->Int->Int->Int->Int->Int->LB->Bool->Int->LB->LI->Kn)(ar au:LB)(a:List (UInt8×Int×Unit)):Kn:=
(Yz ar au a).bind λ(fe,ff,fg,fh,fi,fj,fk,fl,fm,fn,fo,fp,fq,av)=>
if(Bg av 0)then
some (0,0,av)
else
(CA ar).bind λ(dn,dp,dq,dr,ds,dt,du,dv,dw,dx,dy,dz,aw)=>
if(Bg aw 0)then
some (0,0,aw)
else
j7 a au 0 0 0 dn dq dr ds dt du dw dx dy dz dp dv
def BO:=QP xD
def Sf:Option Bool:=
(BO c e Bcc).bind λ(z,d,i)=>
(Bi X 0 (Cy (Ac X) 2)).bind λj=>
(BO c e j).bind λ(A,B,C)=>
some ((((((((Bbw&&(geq Bbx 0))&&(geq i 0))&&(geq C 0))&&(geq Bbm z))&&(pV Bbq d))&&(pV A Bbm))&&(Lk Bbq 0))&&(Lk Bbm 0))
def Hh:=Sf
def Hg(j8:LB->LB-> (List (UInt8×Int×Unit))->Bool->Int->Int->Int-> (List (UInt8×Int×Unit))->Option Bool)(H8:Int-> (List (UInt8×Int×Unit))->Option Bool)(f g:LB)(b:List (UInt8×Int×Unit))(a:Bool)(h k m o:Int)(n:List (UInt8×Int×Unit)):Option Bool:=
if(Ch o (Ac b))then
(Ak b o).bind λac=>
if(Bg ac.1 2)then
(Ak b o).bind λp=>
(Df n ([(p.1,p.2.1,())]:List (UInt8×Int×Unit))).bind λad=>
H8 (Ae o 1) ad
else
H8 (Ae o 1) n
else
j8 f g b a h k m n
def Dk:Nat->Int-> (List (UInt8×Int×Unit))->Option Bool
|0,_,_=>none
|z+1,d,i=>Hg Hh (Dk z) c e X Bbw Bbm Bbq Bbx d i
def Sk f g b a h k m:=Dk f g b a h k m Ar
def Lj(j6:LB->LB-> (List (UInt8×Int×Unit))->Bool->Int->Int->Int->Int-> (List (UInt8×Int×Unit))->Option Bool)(f g:LB)(b:List (UInt8×Int×Unit))(a:Bool):Option Bool:=
(BO f g b).bind λ(h,k,m)=>
j6 f g b a h k m 0 ([]:List (UInt8×Int×Unit))
def Ld:=Lj Sk
def Li(j5:LB->LB-> (List (UInt8×Int×Unit))->Bool->Option Bool)(f g:LB)(b:List (UInt8×Int×Unit)):Option Bool:=
(Re).bind λa=>
if(Dw (Ac f) 64)then
if true then
if true then
if(true||(!a))then
some a
else
j5 f g b a
else
(Gc b).bind λae=>
if((Bg ae 0)||(!a))then
some a
else
j5 f g b a
else
(Ff b).bind λaf=>
if af then
if(true||(!a))then
some a
else
j5 f g b a
else
(Gc b).bind λag=>
if((Bg ag 0)||(!a))then
some a
else
j5 f g b a
else
(EW g).bind λah=>
if ah then
if true then
if(true||(!a))then
some a
else
j5 f g b a
else
(Gc b).bind λai=>
if((Bg ai 0)||(!a))then
some a
else
j5 f g b a
else
(Ff b).bind λaj=>
if aj then
if(true||(!a))then
some a
else
j5 f g b a
else
(Gc b).bind λak=>
if((Bg ak 0)||(!a))then
some a
else
j5 f g b a
def Jf:=Li Ld
def It:Option Bool:=
if((((geq z 1)||(geq z 2))&&(Lk d 1))&&(pV d 6))then
some ((((((geq B 8)||(geq B 16))||(geq B 24))&&(Lk R 1))&&(pV R 1048576))&&(Lk U 1))
else
some (((false&&(Lk R 1))&&(pV R 1048576))&&(Lk U 1))
def Up:Option Int:=
some (bW 1 (Cy (Bv 256 z) 245))
def Nk:Option (LI):=
some E
def Ns:=Nk
def Jq(j6:LI->Option (LI))(Pp:Int->LI->Option (LI))(a f:Int)(b:LI):Option (LI):=
if(Dw f 0)then
(Up a).bind λg=>
(Df b ([(Ej f g)]:LI)).bind λh=>
(Up a).bind λk=>
Pp (Am f k) h
else
j6 b
def Ez:Nat->Int->LI->Option (LI)
|0,_,_=>none
|c+1,d,e=>Jq Ns (Ez c) z d e
def FX a:=Ez a Ar
def GH(j4:Int->Int->LI->Option (LI))(a m:Int):Option (LI):=
j4 a m ([]:LI)
def Ke:=GH FX
def Uw(h a k f b:Int):Option Bool:=
(
(Jv (Bg a 0)).bind λ_=>
(
if(Dw b (Cy 4000 a))then
some true
else
(Ke f b).bind λg=>
some (Dw (Ac g) 1000)))
def Ki:Option Int:=
(It z d B R U).bind λc=>
if(!c)then
some 8
else
(Uw z d B R U).bind λe=>
if e then
some 8
else
some 0
def Dq(a f g h k:Int)(b:LB):Option Int:=
if((b==([]:LB)) !=(geq a 1))then
some 26
else
some 0
def FC:Option Int:=
if(Dw z 100000)then
some 8
else
some 0
def EN:=FC
def GK:Option Int:=
(Ak Bbh q8).bind λz=>
Bbg (Ae r9 z) (Ae q8 1)
def GO H8:=GK H8
def Tu:Option Int:=
if(Ch Bbt (Ac Bb0))then
(Ak Bb0 Bbt).bind λz=>
if(Ch z 5)then
some 8
else
(Ak Bb0 Bbt).bind λc=>
if(Dw c 100000)then
some 8
else
Bbg Bbo Bbt
else
Bcf Bbo
def Jt:Nat->Int->Int->Option Int
|0,_,_=>none
|z+1,c,d=>Tu (GO (Jt z) E) EN E c d
def GX a:=Jt a Ar
def Ti(j6:LI->Int->Int->Option Int)(a:LI):Option Int:=
if((Ch (Ac a) 1)||(Dw (Ac a) 1000))then
some 8
else
j6 a 0 0
def Hj:=Ti GX
def Fw(g h k a b:Int):Option (LI):=
(Ke a b).bind λf=>
some f
def Hm(f a b g h:Int):Option (Int×Int):=
some (a,b)
def NF:Option Int:=
some (Cy (Bv z d) 8)
def KH:Option Int:=
(Hm d B R U q9).bind λ(c,e)=>
(NF c e).bind λi=>
some (Bv z i)
def JC:=KH
def Vp(j6:Int->Int->Int->Int->Int->Int->Option Int)(Pp:Int->Int->Option Int)(n a b f g h:Int)(k:LI)(m o:Int):Option Int:=
if(Ch o n)then
(Ak k o).bind λ_=>
(Ak k o).bind λw=>
Pp (Ae m w) (Ae o 1)
else
j6 m a b f g h
def Kt:Nat->Int->Int->Option Int
|0,_,_=>none
|c+1,e,i=>Vp JC (Kt c) z d B R U q9 l7 e i
def cQ n a b f g h k:=Kt n a b f g h k Ar
def JW(j4:Int->Int->Int->Int->Int->Int->LI->Int->Int->Option Int)(a b f g h n:Int):Option Int:=
(Fw a b f g h).bind λk=>
j4 n a b f g h k 0 0
def Ut:=JW cQ
abbrev Fq:=Option (Int×Int)
def bY:Fq:=
some (z,0)
def cM:=bY
def Tt(j6:Int->Fq)(Pp:Int->Int->Fq)(a:LB)(b f:Int):Fq:=
if(Ch f 4)then
(Ak a f).bind λg=>
if(Lk g 128)then
some (0,12)
else
(Ak a f).bind λh=>
Pp (Ae (Bv 128 b) (Ad h:Int)) (Ae f 1)
else
j6 b
def Js:Nat->Int->Int->Fq
|0,_,_=>none
|z+1,d,e=>Tt cM (Js z) c d e
def GB a:=Js a Ar
def GU(j4:LB->Int->Int->Fq)(a:LB):Fq:=
if(Bg (Ac a) 4)then
some (0,2)
else
j4 a 0 0
def AI:=GU GB
abbrev Gy:=Option (Int×Int)
def KF:Gy:=
if(Dw z 4000)then
some (0,4)
else
if(Ch (Ac c) z)then
some (0,24)
else
(Ak c 5).bind λd=>
if(geq d 16)then
(Bi c (Am z 10) z).bind λe=>
(Bi c 3 10).bind λi=>
(Df ([51,68,73]:LB) i).bind λj=>
if(e !=j)then
some (0,12)
else
some (z,0)
else
some (z,0)
def Va:=KF
def JI(j6:LB->Int->Gy)(a:LB)(b:Int):Gy:=
(Ak a 5).bind λo=>
if(geq o 16)then
j6 a (Ae (Ae 10 b) 10)
else
j6 a (Ae 10 b)
def Vm:=JI Va
def JS(j5:LB->Int->Gy)(a:LB):Gy:=
if(Ch (Ac a) 10)then
some (0,24)
else
(Bi a 6 10).bind λp=>
(AI p).bind λ(b,f)=>
(Ak a 3).bind λu=>
if(Ch u 2)then
if true then
if true then
if(true||(Bg f 0))then
some (0,12)
else
j5 a b
else
(Ak a 5).bind λv=>
if(Bg v 0)then
(Ak a 5).bind λw=>
if(Bg w 16)then
if(true||(Bg f 0))then
some (0,12)
else
j5 a b
else
(Ak a 3).bind λy=>
if((Bg y 4)||(Bg f 0))then
some (0,12)
else
j5 a b
else
if(false||(Bg f 0))then
some (0,12)
else
j5 a b
else
(Ak a 4).bind λaa=>
if(Bg aa 0)then
if(true||(Bg f 0))then
some (0,12)
else
j5 a b
else
(Ak a 5).bind λab=>
if(Bg ab 0)then
(Ak a 5).bind λac=>
if(Bg ac 16)then
if(true||(Bg f 0))then
some (0,12)
else
j5 a b
else
(Ak a 3).bind λad=>
if((Bg ad 4)||(Bg f 0))then
some (0,12)
else
j5 a b
else
if(false||(Bg f 0))then
some (0,12)
else
j5 a b
else
(Ak a 3).bind λae=>
if(Dw ae 4)then
if true then
if(true||(Bg f 0))then
some (0,12)
else
j5 a b
else
(Ak a 5).bind λaf=>
if(Bg af 0)then
(Ak a 5).bind λag=>
if(Bg ag 16)then
if(true||(Bg f 0))then
some (0,12)
else
j5 a b
else
(Ak a 3).bind λah=>
if((Bg ah 4)||(Bg f 0))then
some (0,12)
else
j5 a b
else
if(false||(Bg f 0))then
some (0,12)
else
j5 a b
else
(Ak a 4).bind λai=>
if(Bg ai 0)then
if(true||(Bg f 0))then
some (0,12)
else
j5 a b
else
(Ak a 5).bind λaj=>
if(Bg aj 0)then
(Ak a 5).bind λak=>
if(Bg ak 16)then
if(true||(Bg f 0))then
some (0,12)
else
j5 a b
else
(Ak a 3).bind λal=>
if((Bg al 4)||(Bg f 0))then
some (0,12)
else
j5 a b
else
if(false||(Bg f 0))then
some (0,12)
else
j5 a b
def LC:=JS Vm
def JM(j4:LB->Gy)(a:LB):Gy:=
if(Ch (Ac a) 3)then
some (0,6)
else
(Bi a 0 3).bind λam=>
if(am !=([73,68,51]:LB))then
some (0,6)
else
j4 a
def DI:=JM LC
def PG:Option UInt64:=
some j
def QR:=PG
def AT:Option UInt64:=
if(Lk o7 0)then
(Ak Bbk o7).bind λz=>
Bbd (Ae (Bv 256 p8) (Ad z:UInt64)) (Am o7 1)
else
Bbc p8
def Nb:Nat->UInt64->Int->Option UInt64
|0,_,_=>none
|z+1,d,e=>AT QR (Nb z) c d e
def QD a:=Nb a Ar
def QB(j4:LB->UInt64->Int->Option UInt64)(a:LB):Option UInt64:=
j4 a 0 (Am (Ac a) 1)
def Dl:=QB QD
def Uc:Option (Int×Int×Bool):=
(Bi c 12 16).bind λz=>
(Dl z).bind λd=>
(Bi c 16 20).bind λe=>
(Dl e).bind λi=>
if(((Ch d 32)||(Dw d 3032))||(Dw i 1000))then
some (0,0,false)
else
some ((Am (Ad d:Int) 32),(Ad i:Int),true)
def BN:Option (LB):=
some c
def AY:=BN
def Qu(j6:LB->Option (LB))(Pp:UInt64->Int->LB->Option (LB))(b:Int)(f:UInt64)(g:Int)(a:LB):Option (LB):=
if(Ch g b)then
(Df a ([(Ad (CH f 256):UInt8)]:LB)).bind λh=>
Pp (Cy f 256) (Ae g 1) h
else
j6 a
def Hp:Nat->UInt64->Int->LB->Option (LB)
|0,_,_,_=>none
|c+1,d,e,i=>Qu AY (Hp c) z d e i
def BL b:=Hp b Ar
def BW(j4:Int->UInt64->Int->LB->Option (LB))(k:UInt64)(b:Int):Option (LB):=
j4 b k 0 ([]:LB)
def Ed:=BW BL
def Qn:Option (LB):=
(Ed 2000 4).bind λc=>
(Df ([(65:UInt8),(80:UInt8),(69:UInt8),(84:UInt8),(65:UInt8),(71:UInt8),(69:UInt8),(88:UInt8)]:LB) c).bind λe=>
(Ed (Ad (Ae z 32):UInt64) 4).bind λi=>
(Df e i).bind λA=>
(Ed (Ad d:UInt64) 4).bind λB=>
(Df A B).bind λC=>
(Ed j 4).bind λD=>
(Df C D).bind λE=>
(mkI (8:Int) (0:UInt8)).bind λF=>
(Df E F).bind λG=>
some G
def Ul:Option (LB):=
(Qn z d 2684354560).bind λc=>
some c
def Lb:Option (LB):=
if C then
(Qn z d 2147483648).bind λc=>
some c
else
(Qn z d 0).bind λe=>
some e
abbrev Ku:=Option (Int×Int)
def GN:Ku:=
if(Ch (Ac c) (Ae 64 z))then
some (0,24)
else
(Bi c (Am (Ae 64 z) 32) (Ae 64 z)).bind λe=>
(Lb z d true).bind λi=>
if(e !=i)then
some (0,12)
else
some ((Ae 64 z),0)
def HA:=GN
def GD(j4:LB->Int->Int->Ku)(a:LB):Ku:=
if(Ch (Ac a) 32)then
some (0,24)
else
(Bi a 0 32).bind λk=>
(Uc k).bind λ(b,f,m)=>
if(!m)then
some (0,12)
else
(Bi a 0 32).bind λn=>
(Ul b f).bind λo=>
if(n !=o)then
some (0,12)
else
j4 a b f
def GM:=GD HA
def FZ(j3:LB->Ku)(a:LB):Ku:=
if(Ch (Ac a) 8)then
some (0,6)
else
(Bi a 0 8).bind λp=>
if(p !=([65,80,69,84,65,71,69,88]:LB))then
some (0,6)
else
j3 a
def AE:=FZ GM
abbrev Fv:=Option (LI×Int)
def GL(H8:Int->LI->Fv)(a:LB)(b:Int)(f:LI)(g h:Int):Fv:=
if(geq h 6)then
some (f,0)
else
if(Bg h 0)then
some (([]:LI),h)
else
if(Dw (Ae b g) 4000)then
some (([]:LI),4)
else
(Df f ([g]:LI)).bind λm=>
H8 (Ae b g) m
def Nr H8:=GL H8
def Tx(j9:Int->LI->Int->Int->Fv)(a:LB)(b:Int)(f:LI):Fv:=
(Bi a b (Ac a)).bind λn=>
(DI n).bind λ(o,k)=>
if(geq k 6)then
(Bi a b (Ac a)).bind λp=>
(AE p).bind λ(u,v)=>
j9 b f u v
else
j9 b f o k
def Nh:Nat->Int->LI->Fv
|0,_,_=>none
|z+1,d,e=>Tx (Nr (Nh z) c) c d e
def cP a:=Nh a Ar
def bP(j6:LB->Int->LI->Fv)(a:LB):Fv:=
j6 a 0 ([]:LI)
def PN:=bP cP
abbrev Gb:=Option (Int×Int)
def FY:Gb:=
some (d,z)
def GZ:=FY
def Th(j6:Int->Int->Gb)(Pp:Int->Int->Gb)(a:Int)(b:LI)(f g:Int):Gb:=
if(Ch g (Ac b))then
(Ak b g).bind λ_=>
(Ak b g).bind λh=>
Pp (Ae f h) (Ae g 1)
else
j6 a f
def Jl:Nat->Int->Int->Gb
|0,_,_=>none
|c+1,d,e=>Th GZ (Jl c) z l7 d e
def Tj a b:=Jl a b Ar
def GJ(j4:Int->LI->Int->Int->Gb)(k:LB):Gb:=
(PN k).bind λ(b,a)=>
j4 a b 0 0
def Nf:=GJ Tj
def Py:Option Bool:=
if(Ch (Ac c) (Ac e))then
(Bi e 0 (Ac c)).bind λz=>
some (c==z)
else
some false
def KD:Option UInt32:=
if p9 then
some (Yj (Cy V 2) 3988292384)
else
some (Cy V 2)
def JK:=KD
def IZ(j2:UInt32->Bool->Option UInt32)(a:UInt32)(f:Int):Option UInt32:=
if(geq f 1)then
j2 a (!(geq (CH a 2) 1))
else
j2 a (geq (CH a 2) 1)
def ES:=IZ JK
def KO:Option UInt32:=
some V
def LH:=KO
def Wi(j6:UInt32->Option UInt32)(Pp:UInt32->UInt8->Int->Option UInt32)(a:UInt32)(b:UInt8)(f:Int):Option UInt32:=
if(Ch f 8)then
(ES a (Ad (CH b 2):Int)).bind λg=>
Pp g (Cy b 2) (Ae f 1)
else
j6 a
def Kr:Nat->UInt32->UInt8->Int->Option UInt32
|0,_,_,_=>none
|q+1,a,b,f=>Wi LH (Kr q) a b f
def dI:=Kr Ar
def gJ(j4:UInt32->UInt8->Int->Option UInt32)(h:UInt32)(k:UInt8):Option UInt32:=
j4 h k 0
def TN:=gJ dI
def DW:Option UInt32:=
some V
def FO:=DW
def Rg(j6:UInt32->Option UInt32)(Pp:UInt32->Int->Option UInt32)(a:LB)(b:UInt32)(f:Int):Option UInt32:=
if(Ch f (Ac a))then
(Ak a f).bind λg=>
(TN b g).bind λh=>
Pp h (Ae f 1)
else
j6 b
def Ik:Nat->UInt32->Int->Option UInt32
|0,_,_=>none
|z+1,d,e=>Rg FO (Ik z) c d e
def EK a:=Ik a Ar
def DR(j4:LB->UInt32->Int->Option UInt32)(k:UInt32)(a:LB):Option UInt32:=
j4 a k 0
def MU:=DR EK
def Sg:Option UInt32:=
(MU 4294967295 c).bind λz=>
some (Am 4294967295 z)
abbrev Gx:=Option (Int×Int×Int×Int×Int×Int)
def JZ:Gx:=
(It (Ad j:Int) (Ad Y:Int) (Ad p8:Int) (Ad Bbl:Int) (Ad Bbn:Int)).bind λz=>
if(!z)then
some (0,0,0,0,0,12)
else
(Uw (Ad j:Int) (Ad Y:Int) (Ad p8:Int) (Ad Bbl:Int) (Ad Bbn:Int)).bind λc=>
if c then
some (0,0,0,0,0,4)
else
some ((Ad j:Int),(Ad Y:Int),(Ad p8:Int),(Ad Bbl:Int),(Ad Bbn:Int),0)
def KK:=JZ
def KA(j6:UInt64->UInt64->UInt64->UInt64->UInt64->Gx)(a:LB):Gx:=
(Bi a 4 6).bind λu=>
(Bi a 6 8).bind λp=>
(Bi a 8 10).bind λo=>
(Bi a 10 14).bind λn=>
(Bi a 14 18).bind λm=>
(
(Dl u).bind λk=>
(
(Dl p).bind λh=>
(
(Dl o).bind λg=>
(
(Dl n).bind λf=>
(
(Dl m).bind λb=>
(
j6 k h g f b))))))
def KR:=KA KK
def JQ(j5:LB->Gx)(a:LB):Gx:=
if(Ch (Ac a) 22)then
some (0,0,0,0,0,24)
else
(Bi a 18 22).bind λy=>
(Bi a 0 18).bind λaa=>
(Dl y).bind λab=>
(Sg aa).bind λac=>
if(Bg ab (Ad ac:UInt64))then
some (0,0,0,0,0,22)
else
j5 a
def KN:=JQ KR
def JN(j4:LB->Gx)(a:LB):Gx:=
(Bi a 0 (Ej 4 (Ac a))).bind λad=>
(Bi ([84,84,65,49]:LB) 0 (Ej 4 (Ac a))).bind λae=>
if(ad !=ae)then
some (0,0,0,0,0,12)
else
j4 a
def Ox:=JN KN
abbrev Rf:=Option (Int×Int×Int×Int×Int×Int×Int)
def BJ:Rf:=
(Ox e).bind λ(c,d,i,j,A,B)=>
if(geq B 24)then
some (0,0,0,0,0,0,(-1:Int))
else
some ((Ae z 22),c,d,i,j,A,B)
def AW:=BJ
def AZ(j2:Int->LB->Rf)(f:LB):Rf:=
(Nf f).bind λ(b,g)=>
if(geq g 24)then
some (0,0,0,0,0,0,(-1:Int))
else
if(Bg g 0)then
some (0,0,0,0,0,0,g)
else
(Bi f b (Ac f)).bind λa=>
(Py a ([73,68,51]:LB)).bind λu=>
if u then
some (0,0,0,0,0,0,(-1:Int))
else
(Py a ([65,80,69,84,65,71,69,88]:LB)).bind λv=>
if v then
some (0,0,0,0,0,0,(-1:Int))
else
j2 b a
def Wd:=AZ AW
def KQ:Option UInt64:=
if p9 then
some (Yj (Bv j 2) 4823603603198064275)
else
some (Bv j 2)
def Vf:=KQ
def JV(j2:UInt64->Bool->Option UInt64)(a:UInt64)(f:Int):Option UInt64:=
if(geq f 1)then
j2 a (!(Lk a 9223372036854775808))
else
j2 a (Lk a 9223372036854775808)
def EU:=JV Vf
def KV:Option UInt64:=
some j
def JB:=KV
def Wn:Option UInt64:=
if(Dw l9 0)then
(Jv (Bg l9 0)).bind λ_=>
(EU Bb7 (Hu (Cy (Ad Bbf:Int) l9) 2)).bind λz=>
Bbd z (Cy l9 2)
else
Bbc Bb7
def Ks:Nat->UInt64->Int->Option UInt64
|0,_,_=>none
|z+1,c,d=>Wn JB (Ks z) Bbf c d
def dD b:=Ks b Ar
def dQ(j4:UInt8->UInt64->Int->Option UInt64)(h:UInt64)(b:UInt8):Option UInt64:=
j4 b h 128
def SH:=dQ dD
def EJ:Option UInt64:=
some j
def EH:=EJ
def Rn:Option UInt64:=
if(Ch o7 (Ac Bbk))then
(Ak Bbk o7).bind λz=>
(SH p8 z).bind λc=>
Bbd c (Ae o7 1)
else
Bbc p8
def Ij:Nat->UInt64->Int->Option UInt64
|0,_,_=>none
|z+1,d,e=>Rn EH (Ij z) c d e
def ZF a:=Ij a Ar
def XX(j4:LB->UInt64->Int->Option UInt64)(k:UInt64)(a:LB):Option UInt64:=
j4 a k 0
def Xw:=XX ZF
def TI:Option UInt64:=
(Xw 0 c).bind λz=>
some z
def Oy:Option (LB):=
(TI c).bind λz=>
(Ed z 8).bind λd=>
some d
abbrev Du:=Option (LI×Int)
def KG:Du:=
(Hj E).bind λz=>
if(Bg z 0)then
some (([]:LI),12)
else
some (E,0)
def Vz:=KG
def Vr(j8:LI->Du)(H8:Int->LI->Du)(b:LB)(a g:Int)(f:LI):Du:=
if(Ch g a)then
(Bi b (Bv 4 g) (Ae (Bv 4 g) 4)).bind λk=>
(Dl k).bind λm=>
(Df f ([(Ad m:Int)]:LI)).bind λn=>
H8 (Ae g 1) n
else
j8 f
def Kq:Nat->Int->LI->Du
|0,_,_=>none
|d+1,e,i=>Vr Vz (Kq d) c z e i
def KT b a:=Kq b a Ar
def JD(j6:LB->Int->Int->LI->Du)(b:LB)(a:Int):Du:=
j6 b a 0 ([]:LI)
def JP:=JD KT
def JE(j5:LB->Int->Du)(b:LB)(a:Int):Du:=
if((Ch a 1)||(Dw a 1000))then
some (([]:LI),2)
else
if(Ch (Ac b) (Ae (Bv 4 a) 4))then
some (([]:LI),24)
else
(Bi b (Bv 4 a) (Ae (Bv 4 a) 4)).bind λo=>
(Bi b 0 (Bv 4 a)).bind λp=>
(Dl o).bind λu=>
(Sg p).bind λv=>
if(Bg u (Ad v:UInt64))then
some (([]:LI),22)
else
j5 b a
def Uu:=JE JP
abbrev Ju:=Option (Int×LI×Int)
def FD:Ju:=
if(geq d 24)then
some (0,([]:LI),(-1:Int))
else
some ((Ae (Ae z (Bv 4 (Ac l7))) 4),l7,d)
def EL:=FD
def FN(j4:Int->Int->LI->Ju)(a:LB)(b k m n o f:Int):Ju:=
(Bi a f (Ac a)).bind λp=>
(Fw b k m n o).bind λu=>
(Uu p (Ac u)).bind λ(h,g)=>
j4 f g h
def Dn:=FN EL
def Im(j3:LB->Int->Int->Int->Int->Int->Int->Ju)(a:LB)(b k m n o:Int)(v:LB):Ju:=
if(geq b 2)then
if(Ch (Ac a) 8)then
some (0,([]:LI),(-1:Int))
else
(Bi a 0 8).bind λw=>
(Oy v).bind λy=>
if(w !=y)then
some (0,([]:LI),26)
else
j3 a b k m n o 8
else
j3 a b k m n o 0
def Ew:=Im Dn
def TH:Option (UInt64×Int):=
if(Dw (Ac Ba5) 100000)then
some (0,4)
else
(Xw j Ba5).bind λz=>
some (z,0)
def WR:Option (UInt64×Int):=
(TH 0 c).bind λ(z,d)=>
some (z,d)
def iZ:Option (LX):=
some i
def iU:=iZ
def QQ(H8:UInt64->Int->LX->Option (LX))(b:UInt64)(f:Int)(a:LX)(g:Int32):Option (LX):=
(Ak a f).bind λ_=>
(Lz a f g).bind λh=>
H8 (Cy b 256) (Ae f 1) h
def AG H8:=QQ H8
def Zy(j8:UInt64->Int->LX->Int32->Option (LX))(j10:LX->Option (LX))(b:UInt64)(f:Int)(a:LX):Option (LX):=
if(Ch f 8)then
if(Dw (Ad (CH b 256):Int32) 127)then
j8 b f a (Am (Ad (CH b 256):Int32) 256)
else
j8 b f a (Ad (CH b 256):Int32)
else
j10 a
def Kk:Nat->UInt64->Int->LX->Option (LX)
|0,_,_,_=>none
|q+1,b,f,a=>Zy (AG (Kk q)) iU b f a
def kU:=Kk Ar
def mG(j6:UInt64->Int->LX->Option (LX))(k:UInt64):Option (LX):=
j6 k 0 (List.replicate 16 (0:Int32))
def aV:=mG kU
def Uh:Option (LX×Int):=
if(Dw (Ac c) 64)then
some (([(0:Int32),(0:Int32),(0:Int32),(0:Int32),(0:Int32),(0:Int32),(0:Int32),(0:Int32),(0:Int32),(0:Int32),(0:Int32),(0:Int32),(0:Int32),(0:Int32),(0:Int32),(0:Int32)]:LX),2)
else
(WR c).bind λ(z,d)=>
(aV z).bind λe=>
some (e,0)
def Uz:Option Int:=
if(geq z 8)then
some 128
else
if(geq z 16)then
some 32768
else
if(geq z 24)then
some 8388608
else
some 0
def AO:Option Int:=
if((Ch z 1)||(Dw z 6))then
some 2
else
(Uz d).bind λc=>
if(geq c 0)then
some 2
else
some 0
def Nd:Option Int:=
(AO z d).bind λc=>
if((Bg c 0)||(Ch B 1))then
some 2
else
(Jv (Bg z 0)).bind λ_=>
if(Dw B (Cy 4000 z))then
some 2
else
some 0
def Xz:Option (LB):=
(Sg c).bind λz=>
(Df ([]:LB) c).bind λd=>
(Df d ([(Ad z:UInt8),(Ad (Cn z (GI.toZ (8:UInt64)).toNat):UInt8),(Ad (Cn z (GI.toZ (16:UInt64)).toNat):UInt8),(Ad (Cn z (GI.toZ (24:UInt64)).toNat):UInt8)]:LB)).bind λe=>
some e
def Pv:Option Int:=
if(Ch (Ac c) 5)then
some 24
else
if(Dw (Ac c) 41254)then
some 4
else
(Bi c 0 (Am (Ac c) 4)).bind λz=>
(Xz z).bind λd=>
if(d !=c)then
some 22
else
some 0
def Mv:Option (Int×Int×UInt64×UInt64):=
some (10,10,16384,16384)
def cF:Option UInt64:=
some j
def bO:=cF
def Tv:Option UInt64:=
if(Ch o7 l5)then
Bbd (Bv p8 2) (Ae o7 1)
else
Bbc p8
def Ji:Nat->UInt64->Int->Option UInt64
|0,_,_=>none
|c+1,d,e=>Tv bO (Ji c) z d e
def cC b:=Ji b Ar
def bK(j4:Int->UInt64->Int->Option UInt64)(b:Int):Option UInt64:=
j4 b 1 0
def Fx:=bK cC
def HP(a g:Int)(h k:UInt64)(b:UInt32):Option Bool:=
(Fx a).bind λf=>
some (Ch (Ad b:UInt64) f)
def EC(a g:Int)(h k:UInt64)(b:UInt32):Option UInt32:=
(Fx a).bind λf=>
some (Ad (Am (Ad b:UInt64) f):UInt32)
abbrev Yn:=Option (Int×UInt64)
def KY:Yn:=
if(Ch z 24)then
(Fx (Ae z 5)).bind λc=>
if(Dw (Am (Ae j Y) (Cy j 16)) c)then
some ((Ae z 1),(Am (Ae j Y) (Cy j 16)))
else
some (z,(Am (Ae j Y) (Cy j 16)))
else
some (z,(Am (Ae j Y) (Cy j 16)))
def Vi:=KY
def JT(j2:Int->UInt64->UInt64->Yn)(b:Int)(a f:UInt64):Yn:=
if(Dw b 0)then
(Fx (Ae b 4)).bind λh=>
if(Ch (Am (Ae a f) (Cy a 16)) h)then
some ((Am b 1),(Am (Ae a f) (Cy a 16)))
else
j2 b a f
else
j2 b a f
def Uj:=JT Vi
abbrev Tq:=Option (Int×Int×UInt64×UInt64)
def ER(f:UInt32)(g a:Int)(h b:UInt64)(w:Int)(y:UInt64):Tq:=
(Uj g h (Ad f:UInt64)).bind λ(aa,ab)=>
some (aa,w,ab,y)
def Ri:=ER
def DA(j2:UInt32->Int->Int->UInt64->UInt64->Int->UInt64->Tq)(g a:Int)(h b:UInt64)(f:UInt32):Tq:=
(HP g a h b f).bind λo=>
if(!o)then
(
(
(EC g a h b f).bind λk=>
(Uj a b (Ad k:UInt64)).bind λ(m,n)=>
j2 f g a h b m n))
else
j2 f g a h b a b
def Xs:=DA Ri
abbrev Fa:=Option (Int×Int×UInt64×UInt64)
def ZB:Fa:=
some (z,d,j,Y)
def XV:=ZB
def EO(j6:Int->Int->UInt64->UInt64->Fa)(Pp:Int->Int->Int->UInt64->UInt64->Fa)(a:Int)(b:LU)(m f g:Int)(h k:UInt64):Fa:=
if(Ch m (Ac b))then
(Ak b m).bind λn=>
(Xs f g h k n).bind λ(o,p,u,v)=>
Pp (Ae m a) o p u v
else
j6 f g h k
def Me:Nat->Int->Int->Int->UInt64->UInt64->Fa
|0,_,_,_,_,_=>none
|c+1,d,e,i,j,A=>EO XV (Me c) z Z d e i j A
def aB a b:=Me a b Ar
def DO(j4:Int->LU->Int->Int->Int->UInt64->UInt64->Fa)(a:Int)(b:LU):Fa:=
(Mv).bind λ(w,y,aa,ab)=>
(Jv (Bg a 0)).bind λ_=>
j4 a b (Hu (Ac b) a) w y aa ab
def Ps:=DO aB
def RJ:Option Int:=
some (Hu z 2)
def RX:=RJ
def AH:Option Int:=
if(Ch Bbo (Hu r9 8))then
Bbg (Cy q8 2) (Ae Bbo 1)
else
Bbe q8
def Ng:Nat->Int->Int->Option Int
|0,_,_=>none
|c+1,d,e=>AH RX (Ng c) z d e
def RL a:=Ng a Ar
def RN(j4:Int->Int->Int->Option Int)(g:LB)(k a:Int):Option Int:=
(Ak g (Cy a 8)).bind λh=>
j4 a (Ad h:Int) 0
def Lf:=RN RL
abbrev Ef:=Option (LB×Int)
def MY:Ef:=
(Ak e (Cy B 8)).bind λ_=>
(Ak e (Cy B 8)).bind λc=>
(Ak e (Cy B 8)).bind λ_=>
(Lz e (Cy B 8) (Ae c (Ad (Bv z d):UInt8))).bind λi=>
some (i,(Ae B 1))
def Xt:=MY
def Yp(j8:Int->Int->Int->LB->Ef)(H8:Int->Int->Ef)(b a:Int)(f:LB)(g h:Int):Ef:=
if(Ch h (Hu a 8))then
H8 (Bv g 2) (Ae h 1)
else
j8 b g a f
def Ly:Nat->Int->Int->Ef
|0,_,_=>none
|c+1,i,j=>Yp Xt (Ly c) z d e i j
def MX b a f:=Ly b a f Ar
def NH(j6:Int->Int->LB->Int->Int->Ef)(b a:Int)(f:LB):Ef:=
j6 b a f 1 0
def Xx:=NH MX
def MZ(j5:Int->Int->LB->Ef)(k:LB)(a b:Int):Ef:=
if(geq (Hu a 8) 0)then
(Df k ([(0:UInt8)]:LB)).bind λo=>
j5 b a o
else
j5 b a k
def Wv:=MZ Xx
abbrev Eh:=Option (LB×Int)
def XK:Eh:=
some (e,z)
def WU:=XK
def Qt(j6:Int->LB->Eh)(Pp:Int->Int->LB->Eh)(f:Int)(g:LB)(h k a:Int)(b:LB):Eh:=
if(Ch k f)then
(Lf g h k).bind λm=>
(Wv b a m).bind λ(n,o)=>
Pp (Ae k 1) o n
else
j6 a b
def Hr:Nat->Int->Int->LB->Eh
|0,_,_,_=>none
|c+1,d,i,j=>Qt WU (Hr c) z e A d i j
def WS f g h:=Hr f g h Ar
def XM(j4:Int->LB->Int->Int->Int->LB->Eh)(g:LB)(h p f:Int):Eh:=
j4 f g h p 0 ([]:LB)
def KB:=XM WS
def cJ:Option UInt64:=
some j
def bT:=cJ
def Ts:Option UInt64:=
if(Lk o7 0)then
(Lf Bbk Bby (Ae l5 o7)).bind λz=>
Bbd (Ae (Bv 2 p8) (Ad z:UInt64)) (Am o7 1)
else
Bbc p8
def Jk:Nat->UInt64->Int->Option UInt64
|0,_,_=>none
|c+1,d,i=>Ts bT (Jk c) z e A d i
def GF b f g:=Jk b f g Ar
def GP(j4:Int->LB->Int->UInt64->Int->Option UInt64)(f:LB)(g b m:Int):Option UInt64:=
j4 b f g 0 (Am m 1)
def Rt:=GP GF
abbrev Hk:=Option (Int×Int)
def NK(b a:Int)(g:LB)(f:Int):Hk:=
if(geq a 48)then
some (a,(Ae b a))
else
if(Lk (Ae b a) f)then
some ((-1:Int),0)
else
some (a,(Ae (Ae b a) 1))
def Yo:=NK
def Yk(j6:Int->Int->LB->Int->Hk)(Pp:Int->Hk)(b:Int)(g:LB)(f a:Int):Hk:=
if((Ch (Ae b a) f)&&(Ch a 48))then
(Lf g f (Ae b a)).bind λh=>
if(geq h 1)then
Pp (Ae a 1)
else
j6 b a g f
else
j6 b a g f
def Ll:Nat->Int->Hk
|0,_=>none
|c+1,d=>Yk Yo (Ll c) z e A d
def iT b g f:=Ll b g f Ar
def jB(j4:Int->LB->Int->Int->Hk)(g:LB)(f b:Int):Hk:=
j4 b g f 0
def VN:=jB iT
def CV:Option Int:=
(Fx l5).bind λz=>
(Jv (Bg z 0)).bind λ_=>
some (Ad (Ej 48 (Cy (Ad V:UInt64) z)):Int)
abbrev AA:=Option (UInt32×Int×Int)
def Yb:AA:=
if((Ch d 0)||(Ch (Am A B) F))then
some (0,0,24)
else
(Rt e A B F).bind λc=>
if(Ch d 48)then
(Fx z).bind λi=>
some ((Ad (Ae (Bv (Ad d:UInt64) i) c):UInt32),(Ae B F),0)
else
(CV (Ad c:UInt32) z).bind λj=>
if(Ch j d)then
some (0,0,12)
else
some ((Ad c:UInt32),(Ae B F),0)
def Ym:=Yb
def MV(j2:Int->Int->Int->LB->Int->Int->AA)(h:LB)(f n g:Int):AA:=
if(Lk n f)then
some (0,0,24)
else
(VN h f n).bind λ(a,b)=>
if(geq a 48)then
j2 g a b h f 32
else
j2 g a b h f g
def HW:=MV Ym
def HS(g:LB)(b a f n:Int)(v w:UInt64):Option (UInt32×Int×Int):=
if(Lk a b)then
some (0,0,24)
else
(Lf g b a).bind λo=>
if(geq o 0)then
if(Ch (Am (Am b a) 1) f)then
some (0,0,24)
else
(Rt g b (Ae a 1) f).bind λp=>
some ((Ad p:UInt32),(Ae (Ae a 1) f),0)
else
(HW g b (Ae a 1) n).bind λ(h,u,k)=>
if(Bg k 0)then
some (0,0,k)
else
(Fx f).bind λm=>
if(Dw (Ae (Ad h:UInt64) m) 4294967295)then
some (0,0,12)
else
some ((Ad (Ae (Ad h:UInt64) m):UInt32),u,0)
abbrev Bm:=Option (LU×Int)
def cK:Bm:=
some (Z,0)
def bX:=cK
def Tn(j18:LU->Bm)(Mp:Int->Bm)(a:LB)(b:LU)(m:Int):Bm:=
if(Ch m (Bv 8 (Ac a)))then
(Lf a (Bv 8 (Ac a)) m).bind λn=>
if(Bg n 0)then
some (b,12)
else
Mp (Ae m 1)
else
j18 b
def Jo:Nat->Int->Bm
|0,_=>none
|z+1,d=>Tn bX (Jo z) c Z d
def GG a b:=Jo a b Ar
def GA(j16:LB->LU->Int->Bm)(f:Int)(a:LB)(b:LU):Bm:=
if(Dw (Am (Bv 8 (Ac a)) f) 7)then
some (b,12)
else
j16 a b f
def Ty:=GA GG
def GQ(Ad3:Int->Int->LU->Bm)(g h:Int)(a:LB)(f k:Int)(b:LU)(p u:Int)(v w:UInt64):Bm:=
(KB a (Bv 8 (Ac a)) f (Ej (Ae f 81) (Bv 8 (Ac a)))).bind λ(y,aa)=>
(HS y aa 0 p u v w).bind λ(ab,ac,o)=>
if(Bg o 0)then
some (b,o)
else
(Df b ([ab]:LU)).bind λad=>
Ad3 (Ae f ac) (Ae k 1) ad
def Jm Ad3:=GQ Ad3
def GY(j13:Int->Int->LU->Int->Int->UInt64->UInt64->Bm)(j15:Int->LB->LU->Bm)(g h:Int)(a:LB)(f k:Int)(b:LU):Bm:=
if(Ch k (Bv h g))then
(Mv).bind λ(n,ae,af,ag)=>
if(Lk k g)then
(Ps g b).bind λ(ah,ai,aj,ak)=>
j13 f k b ah ai aj ak
else
j13 f k b n ae af ag
else
j15 f a b
def Fb:Nat->Int->Int->LU->Bm
|0,_,_,_=>none
|c+1,i,j,A=>GY (Jm (Fb c) z d e) Ty z d e i j A
def bR g h a:=Fb g h a Ar
def KL(j10:Int->Int->LB->Int->Int->LU->Bm)(g h:Int)(a:LB):Bm:=
j10 g h a 0 0 ([]:LU)
def CX:=KL bR
def mH:Option (Int×Int):=
if(geq z 8)then
some (4,0)
else
if((geq z 16)||(geq z 24))then
some (5,0)
else
some (0,2)
def pY:Option (Int×LX×LX×Int):=
(mH z).bind λ(c,d)=>
if(Bg d 0)then
some (0,(List.replicate 16 (0:Int32)),(List.replicate 16 (0:Int32)),2)
else
if(geq z 16)then
some (9,i,(List.replicate 16 (0:Int32)),0)
else
some (10,i,(List.replicate 16 (0:Int32)),0)
def VE:Option (Int×Int32×Int×LX×LX×Int):=
(pY z i).bind λ(c,d,e,j)=>
if(Bg j 0)then
some (0,0,0,(List.replicate 16 (0:Int32)),(List.replicate 16 (0:Int32)),2)
else
some (z,0,c,d,e,0)
def DL:Option Int32:=
if(geq (CH V 2) 0)then
some (Ad (Cy V 2):Int32)
else
some (Ad (Cy (nH (Ae (Ad V:Int) 1)) 2):Int32)
def Cx:Option Int32:=
some (Ad (Ad (Ad z:UInt64):UInt32):Int32)
def NN:Option Int32:=
some (Ad z:Int32)
def MW:=NN
def Xr(j6:Int->Option Int32)(Pp:Int->Int->Option Int32)(h:Int)(b f:LX)(g a:Int):Option Int32:=
if(Ch a 16)then
(Ak b a).bind λ_=>
(Ak f a).bind λ_=>
(Ak b a).bind λk=>
(Ak f a).bind λm=>
(Cx (Bv (Ad k:Int) (Ad m:Int))).bind λn=>
(Cx (Ae g (Ad n:Int))).bind λo=>
Pp (Ad o:Int) (Ae a 1)
else
j6 g
def Lq:Nat->Int->Int->Option Int32
|0,_,_=>none
|c+1,d,e=>Xr MW (Lq c) z i T d e
def iP h b f:=Lq h b f Ar
def jA(j4:Int->LX->LX->Int->Int->Option Int32)(h:Int)(b f:LX):Option Int32:=
j4 h b f 0 0
def VI:=jA iP
def JG:Option Int32:=
(VI z i T).bind λc=>
(Cx (Ae (Ad c:Int) (Cy G 2))).bind λd=>
(Jv (Bg G 0)).bind λ_=>
(Jv (Bg G 0)).bind λ_=>
if(Ch (Hu (Ad d:Int) G) 0)then
some (Ad (Am (Cy (Ad d:Int) G) 1):Int32)
else
some (Ad (Cy (Ad d:Int) G):Int32)
def Wk:=JG
def JL(j2:Int->LX->LX->Int->Option Int32)(b:Int)(f g:LX):Option Int32:=
if(geq b 9)then
j2 b f g 512
else
j2 b f g 1024
def DT:=JL Wk
def FF:Option Int32:=
if(geq z 0)then
some 4
else
if(pV z 3)then
some 2
else
some 1
def Ub:Option Int32:=
if(Ch I 0)then
some (-1:Int32)
else
if(Dw I 0)then
some 1
else
some 0
abbrev Eg:=Option (Int×LX×LX)
def XQ:Eg:=
some (z,i,T)
def XJ:=XQ
def Qf(j6:Int->LX->LX->Eg)(Pp:Int->LX->Eg)(h:Int32)(g:Int)(b:LX)(a:Int)(f:LX):Eg:=
if(Ch a 16)then
(Ak f a).bind λ_=>
(Ak b a).bind λ_=>
(Ak f a).bind λk=>
(Ak b a).bind λm=>
(FF a).bind λn=>
(Ub m).bind λo=>
(Ub h).bind λp=>
(Ak f a).bind λ_=>
(Lz f a (Ae k (Bv (Bv n o) p))).bind λu=>
Pp (Ae a 1) u
else
j6 g f b
def Hw:Nat->Int->LX->Eg
|0,_,_=>none
|z+1,c,d=>Qf XJ (Hw z) I G o8 c d
def WM h g b:=Hw h g b Ar
def VY(j4:Int32->Int->LX->Int->LX->Eg)(g:Int)(v b:LX)(h:Int32):Eg:=
j4 h g b 0 v
def JF:=VY WM
abbrev Ex:=Option (Int×LX×LX)
def DN:Ex:=
(Ak o9 0).bind λ_=>
(Lz o9 0 I).bind λz=>
some (G,o8,z)
def CR:=DN
def Ru(j6:Int32->Int->LX->LX->Ex)(Pp:Int->LX->Ex)(b:Int32)(f:Int)(g:LX)(h:Int)(a:LX):Ex:=
if(Dw h 0)then
(Ak a (Am h 1)).bind λ_=>
(Ak a (Am h 1)).bind λm=>
(Ak a h).bind λ_=>
(Lz a h m).bind λn=>
Pp (Am h 1) n
else
j6 b f g a
def Ip:Nat->Int->LX->Ex
|0,_,_=>none
|z+1,c,d=>Ru CR (Ip z) I G o8 c d
def ZH b f g:=Ip b f g Ar
def YJ(j4:Int32->Int->LX->Int->LX->Ex)(f:Int)(g o:LX)(b:Int32):Ex:=
j4 b f g 15 o
def MS:=YJ ZH
def Vn:Option (Int32×Int×LX×LX):=
(DT z i T).bind λc=>
(Cx (Ae (Ad l6:Int) (Ad c:Int))).bind λd=>
(JF z i T l6).bind λ(e,j,A)=>
(MS e j A d).bind λ(B,C,D)=>
some (d,B,C,D)
def CW:Option Int32:=
(Jv (Bg G 0)).bind λ_=>
(Jv (Bg G 0)).bind λ_=>
if(Ch (Hu (Bv (Am G 1) (Ad I:Int)) G) 0)then
some (Ad (Am (Cy (Bv (Am G 1) (Ad I:Int)) G) 1):Int32)
else
some (Ad (Cy (Bv (Am G 1) (Ad I:Int)) G):Int32)
def Rr:=CW
def EX(j2:Int32->Int->Option Int32)(f:Int)(b:Int32):Option Int32:=
if(geq f 5)then
j2 b 32
else
j2 b 16
def Px:=EX Rr
def Yf(b:Int)(a:Int32)(h:Int)(k m:LX):Option Int:=
if(geq b 8)then
(Px 4 a).bind λf=>
some (Ad f:Int)
else
(Px 5 a).bind λg=>
some (Ad g:Int)
def Vk:Option (Int32×Int×Int32×Int×LX×LX):=
(Vn G o8 o9 l6).bind λ(c,d,e,i)=>
(Yf z I G o8 o9).bind λj=>
(Cx (Ae (Ad c:Int) j)).bind λA=>
some (A,z,A,d,e,i)
def Rj:Option Int:=
if((Ch z 1)||(Dw z 6))then
some 2
else
if(Dw (Ac i) 4000)then
some 4
else
(Jv (Bg z 0)).bind λ_=>
if(Dw (Hu (Ac i) z) 0)then
some 2
else
some 0
def WZ:Option (LX):=
some i
def WO:=WZ
def Qq(j8:LX->Option (LX))(H8:Int->LX->Option (LX))(a:LX)(f:Int)(b:LX):Option (LX):=
if(Lk f 0)then
(Ak b (Ae f 1)).bind λ_=>
(Ak a f).bind λk=>
(Ak b (Ae f 1)).bind λm=>
(Cx (Am (Ad m:Int) (Ad k:Int))).bind λn=>
(Ak b f).bind λ_=>
(Lz b f n).bind λo=>
H8 (Am f 1) o
else
j8 b
def Hq:Nat->Int->LX->Option (LX)
|0,_,_=>none
|z+1,c,d=>Qq WO (Hq z) i c d
def VH a:=Hq a Ar
def CD(j6:LX->Int->LX->Option (LX))(a p:LX):Option (LX):=
j6 a (Am (Ac a) 2) p
def Qi:=CD VH
def BC(j5:LX->LX->Option (LX))(a:LX):Option (LX):=
(mkI (Ac a) (0:Int32)).bind λh=>
(Jv (geq (Ac a) (Ac a))).bind λ_=>
(Ak a (Am (Ac a) 1)).bind λu=>
(Ak h (Am (Ac a) 1)).bind λ_=>
(Lz h (Am (Ac a) 1) u).bind λg=>
if(Dw (Ac a) 1)then
(Ak a (Am (Ac a) 1)).bind λv=>
(Ak a (Am (Ac a) 2)).bind λw=>
(Cx (Ae (Ad v:Int) (Cy (Ad w:Int) 2))).bind λy=>
(Ak g (Am (Ac a) 1)).bind λ_=>
(Lz g (Am (Ac a) 1) y).bind λaa=>
j5 a aa
else
j5 a g
def Wh:=BC Qi
abbrev Gt:=Option (LX×Int)
def fR:Gt:=
some (i,0)
def fZ:=fR
def LA(j6:LX->Gt)(Pp:Int->LX->Gt)(a:Int)(b:LX)(g:Int)(f:LX):Gt:=
if(Ch g (Ac b))then
(Bi b g (Ae g a)).bind λh=>
(Wh h).bind λk=>
(Df f k).bind λm=>
Pp (Ae g a) m
else
j6 f
def Oq:Nat->Int->LX->Gt
|0,_,_=>none
|c+1,d,e=>LA fZ (Oq c) z i d e
def fD a b:=Oq a b Ar
def JJ(j4:Int->LX->Int->LX->Gt)(a:Int)(b:LX):Gt:=
(Rj a b).bind λn=>
if(Bg n 0)then
(Rj a b).bind λo=>
some (([]:LX),o)
else
j4 a b 0 ([]:LX)
def DM:=JJ fD
def BR(b f:Int)(w:LX):Option (LX):=
(DM b w).bind λ(aj,ai)=>
some aj
def Qg:=BR
def BU(J9:Int->LX->Option (LX))(a:LU)(b f:Int)(g:LX)(h:Int)(m:LX):Option (LX):=
J9 (Ae h 1) m
def BE J9:=BU J9
def BI(Ad4:Int->LX->Int->Int32->Int->LX->LX->Option (LX))(a:LU)(h b f:Int)(g:LX)(k:Int)(ah:LX)(y:Int)(aa:Int32)(ab:Int)(ac ad:LX):Option (LX):=
Ad4 (Ae k b) ah y aa ab ac ad
def AX Ad4:=BI Ad4
def BQ(j30:Int->LX->Int->Int32->Int->LX->LX->Option (LX))(a:LU)(h b f:Int)(g:LX)(k:Int)(ae:Int32)(m:LX)(n:Int)(o:Int32)(p:Int)(u v:LX)(y:Int)(aa:Int32)(ab:Int)(ac ad:LX):Option (LX):=
(Ak m k).bind λ_=>
(Lz m k ae).bind λah=>
j30 k ah y aa ab ac ad
def BY Ad4 a h b f g:=BQ (AX Ad4 a h b f g) a h b f g
def BP(j29:Int->Int32->LX->Int->Int32->Int->LX->LX->Int->Int32->Int->LX->LX->Option (LX))(j32:Int->LX->Option (LX))(a:LU)(b f:Int)(g:LX)(h k:Int)(m:LX)(n:Int)(o:Int32)(p:Int)(u v:LX):Option (LX):=
if(Ch k (Ac a))then
(Ak a k).bind λag=>
(
(DL ag).bind λaf=>
(
(Vk n o p u v af).bind λ(ae,y,aa,ab,ac,ad)=>
j29 k ae m n o p u v y aa ab ac ad))
else
j32 h m
def Kz(J9:Int->LX->Option (LX))(a:LU)(b f:Int)(g:LX)(h:Int):Nat->Int->LX->Int->Int32->Int->LX->LX->Option (LX)
|0,_,_,_,_,_,_,_=>none
|q+1,k,m,n,o,p,u,v=>BP (BY (Kz J9 a b f g h q) a h b f g) (BE J9 a b f g) a b f g h k m n o p u v
def BT J9 a b f g h:=Kz J9 a b f g h Ar
def Qh(j26:Int->Int->LX->Int->Int32->Int->LX->LX->Option (LX))(j34:Int->Int->LX->Option (LX))(a:LU)(b f:Int)(g:LX)(h:Int)(w:LX):Option (LX):=
if(Ch h b)then
(VE f g).bind λ(ak,ai,al,am,an,aq)=>
j26 h h w ak ai al am an
else
j34 b f w
def Fm:Nat->Int->LX->Option (LX)
|0,_,_=>none
|z+1,c,d=>Qh (BT (Fm z) Z Bba Bbb Bbu) Qg Z Bba Bbb Bbu c d
def CE a b f g:=Fm a b f g Ar
def DH(j18:LU->Int->Int->LX->Int->LX->Option (LX))(b f:Int)(g:LX)(a:LU):Option (LX):=
(mkI (Ac a) (0:Int32)).bind λao=>
(Jv (geq (Ac a) (Ac a))).bind λ_=>
j18 a b f g 0 ao
def Pu:=DH CE
def cG:Option Int:=
some 0
def bN:=cG
def Ey:Option Int:=
if(Ch r9 (Ac T))then
(Ak T r9).bind λz=>
if(Ch (Ad z:Int) (nH G))then
some 16
else
(Ak T r9).bind λc=>
if(Lk (Ad c:Int) G)then
some 16
else
Bbe (Ae r9 1)
else
Ba6
def Bs:Nat->Int->Option Int
|0,_=>none
|z+1,c=>Ey bN (Bs z) i A c
def cL a b:=Bs a b Ar
def Jn(j4:LX->Int->Int->Option Int)(k:Int)(a:LX):Option Int:=
(Uz k).bind λb=>
if(geq b 0)then
some 2
else
if(Dw (Ac a) 4000)then
some 4
else
j4 a b 0
def Bn:=Jn cL
def Yi(g f:Int)(a:LX):Option (LX×Int):=
(Bn f a).bind λb=>
if(Bg b 0)then
some (([]:LX),b)
else
some (a,0)
abbrev Tk:=Option (LX×Int)
def Io:Tk:=
if(Bg z 0)then
some (([]:LX),z)
else
(
(
(Pu d B i Z).bind λc=>
(Yi d B c).bind λ(e,j)=>
some (e,j)))
def Ib:=Io
def Ry(j2:Int->Int->Int->LX->LU->Tk)(a b:Int)(g:LX)(p:Int)(k:LB):Tk:=
(Nd a b p).bind λy=>
if(Bg y 0)then
some (([]:LX),2)
else
(Pv k).bind λaa=>
if(Bg aa 0)then
(Pv k).bind λab=>
some (([]:LX),ab)
else
(Bi k 0 (Am (Ac k) 4)).bind λac=>
(CX a p ac).bind λ(h,f)=>
j2 f a b g h
def Ev:=Ry Ib
def Yg:Option (LB):=
if(geq z 24)then
(Df ([(Ad (Hu d 256):UInt8),(Ad (Hu (Cy d 256) 256):UInt8)]:LB) ([(Ad (Cy d 65536):UInt8)]:LB)).bind λc=>
some c
else
some ([(Ad (Hu d 256):UInt8),(Ad (Hu (Cy d 256) 256):UInt8)]:LB)
def Lr:=Yg
def NG(j2:Int->Int->Option (LB))(a:Int)(f:Int32):Option (LB):=
if(geq a 8)then
some ([(Ad (Ae (Ad f:Int) 128):UInt8)]:LB)
else
if(Ch (Ad f:Int) 0)then
(Uz a).bind λh=>
j2 a (Ae (Ad f:Int) (Bv 2 h))
else
j2 a (Ad f:Int)
def HC:=NG Lr
abbrev Fy:=Option (LB×Int)
def bV:Fy:=
some (c,0)
def bZ:=bV
def Tr(j6:LB->Fy)(Pp:Int->LB->Fy)(b:Int)(a:LX)(g:Int)(f:LB):Fy:=
if(Ch g (Ac a))then
(Ak a g).bind λh=>
(HC b h).bind λk=>
(Df f k).bind λm=>
Pp (Ae g 1) m
else
j6 f
def Jp:Nat->Int->LB->Fy
|0,_,_=>none
|c+1,d,e=>Tr bZ (Jp c) z i d e
def cH b a:=Jp b a Ar
def GR(j4:Int->LX->Int->LB->Fy)(b:Int)(a:LX):Fy:=
(Bn b a).bind λn=>
if(Bg n 0)then
(Bn b a).bind λo=>
some (([]:LB),o)
else
j4 b a 0 ([]:LB)
def Rh:=GR cH
abbrev Tp:=Option (LB×Int)
def Gf(o:LX)(f:Int)(p g:LB)(h k a m n:Int)(u:LI)(b:Int)(v:LB)(w:Bool)(y:Int):Tp:=
if(Bg f 0)then
some (([]:LB),f)
else
(Rh a o).bind λ(ac,ai)=>
some (ac,0)
def Gn:=Gf
def Gk(j2:LX->Int->LB->LB->Int->Int->Int->Int->Int->LI->Int->LB->Bool->Int->Tp)(p g:LB)(h k a m n:Int)(u:LI)(b:Int)(v:LB)(w:Bool)(y:Int):Tp:=
(Ak u b).bind λaa=>
if(Ch (Ac g) aa)then
some (([]:LB),(-1:Int))
else
(Uh p).bind λ(ad,aj)=>
(Bi g 0 aa).bind λae=>
(Hm h k a m n).bind λ(af,ag)=>
(Fw h k a m n).bind λab=>
(Ak ab b).bind λ_=>
(Ak ab b).bind λah=>
(Ev af ag ad ah ae).bind λ(o,f)=>
j2 o f p g h k a m n u b v w y
def Cs:=Gk Gn
abbrev Lm:=Option (LB×LB×Int×Int×Int×Int×Int×LI×Int×LB×Bool×Int×Int)
def Bc:Lm:=
if(geq (Ac J) 0)then
(Ew e A F N O P c).bind λ(z,d,i)=>
if(Bg i 0)then
some (c,e,A,F,N,O,P,J,L,M,C,D,i)
else
(Bi e z (Ac e)).bind λj=>
some (c,j,A,F,N,O,P,d,L,M,C,D,0)
else
if(geq L (Ac J))then
if(Dw (Ac e) 4000)then
some (c,e,A,F,N,O,P,J,L,M,C,D,38)
else
some (c,e,A,F,N,O,P,J,L,M,C,D,(-1:Int))
else
(Cs c e A F N O P J L M C D).bind λ(B,E)=>
if(Bg E 0)then
some (c,e,A,F,N,O,P,J,L,M,C,D,E)
else
(Df ([]:LB) M).bind λG=>
(Df G B).bind λI=>
(
(
(
(Ak J L).bind λR=>
(
(Bi e R (Ac e)).bind λT=>
some (c,T,A,F,N,O,P,J,(Ae L 1),I,C,D,0)))))
def Bq:=Bc
def Ft:Lm:=
(Dq A F N O P c).bind λz=>
some (c,e,A,F,N,O,P,J,L,M,C,D,z)
def Fu:=Ft
def Bo(j3:LB->LB->Int->Int->Int->Int->Int->LI->Int->LB->Bool->Int->Lm)(j4:LB->LB->Int->Int->Int->Int->Int->LI->Int->LB->Bool->Int->Lm)(g a:LB)(m n o p u:Int)(b:LI)(f:Int)(v:LB)(h:Bool)(k:Int):Lm:=
if(geq m 0)then
(Wd a).bind λ(ac,ae,w,af,ag,y,ai)=>
if(Bg ai 0)then
some (g,a,m,n,o,p,u,b,f,v,h,k,ai)
else
(
(Bi a ac (Ac a)).bind λad=>
(
j3 g ad ae w af ag y b f v h k))
else
j4 g a m n o p u b f v h k
def Ag:=Bo Fu Bq
def Tz:Option Bool:=
(Ag c e A F N O P J L M C D).bind λ(z,d,i,j,B,E,G,I,R,T,U,V,X)=>
some (geq X (-1:Int))
def Cc:=Tz
def Nl(j4:LB->LB->Int->Int->Int->Int->Int->LI->Int->LB->Bool->Int->Option Bool)(o p:LB)(b f g h k:Int)(m:LI)(a:Int)(n:LB)(u:Bool)(v:Int):Option Bool:=
if(geq (Ac m) 0)then
if((Bg a 0)||(Dw (Ac n) 0))then
some false
else
j4 o p b f g h k m a n u v
else
(Hj m).bind λy=>
if(Bg y 0)then
if((true||(Ch a 0))||(Dw a (Ac m)))then
some false
else
(Ut b f g h k a).bind λaa=>
if(Dw (Ac n) aa)then
some false
else
j4 o p b f g h k m a n u v
else
(Fw b f g h k).bind λab=>
if(((Bg (Ac m) (Ac ab))||(Ch a 0))||(Dw a (Ac m)))then
some false
else
(Ut b f g h k a).bind λac=>
if(Dw (Ac n) ac)then
some false
else
j4 o p b f g h k m a n u v
def Np:=Nl Cc
def Tw(j4:LB->LB->Int->Int->Int->Int->Int->LI->Int->LB->Bool->Int->Option Bool)(j3:LB->LB->Int->Int->Int->Int->Int->LI->Int->LB->Bool->Int->Option Bool)(o p:LB)(b f g h k:Int)(m:LI)(a:Int)(n:LB)(u:Bool)(v:Int):Option Bool:=
if((geq b 0)&&((geq f 0)&&((geq g 0)&&((geq h 0)&&((geq k 0)&&true)))))then
if(((Dw (Ac m) 0)||(Bg a 0))||(Dw (Ac n) 0))then
some false
else
j4 o p b f g h k m a n u v
else
(Ki b f g h k).bind λad=>
if(Bg ad 0)then
some false
else
(Dq b f g h k o).bind λae=>
if(Bg ae 0)then
some false
else
j3 o p b f g h k m a n u v
def Kg:=Tw Cc Np
def Wc:Option Bool:=
some (((((((geq z 4)||(geq z 12))||(geq z 16))||(geq z 22))||(geq z 24))||(geq z 26))||(geq z 38))
def Db:Option Int:=
if(Dw (Ac c) 64)then
some 8
else
if((geq D 0)&&(!C))then
(Kg c e A F N O P J L M C D).bind λz=>
if(!z)then
some 8
else
some 0
else
if((geq (Ac e) 0)&&(geq (Ac J) 0))then
if((!(((geq A 0)&&((geq F 0)&&((geq N 0)&&((geq O 0)&&((geq P 0)&&true)))))&&(geq L 0)))||(Dw (Ac M) 12000))then
some 8
else
if(Bg D 0)then
if C then
some 8
else
(Wc D).bind λd=>
if(!d)then
some 8
else
some 0
else
some 0
else
if((!(false&&(geq L 0)))||(Dw (Ac M) 12000))then
some 8
else
if(Bg D 0)then
if C then
some 8
else
(Wc D).bind λi=>
if(!i)then
some 8
else
some 0
else
some 0
abbrev Xu:=Option (LB×LB×Int×Int×Int×Int×Int×LI×Int×LB×Bool×Int)
def Oj:Xu:=
(Df ([]:LI) l7).bind λe=>
some (c,Bca,z,d,B,R,U,e,A,Bcb,C,D)
def Ok:=Oj
def Oh(j2:LB->Int->Int->Int->Int->Int->LI->Int->Bool->Int->LB->LB->Xu)(f w:LB)(g h k m n:Int)(o:LI)(p:Int)(y:LB)(u:Bool)(v:Int):Xu:=
(
(
(
(Df ([]:LB) w).bind λa=>
(
(Df ([]:LB) y).bind λb=>
j2 f g h k m n o p u v a b))))
def Ky:=Oh Ok
def Ou(f g:LB)(h k m n o:Int)(p:LI)(u:Int)(v:LB)(b:Bool)(a:Int):Option Int:=
if(Bg a 0)then
some a
else
if b then
some 36
else
some 0
def Ux(a m:LB)(n o p u v:Int)(w:LI)(y:Int)(b:LB)(aa:Bool)(ab:Int):Option (LB×LB×Int×Int×Int×Int×Int×LI×Int×LB×Bool×Int):=
(
(
(Df ([]:LB) b).bind λf=>
some (a,([]:LB),0,0,0,0,0,([]:LI),0,f,false,0)))
def Ma:Option (LB×LB×Int×Int×Int×Int×Int×LI×Int×LB×Bool×Int×Int):=
(Ux c e A F N O P J L M C D).bind λ(z,d,i,j,B,E,G,I,R,T,U,V)=>
some (z,d,i,j,B,E,G,I,R,T,U,Bbj,Bbj)
abbrev Lt:=Option (LB×LB×Int×Int×Int×Int×Int×LI×Int×LB×Bool×Int×Int)
def Bp(bk3:LB->LB->Int->Int->Int->Int->Int->LI->Int->LB->Bool->Int->Lt)(a b:LB)(f g h k m:Int)(n:LI)(o:Int)(p:LB)(u:Bool)(v:Int):Lt:=
(Ag a b f g h k m n o p u v).bind λ(bb,bc,bd,be,bf,bg,bh,bi,bj,bk,bl,bm,w)=>
if(geq w (-1:Int))then
(Ky a b f g h k m n o p u v).bind λ(bn,bp,bq,br,bs,bt,bu,bv,bw,bx,bz,da)=>
some (bn,bp,bq,br,bs,bt,bu,bv,bw,bx,bz,da,0)
else
if(Bg w 0)then
(Ma a b f g h k m n o p u v w).bind λ(db,dc,dd,de,df,dg,dh,di,dj,dk,dl,dm,dn)=>
some (db,dc,dd,de,df,dg,dh,di,dj,dk,dl,dm,dn)
else
bk3 bb bc bd be bf bg bh bi bj bk bl bm
def Ay:Nat->LB->LB->Int->Int->Int->Int->Int->LI->Int->LB->Bool->Int->Lt
|0,_,_,_,_,_,_,_,_,_,_,_,_=>none
|q+1,a,b,f,g,h,k,m,n,o,p,u,v=>Bp (Ay q) a b f g h k m n o p u v
def dX:=Ay Ar
def Oz(j3:LB->LB->Int->Int->Int->Int->Int->LI->Int->LB->Bool->Int->Lt)(al am:LB)(an ao ap aq ar:Int)(au:LI)(av:Int)(aw:LB)(ax:Bool)(ay:Int)(dp:LB):Lt:=
(Db al am an ao ap aq ar au av aw ax ay).bind λaz=>
if(Bg az 0)then
some (([]:LB),([]:LB),0,0,0,0,0,([]:LI),0,([]:LB),false,0,az)
else
(Ky al am an ao ap aq ar au av aw ax ay).bind λ(y,aa,ab,ac,ad,ae,af,ag,ah,ai,aj,ak)=>
(Ou y aa ab ac ad ae af ag ah ai aj ak).bind λba=>
if(Bg ba 0)then
some (y,aa,ab,ac,ad,ae,af,ag,ah,ai,aj,ak,ba)
else
(Df aa dp).bind λdq=>
j3 y dq ab ac ad ae af ag ah ai aj ak
def Ic:=Oz dX
abbrev Gu:=Option (Int×Int)
def Wm:Gu:=
if(Ch (Ac c) A)then
some (0,24)
else
if(e==Bbv)then
(Bi c (Am (Ac c) A) (Ae (Am (Ac c) A) 32)).bind λi=>
(Ul z d).bind λj=>
if(i !=j)then
some (0,12)
else
some (A,0)
else
some (A,0)
def Wj:=Wm
def Vl(j6:LB->Int->Int->LB->LB->Int->Gu)(a:LB)(f g:Int)(b h:LB):Gu:=
if(b==h)then
j6 a f g b h (Ae (Ae 32 f) 32)
else
j6 a f g b h (Ae 32 f)
def Wa:=Vl Wj
def KP(j5:LB->Int->Int->LB->LB->Gu)(a:LB):Gu:=
(Bi a (Am (Ac a) 32) (Ac a)).bind λb=>
(Uc b).bind λ(f,g,n)=>
if(!n)then
some (0,12)
else
(Lb f g true).bind λh=>
(
if(!(b==h))then
(Lb f g false).bind λm=>
if(b !=m)then
some (0,12)
else
j5 a f g b h
else
j5 a f g b h)
def KS:=KP Wa
def JA(j4:LB->Gu)(a:LB):Gu:=
if(Ch (Ac a) 32)then
some (0,6)
else
(Bi a (Am (Ac a) 32) (Ae (Am (Ac a) 32) 8)).bind λu=>
if(u !=([65,80,69,84,65,71,69,88]:LB))then
some (0,6)
else
j4 a
def DK:=JA KS
abbrev Fe:=Option (Int×Int)
def YF:Fe:=
some (z,0)
def XR:=YF
def FR(j6:Int->Fe)(Pp:LB->Int->Fe)(b:LB)(a:Int):Fe:=
if(Dw (Ac b) 0)then
(DK b).bind λ(g,h)=>
if(Bg h 0)then
some (0,38)
else
(Bi b 0 (Am (Ac b) g)).bind λk=>
Pp k (Ae a 1)
else
j6 a
def Mf:Nat->LB->Int->Fe
|0,_,_=>none
|q+1,b,a=>FR XR (Mf q) b a
def ZD:=Mf Ar
def CZ(j4:LB->Int->Fe)(f:LB):Fe:=
if(Dw (Ac f) 4000)then
some (0,38)
else
j4 f 0
def Xy:=CZ ZD
def Pr(p a:LB)(g u v w y:Int)(b:LI)(h:Int)(aa:LB)(ab:Bool)(ac:Int):Option Int:=
if(geq g 0)then
(Nf a).bind λ(k,f)=>
if(Bg f 0)then
some f
else
(Bi a k (Ac a)).bind λm=>
(Ox m).bind λ(ad,ae,af,ag,ah,n)=>
some n
else
if((geq (Ac b) 0)||(Ch h (Ac b)))then
some 24
else
(Xy a).bind λ(ai,o)=>
if(Bg o 0)then
some 38
else
some 0
abbrev UH:=Option (Int×Int×Int×Int×Int×Int×LI×Int)
def yF:UH:=
(Dh z d B R U).bind λ(e,i)=>
if(Bg i 0)then
some (0,0,0,0,0,0,([]:LI),i)
else
(Bi c q9 (Ac c)).bind λj=>
(HV j (Ac e)).bind λ(A,C)=>
if(Bg C 0)then
some (0,0,0,0,0,0,([]:LI),C)
else
some (z,d,B,R,U,(Ae (Ae q9 (Bv 4 (Ac A))) 4),A,0)
def yJ:=yF
def wY(j2:LB->Int->Int->Int->Int->Int->Int->UH)(a n:LB):UH:=
if(Dw (Ac n) 64)then
some (0,0,0,0,0,0,([]:LI),2)
else
if(Dw (Ac a) 100000)then
some (0,0,0,0,0,0,([]:LI),4)
else
(Iy a).bind λ(f,w)=>
if(Bg w 0)then
some (0,0,0,0,0,0,([]:LI),w)
else
(Bi a f (Ac a)).bind λad=>
(Mh ad).bind λ(b,g,h,k,m,y)=>
if(Bg y 0)then
some (0,0,0,0,0,0,([]:LI),y)
else
if((n==([]:LB)) !=(geq b 1))then
some (0,0,0,0,0,0,([]:LI),26)
else
if(n !=([]:LB))then
if(Ch (Ac a) (Ae (Ae f 22) 8))then
some (0,0,0,0,0,0,([]:LI),24)
else
(Bi a (Ae f 22) (Ae (Ae f 22) 8)).bind λae=>
(Xg ae n).bind λ(af,aa)=>
if(Bg aa 0)then
some (0,0,0,0,0,0,([]:LI),aa)
else
if(!af)then
some (0,0,0,0,0,0,([]:LI),26)
else
j2 a b g h k m (Ae (Ae f 22) 8)
else
j2 a b g h k m (Ae f 22)
def Aap:=wY yJ
abbrev Jh:=Option (Int×Int×Int×Int×Int×Int×LI×Int)
def YL:Jh:=
if(Bg d 0)then
some (0,0,0,0,0,0,([]:LI),d)
else
some (B,R,U,q9,Bbi,(Ae (Ae z (Bv 4 (Ac l7))) 4),l7,0)
def XZ:=YL
def YE(j4:Int->Int->Int->Int->Int->Int->Int->LI->Jh)(a:LB)(b h k f g n:Int):Jh:=
(Bi a n (Ac a)).bind λy=>
(Ke f g).bind λaa=>
(Uu y (Ac aa)).bind λ(p,o)=>
j4 n o b h k f g p
def XU:=YE XZ
def XT(j3:LB->Int->Int->Int->Int->Int->Int->Jh)(a u:LB):Jh:=
if(Dw (Ac a) 100000)then
some (0,0,0,0,0,0,([]:LI),4)
else
(Nf a).bind λ(m,v)=>
if(Bg v 0)then
some (0,0,0,0,0,0,([]:LI),v)
else
(Bi a m (Ac a)).bind λab=>
(Ox ab).bind λ(b,h,k,f,g,w)=>
if(Bg w 0)then
some (0,0,0,0,0,0,([]:LI),w)
else
if((u==([]:LB)) !=(geq b 1))then
some (0,0,0,0,0,0,([]:LI),26)
else
if(geq b 2)then
if(Ch (Am (Ac a) (Ae m 22)) 8)then
some (0,0,0,0,0,0,([]:LI),24)
else
(Bi a (Ae m 22) (Ae (Ae m 22) 8)).bind λac=>
(Oy u).bind λad=>
if(ac !=ad)then
some (0,0,0,0,0,0,([]:LI),26)
else
j3 a b h k f g (Ae (Ae m 22) 8)
else
j3 a b h k f g (Ae m 22)
def iY:=XT XU
def cN:Option Int:=
some z
def cE:=cN
def Tm(j6:Int->Option Int)(Pp:Int->Int->Option Int)(b h k m n o f:Int)(g:LI)(a p:Int):Option Int:=
if(Ch p b)then
(Ak g p).bind λu=>
Pp (Ae a u) (Ae p 1)
else
j6 a
def Jr:Nat->Int->Int->Option Int
|0,_,_=>none
|c+1,e,i=>Tm cE (Jr c) z d B R U q9 Bbi l7 e i
def bL b h k m n o f g:=Jr b h k m n o f g Ar
def cD(j4:Int->Int->Int->Int->Int->Int->Int->LI->Int->Int->Option Int)(h k m n o f:Int)(g:LI)(b:Int):Option Int:=
j4 b h k m n o f g f 0
def OX:=cD bL
abbrev AM:=Option (LB×Int)
def NI(u:LX)(n o g f h k p:Int)(b:LI):AM:=
if(Bg n 0)then
some (([]:LB),n)
else
(Rh f u).bind λ(af,ai)=>
some (af,0)
def NC:=NI
def NA(j2:LX->Int->Int->Int->Int->Int->Int->Int->LI->AM)(v y:LB)(o g f h k p:Int)(b:LI)(a:Int):AM:=
(OX o g f h k p b a).bind λm=>
(Ak b a).bind λaa=>
if(Ch (Am (Ac v) m) aa)then
some (([]:LB),24)
else
(Uh y).bind λ(ab,ag)=>
(Ak b a).bind λac=>
(Bi v m (Ae m ac)).bind λad=>
(
(Ke h k).bind λw=>
(Ak w a).bind λ_=>
(Ak w a).bind λae=>
(Ev g f ab ae ad).bind λ(u,n)=>
j2 u n o g f h k p b)
def Qo:=NA NC
abbrev Rq:=Option (Int×Int×Int×LX×Int)
def cT:Rq:=
(Bi c z (Ac c)).bind λe=>
(DP e).bind λ(j,A)=>
if(Bg A 0)then
some (0,0,0,([]:LX),38)
else
some (d,B,R,i,0)
def eB:=cT
def dY(Ad2:Int->Int->LX->Rq)(a:LB)(w:LI)(m f g h o p n b ab ae:Int)(ac:LX)(k:LI)(y aj ak aa:Int)(an ad:LX):Rq:=
if(Bg ak 0)then
some (0,0,0,([]:LX),ak)
else
(Df ad an).bind λau=>
Ad2 (Ae y aj) (Ae aa 1) au
def dZ Ad2:=dY Ad2
def QW(j24:Int->Int->Int->Int->LX->LX->Rq)(j26:LB->Int->Int->Int->Int->LX->Rq)(a:LB)(w:LI)(m f g h o p n b ab ae:Int)(ac:LX)(k:LI)(y aa:Int)(ad:LX):Rq:=
if(Ch aa (Ac w))then
(Ak w aa).bind λ_=>
(Ak w aa).bind λaj=>
if(Ch (Ac a) (Ae y aj))then
some (0,0,0,([]:LX),24)
else
(Ak k aa).bind λ_=>
(Bi a y (Ae y aj)).bind λav=>
(Ak k aa).bind λaw=>
(Mq f g ac aw av).bind λ(an,ak)=>
j24 y aj ak aa an ad
else
j26 a y f g h ad
def DE:Nat->Int->Int->LX->Rq
|0,_,_,_=>none
|e+1,j,A,C=>QW (dZ (DE e) c E z d B R U q9 Bbi Bb4 Bb5 Bb6 i l7) eB c E z d B R U q9 Bbi Bb4 Bb5 Bb6 i l7 j A C
def Hn:Option Bool:=
(Ff X).bind λz=>
if(!z)then
(Gc X).bind λc=>
some (geq c 0)
else
some false
end Go.Pl
