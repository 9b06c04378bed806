/- A part of a proof (see the text that ends in Proof). No conditions. -/
import Derived.Test.YtaicmmejgiaafaaGreatDoorVnBA
set_option linter.unusedVariables false
namespace Go.Pl
open Go Go.Lv
abbrev LB:=List UInt8
abbrev LI:=List Int
abbrev LX:=List Int32
abbrev LU:=List UInt32
abbrev LQ:=List UInt64
variable(c:LB)(C:LI)(z d A M P jk jl jm jo jq:Int)(e:LX)(eu:LI)(i jw:LB)(B U gq gu gy ig iq iw:Int)(iy:LI)(j:UInt64)(G:UInt32)(J:UInt64)(N:LB)(F:Int32)(D:Int)(E R:LX)(I:Int32)(jf jy:Int)(jr kg:UInt64)(ko:Int32)(T:List LB)(fq fu kr:LB)(L:LU)(X Y:Int)(jg:LX)(ku:LQ)(Z:Bool)(lg:UInt8)(V:Int)(lq:LQ)(jv:LB)(lu:Option Int)(l5:Bool)(cu:Bool->Option Int)(jh:Bool)(O:List (LB×LB×Unit))(ji:List LI)
def Kw:Option (Int×Int×Int×LX):=
some (2,16,4,([(1:Int32),(2:Int32),(3:Int32),(-4:Int32),(5:Int32),(600:Int32),(-700:Int32),(8:Int32),(9:Int32),(-10:Int32)]:LX))
def CJ(a b f:Int)(g:LX):Option (Int×Int):=
some (a,b)
abbrev Ql:=Option (Int32×Int32×Int)
def MY:Ql:=
if Z then
(Dt (Hl (Ah z 1) 0)).bind λ_=>
some ((fU (Fc (1:Int32) (GI.toZ (Ah z 1)).toNat)),(Ah (Fc (1:Int32) (GI.toZ (Ah z 1)).toNat) 1),0)
else
some (0,0,2)
def RA:=MY
def OX(j2:Int->Bool->Ql)(a:Int):Ql:=
if(geq a 8)then
j2 a (geq a 8)
else
if(geq a 16)then
j2 a (geq a 16)
else
j2 a (geq a 24)
def Zc:=OX RA
def Ki:Option Int:=
(Zc d).bind λ(c,e,i)=>
if(((Bp i 0)||(Ci z 1))||(Eo z 6))then
some 2
else
some 0
def Se:Option (Int×Int):=
if((Ci z 1)||(Eo z 1048576))then
some (0,2)
else
some ((YN 1 (Iu (Db 256 z) 245)),0)
def Ke:Option (Int×Int):=
(Se z).bind λ(c,e)=>
if(Bp e 0)then
some (0,e)
else
if((Ci d 1)||(Eo d 4000))then
some (0,2)
else
(Dt (Bp c 0)).bind λ_=>
if(Eo (Iu (Ah (Ad d c) 1) c) 1000)then
some (0,4)
else
some ((Iu (Ah (Ad d c) 1) c),0)
def TG:Option Int:=
(CJ z d A e).bind λ(c,i)=>
(Ki c i).bind λj=>
if((Bp j 0)||(Ci B 1))then
some 8
else
(Dt (Bp z 0)).bind λ_=>
if(Eo B (Iu 4000 z))then
some 8
else
(Ke A B).bind λ(C,D)=>
if(Bp D 0)then
some 8
else
some 0
def QW:Option Int:=
some 0
def Xv:=QW
def Vt(j6:Option Int)(Zl:Int->Option Int)(b f:Int32)(a:LX)(g:Int):Option Int:=
if(Ci g (Aa a))then
(Ak a g).bind λh=>
if((Ci h b)||(Eo h f))then
some 16
else
Zl (Ad g 1)
else
j6
def Mr:Nat->Int->Option Int
|0,_=>none
|z+1,c=>Vt Xv (Mr z) F I jg c
def MB b f a:=Mr b f a Cq
def Xq(j4:Int32->Int32->LX->Int->Option Int)(m:Int)(a:LX):Option Int:=
(Zc m).bind λ(b,f,k)=>
if(Bp k 0)then
some k
else
if(Eo (Aa a) 4000)then
some 4
else
j4 b f a 0
def Kr:=Xq MB
def If:Option Int:=
if(Ci z 1)then
some 8
else
(Dt (Bp z 0)).bind λ_=>
if(Bp (Gk (Aa e) z) 0)then
some 8
else
(Dt (Bp z 0)).bind λ_=>
(TG z d A e (Iu (Aa e) z)).bind λc=>
if(Bp c 0)then
some c
else
(Kr d e).bind λi=>
if(Bp i 0)then
some 8
else
some 0
abbrev Qr:=Option (Int×Int×Int×Int×Int×Int)
def OJ:Qr:=
if(c !=([]:LB))then
some (2,z,d,A,(Iu (Aa e) z),0)
else
some (1,z,d,A,(Iu (Aa e) z),0)
def Xc:=OJ
def Mg(j2:LB->Int->Int->Int->LX->Qr)(a b f:Int)(g:LX)(h:LB):Qr:=
(If a b f g).bind λk=>
if(Bp k 0)then
some (0,0,0,0,0,k)
else
if(Eo (Aa h) 64)then
some (0,0,0,0,0,2)
else
(Dt (Bp a 0)).bind λ_=>
(
j2 h a b f g)
def JJ:=Mg Xc
abbrev Ay:=Option (UInt64×Int)
def OR:Ay:=
some (j,0)
def OV:=OR
def MG(j30:UInt64->Ay)(h b:UInt64)(a:LB)(f:LQ):Ay:=
j30 h
def Xp:=MG OV
def Ws(j29:UInt64->UInt64->LB->LQ->Ay)(Ll:UInt64->Int->Ay)(a:LB)(b:UInt64)(f:LQ)(h:UInt64)(m:Int):Ay:=
if(Ci m (Aa a))then
(Ak a m).bind λp=>
Option.bind (Ak f (GI.toZ (Qo (Aj (Bz h (GI.toZ (56:UInt64)).toNat):UInt8) p))) λ_=>
Option.bind (Ak f (GI.toZ (Qo (Aj (Bz h (GI.toZ (56:UInt64)).toNat):UInt8) p))) λu=>
Ll (Qo (Fc h (GI.toZ (8:UInt64)).toNat) u) (Ad m 1)
else
j29 h b a f
def Mu:Nat->UInt64->Int->Ay
|0,_,_=>none
|z+1,d,e=>Ws Xp (Mu z) c j ku d e
def Wg a b f:=Mu a b f Cq
def Vs(j27:LB->UInt64->LQ->UInt64->Int->Ay)(b:UInt64)(a:LB)(f:LQ):Ay:=
j27 a b f b 0
def OZ:=Vs Wg
def LW(Fs:Int->LQ->Ay)(b:UInt64)(a:LB)(g:Int)(o:LQ):Ay:=
Fs (Ad g 1) o
def NB Fs:=LW Fs
def MP(j24:Int->LQ->Ay)(b:UInt64)(a:LB)(g:Int)(k:UInt64)(f:LQ):Ay:=
(Ak f g).bind λ_=>
(Ew f g k).bind λo=>
j24 g o
def We Fs b a:=MP (NB Fs b a) b a
def Vk(j23:Int->UInt64->LQ->Ay)(cX:UInt64->Int->Ay)(b:UInt64)(a:LB)(g:Int)(f:LQ)(k:UInt64)(n:Int):Ay:=
if(Ci n 8)then
cX (Qo (Fc k (GI.toZ (1:UInt64)).toNat) (Db 4823603603198064275 (Bz k (GI.toZ (63:UInt64)).toNat))) (Ad n 1)
else
j23 g k f
def Np(Fs:Int->LQ->Ay)(b:UInt64)(a:LB)(g:Int)(f:LQ):Nat->UInt64->Int->Ay
|0,_,_=>none
|q+1,k,n=>Vk (We Fs b a) (Np Fs b a g f q) b a g f k n
def Yv Fs b a g f:=Np Fs b a g f Cq
def Wx(j21:Int->LQ->UInt64->Int->Ay)(j26:UInt64->LB->LQ->Ay)(b:UInt64)(a:LB)(g:Int)(f:LQ):Ay:=
if(Ci g 256)then
j21 g f (Fc (Aj g:UInt64) (GI.toZ (56:UInt64)).toNat) 0
else
j26 b a f
def Oc:Nat->Int->LQ->Ay
|0,_,_=>none
|z+1,c,d=>Wx (Yv (Oc z) j N) OZ j N c d
def NZ b a:=Oc b a Cq
def BL(j16:UInt64->LB->Int->LQ->Ay)(b:UInt64)(a:LB):Ay:=
if(Eo (Aa a) 100000)then
some (0,4)
else
j16 b a 0 (List.replicate 256 (0:UInt64))
def QL:=BL NZ
def HG:Option (UInt64×Int):=
(QL 0 c).bind λ(z,d)=>
some (z,d)
def cR:Option (LX):=
some e
def MZ:=cR
def RP(j6:LX->Option (LX))(Zl:Int->LX->Option (LX))(f:UInt64)(a:Int)(b:LX):Option (LX):=
if(Ci a 8)then
(Dt (Hl (Db 8 a) 0)).bind λ_=>
(Ak b a).bind λ_=>
(Ew b a (Aj (Aj (Bz f (GI.toZ (Db 8 a)).toNat):Int8):Int32)).bind λg=>
Zl (Ad a 1) g
else
j6 b
def CV:Nat->Int->LX->Option (LX)
|0,_,_=>none
|z+1,c,d=>RP MZ (CV z) j c d
def cT f:=CV f Cq
def QM(j4:UInt64->Int->LX->Option (LX))(f:UInt64):Option (LX):=
j4 f 0 (List.replicate 16 (0:Int32))
def dH:=QM cT
def Rv:Option (LX×Int):=
if(Eo (Aa c) 64)then
some (([(0:Int32),(0:Int32),(0:Int32),(0:Int32),(0:Int32),(0:Int32),(0:Int32),(0:Int32),(0:Int32),(0:Int32),(0:Int32),(0:Int32),(0:Int32),(0:Int32),(0:Int32),(0:Int32)]:LX),2)
else
(HG c).bind λ(z,d)=>
if(Bp d 0)then
some (([(0:Int32),(0:Int32),(0:Int32),(0:Int32),(0:Int32),(0:Int32),(0:Int32),(0:Int32),(0:Int32),(0:Int32),(0:Int32),(0:Int32),(0:Int32),(0:Int32),(0:Int32),(0:Int32)]:LX),d)
else
(dH z).bind λe=>
some (e,0)
def Um:Option (UInt64×UInt64):=
some ((Ad (Ad (Db (Bz j (GI.toZ (32:UInt64)).toNat) (Bz J (GI.toZ (32:UInt64)).toNat)) (Bz (Ad (Db (Bz j (GI.toZ (32:UInt64)).toNat) (Dg J 4294967295)) (Bz (Db (Dg j 4294967295) (Dg J 4294967295)) (GI.toZ (32:UInt64)).toNat)) (GI.toZ (32:UInt64)).toNat)) (Bz (Ad (Dg (Ad (Db (Bz j (GI.toZ (32:UInt64)).toNat) (Dg J 4294967295)) (Bz (Db (Dg j 4294967295) (Dg J 4294967295)) (GI.toZ (32:UInt64)).toNat)) 4294967295) (Db (Dg j 4294967295) (Bz J (GI.toZ (32:UInt64)).toNat))) (GI.toZ (32:UInt64)).toNat)),(Db j J))
def BQ:Option (UInt64×UInt64):=
(Um j J).bind λ(z,c)=>
some (z,c)
def Ou:Option (LI):=
some C
def Gy:=Ou
def Ep(j10:LI->Option (LI))(aY:Int->LI->Option (LI))(b:Int)(a:LI):Option (LI):=
if(Ci b (Aa a))then
(
(RU (Aa a) b (Aa a)).bind λ_=>
(RU (Aa a) 0 b).bind λ_=>
aY (Ad b (BF ((Aa a)-b) (Xr a 0 (b-(0:Int))).length)) (Ie a b ((Aa a)-b) (Xr a 0 (b-(0:Int)))))
else
j10 a
def Et:Nat->Int->LI->Option (LI)
|0,_,_=>none
|q+1,b,a=>Ep Gy (Et q) b a
def Qs:=Et Cq
def Hz(j8:Int->LI->Option (LI))(f:LI)(g:UInt64):Option (LI):=
(XR (Aj g:Int) (0:Int)).bind λk=>
(Dt (geq (Aj g:Int) (Aj g:Int))).bind λ_=>
j8 (BF (Aa k) f.length) (eT k f)
def Qm:=Hz Qs
def Hp(j7:LI->UInt64->Option (LI))(f:LI)(h:Int):Option (LI):=
(BQ (Aj (Aa f):UInt64) (Aj h:UInt64)).bind λ(m,g)=>
if((Eo m 0)||(Eo g 9223372036854775807))then
none
else
j7 f g
def Qu:=Hp Qm
def Hy(j6:LI->Int->Option (LI))(f:LI)(h:Int):Option (LI):=
if(Ci h 0)then
none
else
j6 f h
def Jl:=Hy Qu
def Oy:Option (LI):=
some C
def He:=Oy
def Gz(j16:LI->Option (LI))(rG:Int->LI->Option (LI))(a:List LI)(g:Int)(f:LI):Option (LI):=
if(Ci g (Aa a))then
(Ak a g).bind λn=>
(Cd f n).bind λo=>
rG (Ad g 1) o
else
j16 f
def Ej:Nat->Int->LI->Option (LI)
|0,_,_=>none
|z+1,c,d=>Gz He (Ej z) ji c d
def Hc a:=Ej a Cq
def Ha(j14:(List LI)->Int->LI->Option (LI))(a:List LI)(p:LI):Option (LI):=
j14 a 0 p
def Oz:=Ha Hc
def Hb(j13:(List LI)->LI->Option (LI))(b:Int)(a:List LI):Option (LI):=
if(Eo (Ah b (Ah (0:Int) (0:Int))) 0)then
(RU 0 0 0).bind λ_=>
(XR (Ah b (Ah (0:Int) (0:Int))) (0:Int)).bind λu=>
(Cd ([]:LI) u).bind λk=>
(RU (Aa k) 0 0).bind λ_=>
j13 a (Xr k 0 ((0:Int)-(0:Int)))
else
j13 a ([]:LI)
def Ox:=Hb Oz
def Hf(j12:Int-> (List LI)->Option (LI))(a:List LI)(b:Int):Option (LI):=
if(Ci b 0)then
none
else
j12 b a
def Ot:=Hf Ox
def Hs(j11:(List LI)->Int->Option (LI))(rH:Int->Int->Option (LI))(a:List LI)(b h:Int):Option (LI):=
if(Ci h (Aa a))then
(Ak a h).bind λm=>
if(Ci (Ad b (Aa m)) 0)then
none
else
rH (Ad b (Aa m)) (Ad h 1)
else
j11 a b
def Er:Nat->Int->Int->Option (LI)
|0,_,_=>none
|z+1,c,d=>Hs Ot (Er z) ji c d
def Qf a:=Er a Cq
def Hw(j9:(List LI)->Int->Int->Option (LI))(a:List LI):Option (LI):=
j9 a 0 0
def Jj:=Hw Qf
def Xe:Option (LI):=
(Jj ([C,eu]:List LI)).bind λz=>
some z
def Kn:Option (LI×Int):=
(Ke z d).bind λ(c,e)=>
if(Bp e 0)then
some (([]:LI),e)
else
(Se z).bind λ(i,j)=>
(Jl ([i]:LI) (Ah c 1)).bind λA=>
(Xe A ([(Ah d (Db (Ah c 1) i))]:LI)).bind λB=>
some (B,0)
def AR:Option Int:=
(Ki z d).bind λc=>
if(Bp c 0)then
some c
else
(Kr d e).bind λi=>
if(Bp i 0)then
some i
else
if(geq (Aa e) 0)then
some 2
else
(Dt (Bp z 0)).bind λ_=>
if(Bp (Gk (Aa e) z) 0)then
some 2
else
some 0
def HQ:Option Int:=
if((Ci z 1)||(Eo z 6))then
some 2
else
if(Eo (Aa e) 4000)then
some 4
else
(Dt (Bp z 0)).bind λ_=>
if(Bp (Gk (Aa e) z) 0)then
some 2
else
some 0
def Cn:Option (LX):=
(
(Cd ([]:LX) e).bind λz=>
some z)
abbrev Df:=Option (LX×Int)
def ZI:Df:=
some (e,0)
def IG:=ZI
def YB(Qw:Int->LX->Df)(b a:Int)(u:LX):Df:=
Qw (Ad a b) u
def ZT Qw:=YB Qw
def aN(j20:Int->LX->Df)(b a:Int)(g:LX):Df:=
if(Eo (Ah ((Ad a b)-a) 1) 0)then
(Dt (decide (0<= (Ah ((Ad a b)-a) 1)/\ (Ah ((Ad a b)-a) 1)<((Ad a b)-a)))).bind λ_=>
Option.bind (Dt (decide (0<= (Ah (Ah ((Ad a b)-a) 1) 1)/\ (Ah (Ah ((Ad a b)-a) 1) 1)<((Ad a b)-a)))) λ_=>
(Ak g (a+(Ah ((Ad a b)-a) 1))).bind λk=>
(Ak g (a+(Ah (Ah ((Ad a b)-a) 1) 1))).bind λm=>
(Dt (decide (0<= (Ah ((Ad a b)-a) 1)/\ (Ah ((Ad a b)-a) 1)<((Ad a b)-a)))).bind λ_=>
(Ew g (a+(Ah ((Ad a b)-a) 1)) (Ah k (Iu m 2))).bind λn=>
j20 a n
else
j20 a g
def II Qw b:=aN (ZT Qw b) b
def IE(j19:Int->LX->Df)(rI:Int->LX->Df)(b a f:Int)(g:LX):Df:=
if(Ci f (Ah ((Ad a b)-a) 1))then
(Dt (decide (0<= (Ad f 1)/\ (Ad f 1)<((Ad a b)-a)))).bind λ_=>
(Dt (decide (0<=f/\f<((Ad a b)-a)))).bind λ_=>
(Ak g (a+(Ad f 1))).bind λk=>
(Ak g (a+f)).bind λm=>
(Dt (decide (0<=f/\f<((Ad a b)-a)))).bind λ_=>
(Ew g (a+f) (Ah k m)).bind λn=>
rI (Ad f 1) n
else
j19 a g
def Xu(Qw:Int->LX->Df)(b a:Int):Nat->Int->LX->Df
|0,_,_=>none
|q+1,f,g=>IE (II Qw b) (Xu Qw b a q) b a f g
def IU Qw b a:=Xu Qw b a Cq
def IP(j17:Int->Int->LX->Df)(j22:LX->Df)(b a:Int)(h:LX):Df:=
if(Ci a (Aa h))then
(RU (Aa h) a (Ad a b)).bind λ_=>
j17 a 0 h
else
j22 h
def Za:Nat->Int->LX->Df
|0,_,_=>none
|c+1,d,e=>IP (IU (Za c) z) IG z d e
def XX b:=Za b Cq
def OQ(j12:Int->Int->LX->Df)(b:Int)(o:LX):Df:=
(HQ b o).bind λp=>
if(Bp p 0)then
some (([]:LX),p)
else
(Cn o).bind λv=>
j12 b 0 v
def eZ:=OQ XX
abbrev CI:=Option (Int×LX×LX×Int)
def aL:CI:=
if Z then
some (10,e,(List.replicate 16 (0:Int32)),0)
else
if(geq z 16)then
some (9,e,(List.replicate 16 (0:Int32)),0)
else
some (0,(List.replicate 16 (0:Int32)),(List.replicate 16 (0:Int32)),2)
def YO:=aL
def ZQ(j2:Int->LX->Bool->CI)(a:Int)(b:LX):CI:=
if(geq a 8)then
j2 a b (geq a 8)
else
j2 a b (geq a 24)
def QJ:=ZQ YO
def IB:Option (Int×Int32×Int×LX×LX×Int):=
(QJ z e).bind λ(c,d,i,j)=>
if(Bp j 0)then
some (0,0,0,(List.replicate 16 (0:Int32)),(List.replicate 16 (0:Int32)),j)
else
some (z,0,c,d,i,0)
def Kq(a:Int)(k:Int32)(b:Int)(f m:LX):Option Int:=
(QJ a f).bind λ(g,n,o,h)=>
if((Bp h 0)||(Bp g b))then
some 8
else
some 0
def JC:Option (Int×Int):=
if(geq z 8)then
some (4,0)
else
if(geq z 16)then
if(geq z 16)then
some (5,0)
else
some (0,2)
else
if(geq z 24)then
some (5,0)
else
some (0,2)
def IF:Option Int32:=
(Dt (Hl z 0)).bind λ_=>
(Dt (Hl z 0)).bind λ_=>
some (Aj (gO (Ah (Fc (Aj F:Int) (GI.toZ z).toNat) (Aj F:Int)) (GI.toZ z).toNat):Int32)
def Ks:Option (Int32×Int):=
(JC z).bind λ(c,d)=>
if(Bp d 0)then
some (0,d)
else
(IF c F).bind λe=>
some (e,0)
def Nn(a:Int)(b f:LX):Option Int:=
if((Bp a 9)&&(Bp a 10))then
some 8
else
some 0
abbrev Fk:=Option (Int32×Int)
def SV(h:Int32)(a:Int)(b f:LX):Fk:=
(Dt (Hl a 0)).bind λ_=>
some ((Bz h (GI.toZ a).toNat),0)
def AV:=SV
def BA(j6:Int32->Int->LX->LX->Fk)(Zl:Int32->Int->Fk)(b:LX)(a:Int)(f:LX)(h:Int32)(g:Int):Fk:=
if(Ci g 16)then
(Ak b g).bind λm=>
(Ak f g).bind λ_=>
(Ak f g).bind λn=>
Zl (Ad h (Db m n)) (Ad g 1)
else
j6 h a b f
def Qp:Nat->Int32->Int->Fk
|0,_,_=>none
|z+1,c,d=>BA AV (Qp z) e B E c d
def SM b a f:=Qp b a f Cq
def AO(j4:LX->Int->LX->Int32->Int->Fk)(a:Int)(b f:LX):Fk:=
(Nn a b f).bind λk=>
if(Bp k 0)then
some (0,k)
else
(Dt (Hl (Ah a 1) 0)).bind λ_=>
j4 b a f (Fc (1:Int32) (GI.toZ (Ah a 1)).toNat) 0
def CS:=AO SM
def GW:Option Int32:=
if(geq z 0)then
some 4
else
if(Ci z 4)then
some 2
else
some 1
abbrev Fg:=Option (Int×LX×LX×Int)
def SY:Fg:=
some (z,e,E,0)
def BC:=SY
def BB(j6:Int->LX->LX->Fg)(Zl:Int->LX->Fg)(h:Int32)(f:LX)(g a:Int)(b:LX):Fg:=
if(Ci a 16)then
(Ak f a).bind λm=>
if(geq m 0)then
Zl (Ad a 1) b
else
if((Ci m 0)==(Ci h 0))then
(Ak b a).bind λ_=>
(Ak b a).bind λo=>
(GW a).bind λp=>
(Ak b a).bind λ_=>
(Ew b a (Ad o p)).bind λu=>
Zl (Ad a 1) u
else
(Ak b a).bind λ_=>
(Ak b a).bind λv=>
(GW a).bind λw=>
(Ak b a).bind λ_=>
(Ew b a (Ah v w)).bind λy=>
Zl (Ad a 1) y
else
j6 g b f
def Qc:Nat->Int->LX->Fg
|0,_,_=>none
|z+1,c,d=>BB BC (Qc z) F E jf c d
def SE h f g:=Qc h f g Cq
def BK(j4:Int32->LX->Int->Int->LX->Fg)(g:Int)(k f:LX)(h:Int32):Fg:=
(Nn g k f).bind λn=>
if(Bp n 0)then
some (0,(List.replicate 16 (0:Int32)),(List.replicate 16 (0:Int32)),n)
else
if(geq h 0)then
some (g,k,f,0)
else
j4 h f g 0 k
def RQ:=BK SE
abbrev Yq:=Option (Int×LX×LX×Int)
def UT:Yq:=
(Ak (Ie R 1 ((16:Int)-(1:Int)) (Xr R 0 ((16:Int)-(0:Int)))) 0).bind λ_=>
(Ew (Ie R 1 ((16:Int)-(1:Int)) (Xr R 0 ((16:Int)-(0:Int)))) 0 F).bind λz=>
some (D,E,z,0)
def FI:=UT
def Th(j2:Int32->Int->LX->LX->Yq)(b:Int)(f a:LX)(g:Int32):Yq:=
(Nn b f a).bind λh=>
if(Bp h 0)then
some (0,(List.replicate 16 (0:Int32)),(List.replicate 16 (0:Int32)),h)
else
(
(RU 16 1 16).bind λ_=>
(RU 16 0 16).bind λ_=>
j2 g b f a)
def UF:=Th FI
def CB:Option (Int×LX×LX):=
(RQ z e E ko).bind λ(c,d,i,j)=>
(UF c d i I).bind λ(A,B,C,D)=>
some (A,B,C)
def Zj:Option (Int32×Int×LX×LX×Int):=
(CS z e E).bind λ(c,d)=>
if(Bp d 0)then
some (0,0,(List.replicate 16 (0:Int32)),(List.replicate 16 (0:Int32)),d)
else
(CB z e E I (Ah I c)).bind λ(i,j,A)=>
some ((Ah I c),i,j,A,0)
def Kb:Option (Int32×Int×Int32×Int×LX×LX×Int):=
(Kq z F D E R).bind λc=>
if(Bp c 0)then
some (0,0,0,0,(List.replicate 16 (0:Int32)),(List.replicate 16 (0:Int32)),c)
else
(Ks z F).bind λ(d,e)=>
(Zj D E R (Ah I d)).bind λ(i,j,A,B,C)=>
(
some (i,z,I,j,A,B,C))
def TK:Option UInt32:=
some (Qo (Fc (Aj F:UInt32) (GI.toZ (1:UInt64)).toNat) (Aj (Bz F (GI.toZ (31:UInt64)).toNat):UInt32))
abbrev Bg:=Option (LU×Int)
def DH:Bg:=
some (L,0)
def On:=DH
def Od(j12:LU->Bg)(lH:Int-> (List (Int×Int32×(Int×LX×LX×Unit)×Unit))->LU->Bg)(b:LX)(a f g:Int)(k:List (Int×Int32×(Int×LX×LX×Unit)×Unit))(h:LU):Bg:=
if(Ci g (Aa b))then
(Ak b g).bind λ_=>
(Ak b g).bind λac=>
(Dt (Bp a 0)).bind λ_=>
(Ak k (Gk g a)).bind λ_=>
(Ak k (Gk g a)).bind λp=>
(Kb p.1 p.2.1 p.2.2.1.1 p.2.2.1.2.1 p.2.2.1.2.2.1 ac).bind λ(u,ad,ae,v,af,ag,w)=>
if(Bp w 0)then
some (([]:LU),w)
else
(Ew k (Gk g a) (ad,ae,(v,af,ag,()),())).bind λah=>
(TK u).bind λai=>
(Cd h ([ai]:LU)).bind λaj=>
lH (Ad g 1) ah aj
else
j12 h
def Ih:Nat->Int-> (List (Int×Int32×(Int×LX×LX×Unit)×Unit))->LU->Bg
|0,_,_,_=>none
|z+1,c,d,i=>Od On (Ih z) e B U c d i
def Mp b a f:=Ih b a f Cq
def Pb(j10:LX->Int->Int->Int-> (List (Int×Int32×(Int×LX×LX×Unit)×Unit))->LU->Bg)(a f:Int)(b:LX)(m:List (Int×Int32×(Int×LX×LX×Unit)×Unit)):Bg:=
j10 b a f 0 m ([]:LU)
def DT:=Pb Mp
def Pe(j9:Int->Int->LX-> (List (Int×Int32×(Int×LX×LX×Unit)×Unit))->Bg)(xJ:Int-> (List (Int×Int32×(Int×LX×LX×Unit)×Unit))->Bg)(a f:Int)(n b:LX)(o:Int)(m:List (Int×Int32×(Int×LX×LX×Unit)×Unit)):Bg:=
if(Ci o 6)then
(IB f n).bind λ(ak,al,u,am,an,v)=>
(Ak m o).bind λ_=>
(Ew m o (ak,al,(u,am,an,()),())).bind λao=>
xJ (Ad o 1) ao
else
j9 a f b m
def Iy:Nat->Int-> (List (Int×Int32×(Int×LX×LX×Unit)×Unit))->Bg
|0,_,_=>none
|c+1,i,j=>Pe DT (Iy c) z d e E i j
def GG a f n b:=Iy a f n b Cq
def Pk(j7:Int->Int->LX->LX->Int-> (List (Int×Int32×(Int×LX×LX×Unit)×Unit))->Bg)(a f:Int)(n y:LX):Bg:=
(AR a f y).bind λaa=>
if(Bp aa 0)then
some (([]:LU),aa)
else
(eZ a y).bind λ(b,ab)=>
if(Bp ab 0)then
some (([]:LU),ab)
else
j7 a f n b 0 (List.replicate 6 ((0:Int),(0:Int32),((0:Int),(List.replicate 16 (0:Int32)),(List.replicate 16 (0:Int32)),()),()))
def Wi:=Pk GG
def DQ:Option (Int×Int×UInt64×UInt64):=
some (10,10,16384,16384)
abbrev Dk:=Option ((List (Int×Int×UInt64×UInt64×Unit)))
def FO(a:List (Int×Int×UInt64×UInt64×Unit)):Dk:=
some a
def Pr:=FO
def Ps(j6:(List (Int×Int×UInt64×UInt64×Unit))->Dk)(Zl:Int-> (List (Int×Int×UInt64×UInt64×Unit))->Dk)(b:Int)(a:List (Int×Int×UInt64×UInt64×Unit)):Dk:=
if(Ci b 6)then
(DQ).bind λ(f,g,h,k)=>
(Ak a b).bind λ_=>
(Ew a b (f,g,h,k,())).bind λm=>
Zl (Ad b 1) m
else
j6 a
def Iv:Nat->Int-> (List (Int×Int×UInt64×UInt64×Unit))->Dk
|0,_,_=>none
|q+1,b,a=>Ps Pr (Iv q) b a
def FP:=Iv Cq
def Ph(j4:Int-> (List (Int×Int×UInt64×UInt64×Unit))->Dk):Dk:=
j4 0 (List.replicate 6 ((0:Int),(0:Int),(0:UInt64),(0:UInt64),()))
def Xm:=Ph FP
def Eg:Option Int:=
if(((Ci z 0)||(Eo z 330000))||(Bp (Aa c) (gO (Ad z 7) (GI.toZ (3:UInt64)).toNat)))then
some 8
else
if(Eo (Dg z 7) 0)then
(Ak c (Ah (Aa c) 1)).bind λd=>
(Dt (Hl (Dg z 7) 0)).bind λ_=>
if(Bp (Bz d (GI.toZ (Dg z 7)).toNat) 0)then
some 8
else
some 0
else
some 0
def SA:Option Int:=
if(!((geq (Ev (YN z 0) 24) z)&&((geq (Ev (YN d 0) 24) d)&&((geq (Ev j 68719476735) j)&&((geq (Ev J 68719476735) J)&&true)))))then
some 8
else
some 0
def AJ:=SA
def Qb(j4:Int->Int->UInt64->UInt64->Option Int)(a b:Int)(f g:UInt64):Option Int:=
(
(
j4 a b f g))
def BR:=Qb AJ
def Qh(j3:Int->Int->UInt64->UInt64->Option Int)(a b:Int)(f g:UInt64):Option Int:=
(
(
j3 a b f g))
def DF:=Qh BR
def Tl(a f:Int)(g h:UInt64)(b:UInt32):Option (Int×UInt32):=
(Dt (Hl a 0)).bind λ_=>
if(geq (Bz b (GI.toZ a).toNat) 0)then
some (0,b)
else
(Dt (Hl a 0)).bind λ_=>
some (1,(Ah b (Fc (1:UInt32) (GI.toZ a).toNat)))
def De:Option (LB):=
(
(Cd ([]:LB) c).bind λz=>
some z)
def HF:Option (LB×Int):=
(De c).bind λd=>
some (d,z)
abbrev Bk:=Option (LB×Int×Int)
def UL:Bk:=
some (i,z,0)
def EF:=UL
def VY(lI:UInt64->Int->Int->LB->Bk)(b:UInt64)(a:Int)(m:UInt64)(h f:Int)(w:LB):Bk:=
(Dt (Hl (Ev h (Ah 8 (Dg f 7))) 0)).bind λ_=>
lI (Bz m (GI.toZ (Ev h (Ah 8 (Dg f 7)))).toNat) (Ah h (Ev h (Ah 8 (Dg f 7)))) (Ad f (Ev h (Ah 8 (Dg f 7)))) w
def WZ lI:=VY lI
def VZ(j19:UInt64->Int->Int->LB->Bk)(b:UInt64)(a:Int)(m:UInt64)(h f:Int)(u:LB):Bk:=
(Ak u (Ah (Aa u) 1)).bind λ_=>
(Dt (Hl (Ev h (Ah 8 (Dg f 7))) 0)).bind λ_=>
(Dt (Hl (Dg f 7) 0)).bind λ_=>
(Ak u (Ah (Aa u) 1)).bind λad=>
(Ak u (Ah (Aa u) 1)).bind λ_=>
Option.bind (Ew u (Ah (Aa u) 1) (jW ad (Fc (Aj (Dg m (Ah (Fc (1:UInt64) (GI.toZ (Ev h (Ah 8 (Dg f 7)))).toNat) 1)):UInt8) (GI.toZ (Dg f 7)).toNat))) λw=>
j19 m h f w
def ER lI b a:=VZ (WZ lI b a) b a
def EU(j18:UInt64->Int->Int->LB->Bk)(j21:Int->LB->Bk)(b:UInt64)(a:Int)(m:UInt64)(h f:Int)(o:LB):Bk:=
if(Eo h 0)then
if(geq (Dg f 7) 0)then
(Cd o ([(0:UInt8)]:LB)).bind λaa=>
j18 m h f aa
else
j18 m h f o
else
j21 f o
def Sm:Nat->UInt64->Int->Int->LB->Bk
|0,_,_,_,_=>none
|z+1,c,d,e,i=>EU (ER (Sm z) j D) EF j D c d e i
def WU b a:=Sm b a Cq
def UW:Bk:=
some (i,z,0)
def FX:=UW
def VP(lJ:UInt64->Int->Int->LB->Bk)(b:UInt64)(a:Int)(n:UInt64)(k g:Int)(ab:LB):Bk:=
(Dt (Hl (Ev k (Ah 8 (Dg g 7))) 0)).bind λ_=>
lJ (Bz n (GI.toZ (Ev k (Ah 8 (Dg g 7)))).toNat) (Ah k (Ev k (Ah 8 (Dg g 7)))) (Ad g (Ev k (Ah 8 (Dg g 7)))) ab
def VC lJ:=VP lJ
def UX(j26:UInt64->Int->Int->LB->Bk)(b:UInt64)(a:Int)(n:UInt64)(k g:Int)(v:LB):Bk:=
(Ak v (Ah (Aa v) 1)).bind λ_=>
(Dt (Hl (Ev k (Ah 8 (Dg g 7))) 0)).bind λ_=>
(Dt (Hl (Dg g 7) 0)).bind λ_=>
(Ak v (Ah (Aa v) 1)).bind λae=>
(Ak v (Ah (Aa v) 1)).bind λ_=>
Option.bind (Ew v (Ah (Aa v) 1) (jW ae (Fc (Aj (Dg n (Ah (Fc (1:UInt64) (GI.toZ (Ev k (Ah 8 (Dg g 7)))).toNat) 1)):UInt8) (GI.toZ (Dg g 7)).toNat))) λab=>
j26 n k g ab
def FG lJ b a:=UX (VC lJ b a) b a
def DU(j25:UInt64->Int->Int->LB->Bk)(j28:Int->LB->Bk)(b:UInt64)(a:Int)(n:UInt64)(k g:Int)(p:LB):Bk:=
if(Eo k 0)then
if(geq (Dg g 7) 0)then
(Cd p ([(0:UInt8)]:LB)).bind λw=>
j25 n k g w
else
j25 n k g p
else
j28 g p
def Te:Nat->UInt64->Int->Int->LB->Bk
|0,_,_,_,_=>none
|z+1,c,d,e,i=>DU (FG (Te z) j D) FX j D c d e i
def VL b a:=Te b a Cq
def IS(j15:UInt64->Int->UInt64->Int->Int->LB->Bk)(j22:UInt64->Int->UInt64->Int->Int->LB->Bk)(ac:LB)(y:Int)(b:UInt64)(a:Int):Bk:=
(Eg ac y).bind λaf=>
if(Bp af 0)then
some (([]:LB),0,8)
else
if((Ci a 0)||(Eo a 64))then
some (([]:LB),0,2)
else
if(Ci a 64)then
(Dt (Hl a 0)).bind λ_=>
if(Bp (Bz b (GI.toZ a).toNat) 0)then
some (([]:LB),0,16)
else
if(Eo (Ad y a) 330000)then
some (([]:LB),0,18)
else
(HF ac y).bind λ(ag,ah)=>
j15 b a b a ah ag
else
if(Eo (Ad y a) 330000)then
some (([]:LB),0,18)
else
(HF ac y).bind λ(aa,ai)=>
j22 b a b a ai aa
def Xw:=IS WU VL
def Tt:Option Bool:=
(Dt (Hl D 0)).bind λ_=>
some (Hl (Bz G (GI.toZ D).toNat) 48)
def FR:Option (Int×Int):=
if((Ci z 0)||(Eo z 48))then
some (0,2)
else
some ((Ev (Ad z 1) 48),0)
def JL:Option (LB×Int×Int):=
(Eg c z).bind λe=>
if(Bp e 0)then
some (([]:LB),0,e)
else
(FR d).bind λ(i,j)=>
if(Bp j 0)then
some (([]:LB),0,j)
else
(Dt (Hl d 0)).bind λ_=>
(Xw c z (Ah (Fc (1:UInt64) (GI.toZ d).toNat) 1) i).bind λ(A,B,C)=>
some (A,B,C)
abbrev Sf:=Option (LB×Int×Int)
def SX:Sf:=
(JL c z d).bind λ(e,i,j)=>
if(Bp j 0)then
some (([]:LB),0,j)
else
(Xw e i (Aj G:UInt64) D).bind λ(A,B,C)=>
some (A,B,C)
def SQ:=SX
def RX(j2:LB->Int->Int->UInt32->Int->Sf)(b:LB)(f:Int)(g:UInt32)(a:Int):Sf:=
(Eg b f).bind λk=>
if(Bp k 0)then
some (([]:LB),0,k)
else
if((Ci a 0)||(Eo a 24))then
some (([]:LB),0,2)
else
(Dt (Hl a 0)).bind λ_=>
(Dt (Hl a 0)).bind λ_=>
(Tt g a).bind λaa=>
if aa then
j2 b f 48 g 32
else
j2 b f (Aj (Bz g (GI.toZ a).toNat):Int) (Dg g (Ah (Fc (1:UInt32) (GI.toZ a).toNat) 1)) a
def PA:=RX SQ
abbrev Dd:=Option (LB×Int×Int×Int×UInt64×UInt64×Int)
def Oo:Dd:=
(
(
some (N,z,d,A,(Ad j (Ah (Aj G:UInt64) (Bz j (GI.toZ (4:UInt64)).toNat))),J,0)))
def Yw:=Oo
def BH(j10:Int->Int->Int->UInt64->UInt32->UInt64->LB->Dd)(b:UInt32)(k n:Int)(a o:UInt64)(m:LB)(u:Int):Dd:=
j10 k u n a b o m
def SS:=BH Yw
def AN(j9:UInt32->Int->Int->UInt64->UInt64->LB->Int->Dd)(b:UInt32)(f:Int)(a:UInt64)(k:Int)(m:LB)(n:Int)(o:UInt64):Dd:=
if(Eo f 0)then
(Dt (Hl f 0)).bind λ_=>
if(Ci (Ad a (Ah (Aj b:UInt64) (Bz a (GI.toZ (4:UInt64)).toNat))) (Fc (16:UInt64) (GI.toZ f).toNat))then
j9 b k n a o m (Ah f 1)
else
if(Ci f 24)then
(Dt (Hl f 0)).bind λ_=>
if(Eo (Ad a (Ah (Aj b:UInt64) (Bz a (GI.toZ (4:UInt64)).toNat))) (Fc (32:UInt64) (GI.toZ f).toNat))then
j9 b k n a o m (Ad f 1)
else
j9 b k n a o m f
else
j9 b k n a o m f
else
if(Ci f 24)then
(Dt (Hl f 0)).bind λ_=>
if(Eo (Ad a (Ah (Aj b:UInt64) (Bz a (GI.toZ (4:UInt64)).toNat))) (Fc (32:UInt64) (GI.toZ f).toNat))then
j9 b k n a o m (Ad f 1)
else
j9 b k n a o m f
else
j9 b k n a o m f
def AP:=AN SS
def AK(j8:UInt32->Int->UInt64->Int->LB->Int->UInt64->Dd)(b:UInt32)(f h:Int)(a g:UInt64)(ac k:Int)(m:LB):Dd:=
if(Bp ac 0)then
some (([]:LB),0,0,0,0,0,ac)
else
(Tl f h a g b).bind λ(ag,p)=>
if(geq ag 1)then
if(Eo h 0)then
(Dt (Hl h 0)).bind λ_=>
if(Ci (Ad g (Ah (Aj p:UInt64) (Bz g (GI.toZ (4:UInt64)).toNat))) (Fc (16:UInt64) (GI.toZ h).toNat))then
j8 b f a k m (Ah h 1) (Ad g (Ah (Aj p:UInt64) (Bz g (GI.toZ (4:UInt64)).toNat)))
else
if(Ci h 24)then
(Dt (Hl h 0)).bind λ_=>
if(Eo (Ad g (Ah (Aj p:UInt64) (Bz g (GI.toZ (4:UInt64)).toNat))) (Fc (32:UInt64) (GI.toZ h).toNat))then
j8 b f a k m (Ad h 1) (Ad g (Ah (Aj p:UInt64) (Bz g (GI.toZ (4:UInt64)).toNat)))
else
j8 b f a k m h (Ad g (Ah (Aj p:UInt64) (Bz g (GI.toZ (4:UInt64)).toNat)))
else
j8 b f a k m h (Ad g (Ah (Aj p:UInt64) (Bz g (GI.toZ (4:UInt64)).toNat)))
else
if(Ci h 24)then
(Dt (Hl h 0)).bind λ_=>
if(Eo (Ad g (Ah (Aj p:UInt64) (Bz g (GI.toZ (4:UInt64)).toNat))) (Fc (32:UInt64) (GI.toZ h).toNat))then
j8 b f a k m (Ad h 1) (Ad g (Ah (Aj p:UInt64) (Bz g (GI.toZ (4:UInt64)).toNat)))
else
j8 b f a k m h (Ad g (Ah (Aj p:UInt64) (Bz g (GI.toZ (4:UInt64)).toNat)))
else
j8 b f a k m h (Ad g (Ah (Aj p:UInt64) (Bz g (GI.toZ (4:UInt64)).toNat)))
else
j8 b f a k m h g
def SP:=AK AP
def BN(j7:UInt32->Int->Int->UInt64->UInt64->Int->Int->LB->Dd)(b:UInt32)(v:LB)(w f h:Int)(a g:UInt64):Dd:=
(Tl f h a g b).bind λ(ad,ae)=>
(Xw v w (Aj ad:UInt64) 1).bind λ(y,aa,ab)=>
if((geq ab 0)&&(geq ad 0))then
(Xw y aa (Aj ae:UInt64) f).bind λ(ah,ai,aj)=>
j7 b f h a g aj ai ah
else
if(geq ab 0)then
(PA y aa ae h).bind λ(ak,al,am)=>
j7 b f h a g am al ak
else
j7 b f h a g ab aa y
def RY:=BN SP
def BT(j6:UInt32->LB->Int->Int->Int->UInt64->UInt64->Dd)(v:LB)(w f h:Int)(a g:UInt64)(b:UInt32):Dd:=
(Eg v w).bind λan=>
if(Bp an 0)then
some (([]:LB),0,0,0,0,0,8)
else
(DF f h a g).bind λao=>
if(Bp ao 0)then
some (([]:LB),0,0,0,0,0,8)
else
j6 b v w f h a g
def OH:=BT RY
abbrev Ax:=Option (UInt32×Int)
def NF:Ax:=
some (G,0)
def Wh:=NF
def Yg(j30:UInt32->Ax)(vE:UInt32->Int->Ax)(a:LB)(b:LU)(h:UInt32)(m:Int):Ax:=
if(Ci m (Aa a))then
(Ak a m).bind λp=>
(Ak b (GI.toZ (Qo (Aj h:UInt8) p))).bind λ_=>
(Ak b (GI.toZ (Qo (Aj h:UInt8) p))).bind λu=>
vE (Qo (Bz h (GI.toZ (8:UInt64)).toNat) u) (Ad m 1)
else
j30 h
def Na:Nat->UInt32->Int->Ax
|0,_,_=>none
|z+1,d,e=>Yg Wh (Na z) c L d e
def Xd a b:=Na a b Cq
def Wq(j28:LB->LU->UInt32->Int->Ax)(f:UInt32)(a:LB)(b:LU):Ax:=
j28 a b f 0
def NH:=Wq Xd
def Wk(j27:UInt32->LB->LU->Ax)(f:UInt32)(a:LB)(b:LU):Ax:=
j27 f a b
def NY:=Wk NH
def MM(Fs:Int->LU->Ax)(f:UInt32)(a:LB)(g:Int)(o:LU):Ax:=
Fs (Ad g 1) o
def QT Fs:=MM Fs
def OL(j24:Int->LU->Ax)(f:UInt32)(a:LB)(g:Int)(k:UInt32)(b:LU):Ax:=
(Ak b g).bind λ_=>
(Ew b g k).bind λo=>
j24 g o
def Wp Fs f a:=OL (QT Fs f a) f a
def Wc(j23:Int->UInt32->LU->Ax)(cX:UInt32->Int->Ax)(f:UInt32)(a:LB)(g:Int)(b:LU)(k:UInt32)(n:Int):Ax:=
if(Ci n 8)then
cX (Qo (Bz k (GI.toZ (1:UInt64)).toNat) (Db 3988292384 (Dg k 1))) (Ad n 1)
else
j23 g k b
def Mo(Fs:Int->LU->Ax)(f:UInt32)(a:LB)(g:Int)(b:LU):Nat->UInt32->Int->Ax
|0,_,_=>none
|q+1,k,n=>Wc (Wp Fs f a) (Mo Fs f a g b q) f a g b k n
def Vp Fs f a g b:=Mo Fs f a g b Cq
def Yh(j21:Int->LU->UInt32->Int->Ax)(j26:UInt32->LB->LU->Ax)(f:UInt32)(a:LB)(g:Int)(b:LU):Ax:=
if(Ci g 256)then
j21 g b (Aj g:UInt32) 0
else
j26 f a b
def Ml:Nat->Int->LU->Ax
|0,_,_=>none
|z+1,c,d=>Yh (Vp (Ml z) G N) NY G N c d
def NA f a:=Ml f a Cq
def AX(j16:UInt32->LB->Int->LU->Ax)(f:UInt32)(a:LB):Ax:=
if(Eo (Aa a) 100000)then
some (0,4)
else
j16 f a 0 (List.replicate 256 (0:UInt32))
def RE:=AX NA
def Jn:Option (UInt32×Int):=
(RE 4294967295 c).bind λ(z,d)=>
if(Bp d 0)then
some (0,d)
else
some ((kB z),0)
def eP:Option Bool:=
if(geq D 8)then
some true
else
(Dt (Hl (Db 8 D) 0)).bind λ_=>
some (geq (Bz j (GI.toZ (Db 8 D)).toNat) 0)
abbrev Il:=Option (LB×Int)
def ZH:Il:=
some (c,0)
def IM:=ZH
def IX(j6:LB->Il)(Zl:Int->LB->Il)(f:UInt64)(g:LB)(a:Int)(b:LB):Il:=
if(Ci a (Aa g))then
(Dt (Hl (Db 8 a) 0)).bind λ_=>
(Ak b a).bind λ_=>
(Ew b a (Aj (Bz f (GI.toZ (Db 8 a)).toNat):UInt8)).bind λk=>
Zl (Ad a 1) k
else
j6 b
def Xn:Nat->Int->LB->Il
|0,_,_=>none
|z+1,c,d=>IX IM (Xn z) j N c d
def ZJ f g:=Xn f g Cq
def JD(j4:UInt64->LB->Int->LB->Il)(f:UInt64)(h:Int):Il:=
if((Ci h 1)||(Eo h 8))then
some (([]:LB),2)
else
(eP f h).bind λm=>
if(!m)then
some (([]:LB),16)
else
(XR h (0:UInt8)).bind λg=>
(Dt (geq h h)).bind λ_=>
j4 f g 0 g
def Ex:=JD ZJ
def Mc:Option (LB):=
some c
def Gb:=Mc
def Gc(j16:LB->Option (LB))(rG:Int->LB->Option (LB))(a:List LB)(g:Int)(f:LB):Option (LB):=
if(Ci g (Aa a))then
(Ak a g).bind λn=>
(Cd f n).bind λo=>
rG (Ad g 1) o
else
j16 f
def Dy:Nat->Int->LB->Option (LB)
|0,_,_=>none
|z+1,c,d=>Gc Gb (Dy z) T c d
def Ga a:=Dy a Cq
def Gd(j14:(List LB)->Int->LB->Option (LB))(a:List LB)(p:LB):Option (LB):=
j14 a 0 p
def Ly:=Gd Ga
def Gh(j13:(List LB)->LB->Option (LB))(b:Int)(a:List LB):Option (LB):=
if(Eo (Ah b (Ah (0:Int) (0:Int))) 0)then
(RU 0 0 0).bind λ_=>
(XR (Ah b (Ah (0:Int) (0:Int))) (0:UInt8)).bind λu=>
(Cd ([]:LB) u).bind λk=>
(RU (Aa k) 0 0).bind λ_=>
j13 a (Xr k 0 ((0:Int)-(0:Int)))
else
j13 a ([]:LB)
def Lz:=Gh Ly
def Ge(j12:Int-> (List LB)->Option (LB))(a:List LB)(b:Int):Option (LB):=
if(Ci b 0)then
none
else
j12 b a
def Ma:=Ge Lz
def Gl(j11:(List LB)->Int->Option (LB))(rH:Int->Int->Option (LB))(a:List LB)(b h:Int):Option (LB):=
if(Ci h (Aa a))then
(Ak a h).bind λm=>
if(Ci (Ad b (Aa m)) 0)then
none
else
rH (Ad b (Aa m)) (Ad h 1)
else
j11 a b
def Ef:Nat->Int->Int->Option (LB)
|0,_,_=>none
|z+1,c,d=>Gl Ma (Ef z) T c d
def Ms a:=Ef a Cq
def Gt(j9:(List LB)->Int->Int->Option (LB))(a:List LB):Option (LB):=
j9 a 0 0
def It:=Gt Ms
abbrev Ap:=Option (LB×Int)
def DA(v:Int)(p:LB):Ap:=
(Jn p).bind λ(af,ac)=>
if(Bp ac 0)then
some (([]:LB),ac)
else
(Ex (Aj af:UInt64) 4).bind λ(m,h)=>
if(Bp h 0)then
some (([]:LB),h)
else
(It ([p,m]:List LB)).bind λag=>
some (ag,0)
def Nk:=DA
def CM(Ll:Int-> (List (Int×Int×UInt64×UInt64×Unit))->Int->LB->Ap)(b:LU)(a g f:Int)(n:List (Int×Int×UInt64×UInt64×Unit))(k:Int)(w:LB):Ap:=
Ll (Ad f 1) n k w
def Oj Ll:=CM Ll
def DL(RT:Int->Int->LB->Ap)(h:Int)(b:LU)(f a g:Int)(n:List (Int×Int×UInt64×UInt64×Unit))(m:LB)(o k:Int)(ab:LB):Ap:=
RT (Ad o 1) (Ad k 1) ab
def CP RT:=DL RT
def CD(j48:Int->Int->LB->Ap)(h:Int)(b:LU)(f a g:Int)(n:List (Int×Int×UInt64×UInt64×Unit))(m:LB)(o k:Int)(y:LB):Ap:=
(Ak m (Iu o 8)).bind λ_=>
(Ak m (Iu o 8)).bind λah=>
(Dt (Hl (Gk o 8) 0)).bind λ_=>
(Ak y (Iu k 8)).bind λ_=>
(Dt (Hl (Gk k 8) 0)).bind λ_=>
(Ak y (Iu k 8)).bind λai=>
(Ak y (Iu k 8)).bind λ_=>
Option.bind (Ew y (Iu k 8) (jW ai (Fc (Dg (Bz ah (GI.toZ (Gk o 8)).toNat) 1) (GI.toZ (Gk k 8)).toNat))) λab=>
j48 o k ab
def Mz RT h b f a g n m:=CD (CP RT h b f a g n m) h b f a g n m
def Og(j47:Int->Int->LB->Ap)(j50:Int-> (List (Int×Int×UInt64×UInt64×Unit))->Int->LB->Ap)(b:LU)(a g h f:Int)(n:List (Int×Int×UInt64×UInt64×Unit))(m:LB)(o k:Int)(w:LB):Ap:=
if(Ci o h)then
if(geq (Gk k 8) 0)then
(Cd w ([(0:UInt8)]:LB)).bind λaj=>
j47 o k aj
else
j47 o k w
else
j50 f n k w
def Ij(Ll:Int-> (List (Int×Int×UInt64×UInt64×Unit))->Int->LB->Ap)(b:LU)(a g h f:Int)(n:List (Int×Int×UInt64×UInt64×Unit))(m:LB):Nat->Int->Int->LB->Ap
|0,_,_,_=>none
|q+1,o,k,w=>Og (Mz (Ij Ll b a g h f n m q) h b f a g n m) (Oj Ll b a g) b a g h f n m o k w
def Nl Ll b a g h f n m:=Ij Ll b a g h f n m Cq
def Nq(j44:Int->Int-> (List (Int×Int×UInt64×UInt64×Unit))->LB->Int->Int->LB->Ap)(j52:Int->LB->Ap)(b:LU)(a g f:Int)(u:List (Int×Int×UInt64×UInt64×Unit))(v:Int)(p:LB):Ap:=
if(Ci f (Aa b))then
(Ak b f).bind λ_=>
(Ak b f).bind λak=>
(Dt (Bp a 0)).bind λ_=>
(Ak u (Gk f a)).bind λ_=>
(Ak u (Gk f a)).bind λaa=>
(OH ([]:LB) 0 aa.1 aa.2.1 aa.2.2.1 aa.2.2.2.1 ak).bind λ(m,h,al,am,an,ao,ad)=>
if(Bp ad 0)then
some (([]:LB),ad)
else
(Dt (Bp a 0)).bind λ_=>
(Ak u (Gk f a)).bind λ_=>
(Ew u (Gk f a) (al,am,an,ao,())).bind λn=>
j44 h f n m 0 v p
else
j52 v p
def Ii:Nat->Int-> (List (Int×Int×UInt64×UInt64×Unit))->Int->LB->Ap
|0,_,_,_,_=>none
|z+1,c,d,e,i=>Nq (Nl (Ii z) L X Y) Nk L X Y c d e i
def CA b a g:=Ii b a g Cq
def Pf(j27:LU->Int->Int->Int-> (List (Int×Int×UInt64×UInt64×Unit))->Int->LB->Ap)(a g:Int)(ap aq:LX):Ap:=
(Wi a g ap aq).bind λ(b,ae)=>
if(Bp ae 0)then
some (([]:LB),ae)
else
(Xm).bind λar=>
j27 b a g 0 ar 0 ([]:LB)
def Jf:=Pf CA
def Gv(a:Int)(b:LX):LI->Int->Option (List LX)
  |[],_=>some []
  |n::l,x=>Option.bind (Ck b x (Ad x (Db n a))) λp=>Option.bind (Gv a b l (Ad x (Db n a))) λps=>some (p::ps)
def Kk(a f:Int)(t:LX):List LX->List LB->Option (List LB×Int)
  |[],o=>some (o,0)
  |x::xs,o=>Option.bind (Jf a f t x) λy=>
    if(Bp y.2 0)=true then some ([],y.2)
    else Option.bind (Cd o [y.1]) λo'=>Kk a f t xs o'
def Yc:Option (List LX):=
  Option.bind (Dt (Bp z 0)) λ_=>Option.bind (Kn d (Iu (Aa e) z)) λc=>Option.bind (Dt (decide (Aa c.1<=17179869184))) λ_=>Gv z e c.1 0
def Wn:Option (List LB×Int):=
  Option.bind (If z d A e) λc=>
    if(Bp c 0)=true then some ([],c)
    else Option.bind (Rv i) λj=>
      if(Bp j.2 0)=true then some ([],j.2)
      else Option.bind (Yc z A e) λB=>Kk z d j.1 B []
def HD(b f a g h:Int):Option Bool:=
some (((((((geq b 1)||(geq b 2))&&(Eo f 0))&&(oZ f 6))&&(Eo g 0))&&(oZ g 1048576))&&(Eo h 0))
def HJ:=HD
def GR(j2:Int->Int->Int->Int->Int->Option Bool)(b f a g h:Int):Option Bool:=
if(geq a 8)then
if(geq a 8)then
j2 b f a g h
else
some false
else
if(geq a 16)then
if(geq a 16)then
j2 b f a g h
else
some false
else
if(geq a 24)then
j2 b f a g h
else
some false
def Pu:=GR HJ
def Ym(k a m f b:Int):Option Bool:=
(Dt (Bp a 0)).bind λ_=>
if(Eo b (Iu 4000 a))then
some false
else
(Ke f b).bind λ(g,h)=>
some ((geq h 0)&&(oZ g 1000))
def Sd:Option Int:=
(Pu z d A M P).bind λc=>
if(!c)then
some 8
else
(Ym z d A M P).bind λe=>
if(!e)then
some 8
else
some 0
abbrev Ee:=Option (LB×Int)
def KE:Ee:=
(Jn c).bind λ(z,d)=>
(Ex (Aj z:UInt64) 4).bind λ(e,i)=>
(Cd c e).bind λj=>
some (j,0)
def Us:=KE
def Uq(j6:LB->Ee)(Zl:Int->LB->Ee)(b f g h k m:Int)(a:LB):Ee:=
if(Ci m 5)then
(Ak ([b,f,g,h,k]:LI) m).bind λw=>
(Ak ([(2:Int),(2:Int),(2:Int),(4:Int),(4:Int)]:LI) m).bind λy=>
(Ex (Aj w:UInt64) y).bind λ(n,v)=>
(Cd a n).bind λo=>
Zl (Ad m 1) o
else
j6 a
def Le:Nat->Int->LB->Ee
|0,_,_=>none
|c+1,e,i=>Uq Us (Le c) z d A M P e i
def KJ b f g h k:=Le b f g h k Cq
def Uw(j4:Int->Int->Int->Int->Int->Int->LB->Ee)(b f g h k:Int):Ee:=
(Sd b f g h k).bind λp=>
if(Bp p 0)then
some (([]:LB),p)
else
j4 b f g h k 0 ([(84:UInt8),(84:UInt8),(65:UInt8),(49:UInt8)]:LB)
def FC:=Uw KJ
def TS:Option (UInt64×Int):=
if(Eo (Aa c) 64)then
some (0,2)
else
(HG c).bind λ(z,d)=>
some (z,0)
def Tj:Option (LB×Int):=
(TS c).bind λ(z,d)=>
if(Bp d 0)then
some (([]:LB),d)
else
(Ex z 8).bind λ(e,i)=>
some (e,i)
def QB:Option Int:=
some 0
def Zk:=QB
def Zd(j6:Option Int)(Zl:Int->Int->Option Int)(a:LI)(f b:Int):Option Int:=
if(Ci b (Aa a))then
(Ak a b).bind λg=>
if((Ci g 5)||(Eo g f))then
some 8
else
Zl (Ah f g) (Ad b 1)
else
j6
def Nc:Nat->Int->Int->Option Int
|0,_,_=>none
|z+1,c,d=>Zd Zk (Nc z) C c d
def PH a:=Nc a Cq
def Xy(j4:LI->Int->Int->Option Int)(a:LI):Option Int:=
if((geq (Aa a) 0)||(Eo (Aa a) 1000))then
some 8
else
j4 a 100000 0
def Ys:=Xy PH
abbrev Cp:=Option (LB×Int)
def KB:Cp:=
some (c,0)
def KM:=KB
def KG(j14:LB->Cp)(b:LB):Cp:=
(Jn b).bind λ(m,u)=>
(Ex (Aj m:UInt64) 4).bind λ(n,v)=>
(Cd b n).bind λg=>
j14 g
def Uc:=KG KM
def KQ(aY:Int->LB->Cp)(a:LI)(f:Int)(h:LB):Cp:=
aY (Ad f 1) h
def Ui aY:=KQ aY
def Zb(j11:Int->LB->Cp)(j13:LB->Cp)(a:LI)(f:Int)(b:LB):Cp:=
if(Ci f (Aa a))then
(Ak a f).bind λo=>
(Ex (Aj o:UInt64) 4).bind λ(p,w)=>
(Cd b p).bind λh=>
j11 f h
else
j13 b
def Mh:Nat->Int->LB->Cp
|0,_,_=>none
|z+1,c,d=>Zb (Ui (Mh z) C) Uc C c d
def QY a:=Mh a Cq
def Wj(j8:LI->Int->LB->Cp)(a:LI):Cp:=
(Ys a).bind λk=>
if(Bp k 0)then
some (([]:LB),k)
else
j8 a 0 ([]:LB)
def JP:=Wj QY
def AT:Option Int:=
some (Aa c)
def NW:Option (LB):=
some c
def Yo:=NW
def Xo(j6:LB->Option (LB))(Zl:Int->LB->Option (LB))(a:List LB)(f:Int)(b:LB):Option (LB):=
if(Ci f (Aa a))then
(Ak a f).bind λg=>
(Cd b g).bind λh=>
Zl (Ad f 1) h
else
j6 b
def Oe:Nat->Int->LB->Option (LB)
|0,_,_=>none
|z+1,c,d=>Xo Yo (Oe z) T c d
def PW a:=Oe a Cq
def Wl(j4:(List LB)->Int->LB->Option (LB))(a:List LB):Option (LB):=
j4 a 0 ([]:LB)
def JR:=Wl PW
abbrev Bq:=Option (LB×Int)
def JY:Bq:=
if(Bp z 0)then
some (([]:LB),z)
else
(Cd ([fq,fu,kr]:List LB) T).bind λc=>
(JR c).bind λd=>
some (d,0)
def KS:=JY
def KA(j14:Int-> (List LB)->LB->LB->LB->Bq)(h:LI)(a:List LB)(b f:LB):Bq:=
(JP h).bind λ(n,k)=>
j14 k a b f n
def Ut:=KA KS
def JW(rH:Int->LI->Bq)(a:List LB)(b f:LB)(g:Int)(m:LI):Bq:=
rH (Ad g 1) m
def Uh rH:=JW rH
def Xh(j11:Int->LI->Bq)(j13:LI-> (List LB)->LB->LB->Bq)(a:List LB)(b f:LB)(g:Int)(h:LI):Bq:=
if(Ci g (Aa a))then
(Ak a g).bind λ_=>
(Ak a g).bind λae=>
(AT ae).bind λk=>
(Ak h g).bind λ_=>
(Ew h g k).bind λm=>
j11 g m
else
j13 h a b f
def Nv:Nat->Int->LI->Bq
|0,_,_=>none
|z+1,c,d=>Xh (Uh (Nv z) T fq fu) Ut T fq fu c d
def QI a b f:=Nv a b f Cq
def Vr(j9:(List LB)->LB->LB->Int->LI->Bq)(a:List LB)(b f:LB):Bq:=
(XR (Aa a) (0:Int)).bind λaf=>
(Dt (geq (Aa a) (Aa a))).bind λ_=>
j9 a b f 0 af
def NT:=Vr QI
def Wb(j8:(List LB)->LB->LB->Bq)(p u v:Int)(w:LX)(o:LB):Bq:=
(JJ p u v w o).bind λ(y,ag,ah,ai,aj,aa)=>
if(Bp aa 0)then
some (([]:LB),aa)
else
(Wn p u v w o).bind λ(a,ab)=>
if(Bp ab 0)then
some (([]:LB),ab)
else
(FC y ag ah ai aj).bind λ(b,ac)=>
if(Bp ac 0)then
some (([]:LB),ac)
else
if(geq y 2)then
(Tj o).bind λ(ak,al)=>
j8 a b ak
else
j8 a b ([]:LB)
def JN:=Wb NT
def Cl:Option (LB):=
(Kw).bind λ(z,d,e,i)=>
(JN z d e i c).bind λ(j,A)=>
some j
def Gs:Option Bool:=
some (c==i)
def Fp:Option Bool:=
if(Hl (Aa c) (Aa i))then
(Ck c 0 (Aa i)).bind λz=>
(Gs z i).bind λd=>
some d
else
some false
abbrev Dw:=Option (Int×Int)
def HE:Dw:=
some (z,0)
def Rr:=HE
def Re(j6:Int->Dw)(Zl:Int->Int->Dw)(a:LB)(b f:Int):Dw:=
if(Ci f (Aa a))then
(Ak a f).bind λg=>
if(Eo g 127)then
some (0,12)
else
Zl (jW (Fc b (GI.toZ (7:UInt64)).toNat) (Aj g:Int)) (Ad f 1)
else
j6 b
def Jm:Nat->Int->Int->Dw
|0,_,_=>none
|z+1,d,e=>Re Rr (Jm z) c d e
def GL a:=Jm a Cq
def Rp(j4:LB->Int->Int->Dw)(a:LB):Dw:=
if(Bp (Aa a) 4)then
some (0,2)
else
j4 a 0 0
def AZ:=Rp GL
abbrev Dc:=Option (Int×Int)
def KI:Dc:=
if(Eo V 4000)then
some (0,4)
else
if(Ci (Aa c) V)then
some (0,24)
else
if(geq lg 16)then
(Ck c (Ah V 10) V).bind λz=>
(Ck z 0 3).bind λd=>
if(d !=([51,68,73]:LB))then
some (0,12)
else
(Ck z 3 (Aa z)).bind λe=>
(Ck c 3 10).bind λi=>
(Gs e i).bind λj=>
if(!j)then
some (0,12)
else
some (V,0)
else
some (V,0)
def KF:=KI
def KN(j8:LB->UInt8->Int->Dc)(a:LB)(g:Int)(b:UInt8):Dc:=
if(geq b 16)then
j8 a b (Ad (Ad g 10) 10)
else
j8 a b (Ad g 10)
def KT:=KN KF
def JX(j7:LB->Int->UInt8->Dc)(a:LB)(g:Int)(b:UInt8)(m:Bool):Dc:=
if m then
some (0,12)
else
j7 a g b
def Ua:=JX KT
def Uu(j6:LB->Int->UInt8->Bool->Dc)(a:LB)(f b:UInt8):Dc:=
(Ck a 6 10).bind λaa=>
(AZ aa).bind λ(g,ab)=>
if(Bp ab 0)then
if true then
j6 a g b true
else
if(geq b 0)then
j6 a g b (!((Hl f 2)&&(oZ f 4)))
else
if(geq b 16)then
j6 a g b (!(geq f 4))
else
j6 a g b (!false)
else
(Ak a 4).bind λac=>
if(Bp ac 0)then
j6 a g b true
else
if(geq b 0)then
j6 a g b (!((Hl f 2)&&(oZ f 4)))
else
if(geq b 16)then
j6 a g b (!(geq f 4))
else
j6 a g b (!false)
def Uf:=Uu Ua
def Lf(j5:LB->UInt8->UInt8->Dc)(a:LB):Dc:=
(Fp a ([(73:UInt8),(68:UInt8),(51:UInt8)]:LB)).bind λn=>
if(!n)then
some (0,6)
else
if(Ci (Aa a) 10)then
some (0,24)
else
(Ak a 3).bind λf=>
(Ak a 5).bind λb=>
(
(
(
j5 a f b)))
def DV:=Lf Uf
abbrev Im:=Option (UInt64×Int)
def YA:Im:=
some (j,0)
def IV:=YA
def JB(j6:UInt64->Im)(Zl:UInt64->Int->Im)(a:LB)(f:UInt64)(b:Int):Im:=
if(Ci b (Aa a))then
(Ak a b).bind λg=>
(Dt (Hl (Db 8 b) 0)).bind λ_=>
Zl (jW f (Fc (Aj g:UInt64) (GI.toZ (Db 8 b)).toNat)) (Ad b 1)
else
j6 f
def Vo:Nat->UInt64->Int->Im
|0,_,_=>none
|z+1,d,e=>JB IV (Vo z) c d e
def ZP a:=Vo a Cq
def JU(j4:LB->UInt64->Int->Im)(a:LB):Im:=
if((Ci (Aa a) 1)||(Eo (Aa a) 8))then
some (0,2)
else
j4 a 0 0
def ND:=JU ZP
def QN:Option (UInt64×Int):=
if(((Ci d 1)||(Eo d 8))||(Ci z 0))then
some (0,2)
else
if(Eo z (Ah (Aa c) d))then
some (0,24)
else
(Ck c z (Ad z d)).bind λe=>
(ND e).bind λ(i,j)=>
some (i,j)
def bX:Option (LB):=
some c
def OO:=bX
def OT(j6:LB->Option (LB))(Zl:Int->LB->Option (LB))(a b:Int)(f:UInt64)(h:Int)(g:LB):Option (LB):=
if(Ci h (Aa ([(2000:UInt64),(Aj (Ad a 32):UInt64),(Aj b:UInt64),f,(0:UInt64),(0:UInt64)]:LQ)))then
(Ak ([(2000:UInt64),(Aj (Ad a 32):UInt64),(Aj b:UInt64),f,(0:UInt64),(0:UInt64)]:LQ) h).bind λ_=>
(Ak ([(2000:UInt64),(Aj (Ad a 32):UInt64),(Aj b:UInt64),f,(0:UInt64),(0:UInt64)]:LQ) h).bind λk=>
(Ex k 4).bind λ(m,o)=>
(Cd g m).bind λn=>
Zl (Ad h 1) n
else
j6 g
def DP:Nat->Int->LB->Option (LB)
|0,_,_=>none
|c+1,e,i=>OT OO (DP c) z d j e i
def bL a b f:=DP a b f Cq
def QU(j4:Int->Int->UInt64->Int->LB->Option (LB))(a b:Int)(f:UInt64):Option (LB):=
j4 a b f 0 ([(65:UInt8),(80:UInt8),(69:UInt8),(84:UInt8),(65:UInt8),(71:UInt8),(69:UInt8),(88:UInt8)]:LB)
def LA:=QU bL
def Zr:Option (Int×Int×Bool):=
(QN c 12 4).bind λ(z,d)=>
(QN c 16 4).bind λ(e,i)=>
if(((Ci z 32)||(Eo z 3032))||(Eo e 1000))then
some (0,0,false)
else
(LA (Ah (Aj z:Int) 32) (Aj e:Int) j).bind λA=>
(Gs c A).bind λB=>
some ((Ah (Aj z:Int) 32),(Aj e:Int),B)
def TR:Option (Int×Int):=
(Fp c ([(65:UInt8),(80:UInt8),(69:UInt8),(84:UInt8),(65:UInt8),(71:UInt8),(69:UInt8),(88:UInt8)]:LB)).bind λz=>
if(!z)then
some (0,6)
else
if(Ci (Aa c) 32)then
some (0,24)
else
(Ck c 0 32).bind λd=>
(Zr d 2684354560).bind λ(e,i,j)=>
if(!j)then
some (0,12)
else
if(Ci (Aa c) (Ad e 64))then
some (0,24)
else
(Ck c (Ah (Ad e 64) 32) (Ad e 64)).bind λA=>
(LA e i 2147483648).bind λB=>
(Gs A B).bind λC=>
if(!C)then
some (0,12)
else
some ((Ad e 64),0)
def Jr:Option (Int×Int):=
(DV c).bind λ(z,d)=>
if(Bp d 6)then
some (z,d)
else
(TR c).bind λ(e,i)=>
some (e,i)
def Kh(b:List UInt8):Nat->Int->Option (Int×Int)
  |0,_=>none
  |q+1,x=>Option.bind (Ck b x (Aa b)) λs=>Option.bind (Jr s) λr=>
    if geq r.2 (6:Int)=true then some (x,0)
    else if(geq r.2 (0:Int)&&Eo (Ad x r.1) (4000:Int))=true then some (0,4)
    else if Bp r.2 (0:Int)=true then some (0,r.2)
    else Kh b q (Ad x r.1)
def Ku(b:List UInt8):Option (Int×Int):=Kh b Cq 0
def Fa:Option Bool:=
if(Hl (Aa c) (Aa i))then
(Ck c 0 (Aa i)).bind λz=>
some (z==i)
else
some false
def Pd:Option Bool:=
(Fa c i).bind λz=>
some z
abbrev Eu:=Option (Int×Int×Int×Int×Int×Int)
def RC:Eu:=
(Ak C 0).bind λ_=>
(Ak C 0).bind λz=>
(Ak C 1).bind λ_=>
(Ak C 1).bind λc=>
(Ak C 2).bind λ_=>
(Ak C 2).bind λd=>
(Ak C 3).bind λ_=>
(Ak C 3).bind λe=>
(Ak C 4).bind λ_=>
(Ak C 4).bind λi=>
(Pu z c d e i).bind λj=>
if(!j)then
some (0,0,0,0,0,12)
else
(Ym z c d e i).bind λA=>
if(!A)then
some (0,0,0,0,0,4)
else
some (z,c,d,e,i,0)
def Vv:=RC
def Vx(j6:LI->Eu)(Zl:Int->Int->LI->Eu)(b:LB)(g f:Int)(a:LI):Eu:=
if(Ci f 5)then
(Ak ([(2:Int),(2:Int),(2:Int),(4:Int),(4:Int)]:LI) f).bind λh=>
(QN b g h).bind λ(v,ae)=>
(Ak a f).bind λ_=>
(Ew a f (Aj v:Int)).bind λw=>
Zl (Ad g h) (Ad f 1) w
else
j6 a
def Mk:Nat->Int->Int->LI->Eu
|0,_,_,_=>none
|z+1,d,e,i=>Vx Vv (Mk z) c d e i
def NM b:=Mk b Cq
def Ya(j4:LB->Int->Int->LI->Eu)(b:LB):Eu:=
(Ck b 0 (Ev 4 (Aa b))).bind λy=>
(Pd ([84,84,65,49]:LB) y).bind λaa=>
if(!aa)then
some (0,0,0,0,0,12)
else
if(Ci (Aa b) 22)then
some (0,0,0,0,0,24)
else
(QN b 18 4).bind λ(ab,af)=>
(Ck b 0 18).bind λac=>
(Jn ac).bind λ(ad,ag)=>
if(Bp (Aj ad:UInt64) ab)then
some (0,0,0,0,0,22)
else
j4 b 4 0 (List.replicate 5 (0:Int))
def IW:=Ya NM
def AQ:Option (LI×Int):=
(Sd z d A M P).bind λc=>
if(Bp c 0)then
some (([]:LI),c)
else
(Kn M P).bind λ(e,i)=>
some (e,i)
def Kl:Option (Int×Int×Int×Int×Int×Int×Int×Int×Int×Int×LI×Int):=
if(Eo (Aa c) 100000)then
some (0,0,0,0,0,0,0,0,0,0,([]:LI),4)
else
(Ku c).bind λ(z,d)=>
if(Bp d 0)then
some (0,0,0,0,0,0,0,0,0,0,([]:LI),d)
else
(Ck c z (Aa c)).bind λe=>
(IW e).bind λ(i,j,A,B,C,D)=>
if(Bp D 0)then
some (i,j,A,B,C,0,0,0,0,0,([]:LI),D)
else
(AQ i j A B C).bind λ(E,F)=>
if(geq i 2)then
some (i,j,A,B,C,z,(Ad z 22),(Ad (Ad z 22) 8),0,0,E,0)
else
some (i,j,A,B,C,z,(Ad z 22),(Ad z 22),0,0,E,0)
abbrev Fj:=Option (LI×Int)
def SZ:Fj:=
(Ys C).bind λz=>
if(Bp z 0)then
some (([]:LI),12)
else
some (C,0)
def AM:=SZ
def AY(j6:LI->Fj)(Zl:Int->LI->Fj)(a:LB)(f:LI)(g:Int)(b:LI):Fj:=
if(Ci g (Aa f))then
(QN a (Db 4 g) 4).bind λ(k,u)=>
(Ak b g).bind λ_=>
(Ew b g (Aj k:Int)).bind λm=>
Zl (Ad g 1) m
else
j6 b
def Qg:Nat->Int->LI->Fj
|0,_,_=>none
|z+1,d,e=>AY AM (Qg z) c C d e
def SK a f:=Qg a f Cq
def BS(j4:LB->LI->Int->LI->Fj)(a:LB)(h:Int):Fj:=
if((Ci h 1)||(Eo h 1000))then
some (([]:LI),2)
else
if(Ci (Aa a) (Ad (Db 4 h) 4))then
some (([]:LI),24)
else
(QN a (Db 4 h) 4).bind λ(n,v)=>
(Ck a 0 (Db 4 h)).bind λo=>
(Jn o).bind λ(p,w)=>
if(Bp (Aj p:UInt64) n)then
some (([]:LI),22)
else
(XR h (0:Int)).bind λf=>
(Dt (geq h h)).bind λ_=>
j4 a f 0 f
def CQ:=BS SK
abbrev Bj:=Option (Int×Int×Int×Int×Int×Int)
def KR(a:LB)(m n o p u f g b ad y:Int)(h:LI):Bj:=
if(Ci (Aa a) y)then
some (0,0,0,0,0,24)
else
some (f,g,b,ad,y,0)
def KH:=KR
def KC(j12:LB->Int->Int->Int->Int->Int->Int->Int->Int->Int->Int->LI->Bj)(a:LB)(m n o p u f g b:Int)(h:LI)(ae ad y:Int):Bj:=
if(Bp ae 0)then
some (0,0,0,0,0,ae)
else
j12 a m n o p u f g b ad y h
def Fo:=KC KH
def JZ(j11:LB->Int->Int->Int->Int->Int->Int->Int->Int->LI->Int->Int->Int->Bj)(a:LB)(k:LI)(m n o p u f g b v:Int)(h:LI):Bj:=
j11 a m n o p u f g b h 0 (Ad (Ad b (Db 4 (Aa k))) 4) v
def Up:=JZ Fo
def Vq(j10:LB->LI->Int->Int->Int->Int->Int->Int->Int->Int->Int->LI->Bj)(aY:Int->Int->Bj)(k:LI)(a:LB)(m n o p u f g b:Int)(h:LI)(w v:Int):Bj:=
if(Ci w (Aa k))then
(Ak k w).bind λ_=>
(Ak k w).bind λag=>
aY (Ad w 1) (Ad v ag)
else
j10 a k m n o p u f g b v h
def Mn:Nat->Int->Int->Bj
|0,_,_=>none
|z+1,c,d=>Vq Up (Mn z) C i B U gq gu gy ig iq iw iy c d
def PD k a m n o p u f g b h:=Mn k a m n o p u f g b h Cq
def Yk(j11:LB->Int->Int->Int->Int->Int->Int->Int->Int->LI->Int->Int->Int->Bj)(j8:LI->LB->Int->Int->Int->Int->Int->Int->Int->Int->LI->Int->Int->Bj)(aa:Int)(a:LB)(m n o p u f g b ab ac:Int)(k h:LI):Bj:=
if(Bp aa 0)then
j11 a m n o p u f g b h aa ab ac
else
j8 k a m n o p u f g b h 0 (Ad (Ad b (Db 4 (Aa k))) 4)
def RM:=Yk Fo PD
def Mx(j11:LB->Int->Int->Int->Int->Int->Int->Int->Int->LI->Int->Int->Int->Bj)(j7:Int->LB->Int->Int->Int->Int->Int->Int->Int->Int->Int->Int->LI->LI->Bj)(a:LB):Bj:=
(Kl a).bind λ(m,n,o,p,u,f,g,b,ab,ac,h,af)=>
if(Bp af 0)then
some (0,0,0,0,0,af)
else
if(Ci (Aa a) b)then
j11 a m n o p u f g b h 24 ab ac
else
(Ck a b (Aa a)).bind λah=>
(CQ ah (Aa h)).bind λ(k,aa)=>
j7 aa a m n o p u f g b ab ac k h
def Cm:=Mx Fo RM
def FT:Option (Bool×Int):=
(Tj i).bind λ(z,d)=>
if((Bp d 0)||(Bp (Aa c) (Aa z)))then
some (false,2)
else
(Gs c z).bind λe=>
some (e,0)
def Xf:Option (LB×Int):=
if(Ci (Aa c) 5)then
some (([]:LB),24)
else
if(Eo (Aa c) 41254)then
some (([]:LB),4)
else
(Ck c 0 (Ah (Aa c) 4)).bind λz=>
(Jn z).bind λ(d,e)=>
if(Bp e 0)then
some (([]:LB),e)
else
(Ck c (Ah (Aa c) 4) (Aa c)).bind λi=>
(ND i).bind λ(j,A)=>
if((Bp A 0)||(Bp j (Aj d:UInt64)))then
some (([]:LB),22)
else
(Ck c 0 (Ah (Aa c) 4)).bind λB=>
some (B,0)
def eR:Option (LB×Int×Int):=
if(Eo (Aa c) 41250)then
some (([]:LB),0,4)
else
(De c).bind λz=>
some (z,(Db 8 (Aa c)),0)
def aM:Option UInt64:=
some j
def JI:=aM
def JF(j6:UInt64->Option UInt64)(Zl:UInt64->Int->Option UInt64)(b f:Int)(h:LB)(k:Int)(g:UInt64)(a:Int):Option UInt64:=
if(Ci a f)then
(Ak h (gO (Ad b a) (GI.toZ (3:UInt64)).toNat)).bind λm=>
(Dt (Hl (Dg (Ad b a) 7) 0)).bind λ_=>
(Dt (Hl (Ev (Ah f a) (Ah 8 (Dg (Ad b a) 7))) 0)).bind λ_=>
(Dt (Hl a 0)).bind λ_=>
Zl (jW g (Fc (Aj (Dg (Bz m (GI.toZ (Dg (Ad b a) 7)).toNat) (Ah (Fc (1:UInt8) (GI.toZ (Ev (Ah f a) (Ah 8 (Dg (Ad b a) 7)))).toNat) 1)):UInt64) (GI.toZ a).toNat)) (Ad a (Ev (Ah f a) (Ah 8 (Dg (Ad b a) 7))))
else
j6 g
def Xg:Nat->UInt64->Int->Option UInt64
|0,_,_=>none
|c+1,e,j=>JF JI (Xg c) z d i B e j
def YQ b f h k:=Xg b f h k Cq
def IJ(j4:Int->Int->LB->Int->UInt64->Int->Option UInt64)(h:LB)(k b f:Int):Option UInt64:=
j4 b f h k 0 0
def QQ:=IJ YQ
abbrev Bt:=Option (LB×Int×Int)
def WQ:Bt:=
some (i,z,0)
def EH:=WQ
def VG(Ll:Int->Int->LB->Bt)(a:Int)(g:LB)(b f h:Int)(u:LB):Bt:=
Ll (Ad f 64) h u
def DS Ll:=VG Ll
def VH(RT:UInt64->Int->Int->LB->Bt)(a f:Int)(g:LB)(b:Int)(m n:UInt64)(k h:Int)(w:LB):Bt:=
(Dt (Hl (Ev k (Ah 8 (Dg h 7))) 0)).bind λ_=>
RT (Bz n (GI.toZ (Ev k (Ah 8 (Dg h 7)))).toNat) (Ah k (Ev k (Ah 8 (Dg h 7)))) (Ad h (Ev k (Ah 8 (Dg h 7)))) w
def WC RT:=VH RT
def XJ(j48:UInt64->Int->Int->LB->Bt)(a f:Int)(g:LB)(b:Int)(m n:UInt64)(k h:Int)(v:LB):Bt:=
(Ak v (Ah (Aa v) 1)).bind λ_=>
(Dt (Hl (Ev k (Ah 8 (Dg h 7))) 0)).bind λ_=>
(Dt (Hl (Dg h 7) 0)).bind λ_=>
(Ak v (Ah (Aa v) 1)).bind λaa=>
(Ak v (Ah (Aa v) 1)).bind λ_=>
Option.bind (Ew v (Ah (Aa v) 1) (jW aa (Fc (Aj (Dg n (Ah (Fc (1:UInt64) (GI.toZ (Ev k (Ah 8 (Dg h 7)))).toNat) 1)):UInt8) (GI.toZ (Dg h 7)).toNat))) λw=>
j48 n k h w
def EY RT a f g b m:=XJ (WC RT a f g b m) a f g b m
def EN(j47:UInt64->Int->Int->LB->Bt)(j50:Int->Int->LB->Bt)(a:Int)(g:LB)(b f:Int)(m n:UInt64)(k h:Int)(u:LB):Bt:=
if(Eo k 0)then
if(geq (Dg h 7) 0)then
(Cd u ([(0:UInt8)]:LB)).bind λab=>
j47 n k h ab
else
j47 n k h u
else
j50 f h u
def So(Ll:Int->Int->LB->Bt)(a:Int)(g:LB)(b f:Int)(m:UInt64):Nat->UInt64->Int->Int->LB->Bt
|0,_,_,_,_=>none
|q+1,n,k,h,u=>EN (EY (So Ll a g b f m q) a f g b m) (DS Ll a g b) a g b f m n k h u
def FQ Ll a g b f m:=So Ll a g b f m Cq
def FN(j44:Int->UInt64->UInt64->Int->Int->LB->Bt)(j52:Int->LB->Bt)(a:Int)(g:LB)(b f o:Int)(p:LB):Bt:=
if(Ci f a)then
(QQ g b f (Ev 64 (Ah a f))).bind λm=>
j44 f m m (Ev 64 (Ah a f)) o p
else
j52 o p
def Sj:Nat->Int->Int->LB->Bt
|0,_,_,_=>none
|c+1,d,e,j=>FN (FQ (Sj c) z i B) EH z i B d e j
def UJ a g b:=Sj a g b Cq
def JH(j27:Int->LB->Int->Int->Int->LB->Bt)(g:LB)(b y a:Int):Bt:=
(Eg g b).bind λac=>
if(Bp ac 0)then
some (([]:LB),0,8)
else
if(((Ci y 0)||(Eo y a))||(Eo a b))then
some (([]:LB),0,2)
else
j27 a g b y 0 ([]:LB)
def PC:=JH UJ
def Nr:Option (UInt64×Int):=
(Eg c z).bind λe=>
if(Bp e 0)then
some (0,8)
else
if(((Ci A 0)||(Eo A 64))||(Ci d 0))then
some (0,2)
else
if(Eo d (Ah z A))then
some (0,24)
else
(QQ c z d A).bind λi=>
some (i,0)
def Gx:Option Int:=
if(geq j 0)then
some 64
else
(Ak ([(0:UInt8),(1:UInt8),(56:UInt8),(2:UInt8),(57:UInt8),(49:UInt8),(28:UInt8),(3:UInt8),(61:UInt8),(58:UInt8),(42:UInt8),(50:UInt8),(38:UInt8),(29:UInt8),(17:UInt8),(4:UInt8),(62:UInt8),(47:UInt8),(59:UInt8),(36:UInt8),(45:UInt8),(43:UInt8),(51:UInt8),(22:UInt8),(53:UInt8),(39:UInt8),(33:UInt8),(30:UInt8),(24:UInt8),(18:UInt8),(12:UInt8),(5:UInt8),(63:UInt8),(55:UInt8),(48:UInt8),(27:UInt8),(60:UInt8),(41:UInt8),(37:UInt8),(16:UInt8),(46:UInt8),(35:UInt8),(44:UInt8),(21:UInt8),(52:UInt8),(32:UInt8),(23:UInt8),(11:UInt8),(54:UInt8),(26:UInt8),(40:UInt8),(15:UInt8),(34:UInt8),(20:UInt8),(31:UInt8),(10:UInt8),(25:UInt8),(14:UInt8),(19:UInt8),(9:UInt8),(13:UInt8),(8:UInt8),(7:UInt8),(6:UInt8)]:LB) (GI.toZ (Bz (Db (Dg j (fU j)) 285870213051353865) (GI.toZ (58:UInt64)).toNat))).bind λz=>
some (Aj z:Int)
abbrev Da:=Option (Int×Int×Int)
def NX:Da:=
some (0,0,24)
def NU:=NX
def SU(j10:Da):Da:=
j10
def SB:=SU NU
def SD(j9:Da)(f a:Int):Da:=
if(geq f 48)then
some (f,(Ad 0 (Ad a f)),0)
else
j9
def SN:=SD SB
def SJ(j8:Int->Int->Da)(f b a:Int):Da:=
if(Ci f (Ev 48 (Ah b a)))then
some (f,(Ad (Ad (0:Int) (1:Int)) (Ad a f)),0)
else
j8 f a
def SR:=SJ SN
def SO(j7:Int->Int->Int->Da)(h:Int)(k:UInt64)(a:Int)(g:LB)(b:Int):Da:=
if(Bp h 0)then
some (0,0,h)
else
(Gx (kB k)).bind λf=>
j7 f b a
def AU:=SO SR
def Qn(j6:Int->UInt64->Int->LB->Int->Da)(g:LB)(b a:Int):Da:=
(Eg g b).bind λm=>
if(Bp m 0)then
some (0,0,m)
else
if(Ci a 0)then
some (0,0,2)
else
if(Hl a b)then
some (0,0,24)
else
(
(
(Nr g b a (Ev 48 (Ah b a))).bind λ(k,h)=>
j6 h k a g b))
def PK:=Qn AU
abbrev Xx:=Option (UInt32×Int×Int)
def VN:Xx:=
(Nr i B d U).bind λ(c,e)=>
if(Bp e 0)then
some (0,0,e)
else
if(Ci A 48)then
(Dt (Hl z 0)).bind λ_=>
some ((jW (Fc (Aj A:UInt32) (GI.toZ z).toNat) (Aj c:UInt32)),(Ad d U),0)
else
(Tt (Aj c:UInt32) z).bind λj=>
if(!j)then
some (0,0,12)
else
some ((Aj c:UInt32),(Ad d U),0)
def WR:=VN
def VV(j2:Int->Int->Int->LB->Int->Int->Xx)(g:LB)(h v a:Int):Xx:=
(Eg g h).bind λo=>
if(Bp o 0)then
some (0,0,o)
else
if((Ci a 0)||(Eo a 24))then
some (0,0,2)
else
(PK g h v).bind λ(f,b,p)=>
if(Bp p 0)then
some (0,0,p)
else
if(geq f 48)then
j2 a b f g h 32
else
j2 a b f g h a
def TW:=VV WR
abbrev Ds:=Option (UInt32×Int×Int×Int×UInt64×UInt64×Int)
def RZ:Ds:=
some (G,D,jf,jy,(Ad jr (Ah (Aj G:UInt64) (Bz jr (GI.toZ (4:UInt64)).toNat))),kg,0)
def SG:=RZ
def WN(j10:UInt32->Int->Int->Int->UInt64->UInt64->Ds)(f:UInt32)(k m:Int)(b n:UInt64)(w:Int):Ds:=
j10 f k w m b n
def UN:=WN SG
def WY(j9:UInt32->Int->Int->UInt64->UInt64->Int->Ds)(f:UInt32)(k a:Int)(b:UInt64)(m:Int)(n:UInt64):Ds:=
if(Eo a 0)then
(Dt (Hl a 0)).bind λ_=>
if(Ci (Ad b (Ah (Aj f:UInt64) (Bz b (GI.toZ (4:UInt64)).toNat))) (Fc (16:UInt64) (GI.toZ a).toNat))then
j9 f k m b n (Ah a 1)
else
if(Ci a 24)then
(Dt (Hl a 0)).bind λ_=>
if(Eo (Ad b (Ah (Aj f:UInt64) (Bz b (GI.toZ (4:UInt64)).toNat))) (Fc (32:UInt64) (GI.toZ a).toNat))then
j9 f k m b n (Ad a 1)
else
j9 f k m b n a
else
j9 f k m b n a
else
if(Ci a 24)then
(Dt (Hl a 0)).bind λ_=>
if(Eo (Ad b (Ah (Aj f:UInt64) (Bz b (GI.toZ (4:UInt64)).toNat))) (Fc (32:UInt64) (GI.toZ a).toNat))then
j9 f k m b n (Ad a 1)
else
j9 f k m b n a
else
j9 f k m b n a
def FU:=WY UN
def EI(j8:UInt32->Int->Int->UInt64->Int->UInt64->Ds)(a h:Int)(b g:UInt64)(f:UInt32)(k:Int):Ds:=
(Tl a h b g f).bind λ(ad,o)=>
if(geq ad 1)then
if(Eo h 0)then
(Dt (Hl h 0)).bind λ_=>
if(Ci (Ad g (Ah (Aj o:UInt64) (Bz g (GI.toZ (4:UInt64)).toNat))) (Fc (16:UInt64) (GI.toZ h).toNat))then
j8 f k a b (Ah h 1) (Ad g (Ah (Aj o:UInt64) (Bz g (GI.toZ (4:UInt64)).toNat)))
else
if(Ci h 24)then
(Dt (Hl h 0)).bind λ_=>
if(Eo (Ad g (Ah (Aj o:UInt64) (Bz g (GI.toZ (4:UInt64)).toNat))) (Fc (32:UInt64) (GI.toZ h).toNat))then
j8 f k a b (Ad h 1) (Ad g (Ah (Aj o:UInt64) (Bz g (GI.toZ (4:UInt64)).toNat)))
else
j8 f k a b h (Ad g (Ah (Aj o:UInt64) (Bz g (GI.toZ (4:UInt64)).toNat)))
else
j8 f k a b h (Ad g (Ah (Aj o:UInt64) (Bz g (GI.toZ (4:UInt64)).toNat)))
else
if(Ci h 24)then
(Dt (Hl h 0)).bind λ_=>
if(Eo (Ad g (Ah (Aj o:UInt64) (Bz g (GI.toZ (4:UInt64)).toNat))) (Fc (32:UInt64) (GI.toZ h).toNat))then
j8 f k a b (Ad h 1) (Ad g (Ah (Aj o:UInt64) (Bz g (GI.toZ (4:UInt64)).toNat)))
else
j8 f k a b h (Ad g (Ah (Aj o:UInt64) (Bz g (GI.toZ (4:UInt64)).toNat)))
else
j8 f k a b h (Ad g (Ah (Aj o:UInt64) (Bz g (GI.toZ (4:UInt64)).toNat)))
else
j8 f k a b h g
def VA:=EI FU
def ES(j7:Int->Int->UInt64->UInt64->UInt32->Int->Ds)(p:Int)(u:LB)(v a h:Int)(b g:UInt64):Ds:=
(Nr u v p 1).bind λ(ae,aa)=>
if(Bp aa 0)then
some (0,0,0,0,0,0,aa)
else
if(geq ae 0)then
(Nr u v (Ad p 1) a).bind λ(af,ab)=>
if(Bp ab 0)then
some (0,0,0,0,0,0,ab)
else
j7 a h b g (Aj af:UInt32) (Ad (Ad p 1) a)
else
(TW u v (Ad p 1) h).bind λ(y,ag,ac)=>
if(Bp ac 0)then
some (0,0,0,0,0,0,ac)
else
(Dt (Hl a 0)).bind λ_=>
if(Ci (Ad y (Fc (1:UInt32) (GI.toZ a).toNat)) y)then
some (0,0,0,0,0,0,12)
else
j7 a h b g (Ad y (Fc (1:UInt32) (GI.toZ a).toNat)) ag
def XG:=ES VA
def GF(j6:Int->LB->Int->Int->Int->UInt64->UInt64->Ds)(u:LB)(v p a h:Int)(b g:UInt64):Ds:=
(Eg u v).bind λah=>
if(Bp ah 0)then
some (0,0,0,0,0,0,8)
else
(DF a h b g).bind λai=>
if(Bp ai 0)then
some (0,0,0,0,0,0,8)
else
j6 p u v a h b g
def Rh:=GF XG
abbrev Au:=Option (LU×Int×Int)
def CU:Au:=
some (L,z,0)
def Nw:=CU
def DD(Fs:Int->Int-> (List (Int×Int×UInt64×UInt64×Unit))->LU->Au)(a f:Int)(g:LB)(b k v:Int)(w:UInt32)(h:Int)(ah:List (Int×Int×UInt64×UInt64×Unit))(n:LU):Au:=
(Cd n ([w]:LU)).bind λak=>
Fs (Ad k v) (Ad h 1) ah ak
def CC Fs:=DD Fs
def CO(j22:Int->Int->UInt32->Int-> (List (Int×Int×UInt64×UInt64×Unit))->LU->Au)(a f:Int)(g:LB)(b k h y:Int)(w:UInt32)(v:Int)(m:List (Int×Int×UInt64×UInt64×Unit))(n:LU)(aa ab:Int)(ac ad:UInt64):Au:=
if(Bp y 0)then
some (([]:LU),0,y)
else
(Dt (Bp a 0)).bind λ_=>
(Ak m (Gk h a)).bind λ_=>
(Ew m (Gk h a) (aa,ab,ac,ad,())).bind λah=>
j22 k v w h ah n
def Nh Fs a f g b:=CO (CC Fs a f g b) a f g b
def Ik(j21:Int->Int->Int->UInt32->Int-> (List (Int×Int×UInt64×UInt64×Unit))->LU->Int->Int->UInt64->UInt64->Au)(j24:Int->LU->Au)(a f:Int)(g:LB)(b k h:Int)(m:List (Int×Int×UInt64×UInt64×Unit))(n:LU):Au:=
if(Ci h (Db f a))then
(PC g b k (Ev (Ad k 81) b)).bind λ(ag,ae,af)=>
if(Bp af 0)then
some (([]:LU),0,af)
else
(Dt (Bp a 0)).bind λ_=>
(Ak m (Gk h a)).bind λ_=>
(
(
(Ak m (Gk h a)).bind λo=>
(
(Rh ag ae 0 o.1 o.2.1 o.2.2.1 o.2.2.2.1).bind λ(w,v,aa,ab,ac,ad,y)=>
j21 k h y w v m n aa ab ac ad)))
else
j24 k n
def Ic:Nat->Int->Int-> (List (Int×Int×UInt64×UInt64×Unit))->LU->Au
|0,_,_,_,_=>none
|c+1,e,j,A,C=>Ik (Nh (Ic c) z d i B) Nw z d i B e j A C
def Oi a f g b:=Ic a f g b Cq
def Mj(j16:Int->Int->LB->Int->Int->Int-> (List (Int×Int×UInt64×UInt64×Unit))->LU->Au)(a f:Int)(g:LB)(b:Int)(p:List (Int×Int×UInt64×UInt64×Unit)):Au:=
j16 a f g b 0 0 p ([]:LU)
def BW:=Mj Oi
def Mq(j15:Int->Int->LB->Int-> (List (Int×Int×UInt64×UInt64×Unit))->Au)(lK:Int-> (List (Int×Int×UInt64×UInt64×Unit))->Au)(a f:Int)(g:LB)(b u:Int)(p:List (Int×Int×UInt64×UInt64×Unit)):Au:=
if(Ci u 6)then
(DQ).bind λ(al,ae,af,am)=>
(Ak p u).bind λ_=>
(Ew p u (al,ae,af,am,())).bind λan=>
lK (Ad u 1) an
else
j15 a f g b p
def Ig:Nat->Int-> (List (Int×Int×UInt64×UInt64×Unit))->Au
|0,_,_=>none
|c+1,e,j=>Mq BW (Ig c) z d i B e j
def DM a f g b:=Ig a f g b Cq
def Pn(j13:Int->Int->LB->Int->Int-> (List (Int×Int×UInt64×UInt64×Unit))->Au)(a f:Int)(g:LB)(b:Int):Au:=
j13 a f g b 0 (List.replicate 6 ((0:Int),(0:Int),(0:UInt64),(0:UInt64),()))
def Xb:=Pn DM
def Jy:Option Int32:=
some (Qo (Aj (Bz G (GI.toZ (1:UInt64)).toNat):Int32) (fU (Aj (Dg G 1):Int32)))
def RD:Option (Int32×Int×LX×LX×Int):=
(CS z e E).bind λ(c,d)=>
if(Bp d 0)then
some (0,0,(List.replicate 16 (0:Int32)),(List.replicate 16 (0:Int32)),d)
else
(CB z e E (Ad I c) I).bind λ(i,j,A)=>
some ((Ad I c),i,j,A,0)
def Es:Option (Int32×Int×Int32×Int×LX×LX×Int):=
(Kq z F D E R).bind λc=>
if(Bp c 0)then
some (0,0,0,0,(List.replicate 16 (0:Int32)),(List.replicate 16 (0:Int32)),c)
else
(Ks z F).bind λ(d,e)=>
(RD D E R I).bind λ(i,j,A,B,C)=>
(
some ((Ad i d),z,(Ad i d),j,A,B,C))
abbrev Cj:=Option (LX×Int)
def VD:Cj:=
some (e,0)
def EJ:=VD
def VS(Qw:Int->LX->Cj)(b a:Int)(h:LX):Cj:=
Qw (Ad a b) h
def FF Qw:=VS Qw
def EC(j20:Int->LX->Cj)(vF:Int->LX->Cj)(b a g:Int)(h:LX):Cj:=
if(Hl g 0)then
(Dt (decide (0<= (Ad g 1)/\ (Ad g 1)<((Ad a b)-a)))).bind λ_=>
(Dt (decide (0<=g/\g<((Ad a b)-a)))).bind λ_=>
(Ak h (a+(Ad g 1))).bind λn=>
(Ak h (a+g)).bind λo=>
(Dt (decide (0<=g/\g<((Ad a b)-a)))).bind λ_=>
(Ew h (a+g) (Ah n o)).bind λp=>
vF (Ah g 1) p
else
j20 a h
def Tn(Qw:Int->LX->Cj)(b a:Int):Nat->Int->LX->Cj
|0,_,_=>none
|q+1,g,h=>EC (FF Qw b) (Tn Qw b a q) b a g h
def EG Qw b a:=Tn Qw b a Cq
def DR(j18:Int->Int->LX->Cj)(b a:Int)(u:LX):Cj:=
j18 a (Ah (Ah ((Ad a b)-a) 1) 1) u
def WE Qw b:=DR (EG Qw b) b
def EE(j17:Int->LX->Cj)(j22:LX->Cj)(b a:Int)(f:LX):Cj:=
if(Ci a (Aa f))then
(RU (Aa f) a (Ad a b)).bind λ_=>
if(Eo (Ah ((Ad a b)-a) 1) 0)then
(Dt (decide (0<= (Ah ((Ad a b)-a) 1)/\ (Ah ((Ad a b)-a) 1)<((Ad a b)-a)))).bind λ_=>
Option.bind (Dt (decide (0<= (Ah (Ah ((Ad a b)-a) 1) 1)/\ (Ah (Ah ((Ad a b)-a) 1) 1)<((Ad a b)-a)))) λ_=>
(Ak f (a+(Ah ((Ad a b)-a) 1))).bind λv=>
(Ak f (a+(Ah (Ah ((Ad a b)-a) 1) 1))).bind λw=>
(Dt (decide (0<= (Ah ((Ad a b)-a) 1)/\ (Ah ((Ad a b)-a) 1)<((Ad a b)-a)))).bind λ_=>
(Ew f (a+(Ah ((Ad a b)-a) 1)) (Ad v (Iu w 2))).bind λy=>
j17 a y
else
j17 a f
else
j22 f
def Ti:Nat->Int->LX->Cj
|0,_,_=>none
|c+1,d,e=>EE (WE (Ti c) z) EJ z d e
def WA b:=Ti b Cq
def JT(j12:Int->Int->LX->Cj)(b:Int)(k:LX):Cj:=
(HQ b k).bind λm=>
if(Bp m 0)then
some (([]:LX),m)
else
(Cn k).bind λaa=>
j12 b 0 aa
def YU:=JT WA
abbrev Ba:=Option (LX×Int)
def AA:Ba:=
(YU z e).bind λ(c,i)=>
if(Bp i 0)then
some (([]:LX),i)
else
(Kr d c).bind λj=>
if(Bp j 0)then
some (([]:LX),j)
else
some (c,0)
def Lo:=AA
def AF(lK:Int-> (List (Int×Int32×(Int×LX×LX×Unit)×Unit))->LX->Ba)(a:Int)(f:LU)(b g:Int)(y:Int32)(v:Int)(h:List (Int×Int32×(Int×LX×LX×Unit)×Unit))(k:LX)(aa:Int)(w:Int32)(ab:Int)(ac ad:LX):Ba:=
if(Bp v 0)then
some (([]:LX),v)
else
(Ew h (Gk g a) (aa,w,(ab,ac,ad,()),())).bind λai=>
(Cd k ([y]:LX)).bind λaj=>
lK (Ad g 1) ai aj
def Lq lK:=AF lK
def Hg(j16:Int->Int32->Int-> (List (Int×Int32×(Int×LX×LX×Unit)×Unit))->LX->Int->Int32->Int->LX->LX->Ba)(j18:Int->Int->LX->Ba)(f:LU)(a b g:Int)(h:List (Int×Int32×(Int×LX×LX×Unit)×Unit))(k:LX):Ba:=
if(Ci g (Aa f))then
(Ak f g).bind λag=>
(Dt (Bp a 0)).bind λ_=>
(Ak h (Gk g a)).bind λ_=>
(
(Ak h (Gk g a)).bind λm=>
(
(Jy ag).bind λae=>
(
(Es m.1 m.2.1 m.2.2.1.1 m.2.2.1.2.1 m.2.2.1.2.2.1 ae).bind λ(y,aa,w,ab,ac,ad,v)=>
j16 g y v h k aa w ab ac ad)))
else
j18 a b k
def Hh:Nat->Int-> (List (Int×Int32×(Int×LX×LX×Unit)×Unit))->LX->Ba
|0,_,_,_=>none
|z+1,c,d,e=>Hg (Lq (Hh z) X L Y) Lo L X Y c d e
def Lt f a b:=Hh f a b Cq
def Lr(j13:LU->Int->Int->Int-> (List (Int×Int32×(Int×LX×LX×Unit)×Unit))->LX->Ba)(f:LU)(a b:Int)(n:List (Int×Int32×(Int×LX×LX×Unit)×Unit)):Ba:=
j13 f a b 0 n ([]:LX)
def AI:=Lr Lt
def Ls(j12:LU->Int->Int-> (List (Int×Int32×(Int×LX×LX×Unit)×Unit))->Ba)(lH:Int-> (List (Int×Int32×(Int×LX×LX×Unit)×Unit))->Ba)(f:LU)(a b:Int)(o:LX)(p:Int)(n:List (Int×Int32×(Int×LX×LX×Unit)×Unit)):Ba:=
if(Ci p 6)then
(IB b o).bind λ(ak,af,ae,al,am,w)=>
(Ak n p).bind λ_=>
(Ew n p (ak,af,(ae,al,am,()),())).bind λan=>
lH (Ad p 1) an
else
j12 f a b n
def Hk:Nat->Int-> (List (Int×Int32×(Int×LX×LX×Unit)×Unit))->Ba
|0,_,_=>none
|z+1,c,d=>Ls AI (Hk z) L X Y jg c d
def AH f a b o:=Hk f a b o Cq
def Of(j10:LU->Int->Int->LX->Int-> (List (Int×Int32×(Int×LX×LX×Unit)×Unit))->Ba)(a b:Int)(o:LX)(f:LU):Ba:=
j10 f a b o 0 (List.replicate 6 ((0:Int),(0:Int32),((0:Int),(List.replicate 16 (0:Int32)),(List.replicate 16 (0:Int32)),()),()))
def Ug:=Of AH
def Vj:Option (LX×Int):=
(Ki z d).bind λc=>
if(Bp c 0)then
some (([]:LX),c)
else
if(Ci B 1)then
some (([]:LX),2)
else
(Dt (Bp z 0)).bind λ_=>
if(Eo B (Iu 4000 z))then
some (([]:LX),2)
else
(Xf N).bind λ(i,j)=>
if(Bp j 0)then
some (([]:LX),j)
else
(eR i).bind λ(A,C,D)=>
if(Bp D 0)then
some (([]:LX),D)
else
(Xb z B A C).bind λ(E,F,G)=>
if(Bp G 0)then
some (([]:LX),G)
else
if(Hl (Ah C F) 8)then
some (([]:LX),12)
else
(Nr A C F (Ah C F)).bind λ(I,J)=>
if((Bp J 0)||(Bp I 0))then
some (([]:LX),12)
else
(Ug z d e E).bind λ(L,M)=>
some (L,M)
abbrev DK:=Option (Int×Int)
def ZS:DK:=
(Ck c (Ah (Aa c) 32) (Aa c)).bind λz=>
(Zr z 0).bind λ(d,e,i)=>
if i then
if(Ci (Ah (Aa c) 32) d)then
some (0,24)
else
some ((Ad d 32),0)
else
(Ck c (Ah (Aa c) 32) (Aa c)).bind λj=>
(Zr j 2147483648).bind λ(A,B,C)=>
if(!C)then
some (0,12)
else
if(Ci (Aa c) (Ad A 64))then
some (0,24)
else
(Ck c (Ah (Aa c) (Ad A 64)) (Ad (Ah (Aa c) (Ad A 64)) 32)).bind λD=>
(LA A B 2684354560).bind λE=>
(Gs D E).bind λF=>
if(!F)then
some (0,12)
else
some ((Ad A 64),0)
def XS:=ZS
def ZB(j2:LB->DK)(a:LB):DK:=
if(Ci (Ah (Aa a) 32) 0)then
some (0,6)
else
(Ck a (Ah (Aa a) 32) (Aa a)).bind λv=>
(Fp v ([(65:UInt8),(80:UInt8),(69:UInt8),(84:UInt8),(65:UInt8),(71:UInt8),(69:UInt8),(88:UInt8)]:LB)).bind λw=>
if(!w)then
some (0,6)
else
j2 a
def YM:=ZB XS
abbrev Cb:=Option (Int×Int)
def HN:Cb:=
some (z,0)
def Ru:=HN
def HV(aY:Int->LB->Cb)(a:Int)(g:LB):Cb:=
aY (Ad a 1) g
def HS aY:=HV aY
def HR(j12:Int->LB->Cb)(a f:Int)(b:LB):Cb:=
if(geq f 0)then
some (0,38)
else
(Ck b 0 (Ah (Aa b) f)).bind λg=>
j12 a g
def Ri aY:=HR (HS aY)
def Ur(j11:Int->Int->LB->Cb)(j14:Int->Cb)(a:Int)(b:LB):Cb:=
if(Eo (Aa b) 0)then
(YM b).bind λ(f,k)=>
j11 a f b
else
j14 a
def Lc:Nat->Int->LB->Cb
|0,_,_=>none
|q+1,a,b=>Ur (Ri (Lc q)) Ru a b
def KK:=Lc Cq
def Un(j8:Int->LB->Cb)(h:LB):Cb:=
if(Eo (Aa h) 4000)then
some (0,38)
else
j8 0 h
def EK:=Un KK
abbrev Ar:=Option (Int×Int×Int×LX×Int)
def LR:Ar:=
(Ck c z (Aa c)).bind λi=>
(EK i).bind λ(j,B)=>
if(Bp B 0)then
some (0,0,0,([]:LX),38)
else
some (d,A,M,e,0)
def Ww:=LR
def NS(cX:Int->Int->LX->Ar)(a:LB)(w:LI)(m f g h o p n b ab ae:Int)(ac:LX)(k:LI)(y aj ak aa:Int)(an ad:LX):Ar:=
if(Bp ak 0)then
some (0,0,0,([]:LX),ak)
else
(Cd ad an).bind λau=>
cX (Ad y aj) (Ad aa 1) au
def Wr cX:=NS cX
def Xs(j24:Int->Int->Int->Int->LX->LX->Ar)(j26:LB->Int->Int->Int->Int->LX->Ar)(a:LB)(w:LI)(m f g h o p n b ab ae:Int)(ac:LX)(k:LI)(y aa:Int)(ad:LX):Ar:=
if(Ci aa (Aa w))then
(Ak w aa).bind λ_=>
(Ak w aa).bind λaj=>
if(Ci (Aa a) (Ad y aj))then
some (0,0,0,([]:LX),24)
else
(Ak k aa).bind λ_=>
(Ck a y (Ad y aj)).bind λav=>
(Ak k aa).bind λaw=>
(Vj f g ac aw av).bind λ(an,ak)=>
j24 y aj ak aa an ad
else
j26 a y f g h ad
def Mv:Nat->Int->Int->LX->Ar
|0,_,_,_=>none
|i+1,j,B,D=>Xs (Wr (Mv i) c C z d A M P jk jl jm jo jq e eu) Ww c C z d A M P jk jl jm jo jq e eu j B D
def Wu a w m f g h o p n b ab ae ac k:=Mv a w m f g h o p n b ab ae ac k Cq
def Ja(j21:LB->LI->Int->Int->Int->Int->Int->Int->Int->Int->Int->Int->LX->LI->Int->Int->LX->Ar)(a u:LB)(m f g h o p n b:Int)(k:LI)(ao ab ae:Int)(w:LI):Ar:=
if(Bp ao 0)then
some (0,0,0,([]:LX),ao)
else
(Rv u).bind λ(ac,bc)=>
j21 a w m f g h o p n b ab ae ac k ab 0 ([]:LX)
def Mw:=Ja Wu
def Vy(j20:LB->LB->Int->Int->Int->Int->Int->Int->Int->Int->LI->Int->Int->Int->LI->Ar)(a u:LB)(v:LI)(m f g h o p n b af:Int)(k:LI):Ar:=
j20 a u m f g h o p n b k 0 (Ad (Ad b (Db 4 (Aa v))) 4) af v
def NL:=Vy Mw
def Wv(j19:LB->LB->LI->Int->Int->Int->Int->Int->Int->Int->Int->Int->LI->Ar)(rI:Int->Int->Ar)(v:LI)(a u:LB)(m f g h o p n b:Int)(k:LI)(ag af:Int):Ar:=
if(Ci ag (Aa v))then
(Ak v ag).bind λ_=>
(Ak v ag).bind λax=>
rI (Ad ag 1) (Ad af ax)
else
j19 a u v m f g h o p n b af k
def Mm:Nat->Int->Int->Ar
|0,_,_=>none
|z+1,c,d=>Wv NL (Mm z) C i jw B U gq gu gy ig iq iw iy c d
def LN v a u m f g h o p n b k:=Mm v a u m f g h o p n b k Cq
def Vw(j20:LB->LB->Int->Int->Int->Int->Int->Int->Int->Int->LI->Int->Int->Int->LI->Ar)(j17:LI->LB->LB->Int->Int->Int->Int->Int->Int->Int->Int->LI->Int->Int->Ar)(al:Int)(a u:LB)(m f g h o p n b ah ai:Int)(v k:LI):Ar:=
if(Bp al 0)then
j20 a u m f g h o p n b k al ah ai ([]:LI)
else
j17 v a u m f g h o p n b k 0 (Ad (Ad b (Db 4 (Aa v))) 4)
def LJ:=Vw Mw LN
def Xj(j20:LB->LB->Int->Int->Int->Int->Int->Int->Int->Int->LI->Int->Int->Int->LI->Ar)(j16:Int->LB->LB->Int->Int->Int->Int->Int->Int->Int->Int->Int->Int->LI->LI->Ar)(a u:LB)(m f g h o p n b ah ai:Int)(k:LI):Ar:=
if(Ci (Aa a) b)then
j20 a u m f g h o p n b k 24 ah ai ([]:LI)
else
(Ck a b (Aa a)).bind λay=>
(CQ ay (Aa k)).bind λ(v,al)=>
j16 al a u m f g h o p n b ah ai v k
def PM:=Xj Mw LJ
def Xl(j15:LB->LB->Int->Int->Int->Int->Int->Int->Int->Int->Int->Int->LI->Ar)(a u:LB)(m f g h o p n b ah ai:Int)(k:LI)(am:Int):Ar:=
if(Bp am 0)then
some (0,0,0,([]:LX),am)
else
j15 a u m f g h o p n b ah ai k
def Wd:=Xl PM
def Pz(j14:LB->LB->Int->Int->Int->Int->Int->Int->Int->Int->Int->Int->LI->Int->Ar)(a u:LB):Ar:=
if(Eo (Aa u) 64)then
some (0,0,0,([]:LX),2)
else
(Kl a).bind λ(m,f,g,h,o,p,n,b,ah,ai,k,ap)=>
if(Bp ap 0)then
some (0,0,0,([]:LX),ap)
else
if((u==([]:LB)) !=(geq m 1))then
j14 a u m f g h o p n b ah ai k 26
else
if(geq m 1)then
j14 a u m f g h o p n b ah ai k 0
else
if(Ci (Aa a) b)then
j14 a u m f g h o p n b ah ai k 24
else
(Ck a n b).bind λaz=>
(FT az u).bind λ(ba,bd)=>
if(!ba)then
j14 a u m f g h o p n b ah ai k 26
else
j14 a u m f g h o p n b ah ai k 0
def Jw:=Pz Wd
def Zf:Option Int:=
if((((Ci z 1)||(Eo z 6))||(Ci A 1))||(Eo A 1048576))then
some 8
else
if(geq d 8)then
if(geq d 8)then
some 0
else
some 8
else
if(geq d 16)then
if(geq d 16)then
some 0
else
some 8
else
if(geq d 24)then
some 0
else
some 8
def BE:Option (Bool×Int):=
(Zf z d A).bind λc=>
if(Bp c 0)then
some (false,c)
else
some (((Eo z 2)||(Eo d 16)),0)
def HZ:Option (LB):=
if Z then
(Ck ([(1:UInt8),(0:UInt8),(0:UInt8),(0:UInt8),(0:UInt8),(0:UInt8),(16:UInt8),(0:UInt8),(128:UInt8),(0:UInt8),(0:UInt8),(170:UInt8),(0:UInt8),(56:UInt8),(155:UInt8),(113:UInt8)]:LB) 0 16).bind λz=>
(Cd jv z).bind λc=>
some c
else
some jv
def Ro:=HZ
def Qy(j8:Bool->LB->Option (LB))(xK:Int->LB->Option (LB))(a:Bool)(h:Int)(f:LQ)(g:Int)(b:LB):Option (LB):=
if(Ci g h)then
(Ak f g).bind λ_=>
(Ak f g).bind λv=>
(Ak ([(2:Int),(2:Int),(4:Int),(4:Int),(2:Int),(2:Int),(2:Int),(2:Int),(4:Int)]:LI) g).bind λw=>
(Ex v w).bind λ(y,ac)=>
(Cd b y).bind λaa=>
xK (Ad g 1) aa
else
j8 a b
def Js:Nat->Int->LB->Option (LB)
|0,_,_=>none
|z+1,c,d=>Qy Ro (Js z) Z V lq c d
def GK a h f:=Js a h f Cq
def Rq(j6:Bool->Int->LQ->Int->LB->Option (LB))(a:Bool)(h:Int)(f:LQ):Option (LB):=
j6 a h f 0 ([]:LB)
def HT:=Rq GK
def Ra(j5:Bool->Int->LQ->Option (LB))(m k n:Int)(a:Bool)(o:UInt64):Option (LB):=
if a then
(Ak ([(1:UInt64),(Aj m:UInt64),(Aj n:UInt64),(Db (Aj n:UInt64) (Aj (Iu (Db m k) 8):UInt64)),(Aj (Iu (Db m k) 8):UInt64),(Aj k:UInt64),(22:UInt64),(Aj k:UInt64),o]:LQ) 0).bind λ_=>
(Ew ([(1:UInt64),(Aj m:UInt64),(Aj n:UInt64),(Db (Aj n:UInt64) (Aj (Iu (Db m k) 8):UInt64)),(Aj (Iu (Db m k) 8):UInt64),(Aj k:UInt64),(22:UInt64),(Aj k:UInt64),o]:LQ) 0 65534).bind λab=>
j5 a 9 ab
else
j5 a 6 ([(1:UInt64),(Aj m:UInt64),(Aj n:UInt64),(Db (Aj n:UInt64) (Aj (Iu (Db m k) 8):UInt64)),(Aj (Iu (Db m k) 8):UInt64),(Aj k:UInt64),(22:UInt64),(Aj k:UInt64),o]:LQ)
def BO:=Ra HT
def Zg:Option (LB×Int):=
(BE z d A).bind λ(c,e)=>
if(Bp e 0)then
some (([]:LB),e)
else
(Dt (Hl z 0)).bind λ_=>
(BO z d A c (Ah (Fc (1:UInt64) (GI.toZ z).toNat) 1)).bind λi=>
some (i,0)
abbrev Bh:=Option (LB×Int)
def KD:Bh:=
some (c,0)
def Uv:=KD
def KO(Fs:Int->LB->Bh)(b:Int)(a:LX)(f:Int)(h:LB):Bh:=
Fs (Ad f 1) h
def Uk Fs:=KO Fs
def Ue(j28:Int->LB->Bh)(vG:Int->LB->Bh)(b:Int)(a:LX)(k:Int32)(f m:Int)(h:LB):Bh:=
if(Ci m (Iu b 8))then
(Dt (Hl (Db 8 m) 0)).bind λ_=>
(Cd h ([(Aj (Bz k (GI.toZ (Db 8 m)).toNat):UInt8)]:LB)).bind λp=>
vG (Ad m 1) p
else
j28 f h
def Lj(Fs:Int->LB->Bh)(b:Int)(a:LX)(k:Int32)(f:Int):Nat->Int->LB->Bh
|0,_,_=>none
|q+1,m,h=>Ue (Uk Fs b a) (Lj Fs b a k f q) b a k f m h
def Ux Fs b a k f:=Lj Fs b a k f Cq
def Tz(j26:Int32->Int->Int->LB->Bh)(b:Int)(a:LX)(f:Int)(g:LB)(k:Int32):Bh:=
j26 k f 0 g
def KU Fs b a:=Tz (Ux Fs b a) b a
def Uo(j25:Int->LB->Int32->Bh)(j30:LB->Bh)(b:Int)(a:LX)(f:Int)(g:LB):Bh:=
if(Ci f (Aa a))then
(Ak a f).bind λn=>
if(geq b 8)then
j25 f g (Ad n 128)
else
j25 f g n
else
j30 g
def Lk:Nat->Int->LB->Bh
|0,_,_=>none
|c+1,d,i=>Uo (KU (Lk c) z e) Uv z e d i
def KL b a:=Lk b a Cq
def Xt(j16:Int->LX->Int->LB->Bh)(b:Int)(a:LX):Bh:=
(Kr b a).bind λo=>
if(Bp o 0)then
some (([]:LB),o)
else
j16 b a 0 ([]:LB)
def JO:=Xt KL
def OF:Option Bool:=
some (geq (Aa c) 4)
def Yf:=OF
def Xk(j6:LB->Option Bool)(Zl:Int->Option Bool)(a:LB)(b:Int):Option Bool:=
if(Ci b (Aa a))then
(Ak a b).bind λ_=>
(Ak a b).bind λf=>
if((Ci f 32)||(Eo f 126))then
some false
else
Zl (Ad b 1)
else
j6 a
def Nu:Nat->Int->Option Bool
|0,_=>none
|z+1,d=>Xk Yf (Nu z) c d
def NQ a:=Nu a Cq
def Yr(j4:LB->Int->Option Bool)(a:LB):Option Bool:=
j4 a 0
def Vz:=Yr NQ
def XB:Option Int:=
some z
def EV:=XB
def FA(j6:Int->Option Int)(Zl:Int->Int->Option Int)(a:List (LB×LB×Unit))(b f:Int):Option Int:=
if(Ci f (Aa a))then
(Ak a f).bind λg=>
Zl (Ad b (Ad (Ad 8 (Aa g.2.1)) (Dg (Aa g.2.1) 1))) (Ad f 1)
else
j6 b
def Sn:Nat->Int->Int->Option Int
|0,_,_=>none
|z+1,c,d=>FA EV (Sn z) O c d
def UU a:=Sn a Cq
def FB(j4:(List (LB×LB×Unit))->Int->Int->Option Int)(a:List (LB×LB×Unit)):Option Int:=
j4 a 4 0
def Rb:=FB UU
def Td(a f:LB):Option Bool:=
(Vz a).bind λb=>
some (!b)
def NG:Option Int:=
some 0
def RO:=NG
def QD:Option Int:=
if l5 then
some 8
else
lu
def Jd:=QD RO
def NK:Option Int:=
cu jh
def Xi:=NK Jd
def OI:Option Int:=
cu (Hl (-1:Int) (0:Int))
def Yz:=OI Xi
def QC(lL:Int->Option Int)(a:List (LB×LB×Unit))(b:Int):Option Int:=
lL (Ad b 1)
def MR lL:=QC lL
def RN(j26:Bool->Option Int)(j23:Int->Option Int)(a:List (LB×LB×Unit))(b:Int)(g:Bool):Option Int:=
if g then
j26 (Hl b 0)
else
j23 b
def Yy lL a:=RN Xi (MR lL a) a
def Yl(j22:Int->Bool->Option Int)(j25:Option Int)(a:List (LB×LB×Unit))(b:Int):Option Int:=
if(Ci b (Aa a))then
(Ak a b).bind λk=>
(Td k.1 k.2.1).bind λg=>
j22 b g
else
j25
def Ni:Nat->Int->Option Int
|0,_=>none
|z+1,c=>Yl (Yy (Ni z) O) Yz O c
def OC a:=Ni a Cq
def OE:Option Int:=
cu jh
def Wz:=OE Jd
def NN:Option Int:=
cu (Hl (-1:Int) (0:Int))
def Yj:=NN Wz
def OK(Ll:Int->Option Int)(a:List (LB×LB×Unit))(f:Int):Option Int:=
Ll (Ad f 1)
def MW Ll:=OK Ll
def OG(j34:Bool->Option Int)(j31:Int->Option Int)(a:List (LB×LB×Unit))(f:Int)(h:Bool):Option Int:=
if h then
j34 (Hl f 0)
else
j31 f
def Yp Ll a:=OG Wz (MW Ll a) a
def Yn(j30:Int->Bool->Option Int)(j33:Option Int)(a:List (LB×LB×Unit))(f:Int):Option Int:=
if(Ci f (Aa a))then
(Ak a f).bind λm=>
(Td m.1 m.2.1).bind λh=>
j30 f h
else
j33
def Nj:Nat->Int->Option Int
|0,_=>none
|z+1,c=>Yn (Yp (Nj z) O) Yj O c
def PT a:=Nj a Cq
def Py(j35:Bool->Option Int)(j19:(List (LB×LB×Unit))->Int->Option Int)(j27:(List (LB×LB×Unit))->Int->Option Int)(u:LB)(a:List (LB×LB×Unit)):Option Int:=
if(Eo (Aa a) 20)then
some 4
else
(Vz u).bind λv=>
if(!v)then
if true then
j35 true
else
j19 a 0
else
(Rb a).bind λw=>
if(Eo (Ad w 8) 100000)then
j35 true
else
j27 a 0
def Jp:=Py Jd OC PT
def Zq:Option LB:=
(Ex (Aj B:UInt64) 4).bind λ(z,_)=>
(Cd c i).bind λd=>
Cd d z
def EB:List (LB×LB×Unit)->LB->Option LB
|[],o=>some o
|c::l,o=>
(Zq o c.1 (Aa c.2.1)).bind λp=>
(Cd p c.2.1).bind λu=>
(XR (Dg (Aa c.2.1) 1) (0:UInt8)).bind λz=>
(Cd u z).bind λv=>
EB l v
def Ts:Option (LB×Int):=
(Jp c O).bind λz=>
if(Bp z 0)then
some (([]:LB),z)
else
(Rb O).bind λd=>
(Zq [] [82,73,70,70] d).bind λe=>
(Cd e c).bind λi=>
(EB O i).bind λj=>
some (j,0)
def UA:Option (LB×Int):=
(If z d A e).bind λc=>
if(Bp c 0)then
some (([]:LB),c)
else
(Zg z d A).bind λ(i,j)=>
(JO d e).bind λ(B,C)=>
(Ts ([87,65,86,69]:LB) ([(([102,109,116,32]:LB),i,()),(([100,97,116,97]:LB),B,())]:List (LB×LB×Unit))).bind λ(D,E)=>
some (D,E)
def GJ:Option (LB×Int):=
(Jw c i).bind λ(z,d,e,j,A)=>
if(Bp A 0)then
some (([]:LB),A)
else
(UA z d e j).bind λ(B,C)=>
some (B,C)
def Yu:Option Int:=
(Jw c i).bind λ(z,d,e,j,A)=>
some A
def Ac:Option Bool:=
(Jw c i).bind λ(z,d,e,j,A)=>
(GJ c i).bind λ(C,D)=>
(Yu c i).bind λE=>
some (((((geq E B)&&(geq A B))&&(geq D B))&&((geq B 0)==(Eo (Aa j) 0)))&&((geq B 0)==(Eo (Aa C) 0)))
def Cs:Option Bool:=
(Cl [120]).bind λb=>
if(Ci (Aa b) 40)then
some false
else
(Cd [] b).bind λf=>
(Ak f (Ah (Aa f) 6)).bind λg=>
(Ew f (Ah (Aa f) 6) (Qo g 1)).bind λh=>
(Ac b [120] 0).bind λk=>
if(!k)then
some false
else
(Ac b [] 26).bind λm=>
if(!m)then
some false
else
(Ac b [121] 26).bind λn=>
if(!n)then
some false
else
(Cd b [0]).bind λo=>
(Ac o [120] 38).bind λp=>
if(!p)then
some false
else
(Ck b 0 (Ah (Aa b) 1)).bind λu=>
(Ac u [120] 24).bind λv=>
if(!v)then
some false
else
Ac h [120] 22
noncomputable def Gg(a b:LB)(w y aa:Bool)(m n v f o p g h u k:Int):Option Bool:=
(Cd ([]:LB) a).bind λac=>
(Ak ac f).bind λ_=>
(Ak ac f).bind λae=>
(Ak ac f).bind λ_=>
(Ew ac f (Qo ae 1)).bind λaf=>
(Ck a 0 (Ah (Aa a) 1)).bind λaw=>
(AE (λx:LB=>Cm x) (aw)).bind λ(ds,dt,du,dv,dw,ag)=>
(Ck b 0 29).bind λax=>
(AE (λx:LB=>Cm x) (ax)).bind λ(dx,dy,dz,fa,fb,ah)=>
(XR (100001:Int) (0:UInt8)).bind λay=>
(Dt (geq (100001:Int) (100001:Int))).bind λ_=>
(AE (λx:LB=>Cm x) (ay)).bind λ(fc,fd,fe,ff,fg,ai)=>
(Dt (decide ((Aa b)<= (Aa b)/\ (Aa b)<=Aa b))).bind λ_=>
(Ck b 0 (Aa b)).bind λaz=>
(Cd az ([(1:UInt8),(2:UInt8),(3:UInt8)]:LB)).bind λaj=>
(Dt (decide (((Aa b)-(0:Int))<Aa aj))).bind λ_=>
(AE (λx:LB=>Cm x) (aj)).bind λ(ak,al,am,an,ao,ap)=>
(AE (λ_:Unit=>Cs) ()).bind λba=>
if(((ba&&w)&&y)&&aa)then
(Ck af 0 (Ah (Aa a) 1)).bind λbb=>
(AE (λx:LB×LB×Int=>Ac x.1 x.2.1 x.2.2) (bb,([]:LB),(22:Int))).bind λbc=>
if(bc&&((((((((((geq m 0)&&(geq n 22))&&(geq g 22))&&(geq h 30))&&(geq k (Aa b)))&&(geq ag 24))&&(geq ah 24))&&(geq ai 4))&&(geq ap 0))&&((geq ak p)&&((geq al g)&&((geq am h)&&((geq an u)&&((geq ao k)&&true)))))))then
(Dt (decide ((Aa a)<= (Aa a)/\ (Aa a)<=Aa a))).bind λ_=>
(Ck a 0 (Aa a)).bind λbd=>
(Cd bd ([65,80,69,84,65,71,69,88]:LB)).bind λaq=>
(Dt (decide (((Aa a)-(0:Int))<Aa aq))).bind λ_=>
(AE (λx:LB×LB×Int=>Ac x.1 x.2.1 x.2.2) (aq,([]:LB),(38:Int))).bind λbe=>
some be
else
some false
else
if(false&&((((((((((geq m 0)&&(geq n 22))&&(geq g 22))&&(geq h 30))&&(geq k (Aa b)))&&(geq ag 24))&&(geq ah 24))&&(geq ai 4))&&(geq ap 0))&&((geq ak p)&&((geq al g)&&((geq am h)&&((geq an u)&&((geq ao k)&&true)))))))then
(Dt (decide ((Aa a)<= (Aa a)/\ (Aa a)<=Aa a))).bind λ_=>
(Ck a 0 (Aa a)).bind λbf=>
(Cd bf ([65,80,69,84,65,71,69,88]:LB)).bind λar=>
(Dt (decide (((Aa a)-(0:Int))<Aa ar))).bind λ_=>
(AE (λx:LB×LB×Int=>Ac x.1 x.2.1 x.2.2) (ar,([]:LB),(38:Int))).bind λbg=>
some bg
else
some false
noncomputable def Bv:=Gg
noncomputable def Bl(j12:LB->LB->Bool->Bool->Bool->Int->Int->Int->Int->Int->Int->Int->Int->Int->Int->Option Bool)(lH:Int->Option Bool)(a b:LB)(w y aa:Bool)(m n v f o p g h u k ab:Int):Option Bool:=
if(Ci ab o)then
(Cd ([]:LB) a).bind λac=>
(Ak ac ab).bind λ_=>
(Ak ac ab).bind λae=>
(Ak ac ab).bind λ_=>
(Ew ac ab (Qo ae 16)).bind λaf=>
(AE (λx:LB×LB×Int=>Ac x.1 x.2.1 x.2.2) (af,([]:LB),(22:Int))).bind λbh=>
if(!bh)then
some false
else
lH (Ad ab 1)
else
j12 a b w y aa m n v f o p g h u k
noncomputable def Bm(a b:LB)(w y aa:Bool)(m n v f o p g h u k:Int):Nat->Int->Option Bool
|0,_=>none
|q+1,ab=>Bl Bv (Bm a b w y aa m n v f o p g h u k q) a b w y aa m n v f o p g h u k ab
noncomputable def Fz a b w y aa m n v f o p g h u k:=Bm a b w y aa m n v f o p g h u k Cq
noncomputable def Ea(j10:LB->LB->Bool->Bool->Bool->Int->Int->Int->Int->Int->Int->Int->Int->Int->Int->Int->Option Bool)(a b:LB)(w y:Bool)(m n v f o p g h u k:Int)(aa:Bool):Option Bool:=
j10 a b w y aa m n v f o p g h u k f
noncomputable def Gq:=Ea Fz
noncomputable def Cw(j9:LB->LB->Bool->Bool->Int->Int->Int->Int->Int->Int->Int->Int->Int->Int->Bool->Option Bool)(a b:LB)(w:Bool)(m n v f o p g h u k:Int)(y:Bool):Option Bool:=
(Cd ([]:LB) a).bind λad=>
(Ak ad 22).bind λ_=>
(Ak ad 22).bind λbi=>
(Ak ad 22).bind λ_=>
(Ew ad 22 (Ad bi 1)).bind λau=>
(Ck a 0 (Ah f 1)).bind λbj=>
(AE (λx:LB×LB×Int=>Ac x.1 x.2.1 x.2.2) (bj,([]:LB),(24:Int))).bind λbk=>
if bk then
(AE (λx:LB×LB×Int=>Ac x.1 x.2.1 x.2.2) (au,([]:LB),(22:Int))).bind λbl=>
if bl then
(Ck au 0 f).bind λbm=>
(AE (λx:LB×LB×Int=>Ac x.1 x.2.1 x.2.2) (bm,([]:LB),(22:Int))).bind λbn=>
if bn then
(Ck a 0 f).bind λbp=>
(AE (λx:LB×LB×Int=>Ac x.1 x.2.1 x.2.2) (bp,([]:LB),(24:Int))).bind λbq=>
if bq then
(Ck a 0 (Ad f 4)).bind λbr=>
(AE (λx:LB×LB×Int=>Ac x.1 x.2.1 x.2.2) (br,([]:LB),(24:Int))).bind λbs=>
j9 a b w y m n v f o p g h u k bs
else
j9 a b w y m n v f o p g h u k false
else
j9 a b w y m n v f o p g h u k false
else
j9 a b w y m n v f o p g h u k false
else
j9 a b w y m n v f o p g h u k false
noncomputable def Eh:=Cw Gq
noncomputable def Cy(j8:LB->LB->Bool->Int->Int->Int->Int->Int->Int->Int->Int->Int->Int->Bool->Option Bool)(a b:LB)(m n v f o p g h u k:Int)(w:Bool):Option Bool:=
(AE (λx:LB×LB×Int=>Ac x.1 x.2.1 x.2.2) (([]:LB),([]:LB),(24:Int))).bind λbt=>
if bt then
(AE (λx:LB×LB×Int=>Ac x.1 x.2.1 x.2.2) (([(82:UInt8),(73:UInt8),(70:UInt8),(70:UInt8)]:LB),([120]:LB),(12:Int))).bind λbu=>
if bu then
(AE (λx:LB×LB×Int=>Ac x.1 x.2.1 x.2.2) (([(73:UInt8),(68:UInt8),(51:UInt8)]:LB),([120]:LB),(24:Int))).bind λbv=>
if bv then
(Ck a 0 21).bind λbw=>
(AE (λx:LB×LB×Int=>Ac x.1 x.2.1 x.2.2) (bw,([120]:LB),(24:Int))).bind λbx=>
if bx then
(Ck a 0 22).bind λbz=>
(AE (λx:LB×LB×Int=>Ac x.1 x.2.1 x.2.2) (bz,([120]:LB),(26:Int))).bind λda=>
if da then
(Ck b 0 22).bind λdb=>
(AE (λx:LB×LB×Int=>Ac x.1 x.2.1 x.2.2) (db,([]:LB),(26:Int))).bind λdc=>
if dc then
(Ck b 0 22).bind λdd=>
(AE (λx:LB×LB×Int=>Ac x.1 x.2.1 x.2.2) (dd,([121]:LB),(24:Int))).bind λde=>
if de then
(Ck b 0 29).bind λdf=>
(AE (λx:LB×LB×Int=>Ac x.1 x.2.1 x.2.2) (df,([121]:LB),(24:Int))).bind λdg=>
if dg then
(Ck b 0 30).bind λdh=>
(AE (λx:LB×LB×Int=>Ac x.1 x.2.1 x.2.2) (dh,([121]:LB),(26:Int))).bind λdi=>
if di then
(Ck b 0 30).bind λdj=>
(AE (λx:LB×LB×Int=>Ac x.1 x.2.1 x.2.2) (dj,([120]:LB),(24:Int))).bind λdk=>
j8 a b w m n v f o p g h u k dk
else
j8 a b w m n v f o p g h u k false
else
j8 a b w m n v f o p g h u k false
else
j8 a b w m n v f o p g h u k false
else
j8 a b w m n v f o p g h u k false
else
j8 a b w m n v f o p g h u k false
else
j8 a b w m n v f o p g h u k false
else
j8 a b w m n v f o p g h u k false
else
j8 a b w m n v f o p g h u k false
else
j8 a b w m n v f o p g h u k false
noncomputable def Eb:=Cy Eh
noncomputable def Cx(j7:LB->LB->Int->Int->Int->Int->Int->Int->Int->Int->Int->Int->Bool->Option Bool):Option Bool:=
(AE (λx:LB=>Cl x) (([]:LB))).bind λa=>
(AE (λx:LB=>Cl x) (([120]:LB))).bind λb=>
(AE (λx:LB=>Cm x) (a)).bind λ(m,n,v,f,o,dl)=>
(AE (λx:LB=>Cm x) (b)).bind λ(p,g,h,u,k,dm)=>
if(((((((Bp dl 0)||(Bp dm 0))||(Bp v 22))||(Ci f 30))||(Eo f (Ah (Aa a) 5)))||(Bp o (Aa a)))||(Ci (Aa b) 42))then
some false
else
(XR (65:Int) (0:UInt8)).bind λav=>
(Dt (geq (65:Int) (65:Int))).bind λ_=>
(AE (λx:LB×LB×Int=>Ac x.1 x.2.1 x.2.2) (a,av,(2:Int))).bind λdn=>
if dn then
(AE (λx:LB×LB×Int=>Ac x.1 x.2.1 x.2.2) (([]:LB),av,(2:Int))).bind λdp=>
if dp then
(XR (100001:Int) (0:UInt8)).bind λdq=>
(Dt (geq (100001:Int) (100001:Int))).bind λ_=>
(AE (λx:LB×LB×Int=>Ac x.1 x.2.1 x.2.2) (dq,([]:LB),(4:Int))).bind λdr=>
j7 a b m n v f o p g h u k dr
else
j7 a b m n v f o p g h u k false
else
j7 a b m n v f o p g h u k false
noncomputable def Fb:=Cx Eb
end Go.Pl
