/- A part of a proof (see the text that ends in Proof). No conditions. -/
import Derived.Test.YtfndponlpdejaaaGreatDoorMpBA
set_option linter.unusedVariables false
namespace Go.Pl
open Go Go.Lv
abbrev Jz3(R:Type):=Int->Int->Int->R
abbrev Jz4(R:Type):=Int->Int->Int->Int->R
abbrev Jz5(R:Type):=Int->Int->Int->Int->Int->R
abbrev Jz6(R:Type):=Int->Int->Int->Int->Int->Int->R
abbrev Jz7(R:Type):=Int->Int->Int->Int->Int->Int->Int->R
abbrev LB:=List UInt8
abbrev LI:=List Int
abbrev LX:=List Int32
abbrev LU:=List UInt32
abbrev LQ:=List UInt64
abbrev Box:=List LB
abbrev Bq6:=UInt64->Option UInt64
abbrev Bqv:=UInt64->Int->Option UInt64
abbrev Bot:=Option Int
abbrev Bp3:=Int->Option Int
abbrev Bp8:=Int->LX->Option (LX)
abbrev Bou:=List (UInt8×Int×Unit)
abbrev Bp9:=Int->Int->Option Int
abbrev Bqa:=Int->LI->Option (LI)
abbrev Bqx:=Bool->Option Int
abbrev Bov:=List (Int×Int×UInt64×UInt64×Unit)
abbrev Bqr:=List LI
variable(R:LI)(c I:LB)(z d j E F:Int)(M:LI)(O:Int)(i:LB)(D:Bool)(l l9:Int)(o8:Jz4 (LB->LB->LX-> (List LB)->LB->Bool->Int->Option Bool))(N Z l6 Bng:Int)(C Y:LB)(e:LX)(t:Box)(G:LB)(J:Bool)(B T Bnu:Int)(Bnv:Box)(Bod Boe Bof:Int)(Bmy:LB)(Bog:Bool)(Boh:Int)(Bnw:LB)(U:LX)(Bnp:LB)(Boi:Bool)(Bna:Int)(Boj:LB)(Bnx:LI)(Bm4:Bq6)(Bm5:Bqv)(Bny:Int)(Bnm:LB)(Bok:Int)(A:UInt64)(o7:Int)(V:UInt32)(l7:UInt64)(Bmz:LB)(Bmu Bnz Bns:Int)(Bnb Bnh:UInt64)(Bol:LB)(L:Int32)(l5:Int)(o9 p9:LX)(Bmx:Int32)(Bm1:Bot)(Bm2:Bp3)(Bom Bon:Int32)(Bnc:LX)(Bnd:Int)(Bop:Bp8)(X:LU)(q9 Bmv:Int)(Bne:LX)(Bn6:Int)(Bni:LX->Option (LX))(Bm6:Bp8)(Bm0:LX)(p8 Bn0:Int)(w9:LX)(P:Bou)(Bnn Bn7:Int)(Bm7:Bp9)(Bnj:LI)(Bnf Bmw:Int)(Bnq:UInt64)(Bm8:Int)(Bn1:LX)(Boq:Bp3)(Bn2:LI)(Bn8 Bnt:Int)(Bm9:UInt8)(Bn9:UInt64)(r9:Int)(Boa:Box)(Bob Bn3:Int)(Bnk:Bool)(Bor:Bqa)(Boc:LI)(Bn4:UInt64)(Bos:LQ)(Bm3:Bqx)(Bnl:Bool)(Bnr:Int)(Bno:Bov)(Bn5:Bqr)
abbrev Boy:=Option Bool
def SI:Boy:=some (((Ec (Ac P) 60)&&(vA (Ac P) 200))||(Ec (Ac P) 210))
def Xq:Boy:=if Bnk then
some ((Nw r9 0)&&(vA r9 100000))
else
if(geq Bm9 3)then
some (geq r9 0)
else
some false
def bV:=Xq
def bI(j2:UInt8->Int->Bool->Option Bool)(a:UInt8)(b:Int):Boy:=if(geq a 1)then
j2 a b (geq a 1)
else
j2 a b (geq a 2)
def eL:=bI bV
def CQ:Boy:=(eL Bm9 r9).bind λz=>some (!z)
def Bii:Bot:=some 0
def Bje:=Bii
def Bjf:Bot:=if Bnk then
some 2
else
Bm1
def Bjj:=Bjf Bje
def Bij:Bot:=Bm3 Bnl
def Bap:=Bij Bjj
def Bj3:Bot:=Bm3 (Nw (-1:Int) (0:Int))
def Bas:=Bj3 Bap
def YI(aQ:Bp3)(a:Bou)(b:Int):Bot:=aQ (Af b 1)
def YV aQ:=YI aQ
def YQ(j18:Bqx)(j15:Bp3)(a:Bou)(b:Int)(g:Bool):Bot:=if g then
j18 (Nw b 0)
else
j15 b
def KZ aQ a:=YQ Bap (YV aQ a) a
def Vp(j14:Int->Bool->Option Int)(j17:Bot)(a:Bou)(b:Int):Bot:=if(Cj b (Ac a))then(Aj a b).bind λh=>(CQ h.1 h.2.1).bind λg=>j14 b g
else
j17
def Fc:Nat->Int->Option Int
|0,_=>none
|z+1,c=>Vp (KZ (Fc z) P) Bas P c
def Bj8 a:=Fc a As
abbrev Bp6:=(List (UInt8×Int×Unit))->Int->Option Int
def Xs(j11:Bp6)(a:Bou):Bot:=if(Ec (Ac a) 200)then
some 4
else
j11 a 0
def Ri:=Xs Bj8
abbrev Boz:=Option (LB×LB×Int×Int×Int×Int×Int×LI×Int×LB×Bool×Int×Int)
def RO:Boz:=if(Ec (Ac c) 64)then
some (([]:LB),([]:LB),0,0,0,0,0,([]:LI),0,([]:LB),false,0,2)
else
some (c,([]:LB),0,0,0,0,0,([]:LI),0,([]:LB),false,0,0)
abbrev Bo2:=Option (LB)
def Lg:Bo2:=(
(Bt ([]:LB) c).bind λz=>some z)
abbrev Bpa:=Option (LI)
def Jm:Bpa:=(
(Bt ([]:LI) R).bind λz=>some z)
abbrev Bpp:=Option (LB×LB×Int×Int×Int×Int×Int×LI×Int×LB×Bool×Int)
def Ew:Bpp:=(Lg I).bind λe=>(Lg i).bind λt=>(Jm M).bind λA=>some (c,e,z,d,j,E,F,A,O,t,D,l)
def YD(b f a g h:Int):Boy:=some (((((((geq b 1)||(geq b 2))&&(Ec f 0))&&(vA f 6))&&(Ec g 0))&&(vA g 1048576))&&(Ec h 0))
def CH:=YD
def XW(j2:Jz5 (Option Bool))(b f a g h:Int):Boy:=if(geq a 8)then
if(geq a 8)then
j2 b f a g h
else
some false
else
if(geq a 16)then
if(geq a 16)then
j2 b f a g h
else
some false
else
if(geq a 24)then
j2 b f a g h
else
some false
def Zn:=XW CH
abbrev Bo8:=Option (Int×Int)
def Un:Bo8:=if((Cj z 1)||(Ec z 1048576))then
some (0,2)
else
some ((jQ 1 (Bs (Bn 256 z) 245)),0)
def NZ:Bo8:=(Un z).bind λ(c,e)=>if(Bj e 0)then
some (0,e)
else
if((Cj d 1)||(Ec d 4000))then
some (0,2)
else(Mt (Bj c 0)).bind λ_=>if(Ec (Bs (Ap (Af d c) 1) c) 1000)then
some (0,4)
else
some ((Bs (Ap (Af d c) 1) c),0)
def aT(k a m f b:Int):Boy:=(Mt (Bj a 0)).bind λ_=>if(Ec b (Bs 4000 a))then
some false
else(NZ f b).bind λ(g,h)=>some ((geq h 0)&&(vA g 1000))
def Um:Bot:=(Zn z d j E F).bind λc=>if(!c)then
some 8
else(aT z d j E F).bind λe=>if(!e)then
some 8
else
some 0
abbrev Bq1:=Option (UInt64×UInt64)
def cA:Bq1:=some ((Af (Af (Bn (Cx A (GI.toZ (32:UInt64)).toNat) (Cx l7 (GI.toZ (32:UInt64)).toNat)) (Cx (Af (Bn (Cx A (GI.toZ (32:UInt64)).toNat) (Gv l7 4294967295)) (Cx (Bn (Gv A 4294967295) (Gv l7 4294967295)) (GI.toZ (32:UInt64)).toNat)) (GI.toZ (32:UInt64)).toNat)) (Cx (Af (Gv (Af (Bn (Cx A (GI.toZ (32:UInt64)).toNat) (Gv l7 4294967295)) (Cx (Bn (Gv A 4294967295) (Gv l7 4294967295)) (GI.toZ (32:UInt64)).toNat)) 4294967295) (Bn (Gv A 4294967295) (Cx l7 (GI.toZ (32:UInt64)).toNat))) (GI.toZ (32:UInt64)).toNat)),(Bn A l7))
def ZJ:Bq1:=(cA A l7).bind λ(z,c)=>some (z,c)
def Xe:Bpa:=some R
def Qe:=Xe
abbrev Bq3:=LI->Option (LI)
def Ma(j10:Bq3)(bk8:Bqa)(b:Int)(a:LI):Bpa:=if(Cj b (Ac a))then(
(pE (Ac a) b (Ac a)).bind λ_=>(pE (Ac a) 0 b).bind λ_=>bk8 (Af b (iI ((Ac a)-b) (jS a 0 (b-(0:Int))).length)) (JI a b ((Ac a)-b) (jS a 0 (b-(0:Int)))))
else
j10 a
def Hq:Nat->Int->LI->Option (LI)
|0,_,_=>none
|q+1,b,a=>Ma Qe (Hq q) b a
def Ac1:=Hq As
def AG:Bpa:=(mkI (Ae Bn4:Int) (0:Int)).bind λz=>(Mt (geq (Ae Bn4:Int) (Ae Bn4:Int))).bind λ_=>Bor (iI (Ac z) Boc.length) (dJ z Boc)
def Ac0:=AG Ac1
def Zq(j7:LI->UInt64->Option (LI))(f:LI)(h:Int):Bpa:=(ZJ (Ae (Ac f):UInt64) (Ae h:UInt64)).bind λ(m,g)=>if((Ec m 0)||(Ec g 9223372036854775807))then
none
else
j7 f g
def Ac2:=Zq Ac0
def AD(j6:LI->Int->Option (LI))(f:LI)(h:Int):Bpa:=if(Cj h 0)then
none
else
j6 f h
def Wz:=AD Ac2
def Bj5:Bpa:=some R
def Abj:=Bj5
def Ks(j16:Bq3)(bD:Bqa)(a:Bqr)(g:Int)(f:LI):Bpa:=if(Cj g (Ac a))then(Aj a g).bind λn=>(Bt f n).bind λo=>bD (Af g 1) o
else
j16 f
def Ha:Nat->Int->LI->Option (LI)
|0,_,_=>none
|z+1,c,d=>Ks Abj (Ha z) Bn5 c d
def Xi a:=Ha a As
def Xf(j14:(List LI)->Int->LI->Option (LI))(a:Bqr)(p:LI):Bpa:=j14 a 0 p
def Xj:=Xf Xi
def Xg(j13:(List LI)->LI->Option (LI))(b:Int)(a:Bqr):Bpa:=if(Ec (Ap b (Ap (0:Int) (0:Int))) 0)then(pE 0 0 0).bind λ_=>(mkI (Ap b (Ap (0:Int) (0:Int))) (0:Int)).bind λu=>(Bt ([]:LI) u).bind λk=>(pE (Ac k) 0 0).bind λ_=>j13 a (jS k 0 ((0:Int)-(0:Int)))
else
j13 a ([]:LI)
def Abi:=Xg Xj
def Xk(j12:Int-> (List LI)->Option (LI))(a:Bqr)(b:Int):Bpa:=if(Cj b 0)then
none
else
j12 b a
def Abh:=Xk Abi
def Ly(j11:(List LI)->Int->Option (LI))(bk9:Int->Int->Option (LI))(a:Bqr)(b h:Int):Bpa:=if(Cj h (Ac a))then(Aj a h).bind λm=>if(Cj (Af b (Ac m)) 0)then
none
else
bk9 (Af b (Ac m)) (Af h 1)
else
j11 a b
def Hp:Nat->Int->Int->Option (LI)
|0,_,_=>none
|z+1,c,d=>Ly Abh (Hp z) Bn5 c d
def Abs a:=Hp a As
def AA(j9:(List LI)->Int->Int->Option (LI))(a:Bqr):Bpa:=j9 a 0 0
def Wj:=AA Abs
def gR:Bpa:=(Wj ([R,M]:Bqr)).bind λz=>some z
def kJ:Option (LI×Int):=(NZ z d).bind λ(c,e)=>if(Bj e 0)then
some (([]:LI),e)
else(Un z).bind λ(i,j)=>(Wz ([i]:LI) (Ap c 1)).bind λl=>(gR l ([(Ap d (Bn (Ap c 1) i))]:LI)).bind λt=>some (t,0)
def Fk:Option (LI×Int):=(Um z d j E F).bind λc=>if(Bj c 0)then
some (([]:LI),c)
else(kJ E F).bind λ(e,i)=>some (e,i)
def Vv(a f g h k:Int)(b:LB):Bot:=if((b==([]:LB)) !=(geq a 1))then
some 26
else
some 0
def Bi2 :Bot:=some 0
def Bhk:=Bi2
def VR:Bot:=if(Cj Bmw (Ac Bnj))then(Aj Bnj Bmw).bind λz=>if((Cj z 5)||(Ec z Bnf))then
some 8
else
Bm7 (Ap Bnf z) (Af Bmw 1)
else
Bm1
def CC:Nat->Int->Int->Option Int
|0,_,_=>none
|z+1,c,d=>VR Bhk (CC z) R c d
def Bh2 a:=CC a As
abbrev Bqf:=LI->Int->Int->Option Int
def UU(j4:Bqf)(a:LI):Bot:=if((geq (Ac a) 0)||(Ec (Ac a) 1000))then
some 8
else
j4 a 100000 0
def Zi:=UU Bh2
def Bdf(y:Int)(o p:LB)(h b f k m:Int)(g:LI)(a:Int)(n:LB)(u:Bool)(v:Int):Boy:=some (vA (Ac n) y)
def cC:=Bdf
def OP(j8:Int->LB->LB->Jz5 (LI->Int->LB->Bool->Int->Option Bool))(nk:Int->Int->Option Bool)(w:LI)(o p:LB)(h b f k m:Int)(g:LI)(a:Int)(n:LB)(u:Bool)(v y aa:Int):Boy:=if(Cj aa (Ac w))then(Aj w aa).bind λac=>nk (Af y (Bs (Bn (Bn ac b) f) 8)) (Af aa 1)
else
j8 y o p h b f k m g a n u v
def Xn:Nat->Int->Int->Option Bool
|0,_,_=>none
|e+1,t,A=>OP cC (Xn e) R c I z d j E F M O i D l t A
def Bdu w o p h b f k m g a n u v:=Xn w o p h b f k m g a n u v As
def cB(j6:LI->LB->LB->Jz5 (LI->Int->LB->Bool->Int->Int->Int->Option Bool))(o p:LB)(h b f k m:Int)(g:LI)(a:Int)(n:LB)(u:Bool)(v:Int)(ab:LI):Boy:=if(geq (Ac g) 0)then
some ((geq a 0)&&(geq (Ac n) 0))
else(Zi g).bind λad=>if((((Bj ad 0)||(Bj (Ac g) (Ac ab)))||(Cj a 0))||(Ec a (Ac ab)))then
some false
else(Bo ab 0 a).bind λw=>j6 w o p h b f k m g a n u v 0 0
def Bds:=cB Bdu
def cH(j5:LB->LB->Jz5 (LI->Int->LB->Bool->Int->LI->Option Bool))(o p:LB)(h b f k m:Int)(g:LI)(a:Int)(n:LB)(u:Bool)(v:Int):Boy:=if((geq h 0)&&((geq b 0)&&((geq f 0)&&((geq k 0)&&((geq m 0)&&true)))))then
some (((geq (Ac g) 0)&&(geq a 0))&&(geq (Ac n) 0))
else(Fk h b f k m).bind λ(ab,ae)=>if(Bj ae 0)then
some false
else(Vv h b f k m o).bind λaf=>if(Bj af 0)then
some false
else
j5 o p h b f k m g a n u v ab
def LC:=cH Bds
def Qb:Boy:=some (c==I)
def To:Boy:=if(Nw (Ac c) (Ac I))then(Bo c 0 (Ac I)).bind λz=>(Qb z I).bind λd=>some d
else
some false
abbrev Tq:=Option (Int×Int)
def Bik:Tq:=some (z,0)
def Bb0:=Bik
def LM(j6:Int->Tq)(Se:Int->Int->Tq)(a:LB)(b f:Int):Tq:=if(Cj f (Ac a))then(Aj a f).bind λg=>if(Ec g 127)then
some (0,12)
else
Se (K4 (Ed b (GI.toZ (7:UInt64)).toNat) (Ae g:Int)) (Af f 1)
else
j6 b
def Vl:Nat->Int->Int->Tq
|0,_,_=>none
|z+1,d,e=>LM Bb0 (Vl z) c d e
def Az3 a:=Vl a As
def YP(j4:LB->Int->Int->Tq)(a:LB):Tq:=if(Bj (Ac a) 4)then
some (0,2)
else
j4 a 0 0
def ZC:=YP Az3
abbrev Ox:=Option (Int×Int)
def Bdm:Ox:=if(Ec r9 4000)then
some (0,4)
else
if(Cj (Ac c) r9)then
some (0,24)
else
if(geq Bm9 16)then(Bo c (Ap r9 10) r9).bind λz=>(Bo z 0 3).bind λd=>if(d !=([51,68,73]:LB))then
some (0,12)
else(Bo z 3 (Ac z)).bind λe=>(Bo c 3 10).bind λi=>(Qb e i).bind λj=>if(!j)then
some (0,12)
else
some (r9,0)
else
some (r9,0)
def bO:=Bdm
def Bdr(j8:LB->UInt8->Int->Ox)(a:LB)(g:Int)(b:UInt8):Ox:=if(geq b 16)then
j8 a b (Af (Af g 10) 10)
else
j8 a b (Af g 10)
def cK:=Bdr bO
def Bdb(j7:LB->Int->UInt8->Ox)(a:LB)(g:Int)(b:UInt8)(m:Bool):Ox:=if m then
some (0,12)
else
j7 a g b
def bH:=Bdb cK
def cJ(j6:LB->Int->UInt8->Bool->Ox)(a:LB)(f b:UInt8):Ox:=(Bo a 6 10).bind λaa=>(ZC aa).bind λ(g,ab)=>if(Bj ab 0)then
if true then
j6 a g b true
else
if(geq b 0)then
j6 a g b (!((Nw f 2)&&(vA f 4)))
else
if(geq b 16)then
j6 a g b (!(geq f 4))
else
j6 a g b (!false)
else(Aj a 4).bind λac=>if(Bj ac 0)then
j6 a g b true
else
if(geq b 0)then
j6 a g b (!((Nw f 2)&&(vA f 4)))
else
if(geq b 16)then
j6 a g b (!(geq f 4))
else
j6 a g b (!false)
def bS:=cJ bH
def OR(j5:LB->UInt8->UInt8->Ox)(a:LB):Ox:=(To a ([(73:UInt8),(68:UInt8),(51:UInt8)]:LB)).bind λn=>if(!n)then
some (0,6)
else
if(Cj (Ac a) 10)then
some (0,24)
else(Aj a 3).bind λf=>(Aj a 5).bind λb=>(
(
(
j5 a f b)))
def dS:=OR bS
abbrev QJ:=Option (UInt64×Int)
def Agu:QJ:=some (A,0)
def Bcv:=Agu
def kY(j6:UInt64->QJ)(Se:UInt64->Int->QJ)(a:LB)(f:UInt64)(b:Int):QJ:=if(Cj b (Ac a))then(Aj a b).bind λg=>(Mt (Nw (Bn 8 b) 0)).bind λ_=>Se (K4 f (Ed (Ae g:UInt64) (GI.toZ (Bn 8 b)).toNat)) (Af b 1)
else
j6 f
def QU:Nat->UInt64->Int->QJ
|0,_,_=>none
|z+1,d,e=>kY Bcv (QU z) c d e
def Bes a:=QU a As
def yY(j4:LB->UInt64->Int->QJ)(a:LB):QJ:=if((Cj (Ac a) 1)||(Ec (Ac a) 8))then
some (0,2)
else
j4 a 0 0
def wS:=yY Bes
abbrev Bpt:=Option (UInt64×Int)
def pQ:Bpt:=if(((Cj d 1)||(Ec d 8))||(Cj z 0))then
some (0,2)
else
if(Ec z (Ap (Ac c) d))then
some (0,24)
else(Bo c z (Af z d)).bind λe=>(wS e).bind λ(i,j)=>some (i,j)
def B_:Boy:=if(geq o7 8)then
some true
else(Mt (Nw (Bn 8 o7) 0)).bind λ_=>some (geq (Cx A (GI.toZ (Bn 8 o7)).toNat) 0)
abbrev QH:=Option (LB×Int)
def Be4:QH:=some (c,0)
def wA:=Be4
def kT(j6:LB->QH)(Se:Int->LB->QH)(f:UInt64)(g:LB)(a:Int)(b:LB):QH:=if(Cj a (Ac g))then(Mt (Nw (Bn 8 a) 0)).bind λ_=>(Aj b a).bind λ_=>(Rn b a (Ae (Cx f (GI.toZ (Bn 8 a)).toNat):UInt8)).bind λk=>Se (Af a 1) k
else
j6 b
def RL:Nat->Int->LB->QH
|0,_,_=>none
|z+1,c,d=>kT wA (RL z) A Bmz c d
def Beb f g:=RL f g As
def xJ(j4:UInt64->LB->Int->LB->QH)(f:UInt64)(h:Int):QH:=if((Cj h 1)||(Ec h 8))then
some (([]:LB),2)
else(B_ f h).bind λm=>if(!m)then
some (([]:LB),16)
else(mkI h (0:UInt8)).bind λg=>(Mt (geq h h)).bind λ_=>j4 f g 0 g
def NP:=xJ Beb
def Ae5 (g:LB):Bo2:=some g
def J6:=Ae5
abbrev Bqc:=LB->Option (LB)
abbrev Bqo:=Int->LB->Option (LB)
def rV(j6:Bqc)(Se:Bqo)(a b:Int)(f:UInt64)(h:Int)(g:LB):Bo2:=if(Cj h (Ac ([(2000:UInt64),(Ae (Af a 32):UInt64),(Ae b:UInt64),f,(0:UInt64),(0:UInt64)]:LQ)))then(Aj ([(2000:UInt64),(Ae (Af a 32):UInt64),(Ae b:UInt64),f,(0:UInt64),(0:UInt64)]:LQ) h).bind λ_=>(Aj ([(2000:UInt64),(Ae (Af a 32):UInt64),(Ae b:UInt64),f,(0:UInt64),(0:UInt64)]:LQ) h).bind λk=>(NP k 4).bind λ(m,o)=>(Bt g m).bind λn=>Se (Af h 1) n
else
j6 g
def QO:Nat->Int->LB->Option (LB)
|0,_,_=>none
|c+1,e,i=>rV J6 (QO c) z d A e i
def Bhe a b f:=QO a b f As
def L5(j4:Int->Int->UInt64->Int->LB->Option (LB))(a b:Int)(f:UInt64):Bo2:=j4 a b f 0 ([(65:UInt8),(80:UInt8),(69:UInt8),(84:UInt8),(65:UInt8),(71:UInt8),(69:UInt8),(88:UInt8)]:LB)
def zM:=L5 Bhe
abbrev Bq2:=Option (Int×Int×Bool)
def eX:Bq2:=(pQ c 12 4).bind λ(z,d)=>(pQ c 16 4).bind λ(e,i)=>if(((Cj z 32)||(Ec z 3032))||(Ec e 1000))then
some (0,0,false)
else(zM (Ap (Ae z:Int) 32) (Ae e:Int) A).bind λj=>(Qb c j).bind λl=>some ((Ap (Ae z:Int) 32),(Ae e:Int),l)
def zQ:Bo8:=(To c ([(65:UInt8),(80:UInt8),(69:UInt8),(84:UInt8),(65:UInt8),(71:UInt8),(69:UInt8),(88:UInt8)]:LB)).bind λz=>if(!z)then
some (0,6)
else
if(Cj (Ac c) 32)then
some (0,24)
else(Bo c 0 32).bind λd=>(eX d 2684354560).bind λ(e,i,j)=>if(!j)then
some (0,12)
else
if(Cj (Ac c) (Af e 64))then
some (0,24)
else(Bo c (Ap (Af e 64) 32) (Af e 64)).bind λl=>(zM e i 2147483648).bind λt=>(Qb l t).bind λA=>if(!A)then
some (0,12)
else
some ((Af e 64),0)
def JV:Bo8:=(dS c).bind λ(z,d)=>if(Bj d 6)then
some (z,d)
else(zQ c).bind λ(e,i)=>some (e,i)
def FZ(b:List UInt8):Nat->Int->Option (Int×Int)
  |0,_=>none
  |q+1,x=>Option.bind (Bo b x (Ac b)) λs=>Option.bind (JV s) λr=>
    if geq r.2 (6:Int)=true then some (x,0)
    else if(geq r.2 (0:Int)&&Ec (Af x r.1) (4000:Int))=true then some (0,4)
    else if Bj r.2 (0:Int)=true then some (0,r.2)
    else FZ b q (Af x r.1)
def Rv(b:List UInt8):Bo8:=FZ b As 0
def Ao:Option (Bool×Int):=some (false,z)
def Kh:Boy:=if(Nw (Ac c) (Ac I))then(Bo c 0 (Ac I)).bind λz=>some (z==I)
else
some false
def Oc:Boy:=(Kh c I).bind λz=>some z
def Bmi:Boy:=some false
def Bdj:=Bmi
abbrev Bql:=Int->Option Bool
def FK(j6:Boy)(Se:Bql)(a:LB)(b:Int):Boy:=if(Cj b 2)then(Aj ([([73,68,51]:LB),([65,80,69,84,65,71,69,88]:LB)]:Box) b).bind λf=>if(Cj (Ac a) (Ac f))then(Oc f a).bind λg=>if g then
some true
else
Se (Af b 1)
else
Se (Af b 1)
else
j6
def Px:Nat->Int->Option Bool
|0,_=>none
|z+1,d=>FK Bdj (Px z) c d
def Bdn a:=Px a As
def cF(j4:LB->Int->Option Bool)(a:LB):Boy:=j4 a 0
def Zl:=cF Bdn
abbrev Cz:=Option (UInt32×Int)
def Bg2:Cz:=some (V,0)
def fX:=Bg2
def VB(j30:UInt32->Cz)(Bha:UInt32->Int->Cz)(a:LB)(b:LU)(h:UInt32)(m:Int):Cz:=if(Cj m (Ac a))then(Aj a m).bind λp=>(Aj b (GI.toZ (KR (Ae h:UInt8) p))).bind λ_=>(Aj b (GI.toZ (KR (Ae h:UInt8) p))).bind λu=>Bha (KR (Cx h (GI.toZ (8:UInt64)).toNat) u) (Af m 1)
else
j30 h
def CA:Nat->UInt32->Int->Cz
|0,_,_=>none
|z+1,d,e=>VB fX (CA z) c X d e
def gQ a b:=CA a b As
def gI(j28:LB->LU->UInt32->Int->Cz)(f:UInt32)(a:LB)(b:LU):Cz:=j28 a b f 0
def Bga:=gI gQ
def gB(j27:UInt32->LB->LU->Cz)(f:UInt32)(a:LB)(b:LU):Cz:=j27 f a b
def gN:=gB Bga
abbrev Bra:=Int->LU->Cz
def Bfo(Hr:Bra)(f:UInt32)(a:LB)(g:Int)(o:LU):Cz:=Hr (Af g 1) o
def Bh9 Hr:=Bfo Hr
def Bgy(j24:Bra)(f:UInt32)(a:LB)(g:Int)(k:UInt32)(b:LU):Cz:=(Aj b g).bind λ_=>(Rn b g k).bind λo=>j24 g o
def TP Hr f a:=Bgy (Bh9 Hr f a) f a
def TH(j23:Int->UInt32->LU->Cz)(tX:UInt32->Int->Cz)(f:UInt32)(a:LB)(g:Int)(b:LU)(k:UInt32)(n:Int):Cz:=if(Cj n 8)then
tX (KR (Cx k (GI.toZ (1:UInt64)).toNat) (Bn 3988292384 (Gv k 1))) (Af n 1)
else
j23 g k b
def BL(Hr:Bra)(f:UInt32)(a:LB)(g:Int)(b:LU):Nat->UInt32->Int->Cz
|0,_,_=>none
|q+1,k,n=>TH (TP Hr f a) (BL Hr f a g b q) f a g b k n
def fJ Hr f a g b:=BL Hr f a g b As
def VD(j21:Int->LU->UInt32->Int->Cz)(j26:UInt32->LB->LU->Cz)(f:UInt32)(a:LB)(g:Int)(b:LU):Cz:=if(Cj g 256)then
j21 g b (Ae g:UInt32) 0
else
j26 f a b
def Vs:Nat->Int->LU->Cz
|0,_,_=>none
|z+1,c,d=>VD (fJ (Vs z) V Bmz) gN V Bmz c d
def Bfv f a:=Vs f a As
def mT(j16:UInt32->LB->Int->LU->Cz)(f:UInt32)(a:LB):Cz:=if(Ec (Ac a) 100000)then
some (0,4)
else
j16 f a 0 (List.replicate 256 (0:UInt32))
def tB:=mT Bfv
def LG:Option (UInt32×Int):=(tB 4294967295 c).bind λ(z,d)=>if(Bj d 0)then
some (0,d)
else
some ((J? z),0)
abbrev AH:=Option (Int×Int×Int×Int×Int×Int)
def Bhb:AH:=(Aj R 0).bind λ_=>(Aj R 0).bind λz=>(Aj R 1).bind λ_=>(Aj R 1).bind λc=>(Aj R 2).bind λ_=>(Aj R 2).bind λd=>(Aj R 3).bind λ_=>(Aj R 3).bind λe=>(Aj R 4).bind λ_=>(Aj R 4).bind λi=>(Zn z c d e i).bind λj=>if(!j)then
some (0,0,0,0,0,12)
else(aT z c d e i).bind λl=>if(!l)then
some (0,0,0,0,0,4)
else
some (z,c,d,e,i,0)
def SZ:=Bhb
def TA(j6:LI->AH)(Se:Int->Int->LI->AH)(b:LB)(g f:Int)(a:LI):AH:=if(Cj f 5)then(Aj ([(2:Int),(2:Int),(2:Int),(4:Int),(4:Int)]:LI) f).bind λh=>(pQ b g h).bind λ(v,ae)=>(Aj a f).bind λ_=>(Rn a f (Ae v:Int)).bind λw=>Se (Af g h) (Af f 1) w
else
j6 a
def Vr:Nat->Int->Int->LI->AH
|0,_,_,_=>none
|z+1,d,e,i=>TA SZ (Vr z) c d e i
def gH b:=Vr b As
def iJ(j4:LB->Int->Int->LI->AH)(b:LB):AH:=(Bo b 0 (Du 4 (Ac b))).bind λy=>(Oc ([84,84,65,49]:LB) y).bind λaa=>if(!aa)then
some (0,0,0,0,0,12)
else
if(Cj (Ac b) 22)then
some (0,0,0,0,0,24)
else(pQ b 18 4).bind λ(ab,af)=>(Bo b 0 18).bind λac=>(LG ac).bind λ(ad,ag)=>if(Bj (Ae ad:UInt64) ab)then
some (0,0,0,0,0,22)
else
j4 b 4 0 (List.replicate 5 (0:Int))
def Yi:=iJ gH
abbrev Db:=Option (UInt64×Int)
def Bh0:Db:=some (A,0)
def Bh1:=Bh0
def Bf9(j30:UInt64->Db)(h b:UInt64)(a:LB)(f:LQ):Db:=j30 h
def hH:=Bf9 Bh1
def TR(j29:UInt64->UInt64->LB->LQ->Db)(tN:UInt64->Int->Db)(a:LB)(b:UInt64)(f:LQ)(h:UInt64)(m:Int):Db:=if(Cj m (Ac a))then(Aj a m).bind λp=>Option.bind (Aj f (GI.toZ (KR (Ae (Cx h (GI.toZ (56:UInt64)).toNat):UInt8) p))) λ_=>Option.bind (Aj f (GI.toZ (KR (Ae (Cx h (GI.toZ (56:UInt64)).toNat):UInt8) p))) λu=>tN (KR (Ed h (GI.toZ (8:UInt64)).toNat) u) (Af m 1)
else
j29 h b a f
def BZ:Nat->UInt64->Int->Db
|0,_,_=>none
|z+1,d,e=>TR hH (BZ z) c A Bos d e
def fV a b f:=BZ a b f As
def fM(j27:LB->UInt64->LQ->UInt64->Int->Db)(b:UInt64)(a:LB)(f:LQ):Db:=j27 a b f b 0
def gV:=fM fV
abbrev Brb:=Int->LQ->Db
def Bf4(Hr:Brb)(b:UInt64)(a:LB)(g:Int)(o:LQ):Db:=Hr (Af g 1) o
def Bfz Hr:=Bf4 Hr
def Bfq(j24:Brb)(b:UInt64)(a:LB)(g:Int)(k:UInt64)(f:LQ):Db:=(Aj f g).bind λ_=>(Rn f g k).bind λo=>j24 g o
def TI Hr b a:=Bfq (Bfz Hr b a) b a
def SJ(j23:Int->UInt64->LQ->Db)(tX:UInt64->Int->Db)(b:UInt64)(a:LB)(g:Int)(f:LQ)(k:UInt64)(n:Int):Db:=if(Cj n 8)then
tX (KR (Ed k (GI.toZ (1:UInt64)).toNat) (Bn 4823603603198064275 (Cx k (GI.toZ (63:UInt64)).toNat))) (Af n 1)
else
j23 g k f
def CM(Hr:Brb)(b:UInt64)(a:LB)(g:Int)(f:LQ):Nat->UInt64->Int->Db
|0,_,_=>none
|q+1,k,n=>SJ (TI Hr b a) (CM Hr b a g f q) b a g f k n
def jE Hr b a g f:=CM Hr b a g f As
def TS(j21:Int->LQ->UInt64->Int->Db)(j26:UInt64->LB->LQ->Db)(b:UInt64)(a:LB)(g:Int)(f:LQ):Db:=if(Cj g 256)then
j21 g f (Ed (Ae g:UInt64) (GI.toZ (56:UInt64)).toNat) 0
else
j26 b a f
def Wd:Nat->Int->LQ->Db
|0,_,_=>none
|z+1,c,d=>TS (jE (Wd z) A Bmz) gV A Bmz c d
def Bgt b a:=Wd b a As
def nF(j16:UInt64->LB->Int->LQ->Db)(b:UInt64)(a:LB):Db:=if(Ec (Ac a) 100000)then
some (0,4)
else
j16 b a 0 (List.replicate 256 (0:UInt64))
def sR:=nF Bgt
def oY:Bpt:=(sR 0 c).bind λ(z,d)=>some (z,d)
def je:Bpt:=if(Ec (Ac c) 64)then
some (0,2)
else(oY c).bind λ(z,d)=>some (z,0)
abbrev Bp2:=Option (LB×Int)
def UJ:Bp2:=(je c).bind λ(z,d)=>if(Bj d 0)then
some (([]:LB),d)
else(NP z 8).bind λ(e,i)=>some (e,i)
def VF:Option (Bool×Int):=(UJ I).bind λ(z,d)=>if((Bj d 0)||(Bj (Ac c) (Ac z)))then
some (false,2)
else(Qb c z).bind λe=>some (e,0)
abbrev EK:=Option (LI×Int)
def Ab3:EK:=(Zi R).bind λz=>if(Bj z 0)then
some (([]:LI),12)
else
some (R,0)
def YW:=Ab3
def ZB(j6:LI->EK)(Se:Int->LI->EK)(a:LB)(f:LI)(g:Int)(b:LI):EK:=if(Cj g (Ac f))then(pQ a (Bn 4 g) 4).bind λ(k,u)=>(Aj b g).bind λ_=>(Rn b g (Ae k:Int)).bind λm=>Se (Af g 1) m
else
j6 b
def FX:Nat->Int->LI->EK
|0,_,_=>none
|z+1,d,e=>ZB YW (FX z) c M d e
def Aak a f:=FX a f As
def nQ(j4:LB->LI->Int->LI->EK)(a:LB)(h:Int):EK:=if((Cj h 1)||(Ec h 1000))then
some (([]:LI),2)
else
if(Cj (Ac a) (Af (Bn 4 h) 4))then
some (([]:LI),24)
else(pQ a (Bn 4 h) 4).bind λ(n,v)=>(Bo a 0 (Bn 4 h)).bind λo=>(LG o).bind λ(p,w)=>if(Bj (Ae p:UInt64) n)then
some (([]:LI),22)
else(mkI h (0:Int)).bind λf=>(Mt (geq h h)).bind λ_=>j4 a f 0 f
def gT:=nQ Aak
abbrev Bo4:=Option (LX)
def Amo:Bo4:=some e
def Bh4:=Amo
def tL:Bo4:=if(Cj Bm8 8)then(Mt (Nw (Bn 8 Bm8) 0)).bind λ_=>(Aj Bn1 Bm8).bind λ_=>(Rn Bn1 Bm8 (Ae (Ae (Cx Bnq (GI.toZ (Bn 8 Bm8)).toNat):Int8):Int32)).bind λz=>Bm6 (Af Bm8 1) z
else
Bni Bn1
def YM:Nat->Int->LX->Option (LX)
|0,_,_=>none
|z+1,c,d=>tL Bh4 (YM z) A c d
def Amq f:=YM f As
abbrev Bp7:=UInt64->Int->LX->Option (LX)
def Ak8 (j4:Bp7)(f:UInt64):Bo4:=j4 f 0 (List.replicate 16 (0:Int32))
def nG:=Ak8 Amq
abbrev Bqm:=Option (LX×Int)
def GB:Bqm:=if(Ec (Ac c) 64)then
some (([(0:Int32),(0:Int32),(0:Int32),(0:Int32),(0:Int32),(0:Int32),(0:Int32),(0:Int32),(0:Int32),(0:Int32),(0:Int32),(0:Int32),(0:Int32),(0:Int32),(0:Int32),(0:Int32)]:LX),2)
else(oY c).bind λ(z,d)=>if(Bj d 0)then
some (([(0:Int32),(0:Int32),(0:Int32),(0:Int32),(0:Int32),(0:Int32),(0:Int32),(0:Int32),(0:Int32),(0:Int32),(0:Int32),(0:Int32),(0:Int32),(0:Int32),(0:Int32),(0:Int32)]:LX),d)
else(nG z).bind λe=>some (e,0)
def NT(f a b g h:Int):Bo8:=some (a,b)
abbrev nD:=Option (Int32×Int32×Int)
def fU:nD:=if D then(Mt (Nw (Ap z 1) 0)).bind λ_=>some ((O8 (Ed (1:Int32) (GI.toZ (Ap z 1)).toNat)),(Ap (Ed (1:Int32) (GI.toZ (Ap z 1)).toNat) 1),0)
else
some (0,0,2)
def jD:=fU
def gU(j2:Int->Bool->nD)(a:Int):nD:=if(geq a 8)then
j2 a (geq a 8)
else
if(geq a 16)then
j2 a (geq a 16)
else
j2 a (geq a 24)
def Sd:=gU jD
def Nz:Bot:=(Sd d).bind λ(c,e,i)=>if(((Bj i 0)||(Cj z 1))||(Ec z 6))then
some 2
else
some 0
def UC:Bp2:=if(Cj (Ac c) 5)then
some (([]:LB),24)
else
if(Ec (Ac c) 41254)then
some (([]:LB),4)
else(Bo c 0 (Ap (Ac c) 4)).bind λz=>(LG z).bind λ(d,e)=>if(Bj e 0)then
some (([]:LB),e)
else(Bo c (Ap (Ac c) 4) (Ac c)).bind λi=>(wS i).bind λ(j,l)=>if((Bj l 0)||(Bj j (Ae d:UInt64)))then
some (([]:LB),22)
else(Bo c 0 (Ap (Ac c) 4)).bind λt=>some (t,0)
def By:Bo2:=(
(Bt ([]:LB) c).bind λz=>some z)
abbrev Bq7:=Option (LB×Int×Int)
def oG:Bq7:=if(Ec (Ac c) 41250)then
some (([]:LB),0,4)
else(By c).bind λz=>some (z,(Bn 8 (Ac c)),0)
abbrev Bqi:=Option (Int×Int×UInt64×UInt64)
def M4:Bqi:=some (10,10,16384,16384)
def Pc:Bot:=if(((Cj z 0)||(Ec z 330000))||(Bj (Ac c) (SA (Af z 7) (GI.toZ (3:UInt64)).toNat)))then
some 8
else
if(Ec (Gv z 7) 0)then(Aj c (Ap (Ac c) 1)).bind λd=>(Mt (Nw (Gv z 7) 0)).bind λ_=>if(Bj (Cx d (GI.toZ (Gv z 7)).toNat) 0)then
some 8
else
some 0
else
some 0
abbrev Bo6:=Option UInt64
def Ajr:Bo6:=some A
def Ber:=Ajr
def xN(j6:Bq6)(Se:Bqv)(b f:Int)(h:LB)(k:Int)(g:UInt64)(a:Int):Bo6:=if(Cj a f)then(Aj h (SA (Af b a) (GI.toZ (3:UInt64)).toNat)).bind λm=>(Mt (Nw (Gv (Af b a) 7) 0)).bind λ_=>(Mt (Nw (Du (Ap f a) (Ap 8 (Gv (Af b a) 7))) 0)).bind λ_=>(Mt (Nw a 0)).bind λ_=>Se (K4 g (Ed (Ae (Gv (Cx m (GI.toZ (Gv (Af b a) 7)).toNat) (Ap (Ed (1:UInt8) (GI.toZ (Du (Ap f a) (Ap 8 (Gv (Af b a) 7)))).toNat) 1)):UInt64) (GI.toZ a).toNat)) (Af a (Du (Ap f a) (Ap 8 (Gv (Af b a) 7))))
else
j6 g
def aF:Nat->UInt64->Int->Option UInt64
|0,_,_=>none
|c+1,e,j=>xN Ber (aF c) z d i l e j
def Ahk b f h k:=aF b f h k As
def Ba3(j4:Int->Int->LB->Int->UInt64->Int->Option UInt64)(h:LB)(k b f:Int):Bo6:=j4 b f h k 0 0
def U4:=Ba3 Ahk
abbrev Ia:=Option (LB×Int×Int)
def Aeg:Ia:=some (i,z,0)
def rB:=Aeg
abbrev Bqy:=Int->Int->LB->Ia
def Ac8(tN:Bqy)(a:Int)(g:LB)(b f h:Int)(u:LB):Ia:=tN (Af f 64) h u
def dQ tN:=Ac8 tN
abbrev Bqg:=UInt64->Int->Int->LB->Ia
def Aca(Q2:Bqg)(a f:Int)(g:LB)(b:Int)(m n:UInt64)(k h:Int)(w:LB):Ia:=(Mt (Nw (Du k (Ap 8 (Gv h 7))) 0)).bind λ_=>Q2 (Cx n (GI.toZ (Du k (Ap 8 (Gv h 7)))).toNat) (Ap k (Du k (Ap 8 (Gv h 7)))) (Af h (Du k (Ap 8 (Gv h 7)))) w
def Ae2 Q2:=Aca Q2
def Afk(j48:Bqg)(a f:Int)(g:LB)(b:Int)(m n:UInt64)(k h:Int)(v:LB):Ia:=(Aj v (Ap (Ac v) 1)).bind λ_=>(Mt (Nw (Du k (Ap 8 (Gv h 7))) 0)).bind λ_=>(Mt (Nw (Gv h 7) 0)).bind λ_=>(Aj v (Ap (Ac v) 1)).bind λaa=>(Aj v (Ap (Ac v) 1)).bind λ_=>Option.bind (Rn v (Ap (Ac v) 1) (K4 aa (Ed (Ae (Gv n (Ap (Ed (1:UInt64) (GI.toZ (Du k (Ap 8 (Gv h 7)))).toNat) 1)):UInt8) (GI.toZ (Gv h 7)).toNat))) λw=>j48 n k h w
def eC Q2 a f g b m:=Afk (Ae2 Q2 a f g b m) a f g b m
def dZ(j47:Bqg)(j50:Bqy)(a:Int)(g:LB)(b f:Int)(m n:UInt64)(k h:Int)(u:LB):Ia:=if(Ec k 0)then
if(geq (Gv h 7) 0)then(Bt u ([(0:UInt8)]:LB)).bind λab=>j47 n k h ab
else
j47 n k h u
else
j50 f h u
def Yj(tN:Bqy)(a:Int)(g:LB)(b f:Int)(m:UInt64):Nat->UInt64->Int->Int->LB->Ia
|0,_,_,_,_=>none
|q+1,n,k,h,u=>dZ (eC (Yj tN a g b f m q) a f g b m) (dQ tN a g b) a g b f m n k h u
def sS tN a g b f m:=Yj tN a g b f m As
def sO(j44:Int->UInt64->UInt64->Int->Int->LB->Ia)(j52:Int->LB->Ia)(a:Int)(g:LB)(b f o:Int)(p:LB):Ia:=if(Cj f a)then(U4 g b f (Du 64 (Ap a f))).bind λm=>j44 f m m (Du 64 (Ap a f)) o p
else
j52 o p
def LA:Nat->Int->Int->LB->Ia
|0,_,_,_=>none
|c+1,d,e,j=>sO (sS (LA c) z i l) rB z i l d e j
def Abk a g b:=LA a g b As
def xS(j27:Int->LB->Jz3 (LB->Ia))(g:LB)(b y a:Int):Ia:=(Pc g b).bind λac=>if(Bj ac 0)then
some (([]:LB),0,8)
else
if(((Cj y 0)||(Ec y a))||(Ec a b))then
some (([]:LB),0,2)
else
j27 a g b y 0 ([]:LB)
def xL:=xS Abk
def Aaa:Bot:=if(!((geq (Du (jQ z 0) 24) z)&&((geq (Du (jQ d 0) 24) d)&&((geq (Du A 68719476735) A)&&((geq (Du l7 68719476735) l7)&&true)))))then
some 8
else
some 0
def mH:=Aaa
abbrev Bqh:=Int->Int->UInt64->UInt64->Option Int
def YX(j4:Bqh)(a b:Int)(f g:UInt64):Bot:=(
(
j4 a b f g))
def nM:=YX mH
def ZF(j3:Bqh)(a b:Int)(f g:UInt64):Bot:=(
(
j3 a b f g))
def iN:=ZF nM
def US:Bpt:=(Pc c z).bind λe=>if(Bj e 0)then
some (0,8)
else
if(((Cj j 0)||(Ec j 64))||(Cj d 0))then
some (0,2)
else
if(Ec d (Ap z j))then
some (0,24)
else(U4 c z d j).bind λi=>some (i,0)
def Kr:Bot:=if(geq A 0)then
some 64
else(Aj ([(0:UInt8),(1:UInt8),(56:UInt8),(2:UInt8),(57:UInt8),(49:UInt8),(28:UInt8),(3:UInt8),(61:UInt8),(58:UInt8),(42:UInt8),(50:UInt8),(38:UInt8),(29:UInt8),(17:UInt8),(4:UInt8),(62:UInt8),(47:UInt8),(59:UInt8),(36:UInt8),(45:UInt8),(43:UInt8),(51:UInt8),(22:UInt8),(53:UInt8),(39:UInt8),(33:UInt8),(30:UInt8),(24:UInt8),(18:UInt8),(12:UInt8),(5:UInt8),(63:UInt8),(55:UInt8),(48:UInt8),(27:UInt8),(60:UInt8),(41:UInt8),(37:UInt8),(16:UInt8),(46:UInt8),(35:UInt8),(44:UInt8),(21:UInt8),(52:UInt8),(32:UInt8),(23:UInt8),(11:UInt8),(54:UInt8),(26:UInt8),(40:UInt8),(15:UInt8),(34:UInt8),(20:UInt8),(31:UInt8),(10:UInt8),(25:UInt8),(14:UInt8),(19:UInt8),(9:UInt8),(13:UInt8),(8:UInt8),(7:UInt8),(6:UInt8)]:LB) (GI.toZ (Cx (Bn (Gv A (O8 A)) 285870213051353865) (GI.toZ (58:UInt64)).toNat))).bind λz=>some (Ae z:Int)
abbrev Oi:=Option (Int×Int×Int)
def Bi8:Oi:=some (0,0,24)
def Bi5:=Bi8
def Aa2(j10:Oi):Oi:=j10
def Aav:=Aa2 Bi5
def Aac(j9:Oi)(f a:Int):Oi:=if(geq f 48)then
some (f,(Af 0 (Af a f)),0)
else
j9
def Aat:=Aac Aav
def Aaj(j8:Int->Int->Oi)(f b a:Int):Oi:=if(Cj f (Du 48 (Ap b a)))then
some (f,(Af (Af (0:Int) (1:Int)) (Af a f)),0)
else
j8 f a
def Aay:=Aaj Aat
def Aax(j7:Jz3 Oi)(h:Int)(k:UInt64)(a:Int)(g:LB)(b:Int):Oi:=if(Bj h 0)then
some (0,0,h)
else(Kr (J? k)).bind λf=>j7 f b a
def mO:=Aax Aay
def OI(j6:Int->UInt64->Int->LB->Int->Oi)(g:LB)(b a:Int):Oi:=(Pc g b).bind λm=>if(Bj m 0)then
some (0,0,m)
else
if(Cj a 0)then
some (0,0,2)
else
if(Nw a b)then
some (0,0,24)
else(
(
(US g b a (Du 48 (Ap b a))).bind λ(k,h)=>j6 h k a g b))
def YK:=OI mO
def MF:Boy:=(Mt (Nw Bmu 0)).bind λ_=>some (Nw (Cx V (GI.toZ Bmu).toNat) 48)
abbrev xU:=Option (UInt32×Int×Int)
def rZ:xU:=(US i l d l9).bind λ(c,e)=>if(Bj e 0)then
some (0,0,e)
else
if(Cj j 48)then(Mt (Nw z 0)).bind λ_=>some ((K4 (Ed (Ae j:UInt32) (GI.toZ z).toNat) (Ae c:UInt32)),(Af d l9),0)
else(MF (Ae c:UInt32) z).bind λt=>if(!t)then
some (0,0,12)
else
some ((Ae c:UInt32),(Af d l9),0)
def sX:=rZ
def Ade(j2:Jz3 (LB->Int->Int->xU))(g:LB)(h v a:Int):xU:=(Pc g h).bind λo=>if(Bj o 0)then
some (0,0,o)
else
if((Cj a 0)||(Ec a 24))then
some (0,0,2)
else(YK g h v).bind λ(f,b,p)=>if(Bj p 0)then
some (0,0,p)
else
if(geq f 48)then
j2 a b f g h 32
else
j2 a b f g h a
def zY:=Ade sX
def YN(a f:Int)(g h:UInt64)(b:UInt32):Option (Int×UInt32):=(Mt (Nw a 0)).bind λ_=>if(geq (Cx b (GI.toZ a).toNat) 0)then
some (0,b)
else(Mt (Nw a 0)).bind λ_=>some (1,(Ap b (Ed (1:UInt32) (GI.toZ a).toNat)))
abbrev Rz:=Option (UInt32×Int×Int×Int×UInt64×UInt64×Int)
def Aa9:Rz:=some (V,Bmu,Bnz,Bns,(Af Bnb (Ap (Ae V:UInt64) (Cx Bnb (GI.toZ (4:UInt64)).toNat))),Bnh,0)
def Aai:=Aa9
def Ae4(j10:UInt32->Jz3 (UInt64->UInt64->Rz))(f:UInt32)(k m:Int)(b n:UInt64)(w:Int):Rz:=j10 f k w m b n
def Abn:=Ae4 Aai
def Aez(j9:UInt32->Int->Int->UInt64->UInt64->Int->Rz)(f:UInt32)(k a:Int)(b:UInt64)(m:Int)(n:UInt64):Rz:=if(Ec a 0)then(Mt (Nw a 0)).bind λ_=>if(Cj (Af b (Ap (Ae f:UInt64) (Cx b (GI.toZ (4:UInt64)).toNat))) (Ed (16:UInt64) (GI.toZ a).toNat))then
j9 f k m b n (Ap a 1)
else
if(Cj a 24)then(Mt (Nw a 0)).bind λ_=>if(Ec (Af b (Ap (Ae f:UInt64) (Cx b (GI.toZ (4:UInt64)).toNat))) (Ed (32:UInt64) (GI.toZ a).toNat))then
j9 f k m b n (Af a 1)
else
j9 f k m b n a
else
j9 f k m b n a
else
if(Cj a 24)then(Mt (Nw a 0)).bind λ_=>if(Ec (Af b (Ap (Ae f:UInt64) (Cx b (GI.toZ (4:UInt64)).toNat))) (Ed (32:UInt64) (GI.toZ a).toNat))then
j9 f k m b n (Af a 1)
else
j9 f k m b n a
else
j9 f k m b n a
def VJ:=Aez Abn
def rC(j8:UInt32->Int->Int->UInt64->Int->UInt64->Rz)(a h:Int)(b g:UInt64)(f:UInt32)(k:Int):Rz:=(YN a h b g f).bind λ(ad,o)=>if(geq ad 1)then
if(Ec h 0)then(Mt (Nw h 0)).bind λ_=>if(Cj (Af g (Ap (Ae o:UInt64) (Cx g (GI.toZ (4:UInt64)).toNat))) (Ed (16:UInt64) (GI.toZ h).toNat))then
j8 f k a b (Ap h 1) (Af g (Ap (Ae o:UInt64) (Cx g (GI.toZ (4:UInt64)).toNat)))
else
if(Cj h 24)then(Mt (Nw h 0)).bind λ_=>if(Ec (Af g (Ap (Ae o:UInt64) (Cx g (GI.toZ (4:UInt64)).toNat))) (Ed (32:UInt64) (GI.toZ h).toNat))then
j8 f k a b (Af h 1) (Af g (Ap (Ae o:UInt64) (Cx g (GI.toZ (4:UInt64)).toNat)))
else
j8 f k a b h (Af g (Ap (Ae o:UInt64) (Cx g (GI.toZ (4:UInt64)).toNat)))
else
j8 f k a b h (Af g (Ap (Ae o:UInt64) (Cx g (GI.toZ (4:UInt64)).toNat)))
else
if(Cj h 24)then(Mt (Nw h 0)).bind λ_=>if(Ec (Af g (Ap (Ae o:UInt64) (Cx g (GI.toZ (4:UInt64)).toNat))) (Ed (32:UInt64) (GI.toZ h).toNat))then
j8 f k a b (Af h 1) (Af g (Ap (Ae o:UInt64) (Cx g (GI.toZ (4:UInt64)).toNat)))
else
j8 f k a b h (Af g (Ap (Ae o:UInt64) (Cx g (GI.toZ (4:UInt64)).toNat)))
else
j8 f k a b h (Af g (Ap (Ae o:UInt64) (Cx g (GI.toZ (4:UInt64)).toNat)))
else
j8 f k a b h g
def rG:=rC VJ
def rL(j7:Int->Int->UInt64->UInt64->UInt32->Int->Rz)(p:Int)(u:LB)(v a h:Int)(b g:UInt64):Rz:=(US u v p 1).bind λ(ae,aa)=>if(Bj aa 0)then
some (0,0,0,0,0,0,aa)
else
if(geq ae 0)then(US u v (Af p 1) a).bind λ(af,ab)=>if(Bj ab 0)then
some (0,0,0,0,0,0,ab)
else
j7 a h b g (Ae af:UInt32) (Af (Af p 1) a)
else(zY u v (Af p 1) h).bind λ(y,ag,ac)=>if(Bj ac 0)then
some (0,0,0,0,0,0,ac)
else(Mt (Nw a 0)).bind λ_=>if(Cj (Af y (Ed (1:UInt32) (GI.toZ a).toNat)) y)then
some (0,0,0,0,0,0,12)
else
j7 a h b g (Af y (Ed (1:UInt32) (GI.toZ a).toNat)) ag
def Af1:=rL rG
def tJ(j6:Int->LB->Jz3 (UInt64->UInt64->Rz))(u:LB)(v p a h:Int)(b g:UInt64):Rz:=(Pc u v).bind λah=>if(Bj ah 0)then
some (0,0,0,0,0,0,8)
else(iN a h b g).bind λai=>if(Bj ai 0)then
some (0,0,0,0,0,0,8)
else
j6 p u v a h b g
def YF:=tJ Af1
abbrev Cy:=Option (LU×Int×Int)
def Bi0:Cy:=some (X,z,0)
def Ar0:=Bi0
def Aqz(Hr:Int->Int-> (List (Int×Int×UInt64×UInt64×Unit))->LU->Cy)(a f:Int)(g:LB)(b k v:Int)(w:UInt32)(h:Int)(ah:Bov)(n:LU):Cy:=(Bt n ([w]:LU)).bind λak=>Hr (Af k v) (Af h 1) ah ak
def Ap9 Hr:=Aqz Hr
def PQ(j22:Int->Int->UInt32->Int-> (List (Int×Int×UInt64×UInt64×Unit))->LU->Cy)(a f:Int)(g:LB)(b k h y:Int)(w:UInt32)(v:Int)(m:Bov)(n:LU)(aa ab:Int)(ac ad:UInt64):Cy:=if(Bj y 0)then
some (([]:LU),0,y)
else(Mt (Bj a 0)).bind λ_=>(Aj m (Gx h a)).bind λ_=>(Rn m (Gx h a) (aa,ab,ac,ad,())).bind λah=>j22 k v w h ah n
def DY Hr a f g b:=PQ (Ap9 Hr a f g b) a f g b
def FC(j21:Jz3 (UInt32->Int-> (List (Int×Int×UInt64×UInt64×Unit))->LU->Int->Int->UInt64->UInt64->Cy))(j24:Int->LU->Cy)(a f:Int)(g:LB)(b k h:Int)(m:Bov)(n:LU):Cy:=if(Cj h (Bn f a))then(xL g b k (Du (Af k 81) b)).bind λ(ag,ae,af)=>if(Bj af 0)then
some (([]:LU),0,af)
else(Mt (Bj a 0)).bind λ_=>(Aj m (Gx h a)).bind λ_=>(
(
(Aj m (Gx h a)).bind λo=>(
(YF ag ae 0 o.1 o.2.1 o.2.2.1 o.2.2.2.1).bind λ(w,v,aa,ab,ac,ad,y)=>j21 k h y w v m n aa ab ac ad)))
else
j24 k n
def Vq:Nat->Int->Int-> (List (Int×Int×UInt64×UInt64×Unit))->LU->Cy
|0,_,_,_,_=>none
|c+1,e,j,t,A=>FC (DY (Vq c) z d i l) Ar0 z d i l e j t A
def Ase a f g b:=Vq a f g b As
def Aok(j16:Int->Int->LB->Jz3 ( (List (Int×Int×UInt64×UInt64×Unit))->LU->Cy))(a f:Int)(g:LB)(b:Int)(p:Bov):Cy:=j16 a f g b 0 0 p ([]:LU)
def Aob:=Aok Ase
def Ape(j15:Int->Int->LB->Int-> (List (Int×Int×UInt64×UInt64×Unit))->Cy)(aR:Int-> (List (Int×Int×UInt64×UInt64×Unit))->Cy)(a f:Int)(g:LB)(b u:Int)(p:Bov):Cy:=if(Cj u 6)then(M4).bind λ(al,ae,af,am)=>(Aj p u).bind λ_=>(Rn p u (al,ae,af,am,())).bind λan=>aR (Af u 1) an
else
j15 a f g b p
def PM:Nat->Int-> (List (Int×Int×UInt64×UInt64×Unit))->Cy
|0,_,_=>none
|c+1,e,j=>Ape Aob (PM c) z d i l e j
def QI a f g b:=PM a f g b As
def TX(j13:Int->Int->LB->Int->Int-> (List (Int×Int×UInt64×UInt64×Unit))->Cy)(a f:Int)(g:LB)(b:Int):Cy:=j13 a f g b 0 (List.replicate 6 ((0:Int),(0:Int),(0:UInt64),(0:UInt64),()))
def TY:=TX QI
abbrev I9:=Option (Int×LX×LX×Int)
def Ajp:I9:=if J then
some (10,e,(List.replicate 16 (0:Int32)),0)
else
if(geq z 16)then
some (9,e,(List.replicate 16 (0:Int32)),0)
else
some (0,(List.replicate 16 (0:Int32)),(List.replicate 16 (0:Int32)),2)
def Ahf:=Ajp
def Ail(j2:Int->LX->Bool->I9)(a:Int)(b:LX):I9:=if(geq a 8)then
j2 a b (geq a 8)
else
j2 a b (geq a 24)
def T2:=Ail Ahf
abbrev Bqd:=Option (Int×Int32×Int×LX×LX×Int)
def ng:Bqd:=(T2 z e).bind λ(c,d,i,j)=>if(Bj j 0)then
some (0,0,0,(List.replicate 16 (0:Int32)),(List.replicate 16 (0:Int32)),j)
else
some (z,0,c,d,i,0)
abbrev Bpe:=Option Int32
def ME:Bpe:=some (KR (Ae (Cx V (GI.toZ (1:UInt64)).toNat):Int32) (O8 (Ae (Gv V 1):Int32)))
def JW(a:Int)(k:Int32)(b:Int)(f m:LX):Bot:=(T2 a f).bind λ(g,n,o,h)=>if((Bj h 0)||(Bj g b))then
some 8
else
some 0
def xD:Bo8:=if(geq z 8)then
some (4,0)
else
if(geq z 16)then
if(geq z 16)then
some (5,0)
else
some (0,2)
else
if(geq z 24)then
some (5,0)
else
some (0,2)
def jZ:Bpe:=(Mt (Nw z 0)).bind λ_=>(Mt (Nw z 0)).bind λ_=>some (Ae (SA (Ap (Ed (Ae L:Int) (GI.toZ z).toNat) (Ae L:Int)) (GI.toZ z).toNat):Int32)
def JY:Option (Int32×Int):=(xD z).bind λ(c,d)=>if(Bj d 0)then
some (0,d)
else(jZ c L).bind λe=>some (e,0)
def YJ(a:Int)(b f:LX):Bot:=if((Bj a 9)&&(Bj a 10))then
some 8
else
some 0
abbrev EU:=Option (Int32×Int)
def Ab1(h:Int32)(a:Int)(b f:LX):EU:=(Mt (Nw a 0)).bind λ_=>some ((Cx h (GI.toZ a).toNat),0)
def mP:=Ab1
def ZD(j6:Int32->Int->LX->LX->EU)(Se:Int32->Int->EU)(b:LX)(a:Int)(f:LX)(h:Int32)(g:Int):EU:=if(Cj g 16)then(Aj b g).bind λm=>(Aj f g).bind λ_=>(Aj f g).bind λn=>Se (Af h (Bn m n)) (Af g 1)
else
j6 h a b f
def GA:Nat->Int32->Int->EU
|0,_,_=>none
|z+1,c,d=>ZD mP (GA z) e B U c d
def Aao b a f:=GA b a f As
def mM(j4:LX->Int->LX->Int32->Int->EU)(a:Int)(b f:LX):EU:=(YJ a b f).bind λk=>if(Bj k 0)then
some (0,k)
else(Mt (Nw (Ap a 1) 0)).bind λ_=>j4 b a f (Ed (1:Int32) (GI.toZ (Ap a 1)).toNat) 0
def gW:=mM Aao
def oN:Bpe:=if(geq z 0)then
some 4
else
if(Cj z 4)then
some 2
else
some 1
abbrev DK:=Option (Int×LX×LX×Int)
def Aa4:DK:=some (z,e,U,0)
def Aap:=Aa4
def ZE(j6:Int->LX->LX->DK)(Se:Int->LX->DK)(h:Int32)(f:LX)(g a:Int)(b:LX):DK:=if(Cj a 16)then(Aj f a).bind λm=>if(geq m 0)then
Se (Af a 1) b
else
if((Cj m 0)==(Cj h 0))then(Aj b a).bind λ_=>(Aj b a).bind λo=>(oN a).bind λp=>(Aj b a).bind λ_=>(Rn b a (Af o p)).bind λu=>Se (Af a 1) u
else(Aj b a).bind λ_=>(Aj b a).bind λv=>(oN a).bind λw=>(Aj b a).bind λ_=>(Rn b a (Ap v w)).bind λy=>Se (Af a 1) y
else
j6 g b f
def FV:Nat->Int->LX->DK
|0,_,_=>none
|z+1,c,d=>ZE Aap (FV z) L o9 Bnd c d
def Aaz h f g:=FV h f g As
def nC(j4:Int32->LX->Int->Int->LX->DK)(g:Int)(k f:LX)(h:Int32):DK:=(YJ g k f).bind λn=>if(Bj n 0)then
some (0,(List.replicate 16 (0:Int32)),(List.replicate 16 (0:Int32)),n)
else
if(geq h 0)then
some (g,k,f,0)
else
j4 h f g 0 k
def tM:=nC Aaz
abbrev yM:=Option (Int×LX×LX×Int)
def Aby:yM:=(Aj (JI p9 1 ((16:Int)-(1:Int)) (jS p9 0 ((16:Int)-(0:Int)))) 0).bind λ_=>(Rn (JI p9 1 ((16:Int)-(1:Int)) (jS p9 0 ((16:Int)-(0:Int)))) 0 L).bind λz=>some (l5,o9,z,0)
def sJ:=Aby
def eD(j2:Int32->Int->LX->LX->yM)(b:Int)(f a:LX)(g:Int32):yM:=(YJ b f a).bind λh=>if(Bj h 0)then
some (0,(List.replicate 16 (0:Int32)),(List.replicate 16 (0:Int32)),h)
else(
(pE 16 1 16).bind λ_=>(pE 16 0 16).bind λ_=>j2 g b f a)
def B0:=eD sJ
def fO:Option (Int×LX×LX):=(tM z e U Bmx).bind λ(c,d,i,j)=>(B0 c d i L).bind λ(l,t,A,B)=>some (l,t,A)
abbrev Bqn:=Option (Int32×Int×LX×LX×Int)
def yS:Bqn:=(gW z e U).bind λ(c,d)=>if(Bj d 0)then
some (0,0,(List.replicate 16 (0:Int32)),(List.replicate 16 (0:Int32)),d)
else(fO z e U (Af L c) L).bind λ(i,j,l)=>some ((Af L c),i,j,l,0)
abbrev Bp5:=Option (Int32×Int×Int32×Int×LX×LX×Int)
def Tp:Bp5:=(JW z L l5 o9 p9).bind λc=>if(Bj c 0)then
some (0,0,0,0,(List.replicate 16 (0:Int32)),(List.replicate 16 (0:Int32)),c)
else(JY z L).bind λ(d,e)=>(yS l5 o9 p9 Bmx).bind λ(i,j,l,t,A)=>(
some ((Af i d),z,(Af i d),j,l,t,A))
def pN:Bot:=if((Cj z 1)||(Ec z 6))then
some 2
else
if(Ec (Ac e) 4000)then
some 4
else(Mt (Bj z 0)).bind λ_=>if(Bj (Gx (Ac e) z) 0)then
some 2
else
some 0
def Dx:Bo4:=(
(Bt ([]:LX) e).bind λz=>some z)
abbrev Kx:=Option (LX×Int)
def Aee:Kx:=some (e,0)
def Ac5:=Aee
abbrev Bqs:=Int->LX->Kx
def Acq(nT:Bqs)(b a:Int)(h:LX):Kx:=nT (Af a b) h
def sG nT:=Acq nT
def dU(j20:Bqs)(R9:Bqs)(b a g:Int)(h:LX):Kx:=if(Nw g 0)then(Mt (decide (0<= (Af g 1)/\ (Af g 1)<((Af a b)-a)))).bind λ_=>(Mt (decide (0<=g/\g<((Af a b)-a)))).bind λ_=>(Aj h (a+(Af g 1))).bind λn=>(Aj h (a+g)).bind λo=>(Mt (decide (0<=g/\g<((Af a b)-a)))).bind λ_=>(Rn h (a+g) (Ap n o)).bind λp=>R9 (Ap g 1) p
else
j20 a h
def MA(nT:Bqs)(b a:Int):Nat->Int->LX->Kx
|0,_,_=>none
|q+1,g,h=>dU (sG nT b) (MA nT b a q) b a g h
def rA nT b a:=MA nT b a As
def qQ(j18:Int->Int->LX->Kx)(b a:Int)(u:LX):Kx:=j18 a (Ap (Ap ((Af a b)-a) 1) 1) u
def sP nT b:=qQ (rA nT b) b
def qW(j17:Bqs)(j22:LX->Kx)(b a:Int)(f:LX):Kx:=if(Cj a (Ac f))then(pE (Ac f) a (Af a b)).bind λ_=>if(Ec (Ap ((Af a b)-a) 1) 0)then(Mt (decide (0<= (Ap ((Af a b)-a) 1)/\ (Ap ((Af a b)-a) 1)<((Af a b)-a)))).bind λ_=>Option.bind (Mt (decide (0<= (Ap (Ap ((Af a b)-a) 1) 1)/\ (Ap (Ap ((Af a b)-a) 1) 1)<((Af a b)-a)))) λ_=>(Aj f (a+(Ap ((Af a b)-a) 1))).bind λv=>(Aj f (a+(Ap (Ap ((Af a b)-a) 1) 1))).bind λw=>(Mt (decide (0<= (Ap ((Af a b)-a) 1)/\ (Ap ((Af a b)-a) 1)<((Af a b)-a)))).bind λ_=>(Rn f (a+(Ap ((Af a b)-a) 1)) (Af v (Bs w 2))).bind λy=>j17 a y
else
j17 a f
else
j22 f
def EF:Nat->Int->LX->Kx
|0,_,_=>none
|c+1,d,e=>qW (sP (EF c) z) Ac5 z d e
def Adq b:=EF b As
def yV(j12:Int->Int->LX->Kx)(b:Int)(k:LX):Kx:=(pN b k).bind λm=>if(Bj m 0)then
some (([]:LX),m)
else(Dx k).bind λaa=>j12 b 0 aa
def Q4:=yV Adq
def Bji :Bot:=some 0
def Bh3:=Bji
def SX:Bot:=if(Cj Bnd (Ac Bnc))then(Aj Bnc Bnd).bind λz=>if((Cj z Bom)||(Ec z Bon))then
some 16
else
Bm2 (Af Bnd 1)
else
Bm1
def BP:Nat->Int->Option Int
|0,_=>none
|z+1,c=>SX Bh3 (BP z) L Bmx Bnc c
def Bio b f a:=BP b f a As
def iA(j4:Int32->Int32->LX->Int->Option Int)(m:Int)(a:LX):Bot:=(Sd m).bind λ(b,f,k)=>if(Bj k 0)then
some k
else
if(Ec (Ac a) 4000)then
some 4
else
j4 b f a 0
def DI:=iA Bio
abbrev Di:=Option (LX×Int)
def Alx:Di:=(Q4 z e).bind λ(c,i)=>if(Bj i 0)then
some (([]:LX),i)
else(DI d c).bind λj=>if(Bj j 0)then
some (([]:LX),j)
else
some (c,0)
def Tv:=Alx
abbrev Bo3:=List (Int×Int32×(Int×LX×LX×Unit)×Unit)
def Amp(aR:Int-> (List (Int×Int32×(Int×LX×LX×Unit)×Unit))->LX->Di)(a:Int)(f:LU)(b g:Int)(y:Int32)(v:Int)(h:Bo3)(k:LX)(aa:Int)(w:Int32)(ab:Int)(ac ad:LX):Di:=if(Bj v 0)then
some (([]:LX),v)
else(Rn h (Gx g a) (aa,w,(ab,ac,ad,()),())).bind λai=>(Bt k ([y]:LX)).bind λaj=>aR (Af g 1) ai aj
def NA aR:=Amp aR
def Tu(j16:Int->Int32->Int-> (List (Int×Int32×(Int×LX×LX×Unit)×Unit))->LX->Int->Int32->Int->LX->LX->Di)(j18:Int->Int->LX->Di)(f:LU)(a b g:Int)(h:Bo3)(k:LX):Di:=if(Cj g (Ac f))then(Aj f g).bind λag=>(Mt (Bj a 0)).bind λ_=>(Aj h (Gx g a)).bind λ_=>(
(Aj h (Gx g a)).bind λm=>(
(ME ag).bind λae=>(
(Tp m.1 m.2.1 m.2.2.1.1 m.2.2.1.2.1 m.2.2.1.2.2.1 ae).bind λ(y,aa,w,ab,ac,ad,v)=>j16 g y v h k aa w ab ac ad)))
else
j18 a b k
def Pk:Nat->Int-> (List (Int×Int32×(Int×LX×LX×Unit)×Unit))->LX->Di
|0,_,_,_=>none
|z+1,c,d,e=>Tu (NA (Pk z) q9 X Bmv) Tv X q9 Bmv c d e
def Anu f a b:=Pk f a b As
def Amu(j13:LU->Jz3 ( (List (Int×Int32×(Int×LX×LX×Unit)×Unit))->LX->Di))(f:LU)(a b:Int)(n:Bo3):Di:=j13 f a b 0 n ([]:LX)
def Ant:=Amu Anu
def An3(j12:LU->Int->Int-> (List (Int×Int32×(Int×LX×LX×Unit)×Unit))->Di)(SU:Int-> (List (Int×Int32×(Int×LX×LX×Unit)×Unit))->Di)(f:LU)(a b:Int)(o:LX)(p:Int)(n:Bo3):Di:=if(Cj p 6)then(ng b o).bind λ(ak,af,ae,al,am,w)=>(Aj n p).bind λ_=>(Rn n p (ak,af,(ae,al,am,()),())).bind λan=>SU (Af p 1) an
else
j12 f a b n
def NH:Nat->Int-> (List (Int×Int32×(Int×LX×LX×Unit)×Unit))->Di
|0,_,_=>none
|z+1,c,d=>An3 Ant (NH z) X q9 Bmv Bne c d
def NF f a b o:=NH f a b o As
def QF(j10:LU->Int->Int->LX->Int-> (List (Int×Int32×(Int×LX×LX×Unit)×Unit))->Di)(a b:Int)(o:LX)(f:LU):Di:=j10 f a b o 0 (List.replicate 6 ((0:Int),(0:Int32),((0:Int),(List.replicate 16 (0:Int32)),(List.replicate 16 (0:Int32)),()),()))
def FL:=QF NF
def BC:Bqm:=(Nz z d).bind λc=>if(Bj c 0)then
some (([]:LX),c)
else
if(Cj B 1)then
some (([]:LX),2)
else(Mt (Bj z 0)).bind λ_=>if(Ec B (Bs 4000 z))then
some (([]:LX),2)
else(UC Bmy).bind λ(i,j)=>if(Bj j 0)then
some (([]:LX),j)
else(oG i).bind λ(l,t,A)=>if(Bj A 0)then
some (([]:LX),A)
else(TY z B l t).bind λ(C,D,E)=>if(Bj E 0)then
some (([]:LX),E)
else
if(Nw (Ap t D) 8)then
some (([]:LX),12)
else(US l t D (Ap t D)).bind λ(F,G)=>if((Bj G 0)||(Bj F 0))then
some (([]:LX),12)
else(FL z d e C).bind λ(I,J)=>some (I,J)
abbrev Fb:=Option (LB×Int)
def Blz:Fb:=some (c,0)
def Bdw:=Blz
abbrev Bq4:=Int->LB->Fb
def Bdt(Hr:Bq4)(b:Int)(a:LX)(f:Int)(h:LB):Fb:=Hr (Af f 1) h
def bW Hr:=Bdt Hr
def OQ(j28:Bq4)(V9:Bq4)(b:Int)(a:LX)(k:Int32)(f m:Int)(h:LB):Fb:=if(Cj m (Bs b 8))then(Mt (Nw (Bn 8 m) 0)).bind λ_=>(Bt h ([(Ae (Cx k (GI.toZ (Bn 8 m)).toNat):UInt8)]:LB)).bind λp=>V9 (Af m 1) p
else
j28 f h
def Qa(Hr:Bq4)(b:Int)(a:LX)(k:Int32)(f:Int):Nat->Int->LB->Fb
|0,_,_=>none
|q+1,m,h=>OQ (bW Hr b a) (Qa Hr b a k f q) b a k f m h
def cM Hr b a k f:=Qa Hr b a k f As
def bF(j26:Int32->Int->Int->LB->Fb)(b:Int)(a:LX)(f:Int)(g:LB)(k:Int32):Fb:=j26 k f 0 g
def Xx Hr b a:=bF (cM Hr b a) b a
def OX(j25:Int->LB->Int32->Fb)(j30:LB->Fb)(b:Int)(a:LX)(f:Int)(g:LB):Fb:=if(Cj f (Ac a))then(Aj a f).bind λn=>if(geq b 8)then
j25 f g (Af n 128)
else
j25 f g n
else
j30 g
def Ju:Nat->Int->LB->Fb
|0,_,_=>none
|c+1,d,i=>OX (Xx (Ju c) z e) Bdw z e d i
def Bmq b a:=Ju b a As
def iB(j16:Int->LX->Int->LB->Fb)(b:Int)(a:LX):Fb:=(DI b a).bind λo=>if(Bj o 0)then
some (([]:LB),o)
else
j16 b a 0 ([]:LB)
def DJ:=iB Bmq
def Bi7:Bot:=some (-1:Int)
def Afh:=Bi7
def Gq:Bot:=if(Cj Bmw (Ac Bnj))then(Aj Bnj Bmw).bind λz=>if(geq Bnf z)then
some Bmw
else
Bm2 (Af Bmw 1)
else
Bm1
def Cr:Nat->Int->Option Int
|0,_=>none
|c+1,d=>Gq Afh (Cr c) R z d
def Afi a b:=Cr a b As
def Mb(j4:Bqf)(a:LI)(b:Int):Bot:=j4 a b 0
def Ok:=Mb Afi
def Lu:Boy:=(Ok R z).bind λc=>some (Nw c 0)
def Zz:Boy:=(Lu ([(4:Int),(12:Int),(16:Int),(22:Int),(24:Int),(26:Int),(38:Int)]:LI) z).bind λc=>some c
def Aws:Bot:=if(!D)then
some 8
else
some 0
def Ch:=Aws
def Avo:Bot:=Bm3 ((true==true)&&((geq (0:Int) (0:Int))&&true))
def II:=Avo Ch
def Asu:Bot:=Bm3 ((Bnl==true)&&((geq Bnr 0)&&true))
def Gi:=Asu Ch
abbrev Bpi:=Bool->Int->Option Int
def Awv(j13:Bpi)(g ax:LB)(ay az ab ba af b:Int)(n:Bool)(o:Int)(f:LI)(k:LB):Bot:=(Vv ay az ab ba af g).bind λdi=>(Ao di).bind λ(dj,ai)=>j13 dj ai
def HW:=Awv Gi
def Aux:Bot:=Bm3 ((Bnl==true)&&((geq Bnr 0)&&true))
def Om:=Aux Ch
def Atl(j25:Bpi)(g a:LB)(h p m u v b:Int)(n:Bool)(o:Int)(f:LI)(k:LB)(de:Int):Bot:=(Fk h p m u v).bind λ(dm,be)=>if(Bj be 0)then(Ao be).bind λ(aj,bg)=>j25 aj bg
else(Bo a de (Ac a)).bind λdn=>(gT dn (Ac dm)).bind λ(dp,ab)=>if(geq ab 24)then
j25 true 0
else
if(Bj ab 0)then(Ao ab).bind λ(dq,af)=>j25 dq af
else(Bo a (Af (Af de (Bn 4 (Ac dp))) 4) (Ac a)).bind λfc=>j25 false 0
def Pg:=Atl Om
abbrev Bpk:=LB->LB->Jz6 (Bool->Int->LI->LB->Int->Option Int)
def Aud(j25:Bpi)(j24:Bpk)(bh:Bool)(bf:Int)(g a:LB)(h p m u v b:Int)(n:Bool)(o:Int)(f:LI)(k:LB):Bot:=if(Bj bf 0)then(Ao bf).bind λ(dr,be)=>j25 dr be
else
if(!bh)then(Ao 26).bind λ(aj,bg)=>j25 aj bg
else
j24 g a h p m u v b n o f k 8
def Avz:=Aud Om Pg
def Awq(j15:Bool->Int->LB->LB->Jz6 (Bool->Int->LI->LB->Option Int))(g a:LB)(h p m u v b:Int)(n:Bool)(o:Int)(f:LI)(k:LB):Bot:=(Bo a 0 8).bind λds=>(VF ds g).bind λ(bh,bf)=>j15 bh bf g a h p m u v b n o f k
def HT:=Awq Avz
def Atd:Bot:=Bm3 ((Bnl==true)&&((geq Bnr 0)&&true))
def Ih:=Atd Ch
def IW(j28:Bpi)(y ac:Int)(g a:LB)(h p m u v b:Int)(n:Bool)(o:Int)(ak:LX)(f:LI)(k:LB):Bot:=if(Bj ac 0)then(Ao ac).bind λ(bi,bj)=>j28 bi bj
else(DJ m ak).bind λ(bk,bb)=>if(Bj bb 0)then(Ao bb).bind λ(bl,bm)=>j28 bl bm
else(Bt k bk).bind λdv=>(
(Bo a y (Ac a)).bind λdw=>j28 false 0)
def VX:=IW Ih
def UE(j27:Int->Int->LB->LB->Jz6 (Bool->Int->LX->LI->LB->Option Int))(y:Int)(g a:LB)(h p m u v b:Int)(n:Bool)(o:Int)(bc:LX)(ag f:LI)(k:LB):Bot:=(Aj ag b).bind λ_=>(Bo a 0 y).bind λdx=>(Aj ag b).bind λdy=>(NT h p m u v).bind λ(dz,bd)=>(BC dz bd bc dy dx).bind λ(ak,ac)=>j27 y ac g a h p m u v b n o ak f k
def SO:=UE VX
abbrev Bpo:=LB->LB->Jz6 (Bool->Int->LI->LB->Option Int)
def CK(j13:Bpi)(j12:Bpo)(j25:Bpi)(j23:Bpo)(j24:Bpk)(j28:Bpi)(j26:Int->LB->LB->Jz6 (Bool->Int->LX->LI->LI->LB->Option Int))(j22:Bqx)(j21:Bot)(al am:LB)(an ao ap aq ar:Int)(au:LI)(ad:Int)(ae:LB)(aa:Bool)(w:Int):Bot:=if(Ec (Ac al) 64)then
some 8
else
if((geq w 0)&&(!aa))then(Ew al am an ao ap aq ar au ad ae aa w).bind λ(g,a,h,p,m,u,v,f,b,k,n,o)=>(LC al am an ao ap aq ar au ad ae aa w).bind λbn=>if bn then
if(geq h 0)then(Rv a).bind λ(ah,av)=>if(geq av 24)then
j13 true 0
else
if(Bj av 0)then(Ao av).bind λ(bp,bq)=>j13 bp bq
else(Bo a ah (Ac a)).bind λbr=>(Zl br).bind λaj=>if aj then
j13 true 0
else(Bo a ah (Ac a)).bind λbs=>(Yi bs).bind λ(ay,az,ab,ba,af,aw)=>if(geq aw 24)then
j13 true 0
else
if(Bj aw 0)then(Ao aw).bind λ(bt,bu)=>j13 bt bu
else(
(Bo a (Af ah 22) (Ac a)).bind λax=>(
j12 g ax ay az ab ba af b n o f k))
else
if(geq (Ac f) 0)then
if(geq h 2)then
if(Cj (Ac a) 8)then
j25 true 0
else
j23 g a h p m u v b n o f k
else
j24 g a h p m u v b n o f k 0
else
if(Cj b (Ac f))then(Aj f b).bind λ_=>(Aj f b).bind λy=>if(Cj (Ac a) y)then
j28 true 0
else(GB g).bind λ(bc,ai)=>if(Bj ai 0)then(Ao ai).bind λ(bv,bw)=>j28 bv bw
else(Fk h p m u v).bind λ(ag,bx)=>if((Bj bx 0)||(Nw b (Ac ag)))then(Ao 8).bind λ(bz,da)=>j28 bz da
else
j26 y g a h p m u v b n o bc ag f k
else
if(Ec (Ac a) 4000)then(Ao 38).bind λ(db,bd)=>j22 ((db==true)&&((geq bd 0)&&true))
else
j21
else
j22 false
else
if((geq (Ac am) 0)&&(geq (Ac au) 0))then
if((((geq an 0)&&((geq ao 0)&&((geq ap 0)&&((geq aq 0)&&((geq ar 0)&&true)))))&&(geq ad 0))&&(vA (Ac ae) 12000))then
if(geq w 0)then
j22 true
else
if(!aa)then(Zz w).bind λdc=>j22 dc
else
j22 false
else
j22 false
else
if((false&&(geq ad 0))&&(vA (Ac ae) 12000))then
if(geq w 0)then
j22 true
else
if(!aa)then(Zz w).bind λdd=>j22 dd
else
j22 false
else
j22 false
def Fo:=CK Gi HW Om HT Pg Ih SO Ch II
def AI:Boz:=(Fo c I z d j E F M O i D l).bind λe=>if(Bj e 0)then
some (([]:LB),([]:LB),0,0,0,0,0,([]:LI),0,([]:LB),false,0,e)
else
if(Bj l 0)then(
(
(Ew c I z d j E F M O i D l).bind λ(t,A,B,C,G,J,L,N,P,R,T,U)=>(
some (t,A,B,C,G,J,L,N,P,R,T,U,l))))
else
if D then(Ew c I z d j E F M O i D l).bind λ(V,X,Y,Z,l5,l6,l7,l9,o7,o8,o9,p8)=>some (V,X,Y,Z,l5,l6,l7,l9,o7,o8,o9,p8,36)
else(Ew c I z d j E F M O i D l).bind λ(p9,q9,r9,w9,Bmu,Bmv,Bmw,Bmx,Bmy,Bmz,Bm0,Bm1)=>some (p9,q9,r9,w9,Bmu,Bmv,Bmw,Bmx,Bmy,Bmz,Bm0,Bm1,0)
def tC(b g:LB)(h k m n o:Int)(p:LI)(u:Int)(f:LB)(v:Bool)(w a:Int):Boz:=some (b,([]:LB),0,0,0,0,0,([]:LI),0,f,false,a,a)
abbrev Ba:=Option (LB×LB×Int×Int×Int×Int×Int×LI×Int×LB×Bool×Int×Int)
abbrev Bpc:=LB->Jz6 (LI->LB->Ba)
def XN(eQ:Bpc)(a:LB)(b:Bool)(f:Int)(av:LB)(aw ax ay az ba bb:Int)(dy:Bool)(dk:Int)(bc:LI)(bd:LB):Ba:=if dy then(Ew a av aw ax ay az ba bc bb bd b f).bind λ(dz,fa,fb,ap,be,ae,fc,fd,fe,ff,fg,af)=>some (dz,fa,fb,ap,be,ae,fc,fd,fe,ff,fg,af,0)
else
if(Bj dk 0)then(tC a av aw ax ay az ba bc bb bd b f dk).bind λ(fh,fi,fj,fk,fl,fm,fn,fo,fp,fq,fs,ft,fu)=>some (fh,fi,fj,fk,fl,fm,fn,fo,fp,fq,fs,ft,fu)
else
eQ av aw ax ay az ba bb bc bd
def Cp eQ:=XN eQ
abbrev Bo5:=LB->Jz6 (Bool->Int->LI->LB->Ba)
def Bjs(j71:Bo5)(a:LB)(b:Bool)(f:Int)(g:LB)(m o n p u h:Int)(k:LI)(v:LB):Ba:=j71 g m o n p u h true 0 k v
def CV eQ a b f:=Bjs (Cp eQ a b f) a b f
def Bja(j71:Bo5)(a:LB)(b:Bool)(f h:Int)(k:LI)(v:LB)(fv:Bool)(fw:Int)(fx:LB)(fy fz ga gb gc:Int):Ba:=j71 fx fy fz ga gb gc h fv fw k v
def Qw eQ a b f:=Bja (Cp eQ a b f) a b f
abbrev Bpx:=Int->LI->LB->Bool->Int->LB->Jz5 Ba
def Bb1(j62:Bpx)(a:LB)(b:Bool)(f:Int)(ag:LB)(ah ai y aj aa h:Int)(k:LI)(v:LB):Ba:=(Vv ah ai y aj aa a).bind λgd=>(Ao gd).bind λ(ge,ak)=>j62 h k v ge ak ag ah ai y aj aa
def Vk eQ a b f:=Bb1 (Qw eQ a b f) a b f
def Bj9(j71:Bo5)(a:LB)(b:Bool)(f m o n p u h:Int)(v:LB)(bf:Bool)(bg:Int)(bh:LB)(bi:LI):Ba:=j71 bh m o n p u h bf bg bi v
def Nj eQ a b f:=Bj9 (Cp eQ a b f) a b f
abbrev Bpf:=Jz6 (LB->Bool->Int->LB->LI->Ba)
def MH(j75:Bpf)(a:LB)(b:Bool)(f:Int)(g:LB)(m o n p u h:Int)(k:LI)(v:LB)(dl:Int):Ba:=(Fk m o n p u).bind λ(gf,ar)=>if(Bj ar 0)then(Ao ar).bind λ(al,bj)=>j75 m o n p u h v al bj g k
else(Bo g dl (Ac g)).bind λgg=>(gT gg (Ac gf)).bind λ(dm,y)=>if(geq y 24)then
j75 m o n p u h v true 0 g k
else
if(Bj y 0)then(Ao y).bind λ(gh,aa)=>j75 m o n p u h v gh aa g k
else(Bo g (Af (Af dl (Bn 4 (Ac dm))) 4) (Ac g)).bind λgi=>j75 m o n p u h v false 0 gi dm
def Ra eQ a b f:=MH (Nj eQ a b f) a b f
abbrev Bp0:=LB->Jz6 (LI->LB->Int->Ba)
def YS(j75:Bpf)(j74:Bp0)(a:LB)(b:Bool)(f:Int)(bk:Bool)(au:Int)(g:LB)(m o n p u h:Int)(k:LI)(v:LB):Ba:=if(Bj au 0)then(Ao au).bind λ(gj,ar)=>j75 m o n p u h v gj ar g k
else
if(!bk)then(Ao 26).bind λ(al,bj)=>j75 m o n p u h v al bj g k
else
j74 g m o n p u h k v 8
def Axj eQ a b f:=YS (Nj eQ a b f) (Ra eQ a b f) a b f
def XT(j64:Bool->Int->LB->Jz6 (LI->LB->Ba))(a:LB)(b:Bool)(f:Int)(g:LB)(m o n p u h:Int)(k:LI)(v:LB):Ba:=(Bo g 0 8).bind λgk=>(VF gk a).bind λ(bk,au)=>j64 bk au g m o n p u h k v
def BQ eQ a b f:=XT (Axj eQ a b f) a b f
def Bil(j71:Bo5)(a:LB)(b:Bool)(f m o n p u:Int)(k:LI)(bl:Bool)(bm:Int)(bn:LB)(bp:Int)(bq:LB):Ba:=j71 bn m o n p u bp bl bm k bq
def Qt eQ a b f:=Bil (Cp eQ a b f) a b f
abbrev Bpy:=Jz5 (LI->Bool->Int->LB->Int->LB->Ba)
def LW(j78:Bpy)(a:LB)(b:Bool)(f w ab:Int)(g:LB)(m o n p u h:Int)(am:LX)(k:LI)(v:LB):Ba:=if(Bj ab 0)then(Ao ab).bind λ(br,bs)=>j78 m o n p u k br bs g h v
else(DJ n am).bind λ(bt,af)=>if(Bj af 0)then(Ao af).bind λ(bu,bv)=>j78 m o n p u k bu bv g h v
else(Bt v bt).bind λbw=>(
(Bo g w (Ac g)).bind λbx=>j78 m o n p u k false 0 bx (Af h 1) bw)
def YH eQ a b f:=LW (Qt eQ a b f) a b f
def XS(j77:Int->Int->LB->Jz6 (LX->LI->LB->Ba))(a:LB)(b:Bool)(f w:Int)(g:LB)(m o n p u h:Int)(aq:LX)(ac k:LI)(v:LB):Ba:=(Aj ac h).bind λ_=>(Bo g 0 w).bind λgl=>(Aj ac h).bind λgm=>(NT m o n p u).bind λ(be,ae)=>(BC be ae aq gm gl).bind λ(am,ab)=>j77 w ab g m o n p u h am k v
def DD eQ a b f:=XS (YH eQ a b f) a b f
def Jy(j62:Bpx)(j61:Bpc)(j75:Bpf)(j73:Bpc)(j74:Bp0)(j78:Bpy)(j76:Int->LB->Jz6 (LX->LI->LI->LB->Ba))(j71:Bo5)(j70:Bpc)(a:LB)(b:Bool)(f:Int)(g:LB)(m o n p u h:Int)(k:LI)(v:LB):Ba:=if(geq m 0)then(Rv g).bind λ(ad,an)=>if(geq an 24)then
j62 h k v true 0 g m o n p u
else
if(Bj an 0)then(Ao an).bind λ(bz,da)=>j62 h k v bz da g m o n p u
else(Bo g ad (Ac g)).bind λdb=>(Zl db).bind λal=>if al then
j62 h k v true 0 g m o n p u
else(Bo g ad (Ac g)).bind λdc=>(Yi dc).bind λ(ah,ai,y,aj,aa,ao)=>if(geq ao 24)then
j62 h k v true 0 g m o n p u
else
if(Bj ao 0)then(Ao ao).bind λ(dd,de)=>j62 h k v dd de g m o n p u
else(
(Bo g (Af ad 22) (Ac g)).bind λag=>(
j61 ag ah ai y aj aa h k v))
else
if(geq (Ac k) 0)then
if(geq m 2)then
if(Cj (Ac g) 8)then
j75 m o n p u h v true 0 g k
else
j73 g m o n p u h k v
else
j74 g m o n p u h k v 0
else
if(Cj h (Ac k))then(Aj k h).bind λ_=>(Aj k h).bind λw=>if(Cj (Ac g) w)then
j78 m o n p u k true 0 g h v
else(GB a).bind λ(aq,ak)=>if(Bj ak 0)then(Ao ak).bind λ(df,dg)=>j78 m o n p u k df dg g h v
else(Fk m o n p u).bind λ(ac,dh)=>if((Bj dh 0)||(Nw h (Ac ac)))then(Ao 8).bind λ(di,ap)=>j78 m o n p u k di ap g h v
else
j76 w g m o n p u h aq ac k v
else
if(Ec (Ac g) 4000)then(Ao 38).bind λ(dj,ae)=>j71 g m o n p u h dj ae k v
else
j70 g m o n p u h k v
def Au:Nat->LB->Jz6 (LI->LB->Ba)
|0,_,_,_,_,_,_,_,_,_=>none
|z+1,d,e,i,j,t,A,B,C,E=>Jy (Qw (Au z) c D l) (Vk (Au z) c D l) (Nj (Au z) c D l) (BQ (Au z) c D l) (Ra (Au z) c D l) (Qt (Au z) c D l) (DD (Au z) c D l) (Cp (Au z) c D l) (CV (Au z) c D l) c D l d e i j t A B C E
def Bim a b f:=Au a b f As
def Xt(j37:LB->Bool->Int->LB->Jz6 (LI->LB->Ba))(gn go:LB)(gp gq gr gs gt:Int)(gu:LI)(gv:Int)(gw:LB)(gx:Bool)(gy:Int)(gz:LB):Ba:=(AI gn go gp gq gr gs gt gu gv gw gx gy).bind λ(a,dn,dp,dq,dr,ds,dt,du,dv,dw,b,f,dx)=>if(Bj dx 0)then
some (a,dn,dp,dq,dr,ds,dt,du,dv,dw,b,f,dx)
else(Bt dn gz).bind λha=>j37 a b f ha dp dq dr ds dt dv du dw
def Ds:=Xt Bim
abbrev Bpj:=Option (LB×LB×Int×Int×Int×Int×Int×LI×Int×LB×Bool×Int×LB×Int)
def Ny:Bpj:=(Fo c I z d j E F M O i D l).bind λe=>if(Bj e 0)then
some (([]:LB),([]:LB),0,0,0,0,0,([]:LI),0,([]:LB),false,0,([]:LB),e)
else
if(Cj l9 0)then
some (([]:LB),([]:LB),0,0,0,0,0,([]:LI),0,([]:LB),false,0,([]:LB),2)
else(Ew c I z d j E F M O i D l).bind λ(t,A,B,C,G,J,L,N,P,R,T,U)=>(Bo R 0 (Du l9 (Ac R))).bind λV=>(Lg V).bind λX=>(Bo R (Du l9 (Ac R)) (Ac R)).bind λY=>some (t,A,B,C,G,J,L,N,P,Y,T,U,X,0)
abbrev M1:=Option (Int×Int)
def Bf1:M1:=(Bo c (Ap (Ac c) 32) (Ac c)).bind λz=>(eX z 0).bind λ(d,e,i)=>if i then
if(Cj (Ap (Ac c) 32) d)then
some (0,24)
else
some ((Af d 32),0)
else(Bo c (Ap (Ac c) 32) (Ac c)).bind λj=>(eX j 2147483648).bind λ(l,t,A)=>if(!A)then
some (0,12)
else
if(Cj (Ac c) (Af l 64))then
some (0,24)
else(Bo c (Ap (Ac c) (Af l 64)) (Af (Ap (Ac c) (Af l 64)) 32)).bind λB=>(zM l t 2684354560).bind λC=>(Qb B C).bind λD=>if(!D)then
some (0,12)
else
some ((Af l 64),0)
def Axq:=Bf1
def Bdk(j2:LB->M1)(a:LB):M1:=if(Cj (Ap (Ac a) 32) 0)then
some (0,6)
else(Bo a (Ap (Ac a) 32) (Ac a)).bind λv=>(To v ([(65:UInt8),(80:UInt8),(69:UInt8),(84:UInt8),(65:UInt8),(71:UInt8),(69:UInt8),(88:UInt8)]:LB)).bind λw=>if(!w)then
some (0,6)
else
j2 a
def P9:=Bdk Axq
abbrev Je:=Option (Int×Int)
def Bjc:Je:=some (z,0)
def Bbh:=Bjc
abbrev Brc:=Int->LB->Je
def Bbj(bk8:Brc)(a:Int)(g:LB):Je:=bk8 (Af a 1) g
def Bbi bk8:=Bbj bk8
def Bbd(j12:Brc)(a f:Int)(b:LB):Je:=if(geq f 0)then
some (0,38)
else(Bo b 0 (Ap (Ac b) f)).bind λg=>j12 a g
def YG bk8:=Bbd (Bbi bk8)
def cI(j11:Int->Int->LB->Je)(j14:Int->Je)(a:Int)(b:LB):Je:=if(Ec (Ac b) 0)then(P9 b).bind λ(f,k)=>j11 a f b
else
j14 a
def FJ:Nat->Int->LB->Je
|0,_,_=>none
|q+1,a,b=>cI (YG (FJ q)) Bbh a b
def Bmp:=FJ As
def cD(j8:Brc)(h:LB):Je:=if(Ec (Ac h) 4000)then
some (0,38)
else
j8 0 h
def dX:=cD Bmp
def JS(p a:LB)(g u v w y:Int)(b:LI)(h:Int)(aa:LB)(ab:Bool)(ac:Int):Bot:=if(geq g 0)then(Rv a).bind λ(k,f)=>if(Bj f 0)then
some f
else(Bo a k (Ac a)).bind λm=>(Yi m).bind λ(ad,ae,af,ag,ah,n)=>some n
else
if((Cj h (Ac b))||(geq (Ac b) 0))then
some 24
else(dX a).bind λ(ai,o)=>some o
def Fg:Boz:=(AI c I z d j E F M O i D l).bind λ(e,t,A,B,C,G,J,L,N,P,R,T,U)=>if(Bj U 0)then
some (e,t,A,B,C,G,J,L,N,P,R,T,U)
else(JS e t A B C G J L N P R T).bind λV=>if(Bj V 0)then(tC e t A B C G J L N P R T V).bind λ(X,Y,Z,l5,l6,l7,l9,o7,o8,o9,p8,p9,q9)=>some (X,Y,Z,l5,l6,l7,l9,o7,o8,o9,p8,p9,q9)
else
some (e,([]:LB),0,0,0,0,0,([]:LI),0,P,true,0,0)
abbrev Cl:=Option (LB×LB×Int×Int×Int×Int×Int×LI×Int×LB×Bool×Int×(List (Int×LB×Unit))×Int)
abbrev Bow:=List (Int×LB×Unit)
def Avp(f:LB)(g h k m n o:Int)(p:LB)(u:Bool)(v:Int)(a:LB)(aa:Bow)(w:LB)(y:LI):Cl:=some (f,w,g,h,k,m,n,y,o,p,u,v,aa,0)
def Au8:=Avp
def Awb(j32:LB->Jz6 (LB->Bool->Int->LB-> (List (Int×LB×Unit))->LB->LI->Cl))(aa:Bow)(f:LB)(g h k m n o:Int)(p:LB)(u:Bool)(v:Int)(a w:LB)(y:LI):Cl:=j32 f g h k m n o p u v a aa w y
def SN:=Awb Au8
abbrev Bo0:=Int->LB->Jz6 (LB->Bool->Int->LB-> (List (Int×LB×Unit))->LB->LI->Cl)
def IL(nU:Bo0)(b:Bou)(ab:Int)(dm:LB)(dn dp dq dr ds dt:Int)(du:LB)(dv:Bool)(dw:Int)(dx:LB)(dy:Bow)(dz:LB)(fa:LI):Cl:=nU (Af ab 1) dm dn dp dq dr ds dt du dv dw dx dy dz fa
def Iq nU:=IL nU
def IH(j29:Bo0)(b:Bou)(ac:UInt8×Int×Unit)(a:LB)(ad ab:Int)(f w:LB)(g h k m n:Int)(y:LI)(o:Int)(p:LB)(u:Bool)(v:Int)(ae:LB)(af ag ah ai aj ak:Int)(al:LB)(am:Bool)(an:Int)(aa:Bow)(ao:LB)(ap:LI):Cl:=(
(Bo a (Du ac.2.1 (Ac a)) (Ac a)).bind λbv=>(Bt aa ([(ad,([]:LB),())]:Bow)).bind λar=>j29 ab ae af ag ah ai aj ak al am an bv ar ao ap)
def VW nU b:=IH (Iq nU b) b
def Awx(j29:Bo0)(b:Bou)(au ab:Int)(f w:LB)(g h k m n:Int)(y:LI)(o:Int)(p:LB)(u:Bool)(v:Int)(a av:LB)(aw ax ay az ba bb:Int)(bc:LB)(bd:Bool)(be:Int)(bf:LB)(aa:Bow)(ar:LB)(bg:LI):Cl:=(Bt aa ([(au,bf,())]:Bow)).bind λfb=>j29 ab av aw ax ay az ba bb bc bd be a fb ar bg
def SG nU b:=Awx (Iq nU b) b
def Awr(j29:Bo0)(b:Bou)(bh ab:Int)(f w:LB)(g h k m n:Int)(y:LI)(o:Int)(p:LB)(u:Bool)(v:Int)(a bi:LB)(bj bk bl bm bn bp:Int)(bq:LB)(br:Bool)(bs:Int)(aa:Bow)(bt:LB)(bu:LI):Cl:=(Bt aa ([(bh,([]:LB),())]:Bow)).bind λfc=>j29 ab bi bj bk bl bm bn bp bq br bs a fc bt bu
def TJ nU b:=Awr (Iq nU b) b
def Yu(j26:(UInt8×Int×Unit)->LB->Int->Int->LB->LB->Jz5 (LI->Int->LB->Bool->Int->LB->Int->Int->Int->Int->Int->Int->LB->Bool->Int-> (List (Int×LB×Unit))->LB->LI->Cl))(j33:Int->Int->LB->LB->Jz5 (LI->Int->LB->Bool->Int->LB->LB->Int->Int->Int->Int->Int->Int->LB->Bool->Int->LB-> (List (Int×LB×Unit))->LB->LI->Cl))(j34:Int->Int->LB->LB->Jz5 (LI->Int->LB->Bool->Int->LB->LB->Int->Int->Int->Int->Int->Int->LB->Bool->Int-> (List (Int×LB×Unit))->LB->LI->Cl))(j29:Bo0)(j31:(List (Int×LB×Unit))->LB->Jz6 (LB->Bool->Int->LB->LB->LI->Cl))(b:Bou)(ab:Int)(f:LB)(g h k m n o:Int)(p:LB)(u:Bool)(v:Int)(a:LB)(aa:Bow)(w:LB)(y:LI):Cl:=if(Cj ab (Ac b))then(Aj b ab).bind λac=>if(geq ac.1 1)then(
(
(
(Bo a 0 (Du ac.2.1 (Ac a))).bind λaq=>(
(Ds f w g h k m n y o p u v aq).bind λ(ae,ao,af,ag,ah,ai,aj,ap,ak,al,am,an,ad)=>j26 ac a ad ab f w g h k m n y o p u v ae af ag ah ai aj ak al am an aa ao ap))))
else
if(geq ac.1 2)then(
(
(
(Ny f w g h k m n y o p u v ac.2.1).bind λ(av,ar,aw,ax,ay,az,ba,bg,bb,bc,bd,be,bf,au)=>j33 au ab f w g h k m n y o p u v a av aw ax ay az ba bb bc bd be bf aa ar bg)))
else
if(geq ac.1 3)then(
(
(
(Fg f w g h k m n y o p u v).bind λ(bi,bt,bj,bk,bl,bm,bn,bu,bp,bq,br,bs,bh)=>j34 bh ab f w g h k m n y o p u v a bi bj bk bl bm bn bp bq br bs aa bt bu)))
else
j29 ab f g h k m n o p u v a aa w y
else
j31 aa f g h k m n o p u v a w y
def Ie:Nat->Int->LB->Jz6 (LB->Bool->Int->LB-> (List (Int×LB×Unit))->LB->LI->Cl)
|0,_,_,_,_,_,_,_,_,_,_,_,_,_,_,_=>none
|z+1,c,d,e,i,j,l,t,A,B,C,D,E,F,G,I=>Yu (VW (Ie z) P) (SG (Ie z) P) (TJ (Ie z) P) (Iq (Ie z) P) SN P c d e i j l t A B C D E F G I
def Bif b:=Ie b As
def CB(j17:(List (UInt8×Int×Unit))->Int->LB->Jz6 (LB->Bool->Int->LB-> (List (Int×LB×Unit))->LB->LI->Cl))(fd fe:LB)(b:Bou):Cl:=(Ri b).bind λbx=>if(Bj bx 0)then
some (([]:LB),([]:LB),0,0,0,0,0,([]:LI),0,([]:LB),false,0,([]:Bow),bx)
else(RO fd).bind λ(ff,fg,fh,fi,fj,fk,fl,fm,fn,fo,fp,fq,bz)=>if(Bj bz 0)then
some (([]:LB),([]:LB),0,0,0,0,0,([]:LI),0,([]:LB),false,0,([]:Bow),bz)
else
j17 b 0 ff fh fi fj fk fl fn fo fp fq fe ([]:Bow) fg fm
def Zw:=CB Bif
def SL:Bo8:=(Fo c I z d j E F M O i D l).bind λe=>if(Bj e 0)then
some (0,e)
else
some ((Af (Ac I) (Bn 8 (Ac M))),0)
abbrev Rf:=Option (Int×Int×Int)
def Bmj:Rf:=some (z,d,0)
def Bdc:=Bmj
def Bd9(zi:LB->Jz3 (LB->Int->Int->Int->Int->Int->Int->LB->Bool->Int->LB->LI->Rf))(a:Bou)(b f g:Int)(ax af:LB)(ag ah ai aj ak al:Int)(ae:LB)(am:Bool)(an:Int)(ao:LB)(ap:LI):Rf:=(SL af ao ag ah ai aj ak ap al ae am an).bind λ(ay,aq)=>if(Bj aq 0)then
some (0,0,aq)
else
zi ax (jQ b ay) (jQ f (Ac ae)) (Af g 1) af ag ah ai aj ak al ae am an ao ap
def OO zi:=Bd9 zi
def CF(j10:Jz3 (LB->LB->Int->Int->Int->Int->Int->Int->LB->Bool->Int->LB->LI->Rf))(j12:Int->Int->Rf)(a:Bou)(h:LB)(b f g:Int)(k:LB)(m n o p u v:Int)(w:LB)(y:Bool)(aa:Int)(ab:LB)(ac:LI):Rf:=if(Cj g (Ac a))then(Aj a g).bind λad=>if(geq ad.1 1)then(Bo h 0 (Du ad.2.1 (Ac h))).bind λaz=>(Ds k ab m n o p u ac v w y aa az).bind λ(ba,bb,bc,bd,be,bf,bg,bh,bi,bj,bk,bl,fa)=>(Bo h (Du ad.2.1 (Ac h)) (Ac h)).bind λbm=>j10 b f g bm ba bc bd be bf bg bi bj bk bl bb bh
else
if(geq ad.1 2)then(Ny k ab m n o p u ac v w y aa ad.2.1).bind λ(bn,bp,bq,br,bs,bt,bu,bv,bw,bx,bz,da,fb,fc)=>j10 b f g h bn bq br bs bt bu bw bx bz da bp bv
else
if(geq ad.1 3)then(Fg k ab m n o p u ac v w y aa).bind λ(db,dc,dd,de,df,dg,dh,di,dj,dk,dl,dm,fd)=>j10 b f g h db dd de df dg dh dj dk dl dm dc di
else
j10 b f g h k m n o p u v w y aa ab ac
else
j12 b f
def Md:Nat->LB->Jz3 (LB->Int->Int->Int->Int->Int->Int->LB->Bool->Int->LB->LI->Rf)
|0,_,_,_,_,_,_,_,_,_,_,_,_,_,_,_,_=>none
|z+1,c,d,e,i,j,l,t,A,B,C,D,E,F,G,I,J=>CF (OO (Md z) P) Bdc P c d e i j l t A B C D E F G I J
def Bkj a:=Md a As
def KI(j7:(List (UInt8×Int×Unit))->LB->Jz3 (LB->Int->Int->Int->Int->Int->Int->LB->Bool->Int->LB->LI->Rf))(ar au:LB)(a:Bou):Rf:=(Zw ar au a).bind λ(fe,ff,fg,fh,fi,fj,fk,fl,fm,fn,fo,fp,fq,av)=>if(Bj av 0)then
some (0,0,av)
else(RO ar).bind λ(dn,dp,dq,dr,ds,dt,du,dv,dw,dx,dy,dz,aw)=>if(Bj aw 0)then
some (0,0,aw)
else
j7 a au 0 0 0 dn dq dr ds dt du dw dx dy dz dp dv
def RC:=KI Bkj
def Bl0:Bot:=some 0
def Afm:=Bl0
def Wk:Bot:=if(Cj Bnn (Ac P))then(Aj P Bnn).bind λz=>if((((Cj z.1 1)||(Ec z.1 3))||(Cj z.2.1 0))||(Ec z.2.1 100000))then
some 2
else
if((geq z.1 3)&&(Bj z.2.1 0))then
some 2
else
Bm2 (Af Bnn 1)
else
Bm1
def Ex:Nat->Int->Option Int
|0,_=>none
|z+1,c=>Wk Afm (Ex z) P c
def Blj a:=Ex a As
def Qh(j4:Bp6)(a:Bou):Bot:=if(Ec (Ac a) 200)then
some 4
else
j4 a 0
def Jq:=Qh Blj
def Vo:Boz:=if(Ec (Ac c) 64)then
some (([]:LB),([]:LB),0,0,0,0,0,([]:LI),0,([]:LB),false,0,2)
else
some (c,([]:LB),0,0,0,0,0,([]:LI),0,([]:LB),false,0,0)
def Mk:Bp2:=(Bo c z (Af z (Du d (Ap (Ac c) z)))).bind λe=>some (e,(Af z (Du d (Ap (Ac c) z))))
def Lc:Boy:=if((((geq z 1)||(geq z 2))&&(Nw d 1))&&(vA d 6))then
some ((((((geq j 8)||(geq j 16))||(geq j 24))&&(Nw E 1))&&(vA E 1048576))&&(Nw F 1))
else
some (((false&&(Nw E 1))&&(vA E 1048576))&&(Nw F 1))
def Ys:Bot:=some (jQ 1 (Bs (Bn 256 z) 245))
def Wl:Bpa:=some R
def Qm:=Wl
def Lq(j6:Bq3)(Se:Bqa)(a f:Int)(b:LI):Bpa:=if(Ec f 0)then(Ys a).bind λg=>(Bt b ([(Du f g)]:LI)).bind λh=>(Ys a).bind λk=>Se (Ap f k) h
else
j6 b
def Fu:Nat->Int->LI->Option (LI)
|0,_,_=>none
|c+1,d,e=>Lq Qm (Fu c) z d e
def Afp a:=Fu a As
def HA(j4:Int->Int->LI->Option (LI))(a m:Int):Bpa:=j4 a m ([]:LI)
def Mm:=HA Afp
def Oz(h a k f b:Int):Boy:=(
(Mt (Bj a 0)).bind λ_=>(
if(Ec b (Bs 4000 a))then
some true
else(Mm f b).bind λg=>some (Ec (Ac g) 1000)))
def Mr:Bot:=(Lc z d j E F).bind λc=>if(!c)then
some 8
else(Oz z d j E F).bind λe=>if e then
some 8
else
some 0
def Et(a f g h k:Int)(b:LB):Bot:=if((b==([]:LB)) !=(geq a 1))then
some 26
else
some 0
def Afa:Bot:=if(Ec z 100000)then
some 8
else
some 0
def EM:=Afa
def Ahj:Bot:=(Aj Bnj Bmw).bind λz=>Bm7 (Af Bnf z) (Af Bmw 1)
def HE nk:=Ahj nk
def Wv:Bot:=if(Cj Bnt (Ac Bn2))then(Aj Bn2 Bnt).bind λz=>if(Cj z 5)then
some 8
else(Aj Bn2 Bnt).bind λc=>if(Ec c 100000)then
some 8
else
Bm7 Bn8 Bnt
else
Boq Bn8
def Ls:Nat->Int->Int->Option Int
|0,_,_=>none
|z+1,c,d=>Wv (HE (Ls z) R) EM R c d
def Aj9 a:=Ls a As
def Wi(j6:Bqf)(a:LI):Bot:=if((Cj (Ac a) 1)||(Ec (Ac a) 1000))then
some 8
else
j6 a 0 0
def Jc:=Wi Aj9
def Gy(g h k a b:Int):Bpa:=(Mm a b).bind λf=>some f
def Jl(f a b g h:Int):Bo8:=some (a,b)
def Gb:Bot:=some (Bs (Bn z d) 8)
def Al3:Bot:=(Jl d j E F O).bind λ(c,e)=>(Gb c e).bind λi=>some (Bn z i)
def JE:=Al3
def Yh(j6:Jz6 (Option Int))(Se:Bp9)(n a b f g h:Int)(k:LI)(m o:Int):Bot:=if(Cj o n)then(Aj k o).bind λ_=>(Aj k o).bind λw=>Se (Af m w) (Af o 1)
else
j6 m a b f g h
def Nh:Nat->Int->Int->Option Int
|0,_,_=>none
|c+1,e,i=>Yh JE (Nh c) z d j E F O Bnx e i
def Blq n a b f g h k:=Nh n a b f g h k As
def KD(j4:Jz6 (LI->Int->Int->Option Int))(a b f g h n:Int):Bot:=(Gy a b f g h).bind λk=>j4 n a b f g h k 0 0
def Yx:=KD Blq
abbrev Jd:=Option (Int×Int)
def Bl5:Jd:=some (z,0)
def Ak0:=Bl5
def Wu(j6:Int->Jd)(Se:Int->Int->Jd)(a:LB)(b f:Int):Jd:=if(Cj f 4)then(Aj a f).bind λg=>if(Nw g 128)then
some (0,12)
else(Aj a f).bind λh=>Se (Af (Bn 128 b) (Ae h:Int)) (Af f 1)
else
j6 b
def Lr:Nat->Int->Int->Jd
|0,_,_=>none
|z+1,d,e=>Wu Ak0 (Lr z) c d e
def Agb a:=Lr a As
def HH(j4:LB->Int->Int->Jd)(a:LB):Jd:=if(Bj (Ac a) 4)then
some (0,2)
else
j4 a 0 0
def ES:=HH Agb
abbrev Le:=Option (Int×Int)
def Akx:Le:=if(Ec z 4000)then
some (0,4)
else
if(Cj (Ac c) z)then
some (0,24)
else(Aj c 5).bind λd=>if(geq d 16)then(Bo c (Ap z 10) z).bind λe=>(Bo c 3 10).bind λi=>(Bt ([51,68,73]:LB) i).bind λj=>if(e !=j)then
some (0,12)
else
some (z,0)
else
some (z,0)
def JF:=Akx
def Akd(j6:LB->Int->Le)(a:LB)(b:Int):Le:=(Aj a 5).bind λo=>if(geq o 16)then
j6 a (Af (Af 10 b) 10)
else
j6 a (Af 10 b)
def Yd:=Akd JF
def JZ(j5:LB->Int->Le)(a:LB):Le:=if(Cj (Ac a) 10)then
some (0,24)
else(Bo a 6 10).bind λp=>(ES p).bind λ(b,f)=>(Aj a 3).bind λu=>if(Cj u 2)then
if true then
if true then
if(true||(Bj f 0))then
some (0,12)
else
j5 a b
else(Aj a 5).bind λv=>if(Bj v 0)then(Aj a 5).bind λw=>if(Bj w 16)then
if(true||(Bj f 0))then
some (0,12)
else
j5 a b
else(Aj a 3).bind λy=>if((Bj y 4)||(Bj f 0))then
some (0,12)
else
j5 a b
else
if(false||(Bj f 0))then
some (0,12)
else
j5 a b
else(Aj a 4).bind λaa=>if(Bj aa 0)then
if(true||(Bj f 0))then
some (0,12)
else
j5 a b
else(Aj a 5).bind λab=>if(Bj ab 0)then(Aj a 5).bind λac=>if(Bj ac 16)then
if(true||(Bj f 0))then
some (0,12)
else
j5 a b
else(Aj a 3).bind λad=>if((Bj ad 4)||(Bj f 0))then
some (0,12)
else
j5 a b
else
if(false||(Bj f 0))then
some (0,12)
else
j5 a b
else(Aj a 3).bind λae=>if(Ec ae 4)then
if true then
if(true||(Bj f 0))then
some (0,12)
else
j5 a b
else(Aj a 5).bind λaf=>if(Bj af 0)then(Aj a 5).bind λag=>if(Bj ag 16)then
if(true||(Bj f 0))then
some (0,12)
else
j5 a b
else(Aj a 3).bind λah=>if((Bj ah 4)||(Bj f 0))then
some (0,12)
else
j5 a b
else
if(false||(Bj f 0))then
some (0,12)
else
j5 a b
else(Aj a 4).bind λai=>if(Bj ai 0)then
if(true||(Bj f 0))then
some (0,12)
else
j5 a b
else(Aj a 5).bind λaj=>if(Bj aj 0)then(Aj a 5).bind λak=>if(Bj ak 16)then
if(true||(Bj f 0))then
some (0,12)
else
j5 a b
else(Aj a 3).bind λal=>if((Bj al 4)||(Bj f 0))then
some (0,12)
else
j5 a b
else
if(false||(Bj f 0))then
some (0,12)
else
j5 a b
def Alq:=JZ Yd
def JO(j4:LB->Le)(a:LB):Le:=if(Cj (Ac a) 3)then
some (0,6)
else(Bo a 0 3).bind λam=>if(am !=([73,68,51]:LB))then
some (0,6)
else
j4 a
def HZ:=JO Alq
def Aox:Bo6:=some A
def PX:=Aox
def FF:Bo6:=if(Nw o7 0)then(Aj Bnm o7).bind λz=>Bm5 (Af (Bn 256 A) (Ae z:UInt64)) (Ap o7 1)
else
Bm4 A
def Qx:Nat->UInt64->Int->Option UInt64
|0,_,_=>none
|z+1,d,e=>FF PX (Qx z) c d e
def Apl a:=Qx a As
abbrev Bqp:=LB->UInt64->Int->Option UInt64
def PN(j4:Bqp)(a:LB):Bo6:=j4 a 0 (Ap (Ac a) 1)
def Bb:=PN Apl
def Sk:Bq2:=(Bo c 12 16).bind λz=>(Bb z).bind λd=>(Bo c 16 20).bind λe=>(Bb e).bind λi=>if(((Cj d 32)||(Ec d 3032))||(Ec i 1000))then
some (0,0,false)
else
some ((Ap (Ae d:Int) 32),(Ae i:Int),true)
def Acs:Bo2:=some c
def BD:=Acs
def Tg(j6:Bqc)(Se:UInt64->Int->LB->Option (LB))(b:Int)(f:UInt64)(g:Int)(a:LB):Bo2:=if(Cj g b)then(Bt a ([(Ae (FP f 256):UInt8)]:LB)).bind λh=>Se (Bs f 256) (Af g 1) h
else
j6 a
def Iv:Nat->UInt64->Int->LB->Option (LB)
|0,_,_,_=>none
|c+1,d,e,i=>Tg BD (Iv c) z d e i
def Acr b:=Iv b As
def CN(j4:Int->UInt64->Int->LB->Option (LB))(k:UInt64)(b:Int):Bo2:=j4 b k 0 ([]:LB)
def Bf:=CN Acr
def Vm:Bo2:=(Bf 2000 4).bind λc=>(Bt ([(65:UInt8),(80:UInt8),(69:UInt8),(84:UInt8),(65:UInt8),(71:UInt8),(69:UInt8),(88:UInt8)]:LB) c).bind λe=>(Bf (Ae (Af z 32):UInt64) 4).bind λi=>(Bt e i).bind λj=>(Bf (Ae d:UInt64) 4).bind λl=>(Bt j l).bind λt=>(Bf A 4).bind λB=>(Bt t B).bind λC=>(mkI (8:Int) (0:UInt8)).bind λD=>(Bt C D).bind λE=>some E
def Yl:Bo2:=(Vm z d 2684354560).bind λc=>some c
def Gu:Bo2:=if D then(Vm z d 2147483648).bind λc=>some c
else(Vm z d 0).bind λe=>some e
abbrev Ru:=Option (Int×Int)
def Aiu:Ru:=if(Cj (Ac c) (Af 64 z))then
some (0,24)
else(Bo c (Ap (Af 64 z) 32) (Af 64 z)).bind λe=>(Gu z d true).bind λi=>if(e !=i)then
some (0,12)
else
some ((Af 64 z),0)
def Ak1:=Aiu
def Agy(j4:LB->Int->Int->Ru)(a:LB):Ru:=if(Cj (Ac a) 32)then
some (0,24)
else(Bo a 0 32).bind λk=>(Sk k).bind λ(b,f,m)=>if(!m)then
some (0,12)
else(Bo a 0 32).bind λn=>(Yl b f).bind λo=>if(n !=o)then
some (0,12)
else
j4 a b f
def Aiq:=Agy Ak1
def Afu(j3:LB->Ru)(a:LB):Ru:=if(Cj (Ac a) 8)then
some (0,6)
else(Bo a 0 8).bind λp=>if(p !=([65,80,69,84,65,71,69,88]:LB))then
some (0,6)
else
j3 a
def ED:=Afu Aiq
abbrev Jh:=Option (LI×Int)
def Aik(nk:Int->LI->Jh)(a:LB)(b:Int)(f:LI)(g h:Int):Jh:=if(geq h 6)then
some (f,0)
else
if(Bj h 0)then
some (([]:LI),h)
else
if(Ec (Af b g) 4000)then
some (([]:LI),4)
else(Bt f ([g]:LI)).bind λm=>nk (Af b g) m
def Qj nk:=Aik nk
def Wx(j9:Int->LI->Int->Int->Jh)(a:LB)(b:Int)(f:LI):Jh:=(Bo a b (Ac a)).bind λn=>(HZ n).bind λ(o,k)=>if(geq k 6)then(Bo a b (Ac a)).bind λp=>(ED p).bind λ(u,v)=>j9 b f u v
else
j9 b f o k
def Qf:Nat->Int->LI->Jh
|0,_,_=>none
|z+1,d,e=>Wx (Qj (Qf z) c) c d e
def Blp a:=Qf a As
def Afv(j6:LB->Int->LI->Jh)(a:LB):Jh:=j6 a 0 ([]:LI)
def PL:=Afv Blp
abbrev Jo:=Option (Int×Int)
def Aft:Jo:=some (d,z)
def HR:=Aft
def Wh(j6:Int->Int->Jo)(Se:Int->Int->Jo)(a:Int)(b:LI)(f g:Int):Jo:=if(Cj g (Ac b))then(Aj b g).bind λ_=>(Aj b g).bind λh=>Se (Af f h) (Af g 1)
else
j6 a f
def Ll:Nat->Int->Int->Jo
|0,_,_=>none
|c+1,d,e=>Wh HR (Ll c) z M d e
def GG a b:=Ll a b As
def HB(j4:Int->LI->Int->Int->Jo)(k:LB):Jo:=(PL k).bind λ(b,a)=>j4 a b 0 0
def Wg:=HB GG
def Ui:Boy:=if(Cj (Ac c) (Ac I))then(Bo I 0 (Ac c)).bind λz=>some (c==z)
else
some false
abbrev Bph:=Option UInt32
def Akw:Bph:=if Bnk then
some (KR (Bs V 2) 3988292384)
else
some (Bs V 2)
def Ake:=Akw
def Aka(j2:UInt32->Bool->Option UInt32)(a:UInt32)(f:Int):Bph:=if(geq f 1)then
j2 a (!(geq (FP a 2) 1))
else
j2 a (geq (FP a 2) 1)
def IP:=Aka Ake
def Alc:Bph:=some V
def KW:=Alc
abbrev Bq8:=UInt32->Option UInt32
abbrev Bqj:=UInt32->UInt8->Int->Option UInt32
def Zg(j6:Bq8)(Se:Bqj)(a:UInt32)(b:UInt8)(f:Int):Bph:=if(Cj f 8)then(IP a (Ae (FP b 2):Int)).bind λg=>Se g (Bs b 2) (Af f 1)
else
j6 a
def Nd:Nat->UInt32->UInt8->Int->Option UInt32
|0,_,_,_=>none
|q+1,a,b,f=>Zg KW (Nd q) a b f
def Bls:=Nd As
def Alu(j4:Bqj)(h:UInt32)(k:UInt8):Bph:=j4 h k 0
def VA:=Alu Bls
def Aea:Bph:=some V
def FH:=Aea
def Up(j6:Bq8)(Se:UInt32->Int->Option UInt32)(a:LB)(b:UInt32)(f:Int):Bph:=if(Cj f (Ac a))then(Aj a f).bind λg=>(VA b g).bind λh=>Se h (Af f 1)
else
j6 b
def Km:Nat->UInt32->Int->Option UInt32
|0,_,_=>none
|z+1,d,e=>Up FH (Km z) c d e
def Aeq a:=Km a As
def DW(j4:LB->UInt32->Int->Option UInt32)(k:UInt32)(a:LB):Bph:=j4 a k 0
def MR:=DW Aeq
def Js:Bph:=(MR 4294967295 c).bind λz=>some (Ap 4294967295 z)
abbrev La:=Option (Int×Int×Int×Int×Int×Int)
def Akv:La:=(Lc (Ae A:Int) (Ae l7:Int) (Ae Bnb:Int) (Ae Bnh:Int) (Ae Bnq:Int)).bind λz=>if(!z)then
some (0,0,0,0,0,12)
else(Oz (Ae A:Int) (Ae l7:Int) (Ae Bnb:Int) (Ae Bnh:Int) (Ae Bnq:Int)).bind λc=>if c then
some (0,0,0,0,0,4)
else
some ((Ae A:Int),(Ae l7:Int),(Ae Bnb:Int),(Ae Bnh:Int),(Ae Bnq:Int),0)
def KL:=Akv
def Yv(j6:UInt64->UInt64->UInt64->UInt64->UInt64->La)(a:LB):La:=(Bo a 4 6).bind λu=>(Bo a 6 8).bind λp=>(Bo a 8 10).bind λo=>(Bo a 10 14).bind λn=>(Bo a 14 18).bind λm=>(
(Bb u).bind λk=>(
(Bb p).bind λh=>(
(Bb o).bind λg=>(
(Bb n).bind λf=>(
(Bb m).bind λb=>(
j6 k h g f b))))))
def KN:=Yv KL
def JX(j5:LB->La)(a:LB):La:=if(Cj (Ac a) 22)then
some (0,0,0,0,0,24)
else(Bo a 18 22).bind λy=>(Bo a 0 18).bind λaa=>(Bb y).bind λab=>(Js aa).bind λac=>if(Bj ab (Ae ac:UInt64))then
some (0,0,0,0,0,22)
else
j5 a
def Al6:=JX KN
def JT(j4:LB->La)(a:LB):La:=(Bo a 0 (Du 4 (Ac a))).bind λad=>(Bo ([84,84,65,49]:LB) 0 (Du 4 (Ac a))).bind λae=>if(ad !=ae)then
some (0,0,0,0,0,12)
else
j4 a
def Yy:=JT Al6
abbrev DL:=Option (Int×Int×Int×Int×Int×Int×Int)
def Ack:DL:=(Yy i).bind λ(c,d,e,j,l,t)=>if(geq t 24)then
some (0,0,0,0,0,0,(-1:Int))
else
some ((Af z 22),c,d,e,j,l,t)
def Acd:=Ack
def Acf(j2:Int->LB->DL)(f:LB):DL:=(Wg f).bind λ(b,g)=>if(geq g 24)then
some (0,0,0,0,0,0,(-1:Int))
else
if(Bj g 0)then
some (0,0,0,0,0,0,g)
else(Bo f b (Ac f)).bind λa=>(Ui a ([73,68,51]:LB)).bind λu=>if u then
some (0,0,0,0,0,0,(-1:Int))
else(Ui a ([65,80,69,84,65,71,69,88]:LB)).bind λv=>if v then
some (0,0,0,0,0,0,(-1:Int))
else
j2 b a
def Rt:=Acf Acd
def Alh:Bo6:=if Bnk then
some (KR (Bn A 2) 4823603603198064275)
else
some (Bn A 2)
def JG:=Alh
def Aku(j2:UInt64->Bool->Option UInt64)(a:UInt64)(f:Int):Bo6:=if(geq f 1)then
j2 a (!(Nw a 9223372036854775808))
else
j2 a (Nw a 9223372036854775808)
def IQ:=Aku JG
def Alk:Bo6:=some A
def JD:=Alk
def Zm:Bo6:=if(Ec r9 0)then(Mt (Bj r9 0)).bind λ_=>(IQ Bn9 (Gx (Bs (Ae Bm9:Int) r9) 2)).bind λz=>Bm5 z (Bs r9 2)
else
Bm4 Bn9
def Nf:Nat->UInt64->Int->Option UInt64
|0,_,_=>none
|z+1,c,d=>Zm JD (Nf z) Bm9 c d
def Blr b:=Nf b As
def Ako(j4:UInt8->UInt64->Int->Option UInt64)(h:UInt64)(b:UInt8):Bo6:=j4 b h 128
def SK:=Ako Blr
def Aep:Bo6:=some A
def EG:=Aep
def Ux:Bo6:=if(Cj o7 (Ac Bnm))then(Aj Bnm o7).bind λz=>(SK A z).bind λc=>Bm5 c (Af o7 1)
else
Bm4 A
def Kl:Nat->UInt64->Int->Option UInt64
|0,_,_=>none
|z+1,d,e=>Ux EG (Kl z) c d e
def Bkq a:=Kl a As
def Adv(j4:Bqp)(k:UInt64)(a:LB):Bo6:=j4 a k 0
def AP:=Adv Bkq
def UH:Bo6:=(AP 0 c).bind λz=>some z
def Rw:Bo2:=(UH c).bind λz=>(Bf z 8).bind λd=>some d
abbrev Fy:=Option (LI×Int)
def Al0:Fy:=(Jc R).bind λz=>if(Bj z 0)then
some (([]:LI),12)
else
some (R,0)
def Yn:=Al0
def Yk(j8:LI->Fy)(nk:Int->LI->Fy)(b:LB)(a g:Int)(f:LI):Fy:=if(Cj g a)then(Bo b (Bn 4 g) (Af (Bn 4 g) 4)).bind λk=>(Bb k).bind λm=>(Bt f ([(Ae m:Int)]:LI)).bind λn=>nk (Af g 1) n
else
j8 f
def Nc:Nat->Int->LI->Fy
|0,_,_=>none
|d+1,e,i=>Yk Yn (Nc d) c z e i
def Ali b a:=Nc b a As
def JH(j6:LB->Int->Int->LI->Fy)(b:LB)(a:Int):Fy:=j6 b a 0 ([]:LI)
def Akp:=JH Ali
def JK(j5:LB->Int->Fy)(b:LB)(a:Int):Fy:=if((Cj a 1)||(Ec a 1000))then
some (([]:LI),2)
else
if(Cj (Ac b) (Af (Bn 4 a) 4))then
some (([]:LI),24)
else(Bo b (Bn 4 a) (Af (Bn 4 a) 4)).bind λo=>(Bo b 0 (Bn 4 a)).bind λp=>(Bb o).bind λu=>(Js p).bind λv=>if(Bj u (Ae v:UInt64))then
some (([]:LI),22)
else
j5 b a
def IU:=JK Akp
abbrev Ql:=Option (Int×LI×Int)
def Afb:Ql:=if(geq d 24)then
some (0,([]:LI),(-1:Int))
else
some ((Af (Af z (Bn 4 (Ac M))) 4),M,d)
def Aer:=Afb
def Afe(j4:Int->Int->LI->Ql)(a:LB)(b k m n o f:Int):Ql:=(Bo a f (Ac a)).bind λp=>(Gy b k m n o).bind λu=>(IU p (Ac u)).bind λ(h,g)=>j4 f g h
def Ff:=Afe Aer
def Pa(j3:LB->Jz6 Ql)(a:LB)(b k m n o:Int)(v:LB):Ql:=if(geq b 2)then
if(Cj (Ac a) 8)then
some (0,([]:LI),(-1:Int))
else(Bo a 0 8).bind λw=>(Rw v).bind λy=>if(w !=y)then
some (0,([]:LI),26)
else
j3 a b k m n o 8
else
j3 a b k m n o 0
def Ez:=Pa Ff
def UB:Bpt:=if(Ec (Ac Bmz) 100000)then
some (0,4)
else(AP A Bmz).bind λz=>some (z,0)
def YR:Bpt:=(UB 0 c).bind λ(z,d)=>some (z,d)
def Bhw:Bo4:=some e
def Amh:=Bhw
def Apt(nk:Bp7)(b:UInt64)(f:Int)(a:LX)(g:Int32):Bo4:=(Aj a f).bind λ_=>(Rn a f g).bind λh=>nk (Bs b 256) (Af f 1) h
def EJ nk:=Apt nk
def DT(j8:UInt64->Int->LX->Int32->Option (LX))(j10:LX->Option (LX))(b:UInt64)(f:Int)(a:LX):Bo4:=if(Cj f 8)then
if(Ec (Ae (FP b 256):Int32) 127)then
j8 b f a (Ap (Ae (FP b 256):Int32) 256)
else
j8 b f a (Ae (FP b 256):Int32)
else
j10 a
def Ms:Nat->UInt64->Int->LX->Option (LX)
|0,_,_,_=>none
|q+1,b,f,a=>DT (EJ (Ms q)) Amh b f a
def Bhy:=Ms As
def Asb(j6:Bp7)(k:UInt64):Bo4:=j6 k 0 (List.replicate 16 (0:Int32))
def bU:=Asb Bhy
def Of:Bqm:=if(Ec (Ac c) 64)then
some (([(0:Int32),(0:Int32),(0:Int32),(0:Int32),(0:Int32),(0:Int32),(0:Int32),(0:Int32),(0:Int32),(0:Int32),(0:Int32),(0:Int32),(0:Int32),(0:Int32),(0:Int32),(0:Int32)]:LX),2)
else(YR c).bind λ(z,d)=>(bU z).bind λe=>some (e,0)
def Gt:Bot:=if(geq z 8)then
some 128
else
if(geq z 16)then
some 32768
else
if(geq z 24)then
some 8388608
else
some 0
def Cv:Bot:=if((Cj z 1)||(Ec z 6))then
some 2
else(Gt d).bind λc=>if(geq c 0)then
some 2
else
some 0
def Qy:Bot:=(Cv z d).bind λc=>if((Bj c 0)||(Cj j 1))then
some 2
else(Mt (Bj z 0)).bind λ_=>if(Ec j (Bs 4000 z))then
some 2
else
some 0
def Tz:Bo2:=(Js c).bind λz=>(Bt ([]:LB) c).bind λd=>(Bt d ([(Ae z:UInt8),(Ae (Cx z (GI.toZ (8:UInt64)).toNat):UInt8),(Ae (Cx z (GI.toZ (16:UInt64)).toNat):UInt8),(Ae (Cx z (GI.toZ (24:UInt64)).toNat):UInt8)]:LB)).bind λe=>some e
def Ub:Bot:=if(Cj (Ac c) 5)then
some 24
else
if(Ec (Ac c) 41254)then
some 4
else(Bo c 0 (Ap (Ac c) 4)).bind λz=>(Tz z).bind λd=>if(d !=c)then
some 22
else
some 0
def Jf:Bqi:=some (10,10,16384,16384)
def Bl9:Bo6:=some A
def Afs:=Bl9
def Ww:Bo6:=if(Cj o7 Bny)then
Bm5 (Bn A 2) (Af o7 1)
else
Bm4 A
def Lj:Nat->UInt64->Int->Option UInt64
|0,_,_=>none
|c+1,d,e=>Ww Afs (Lj c) z d e
def Bl6 b:=Lj b As
def Afn(j4:Int->UInt64->Int->Option UInt64)(b:Int):Bo6:=j4 b 1 0
def Fm:=Afn Bl6
def Qs(a g:Int)(h k:UInt64)(b:UInt32):Boy:=(Fm a).bind λf=>some (Cj (Ae b:UInt64) f)
def Gk(a g:Int)(h k:UInt64)(b:UInt32):Bph:=(Fm a).bind λf=>some (Ae (Ap (Ae b:UInt64) f):UInt32)
abbrev NM:=Option (Int×UInt64)
def Alo:NM:=if(Cj z 24)then(Fm (Af z 5)).bind λc=>if(Ec (Ap (Af A l7) (Bs A 16)) c)then
some ((Af z 1),(Ap (Af A l7) (Bs A 16)))
else
some (z,(Ap (Af A l7) (Bs A 16)))
else
some (z,(Ap (Af A l7) (Bs A 16)))
def JJ:=Alo
def Aks(j2:Int->UInt64->UInt64->NM)(b:Int)(a f:UInt64):NM:=if(Ec b 0)then(Fm (Af b 4)).bind λh=>if(Cj (Ap (Af a f) (Bs a 16)) h)then
some ((Ap b 1),(Ap (Af a f) (Bs a 16)))
else
j2 b a f
else
j2 b a f
def Og:=Aks JJ
abbrev GW:=Option (Int×Int×UInt64×UInt64)
def Aeu(f:UInt32)(g a:Int)(h b:UInt64)(w:Int)(y:UInt64):GW:=(Og g h (Ae f:UInt64)).bind λ(aa,ab)=>some (aa,w,ab,y)
def Us:=Aeu
def Ur(j2:UInt32->Int->Int->UInt64->UInt64->Int->UInt64->GW)(g a:Int)(h b:UInt64)(f:UInt32):GW:=(Qs g a h b f).bind λo=>if(!o)then(
(
(Gk g a h b f).bind λk=>(Og a b (Ae k:UInt64)).bind λ(m,n)=>j2 f g a h b m n))
else
j2 f g a h b a b
def Tr:=Ur Us
abbrev Hz:=Option (Int×Int×UInt64×UInt64)
def Bkm:Hz:=some (z,d,A,l7)
def Adu:=Bkm
def EN(j6:Int->Int->UInt64->UInt64->Hz)(Se:Jz3 (UInt64->UInt64->Hz))(a:Int)(b:LU)(m f g:Int)(h k:UInt64):Hz:=if(Cj m (Ac b))then(Aj b m).bind λn=>(Tr f g h k n).bind λ(o,p,u,v)=>Se (Af m a) o p u v
else
j6 f g h k
def Oo:Nat->Jz3 (UInt64->UInt64->Hz)
|0,_,_,_,_,_=>none
|c+1,d,e,i,j,l=>EN Adu (Oo c) z X d e i j l
def Bkw a b:=Oo a b As
def DV(j4:Int->LU->Jz3 (UInt64->UInt64->Hz))(a:Int)(b:LU):Hz:=(Jf).bind λ(w,y,aa,ab)=>(Mt (Bj a 0)).bind λ_=>j4 a b (Gx (Ac b) a) w y aa ab
def Ua:=DV Bkw
def Ar9:Bot:=some (Gx z 2)
def QL:=Ar9
def EL:Bot:=if(Cj Bm8 (Gx Bnf 8))then
Bm7 (Bs Bmw 2) (Af Bm8 1)
else
Bm2 Bmw
def Rb:Nat->Int->Int->Option Int
|0,_,_=>none
|c+1,d,e=>EL QL (Rb c) z d e
def Ara a:=Rb a As
def QE(j4:Jz3 (Option Int))(g:LB)(k a:Int):Bot:=(Aj g (Bs a 8)).bind λh=>j4 a (Ae h:Int) 0
def Pz:=QE Ara
abbrev Hf:=Option (LB×Int)
def Amc:Hf:=(Aj i (Bs j 8)).bind λ_=>(Aj i (Bs j 8)).bind λc=>(Aj i (Bs j 8)).bind λ_=>(Rn i (Bs j 8) (Af c (Ae (Bn z d):UInt8))).bind λe=>some (e,(Af j 1))
def AN:=Amc
def BA(j8:Jz3 (LB->Hf))(nk:Int->Int->Hf)(b a:Int)(f:LB)(g h:Int):Hf:=if(Cj h (Gx a 8))then
nk (Bn g 2) (Af h 1)
else
j8 b g a f
def Pv:Nat->Int->Int->Hf
|0,_,_=>none
|c+1,e,j=>BA AN (Pv c) z d i e j
def Am1 b a f:=Pv b a f As
def NG(j6:Int->Int->LB->Int->Int->Hf)(b a:Int)(f:LB):Hf:=j6 b a f 1 0
def MU:=NG Am1
def MW(j5:Int->Int->LB->Hf)(k:LB)(a b:Int):Hf:=if(geq (Gx a 8) 0)then(Bt k ([(0:UInt8)]:LB)).bind λo=>j5 b a o
else
j5 b a k
def Dv:=MW MU
abbrev Hi:=Option (LB×Int)
def Bka:Hi:=some (i,z)
def Ad5:=Bka
def Tf(j6:Int->LB->Hi)(Se:Int->Int->LB->Hi)(f:Int)(g:LB)(h k a:Int)(b:LB):Hi:=if(Cj k f)then(Pz g h k).bind λm=>(Dv b a m).bind λ(n,o)=>Se (Af k 1) o n
else
j6 a b
def Ix:Nat->Int->Int->LB->Hi
|0,_,_,_=>none
|c+1,d,e,j=>Tf Ad5 (Ix c) z i l d e j
def Bk5 f g h:=Ix f g h As
def Ada(j4:Int->LB->Jz3 (LB->Hi))(g:LB)(h p f:Int):Hi:=j4 f g h p 0 ([]:LB)
def KG:=Ada Bk5
def Bli:Bo6:=some A
def Afy:=Bli
def Ws:Bo6:=if(Nw o7 0)then(Pz Bnm Bok (Af Bny o7)).bind λz=>Bm5 (Af (Bn 2 A) (Ae z:UInt64)) (Ap o7 1)
else
Bm4 A
def Lk:Nat->UInt64->Int->Option UInt64
|0,_,_=>none
|c+1,d,e=>Ws Afy (Lk c) z i l d e
def Ahi b f g:=Lk b f g As
def HF(j4:Int->LB->Int->UInt64->Int->Option UInt64)(f:LB)(g b m:Int):Bo6:=j4 b f g 0 (Ap m 1)
def Wb:=HF Ahi
abbrev Mg:=Option (Int×Int)
def Amv(b a:Int)(g:LB)(f:Int):Mg:=if(geq a 48)then
some (a,(Af b a))
else
if(Nw (Af b a) f)then
some ((-1:Int),0)
else
some (a,(Af (Af b a) 1))
def AZ:=Amv
def AV(j6:Int->Int->LB->Int->Mg)(Se:Int->Mg)(b:Int)(g:LB)(f a:Int):Mg:=if((Cj (Af b a) f)&&(Cj a 48))then(Pz g f (Af b a)).bind λh=>if(geq h 1)then
Se (Af a 1)
else
j6 b a g f
else
j6 b a g f
def Ph:Nat->Int->Mg
|0,_=>none
|c+1,d=>AV AZ (Ph c) z i l d
def Bhn b g f:=Ph b g f As
def An2(j4:Int->LB->Int->Int->Mg)(g:LB)(f b:Int):Mg:=j4 b g f 0
def XX:=An2 Bhn
def Yb:Bot:=(Fm Bmu).bind λz=>(Mt (Bj z 0)).bind λ_=>some (Ae (Du 48 (Bs (Ae V:UInt64) z)):Int)
abbrev PT:=Option (UInt32×Int×Int)
def MZ:PT:=if((Cj d 0)||(Cj (Ap l j) l9))then
some (0,0,24)
else(Wb i l j l9).bind λc=>if(Cj d 48)then(Fm z).bind λe=>some ((Ae (Af (Bn (Ae d:UInt64) e) c):UInt32),(Af j l9),0)
else(Yb (Ae c:UInt32) z).bind λt=>if(Cj t d)then
some (0,0,12)
else
some ((Ae c:UInt32),(Af j l9),0)
def NI:=MZ
def Aly(j2:Jz3 (LB->Int->Int->PT))(h:LB)(f n g:Int):PT:=if(Nw n f)then
some (0,0,24)
else(XX h f n).bind λ(a,b)=>if(geq a 48)then
j2 g a b h f 32
else
j2 g a b h f g
def LY:=Aly NI
def LV(g:LB)(b a f n:Int)(v w:UInt64):Option (UInt32×Int×Int):=if(Nw a b)then
some (0,0,24)
else(Pz g b a).bind λo=>if(geq o 0)then
if(Cj (Ap (Ap b a) 1) f)then
some (0,0,24)
else(Wb g b (Af a 1) f).bind λp=>some ((Ae p:UInt32),(Af (Af a 1) f),0)
else(LY g b (Af a 1) n).bind λ(h,u,k)=>if(Bj k 0)then
some (0,0,k)
else(Fm f).bind λm=>if(Ec (Af (Ae h:UInt64) m) 4294967295)then
some (0,0,12)
else
some ((Ae (Af (Ae h:UInt64) m):UInt32),u,0)
abbrev Cn:=Option (LU×Int)
def Bll:Cn:=some (X,0)
def Agr:=Bll
def Wp(j18:LU->Cn)(Hr:Int->Cn)(a:LB)(b:LU)(m:Int):Cn:=if(Cj m (Bn 8 (Ac a)))then(Pz a (Bn 8 (Ac a)) m).bind λn=>if(Bj n 0)then
some (b,12)
else
Hr (Af m 1)
else
j18 b
def Ln:Nat->Int->Cn
|0,_=>none
|z+1,d=>Wp Agr (Ln z) c X d
def GX a b:=Ln a b As
def GK(j16:LB->LU->Int->Cn)(f:Int)(a:LB)(b:LU):Cn:=if(Ec (Ap (Bn 8 (Ac a)) f) 7)then
some (b,12)
else
j16 a b f
def HO:=GK GX
def Aj4(SU:Int->Int->LU->Cn)(g h:Int)(a:LB)(f k:Int)(b:LU)(p u:Int)(v w:UInt64):Cn:=(KG a (Bn 8 (Ac a)) f (Du (Af f 81) (Bn 8 (Ac a)))).bind λ(y,aa)=>(LV y aa 0 p u v w).bind λ(ab,ac,o)=>if(Bj o 0)then
some (b,o)
else(Bt b ([ab]:LU)).bind λad=>SU (Af f ac) (Af k 1) ad
def Lm SU:=Aj4 SU
def HK(j13:Int->Int->LU->Int->Int->UInt64->UInt64->Cn)(j15:Int->LB->LU->Cn)(g h:Int)(a:LB)(f k:Int)(b:LU):Cn:=if(Cj k (Bn h g))then(Jf).bind λ(n,ae,af,ag)=>if(Nw k g)then(Ua g b).bind λ(ah,ai,aj,ak)=>j13 f k b ah ai aj ak
else
j13 f k b n ae af ag
else
j15 f a b
def Fv:Nat->Int->Int->LU->Cn
|0,_,_,_=>none
|c+1,e,j,l=>HK (Lm (Fv c) z d i) HO z d i e j l
def Bl1 g h a:=Fv g h a As
def KM(j10:Int->Int->LB->Int->Int->LU->Cn)(g h:Int)(a:LB):Cn:=j10 g h a 0 0 ([]:LU)
def HS:=KM Bl1
def Asc:Bo8:=if(geq z 8)then
some (4,0)
else
if((geq z 16)||(geq z 24))then
some (5,0)
else
some (0,2)
def Ayj:Option (Int×LX×LX×Int):=(Asc z).bind λ(c,d)=>if(Bj d 0)then
some (0,(List.replicate 16 (0:Int32)),(List.replicate 16 (0:Int32)),2)
else
if(geq z 16)then
some (9,e,(List.replicate 16 (0:Int32)),0)
else
some (10,e,(List.replicate 16 (0:Int32)),0)
def KX:Bqd:=(Ayj z e).bind λ(c,d,i,j)=>if(Bj j 0)then
some (0,0,0,(List.replicate 16 (0:Int32)),(List.replicate 16 (0:Int32)),2)
else
some (z,0,c,d,i,0)
def Sp:Bpe:=if(geq (FP V 2) 0)then
some (Ae (Bs V 2):Int32)
else
some (Ae (Bs (O8 (Af (Ae V:Int) 1)) 2):Int32)
def Cf:Bpe:=some (Ae (Ae (Ae z:UInt64):UInt32):Int32)
def Ani:Bpe:=some (Ae z:Int32)
def MS:=Ani
def AJ(j6:Int->Option Int32)(Se:Int->Int->Option Int32)(h:Int)(b f:LX)(g a:Int):Bpe:=if(Cj a 16)then(Aj b a).bind λ_=>(Aj f a).bind λ_=>(Aj b a).bind λk=>(Aj f a).bind λm=>(Cf (Bn (Ae k:Int) (Ae m:Int))).bind λn=>(Cf (Af g (Ae n:Int))).bind λo=>Se (Ae o:Int) (Af a 1)
else
j6 g
def Pm:Nat->Int->Int->Option Int32
|0,_,_=>none
|c+1,d,i=>AJ MS (Pm c) z e U d i
def Bhl h b f:=Pm h b f As
def Amw(j4:Int->LX->LX->Int->Int->Option Int32)(h:Int)(b f:LX):Bpe:=j4 h b f 0 0
def XQ:=Amw Bhl
def Akc:Bpe:=(XQ z e U).bind λc=>(Cf (Af (Ae c:Int) (Bs Bna 2))).bind λd=>(Mt (Bj Bna 0)).bind λ_=>(Mt (Bj Bna 0)).bind λ_=>if(Cj (Gx (Ae d:Int) Bna) 0)then
some (Ae (Ap (Bs (Ae d:Int) Bna) 1):Int32)
else
some (Ae (Bs (Ae d:Int) Bna):Int32)
def KQ:=Akc
def Aki(j2:Int->LX->LX->Int->Option Int32)(b:Int)(f g:LX):Bpe:=if(geq b 9)then
j2 b f g 512
else
j2 b f g 1024
def Ym:=Aki KQ
def IX:Bpe:=if(geq z 0)then
some 4
else
if(vA z 3)then
some 2
else
some 1
def Ya:Bpe:=if(Cj L 0)then
some (-1:Int32)
else
if(Ec L 0)then
some 1
else
some 0
abbrev Hh:=Option (Int×LX×LX)
def Bkb:Hh:=some (z,e,U)
def Ad7:=Bkb
def Sm(j6:Int->LX->LX->Hh)(Se:Int->LX->Hh)(h:Int32)(g:Int)(b:LX)(a:Int)(f:LX):Hh:=if(Cj a 16)then(Aj f a).bind λ_=>(Aj b a).bind λ_=>(Aj f a).bind λk=>(Aj b a).bind λm=>(IX a).bind λn=>(Ya m).bind λo=>(Ya h).bind λp=>(Aj f a).bind λ_=>(Rn f a (Af k (Bn (Bn n o) p))).bind λu=>Se (Af a 1) u
else
j6 g f b
def Ja:Nat->Int->LX->Hh
|0,_,_=>none
|z+1,c,d=>Sm Ad7 (Ja z) L l5 o9 c d
def Bk3 h g b:=Ja h g b As
def Acx(j4:Int32->Int->LX->Int->LX->Hh)(g:Int)(v b:LX)(h:Int32):Hh:=j4 h g b 0 v
def Yc:=Acx Bk3
abbrev Hw:=Option (Int×LX×LX)
def Ae9:Hw:=(Aj p9 0).bind λ_=>(Rn p9 0 L).bind λz=>some (l5,o9,z)
def DN:=Ae9
def Vd(j6:Int32->Int->LX->LX->Hw)(Se:Int->LX->Hw)(b:Int32)(f:Int)(g:LX)(h:Int)(a:LX):Hw:=if(Ec h 0)then(Aj a (Ap h 1)).bind λ_=>(Aj a (Ap h 1)).bind λm=>(Aj a h).bind λ_=>(Rn a h m).bind λn=>Se (Ap h 1) n
else
j6 b f g a
def Ko:Nat->Int->LX->Hw
|0,_,_=>none
|z+1,c,d=>Vd DN (Ko z) L l5 o9 c d
def Bkr b f g:=Ko b f g As
def Ae8(j4:Int32->Int->LX->Int->LX->Hw)(f:Int)(g o:LX)(b:Int32):Hw:=j4 b f g 15 o
def AL:=Ae8 Bkr
abbrev Bqu:=Option (Int32×Int×LX×LX)
def Ye:Bqu:=(Ym z e U).bind λc=>(Cf (Af (Ae L:Int) (Ae c:Int))).bind λd=>(Yc z e U L).bind λ(i,j,l)=>(AL i j l d).bind λ(t,A,B)=>some (d,t,A,B)
def Adw:Bpe:=(Mt (Bj l5 0)).bind λ_=>(Mt (Bj l5 0)).bind λ_=>if(Cj (Gx (Bn (Ap l5 1) (Ae L:Int)) l5) 0)then
some (Ae (Ap (Bs (Bn (Ap l5 1) (Ae L:Int)) l5) 1):Int32)
else
some (Ae (Bs (Bn (Ap l5 1) (Ae L:Int)) l5):Int32)
def ER:=Adw
def Aex(j2:Int32->Int->Option Int32)(f:Int)(b:Int32):Bpe:=if(geq f 5)then
j2 b 32
else
j2 b 16
def Uh:=Aex ER
def Kz(b:Int)(a:Int32)(h:Int)(k m:LX):Bot:=if(geq b 8)then(Uh 4 a).bind λf=>some (Ae f:Int)
else(Uh 5 a).bind λg=>some (Ae g:Int)
abbrev Bqb:=Option (Int32×Int×Int32×Int×LX×LX)
def My:Bqb:=(Ye l5 o9 p9 Bmx).bind λ(c,d,e,i)=>(Kz z L l5 o9 p9).bind λj=>(Cf (Af (Ae c:Int) j)).bind λl=>some (l,z,l,d,e,i)
def Mh:Bot:=if((Cj z 1)||(Ec z 6))then
some 2
else
if(Ec (Ac e) 4000)then
some 4
else(Mt (Bj z 0)).bind λ_=>if(Ec (Gx (Ac e) z) 0)then
some 2
else
some 0
def Bk9:Bo4:=some e
def Ad1:=Bk9
def Ta:Bo4:=if(Nw p8 0)then(Aj w9 (Af p8 1)).bind λ_=>(Aj Bm0 p8).bind λz=>(Aj w9 (Af p8 1)).bind λc=>(Cf (Ap (Ae c:Int) (Ae z:Int))).bind λd=>(Aj w9 p8).bind λ_=>(Rn w9 p8 d).bind λe=>Bm6 (Ap p8 1) e
else
Bni w9
def Iw:Nat->Int->LX->Option (LX)
|0,_,_=>none
|z+1,c,d=>Ta Ad1 (Iw z) e c d
def Bk1 a:=Iw a As
abbrev Bqz:=LX->Int->LX->Option (LX)
def DB(j6:Bqz)(a p:LX):Bo4:=j6 a (Ap (Ac a) 2) p
def BR:=DB Bk1
def BK(j5:LX->LX->Option (LX))(a:LX):Bo4:=(mkI (Ac a) (0:Int32)).bind λh=>(Mt (geq (Ac a) (Ac a))).bind λ_=>(Aj a (Ap (Ac a) 1)).bind λu=>(Aj h (Ap (Ac a) 1)).bind λ_=>(Rn h (Ap (Ac a) 1) u).bind λg=>if(Ec (Ac a) 1)then(Aj a (Ap (Ac a) 1)).bind λv=>(Aj a (Ap (Ac a) 2)).bind λw=>(Cf (Af (Ae v:Int) (Bs (Ae w:Int) 2))).bind λy=>(Aj g (Ap (Ac a) 1)).bind λ_=>(Rn g (Ap (Ac a) 1) y).bind λaa=>j5 a aa
else
j5 a g
def Zc:=BK BR
abbrev Ku:=Option (LX×Int)
def Bma:Ku:=some (e,0)
def Aln:=Bma
def KT(j6:LX->Ku)(Se:Int->LX->Ku)(a:Int)(b:LX)(g:Int)(f:LX):Ku:=if(Cj g (Ac b))then(Bo b g (Af g a)).bind λh=>(Zc h).bind λk=>(Bt f k).bind λm=>Se (Af g a) m
else
j6 f
def Rs:Nat->Int->LX->Ku
|0,_,_=>none
|c+1,d,i=>KT Aln (Rs c) z e d i
def Blv a b:=Rs a b As
def JM(j4:Int->LX->Int->LX->Ku)(a:Int)(b:LX):Ku:=(Mh a b).bind λn=>if(Bj n 0)then(Mh a b).bind λo=>some (([]:LX),o)
else
j4 a b 0 ([]:LX)
def IB:=JM Blv
def Acw(b f:Int)(w:LX):Bo4:=(IB b w).bind λ(aj,ai)=>some aj
def Sn:=Acw
def Acy(R9:Bp8)(a:LU)(b f:Int)(g:LX)(h:Int)(m:LX):Bo4:=R9 (Af h 1) m
def BN R9:=Acy R9
abbrev Bp4:=Int->LX->Int->Int32->Int->LX->LX->Option (LX)
def Acj(V9:Bp4)(a:LU)(h b f:Int)(g:LX)(k:Int)(ah:LX)(y:Int)(aa:Int32)(ab:Int)(ac ad:LX):Bo4:=V9 (Af k b) ah y aa ab ac ad
def Ace V9:=Acj V9
def Acv(j30:Bp4)(a:LU)(h b f:Int)(g:LX)(k:Int)(ae:Int32)(m:LX)(n:Int)(o:Int32)(p:Int)(u v:LX)(y:Int)(aa:Int32)(ab:Int)(ac ad:LX):Bo4:=(Aj m k).bind λ_=>(Rn m k ae).bind λah=>j30 k ah y aa ab ac ad
def CT V9 a h b f g:=Acv (Ace V9 a h b f g) a h b f g
def Sr(j29:Int->Int32->LX->Int->Int32->Int->LX->LX->Int->Int32->Int->LX->LX->Option (LX))(j32:Bp8)(a:LU)(b f:Int)(g:LX)(h k:Int)(m:LX)(n:Int)(o:Int32)(p:Int)(u v:LX):Bo4:=if(Cj k (Ac a))then(Aj a k).bind λag=>(
(Sp ag).bind λaf=>(
(My n o p u v af).bind λ(ae,y,aa,ab,ac,ad)=>j29 k ae m n o p u v y aa ab ac ad))
else
j32 h m
def Nk:Nat->Int->LX->Int->Int32->Int->LX->LX->Option (LX)
|0,_,_,_,_,_,_,_=>none
|z+1,c,d,e,i,j,l,t=>Sr (CT (Nk z) X Bn6 q9 Bmv Bne) (BN Bop X q9 Bmv Bne) X q9 Bmv Bne Bn6 c d e i j l t
def CJ R9 a b f g h:=Nk R9 a b f g h As
def So(j26:Int->Int->LX->Int->Int32->Int->LX->LX->Option (LX))(j34:Int->Int->LX->Option (LX))(a:LU)(b f:Int)(g:LX)(h:Int)(w:LX):Bo4:=if(Cj h b)then(KX f g).bind λ(ak,ai,al,am,an,aq)=>j26 h h w ak ai al am an
else
j34 b f w
def Gf:Nat->Int->LX->Option (LX)
|0,_,_=>none
|z+1,c,d=>So (CJ (Gf z) X q9 Bmv Bne) Sn X q9 Bmv Bne c d
def Ad8 a b f g:=Gf a b f g As
def DS(j18:LU->Int->Int->LX->Int->LX->Option (LX))(b f:Int)(g:LX)(a:LU):Bo4:=(mkI (Ac a) (0:Int32)).bind λao=>(Mt (geq (Ac a) (Ac a))).bind λ_=>j18 a b f g 0 ao
def Pr:=DS Ad8
def Bla:Bot:=some 0
def Afr:=Bla
def Ee:Bot:=if(Cj q9 (Ac Bnc))then(Aj Bnc q9).bind λz=>if(Cj (Ae z:Int) (O8 Bnd))then
some 16
else(Aj Bnc q9).bind λc=>if(Nw (Ae c:Int) Bnd)then
some 16
else
Bm2 (Af q9 1)
else
Bm1
def Bp:Nat->Int->Option Int
|0,_=>none
|z+1,c=>Ee Afr (Bp z) e B c
def Blm a b:=Bp a b As
def Hy(j4:LX->Int->Int->Option Int)(k:Int)(a:LX):Bot:=(Gt k).bind λb=>if(geq b 0)then
some 2
else
if(Ec (Ac a) 4000)then
some 4
else
j4 a b 0
def Bd:=Hy Blm
def Uk(g f:Int)(a:LX):Bqm:=(Bd f a).bind λb=>if(Bj b 0)then
some (([]:LX),b)
else
some (a,0)
abbrev GH:=Option (LX×Int)
def Hg:GH:=if(Bj z 0)then
some (([]:LX),z)
else(
(
(Pr d j e X).bind λc=>(Uk d j c).bind λ(i,l)=>some (i,l)))
def Kb:=Hg
def Vf(j2:Jz3 (LX->LU->GH))(a b:Int)(g:LX)(p:Int)(k:LB):GH:=(Qy a b p).bind λy=>if(Bj y 0)then
some (([]:LX),2)
else(Ub k).bind λaa=>if(Bj aa 0)then(Ub k).bind λab=>some (([]:LX),ab)
else(Bo k 0 (Ap (Ac k) 4)).bind λac=>(HS a p ac).bind λ(h,f)=>j2 f a b g h
def Fz:=Vf Kb
def ND:Bo2:=if(geq z 24)then(Bt ([(Ae (Gx d 256):UInt8),(Ae (Gx (Bs d 256) 256):UInt8)]:LB) ([(Ae (Bs d 65536):UInt8)]:LB)).bind λc=>some c
else
some ([(Ae (Gx d 256):UInt8),(Ae (Gx (Bs d 256) 256):UInt8)]:LB)
def Tx:=ND
abbrev Bq9:=Int->Int->Option (LB)
def Amt(j2:Bq9)(a:Int)(f:Int32):Bo2:=if(geq a 8)then
some ([(Ae (Af (Ae f:Int) 128):UInt8)]:LB)
else
if(Cj (Ae f:Int) 0)then(Gt a).bind λh=>j2 a (Af (Ae f:Int) (Bn 2 h))
else
j2 a (Ae f:Int)
def KY:=Amt Tx
abbrev Jj:=Option (LB×Int)
def Bl4:Jj:=some (c,0)
def Agx:=Bl4
def Wr(j6:LB->Jj)(Se:Int->LB->Jj)(b:Int)(a:LX)(g:Int)(f:LB):Jj:=if(Cj g (Ac a))then(Aj a g).bind λh=>(KY b h).bind λk=>(Bt f k).bind λm=>Se (Af g 1) m
else
j6 f
def Lo:Nat->Int->LB->Jj
|0,_,_=>none
|c+1,d,i=>Wr Agx (Lo c) z e d i
def Blc b a:=Lo b a As
def HG(j4:Int->LX->Int->LB->Jj)(b:Int)(a:LX):Jj:=(Bd b a).bind λn=>if(Bj n 0)then(Bd b a).bind λo=>some (([]:LB),o)
else
j4 b a 0 ([]:LB)
def Vt:=HG Blc
abbrev GV:=Option (LB×Int)
def Jz(o:LX)(f:Int)(p g:LB)(h k a m n:Int)(u:LI)(b:Int)(v:LB)(w:Bool)(y:Int):GV:=if(Bj f 0)then
some (([]:LB),f)
else(Vt a o).bind λ(ac,ai)=>some (ac,0)
def Kq:=Jz
def Kn(j2:LX->Int->LB->LB->Jz5 (LI->Int->LB->Bool->Int->GV))(p g:LB)(h k a m n:Int)(u:LI)(b:Int)(v:LB)(w:Bool)(y:Int):GV:=(Aj u b).bind λaa=>if(Cj (Ac g) aa)then
some (([]:LB),(-1:Int))
else(Of p).bind λ(ad,aj)=>(Bo g 0 aa).bind λae=>(Jl h k a m n).bind λ(af,ag)=>(Gy h k a m n).bind λab=>(Aj ab b).bind λ_=>(Aj ab b).bind λah=>(Fz af ag ad ah ae).bind λ(o,f)=>j2 o f p g h k a m n u b v w y
def Cw:=Kn Kq
abbrev Ts:=Option (LB×LB×Int×Int×Int×Int×Int×LI×Int×LB×Bool×Int×Int)
def Be:Ts:=if(geq (Ac M) 0)then(Ez I z d j E F c).bind λ(e,t,A)=>if(Bj A 0)then
some (c,I,z,d,j,E,F,M,O,i,D,l,A)
else(Bo I e (Ac I)).bind λB=>some (c,B,z,d,j,E,F,t,O,i,D,l,0)
else
if(geq O (Ac M))then
if(Ec (Ac I) 4000)then
some (c,I,z,d,j,E,F,M,O,i,D,l,38)
else
some (c,I,z,d,j,E,F,M,O,i,D,l,(-1:Int))
else(Cw c I z d j E F M O i D l).bind λ(C,G)=>if(Bj G 0)then
some (c,I,z,d,j,E,F,M,O,i,D,l,G)
else(Bt ([]:LB) i).bind λJ=>(Bt J C).bind λL=>(
(
(
(Aj M O).bind λN=>(
(Bo I N (Ac I)).bind λP=>some (c,P,z,d,j,E,F,M,(Af O 1),L,D,l,0)))))
def Cg:=Be
def Jg:Ts:=(Et z d j E F c).bind λe=>some (c,I,z,d,j,E,F,M,O,i,D,l,e)
def Gw:=Jg
abbrev Bpv:=LB->LB->Jz5 (LI->Int->LB->Bool->Int->Ts)
def Cb(j3:Bpv)(j4:Bpv)(g a:LB)(m n o p u:Int)(b:LI)(f:Int)(v:LB)(h:Bool)(k:Int):Ts:=if(geq m 0)then(Rt a).bind λ(ac,ae,w,af,ag,y,ai)=>if(Bj ai 0)then
some (g,a,m,n,o,p,u,b,f,v,h,k,ai)
else(
(Bo a ac (Ac a)).bind λad=>(
j3 g ad ae w af ag y b f v h k))
else
j4 g a m n o p u b f v h k
def Ah:=Cb Gw Cg
def HQ:Boy:=(Ah c I z d j E F M O i D l).bind λ(e,t,A,B,C,G,J,L,N,P,R,T,U)=>some (geq U (-1:Int))
def Dd:=HQ
abbrev Bo9:=LB->LB->Jz5 (LI->Int->LB->Bool->Int->Option Bool)
def Wm(j4:Bo9)(o p:LB)(b f g h k:Int)(m:LI)(a:Int)(n:LB)(u:Bool)(v:Int):Boy:=if(geq (Ac m) 0)then
if((Bj a 0)||(Ec (Ac n) 0))then
some false
else
j4 o p b f g h k m a n u v
else(Jc m).bind λy=>if(Bj y 0)then
if((true||(Cj a 0))||(Ec a (Ac m)))then
some false
else(Yx b f g h k a).bind λaa=>if(Ec (Ac n) aa)then
some false
else
j4 o p b f g h k m a n u v
else(Gy b f g h k).bind λab=>if(((Bj (Ac m) (Ac ab))||(Cj a 0))||(Ec a (Ac m)))then
some false
else(Yx b f g h k a).bind λac=>if(Ec (Ac n) ac)then
some false
else
j4 o p b f g h k m a n u v
def Wq:=Wm Dd
def HC(j4:Bo9)(j3:Bo9)(o p:LB)(b f g h k:Int)(m:LI)(a:Int)(n:LB)(u:Bool)(v:Int):Boy:=if((geq b 0)&&((geq f 0)&&((geq g 0)&&((geq h 0)&&((geq k 0)&&true)))))then
if(((Ec (Ac m) 0)||(Bj a 0))||(Ec (Ac n) 0))then
some false
else
j4 o p b f g h k m a n u v
else(Mr b f g h k).bind λad=>if(Bj ad 0)then
some false
else(Et b f g h k o).bind λae=>if(Bj ae 0)then
some false
else
j3 o p b f g h k m a n u v
def Mq:=HC Dd Wq
def Yt:Boy:=some (((((((geq z 4)||(geq z 12))||(geq z 16))||(geq z 22))||(geq z 24))||(geq z 26))||(geq z 38))
def Cu:Bot:=if(Ec (Ac c) 64)then
some 8
else
if((geq l 0)&&(!D))then(Mq c I z d j E F M O i D l).bind λe=>if(!e)then
some 8
else
some 0
else
if((geq (Ac I) 0)&&(geq (Ac M) 0))then
if((!(((geq z 0)&&((geq d 0)&&((geq j 0)&&((geq E 0)&&((geq F 0)&&true)))))&&(geq O 0)))||(Ec (Ac i) 12000))then
some 8
else
if(Bj l 0)then
if D then
some 8
else(Yt l).bind λt=>if(!t)then
some 8
else
some 0
else
some 0
else
if((!(false&&(geq O 0)))||(Ec (Ac i) 12000))then
some 8
else
if(Bj l 0)then
if D then
some 8
else(Yt l).bind λA=>if(!A)then
some 8
else
some 0
else
some 0
abbrev MT:=Option (LB×LB×Int×Int×Int×Int×Int×LI×Int×LB×Bool×Int)
def Yg:MT:=(Bt ([]:LI) M).bind λe=>some (c,C,z,d,j,E,F,e,O,Y,D,l)
def Rp:=Yg
def Mu(j2:LB->Jz5 (LI->Int->Bool->Int->LB->LB->MT))(f w:LB)(g h k m n:Int)(o:LI)(p:Int)(y:LB)(u:Bool)(v:Int):MT:=(
(
(
(Bt ([]:LB) w).bind λa=>(
(Bt ([]:LB) y).bind λb=>j2 f g h k m n o p u v a b))))
def Ig:=Mu Rp
def Gz(f g:LB)(h k m n o:Int)(p:LI)(u:Int)(v:LB)(b:Bool)(a:Int):Bot:=if(Bj a 0)then
some a
else
if b then
some 36
else
some 0
def Ip(a m:LB)(n o p u v:Int)(w:LI)(y:Int)(b:LB)(aa:Bool)(ab:Int):Bpp:=(
(
(Bt ([]:LB) b).bind λf=>some (a,([]:LB),0,0,0,0,0,([]:LI),0,f,false,0)))
def Lf:Boz:=(Ip c I z d j E F M O i D l).bind λ(e,t,A,B,C,G,J,L,N,P,R,T)=>some (e,t,A,B,C,G,J,L,N,P,R,l9,l9)
abbrev Ug:=Option (LB×LB×Int×Int×Int×Int×Int×LI×Int×LB×Bool×Int×Int)
abbrev Bpw:=LB->LB->Jz5 (LI->Int->LB->Bool->Int->Ug)
def Cc(bk3:Bpw)(a b:LB)(f g h k m:Int)(n:LI)(o:Int)(p:LB)(u:Bool)(v:Int):Ug:=(Ah a b f g h k m n o p u v).bind λ(bb,bc,bd,be,bf,bg,bh,bi,bj,bk,bl,bm,w)=>if(geq w (-1:Int))then(Ig a b f g h k m n o p u v).bind λ(bn,bp,bq,br,bs,bt,bu,bv,bw,bx,bz,da)=>some (bn,bp,bq,br,bs,bt,bu,bv,bw,bx,bz,da,0)
else
if(Bj w 0)then(Lf a b f g h k m n o p u v w).bind λ(db,dc,dd,de,df,dg,dh,di,dj,dk,dl,dm,dn)=>some (db,dc,dd,de,df,dg,dh,di,dj,dk,dl,dm,dn)
else
bk3 bb bc bd be bf bg bh bi bj bk bl bm
def Bc:Nat->LB->LB->Jz5 (LI->Int->LB->Bool->Int->Ug)
|0,_,_,_,_,_,_,_,_,_,_,_,_=>none
|q+1,a,b,f,g,h,k,m,n,o,p,u,v=>Cc (Bc q) a b f g h k m n o p u v
def Blu:=Bc As
def Ni(j3:Bpw)(al am:LB)(an ao ap aq ar:Int)(au:LI)(av:Int)(aw:LB)(ax:Bool)(ay:Int)(dp:LB):Ug:=(Cu al am an ao ap aq ar au av aw ax ay).bind λaz=>if(Bj az 0)then
some (([]:LB),([]:LB),0,0,0,0,0,([]:LI),0,([]:LB),false,0,az)
else(Ig al am an ao ap aq ar au av aw ax ay).bind λ(y,aa,ab,ac,ad,ae,af,ag,ah,ai,aj,ak)=>(Gz y aa ab ac ad ae af ag ah ai aj ak).bind λba=>if(Bj ba 0)then
some (y,aa,ab,ac,ad,ae,af,ag,ah,ai,aj,ak,ba)
else(Bt aa dp).bind λdq=>j3 y dq ab ac ad ae af ag ah ai aj ak
def Dg:=Ni Blu
def Jp:Bpj:=(Cu c I z d j E F M O i D l).bind λe=>if(Bj e 0)then
some (([]:LB),([]:LB),0,0,0,0,0,([]:LI),0,([]:LB),false,0,([]:LB),e)
else
if(Cj l9 0)then
some (([]:LB),([]:LB),0,0,0,0,0,([]:LI),0,([]:LB),false,0,([]:LB),2)
else(Ig c I z d j E F M O i D l).bind λ(t,A,B,C,G,J,L,N,P,R,T,U)=>(Bo R 0 (Du l9 (Ac R))).bind λV=>(Bo R (Du l9 (Ac R)) (Ac R)).bind λX=>some (t,A,B,C,G,J,L,N,P,X,T,U,V,0)
abbrev Kv:=Option (Int×Int)
def KU:Kv:=if(Cj (Ac c) B)then
some (0,24)
else
if(i==C)then(Bo c (Ap (Ac c) B) (Af (Ap (Ac c) B) 32)).bind λe=>(Yl z d).bind λj=>if(e !=j)then
some (0,12)
else
some (B,0)
else
some (B,0)
def KP:=KU
def JL(j6:LB->Int->Int->LB->LB->Int->Kv)(a:LB)(f g:Int)(b h:LB):Kv:=if(b==h)then
j6 a f g b h (Af (Af 32 f) 32)
else
j6 a f g b h (Af 32 f)
def Yo:=JL KP
def Ze(j5:LB->Int->Int->LB->LB->Kv)(a:LB):Kv:=(Bo a (Ap (Ac a) 32) (Ac a)).bind λb=>(Sk b).bind λ(f,g,n)=>if(!n)then
some (0,12)
else(Gu f g true).bind λh=>(
if(!(b==h))then(Gu f g false).bind λm=>if(b !=m)then
some (0,12)
else
j5 a f g b h
else
j5 a f g b h)
def KO:=Ze Yo
def JC(j4:LB->Kv)(a:LB):Kv:=if(Cj (Ac a) 32)then
some (0,6)
else(Bo a (Ap (Ac a) 32) (Af (Ap (Ac a) 32) 8)).bind λu=>if(u !=([65,80,69,84,65,71,69,88]:LB))then
some (0,6)
else
j4 a
def IA:=JC KO
abbrev Ic:=Option (Int×Int)
def Bki:Ic:=some (z,0)
def Ads:=Bki
def FI(j6:Int->Ic)(Se:LB->Int->Ic)(b:LB)(a:Int):Ic:=if(Ec (Ac b) 0)then(IA b).bind λ(g,h)=>if(Bj h 0)then
some (0,38)
else(Bo b 0 (Ap (Ac b) g)).bind λk=>Se k (Af a 1)
else
j6 a
def Pf:Nat->LB->Int->Ic
|0,_,_=>none
|q+1,b,a=>FI Ads (Pf q) b a
def Bkn:=Pf As
def DP(j4:LB->Int->Ic)(f:LB):Ic:=if(Ec (Ac f) 4000)then
some (0,38)
else
j4 f 0
def AQ:=DP Bkn
def Po(p a:LB)(g u v w y:Int)(b:LI)(h:Int)(aa:LB)(ab:Bool)(ac:Int):Bot:=if(geq g 0)then(Wg a).bind λ(k,f)=>if(Bj f 0)then
some f
else(Bo a k (Ac a)).bind λm=>(Yy m).bind λ(ad,ae,af,ag,ah,n)=>some n
else
if((geq (Ac b) 0)||(Cj h (Ac b)))then
some 24
else(AQ a).bind λ(ai,o)=>if(Bj o 0)then
some 38
else
some 0
def Ht:Boz:=(Cu c I z d j E F M O i D l).bind λe=>if(Bj e 0)then
some (([]:LB),([]:LB),0,0,0,0,0,([]:LI),0,([]:LB),false,0,e)
else(Ig c I z d j E F M O i D l).bind λ(t,A,B,C,G,J,L,N,P,R,T,U)=>(Gz t A B C G J L N P R T U).bind λV=>if(Bj V 0)then
some (t,A,B,C,G,J,L,N,P,R,T,U,V)
else(Po t A B C G J L N P R T U).bind λX=>if(Bj X 0)then(Lf t A B C G J L N P R T U X).bind λ(Y,Z,l5,l6,l7,l9,o7,o8,o9,p8,p9,q9,r9)=>some (Y,Z,l5,l6,l7,l9,o7,o8,o9,p8,p9,q9,r9)
else(Ip t A B C G J L N P R T U).bind λ(w9,Bmu,Bmv,Bmw,Bmx,Bmy,Bmz,Bm0,Bm1,Bm2,Bm3,Bm4)=>some (w9,Bmu,Bmv,Bmw,Bmx,Bmy,Bmz,Bm0,Bm1,Bm2,true,Bm4,0)
abbrev Ev:=Option (LB×LB×Int×Int×Int×Int×Int×LI×Int×LB×Bool×Int×(List (Int×LB×Unit))×Int)
def Ad4(g:LB)(h k m n o p:Int)(u:LB)(v:Bool)(w:Int)(f:Bow)(y:LB)(aa:LI):Ev:=some (g,y,h,k,m,n,o,aa,p,u,v,w,f,0)
def CG:=Ad4
def Tc(zi:Int->Int->LB->Jz6 (LB->Bool->Int-> (List (Int×LB×Unit))->LB->LI->Ev))(ab:LB)(b:Bou)(a:Int)(f:Bow)(dc dd:Int)(de df:LB)(dg dh di dj dk dl:Int)(dm:LB)(dn:Bool)(dp:Int)(dq:LB)(dr:LI):Ev:=(Bt f ([(dd,de,())]:Bow)).bind λds=>zi dc (Af a 1) df dg dh di dj dk dl dm dn dp ds dq dr
def Nl zi:=Tc zi
def Pb(j10:Int-> (List (Int×LB×Unit))->Int->Int->LB->LB->Jz6 (LB->Bool->Int->LB->LI->Ev))(j12:LB->Jz6 (LB->Bool->Int-> (List (Int×LB×Unit))->LB->LI->Ev))(ab:LB)(b:Bou)(ac a:Int)(g:LB)(h k m n o p:Int)(u:LB)(v:Bool)(w:Int)(f:Bow)(y:LB)(aa:LI):Ev:=if(Cj a (Ac b))then(Aj b a).bind λad=>if(geq ad.1 1)then(Aj b a).bind λae=>(Mk ab ac ae.2.1).bind λ(af,ag)=>(Dg g y h k m n o aa p u v w af).bind λ(ah,ai,aj,ak,al,am,an,ao,ap,aq,ar,au,av)=>j10 a f ag av ([]:LB) ah aj ak al am an ap aq ar au ai ao
else
if(geq ad.1 2)then(Aj b a).bind λaw=>(
(Jp g y h k m n o aa p u v w aw.2.1).bind λ(ax,ay,az,ba,bb,bc,bd,be,bf,bg,bh,bi,bj,bk)=>j10 a f ac bk bj ax az ba bb bc bd bf bg bh bi ay be)
else
if(geq ad.1 3)then(Ht g y h k m n o aa p u v w).bind λ(bl,bm,bn,bp,bq,br,bs,bt,bu,bv,bw,bx,bz)=>j10 a f ac bz ([]:LB) bl bn bp bq br bs bu bv bw bx bm bt
else
j10 a f ac 0 ([]:LB) g h k m n o p u v w y aa
else
j12 g h k m n o p u v w f y aa
def Ke:Nat->Int->Int->LB->Jz6 (LB->Bool->Int-> (List (Int×LB×Unit))->LB->LI->Ev)
|0,_,_,_,_,_,_,_,_,_,_,_,_,_,_,_=>none
|z+1,d,e,i,j,l,t,A,B,C,D,E,F,G,I,J=>Pb (Nl (Ke z) c P) CG c P d e i j l t A B C D E F G I J
def Bkd ab b:=Ke ab b As
def On(j7:LB-> (List (UInt8×Int×Unit))->Int->Int->LB->Jz6 (LB->Bool->Int-> (List (Int×LB×Unit))->LB->LI->Ev))(dt ab:LB)(b:Bou):Ev:=(Jq b).bind λda=>if(Bj da 0)then
some (([]:LB),([]:LB),0,0,0,0,0,([]:LI),0,([]:LB),false,0,([]:Bow),da)
else(Vo dt).bind λ(du,dv,dw,dx,dy,dz,fa,fb,fc,fd,fe,ff,db)=>if(Bj db 0)then
some (([]:LB),([]:LB),0,0,0,0,0,([]:LI),0,([]:LB),false,0,([]:Bow),db)
else
j7 ab b 0 0 du dw dx dy dz fa fc fd fe ff ([]:Bow) dv fb
def Pn:=On Bkd
def Rk(f a:LB)(g h k m n:Int)(b:LI)(o:Int)(p:LB)(u:Bool)(v:Int):Bot:=some (Af (Ac a) (Bn 8 (Ac b)))
abbrev Ga:=Option (Int×Int×Int)
def Ble:Ga:=some (z,d,0)
def Ah4:=Ble
abbrev Bpg:=Jz4 (LB->Int->Int->Int->Int->Int->Int->LB->Bool->Int->LB->LI->Ga)
def Ago(zi:Bpg)(k:LB)(f:Bou)(g h a dk:Int)(bw:LB)(bx bz da db dc dd:Int)(ag:LB)(de:Bool)(df:Int)(dg:LB)(dh:LI):Ga:=(Rk bw dg bx bz da db dc dh dd ag de df).bind λdl=>zi (jQ g dl) (jQ h (Ac ag)) dk (Af a 1) bw bx bz da db dc dd ag de df dg dh
def Wn zi:=Ago zi
def Ji(j10:Bpg)(j12:Int->Int->Ga)(k:LB)(f:Bou)(g h b a:Int)(m:LB)(n o p u v w:Int)(y:LB)(aa:Bool)(ab:Int)(ac:LB)(ad:LI):Ga:=if(Cj a (Ac f))then(Aj f a).bind λae=>if(geq ae.1 1)then(Aj f a).bind λaf=>(Bo k b (Af b (Du af.2.1 (Ap (Ac k) b)))).bind λah=>(Dg m ac n o p u v ad w y aa ab ah).bind λ(ai,aj,ak,al,am,an,ao,ap,aq,ar,au,av,dm)=>j10 g h a (Af b (Du af.2.1 (Ap (Ac k) b))) ai ak al am an ao aq ar au av aj ap
else
if(geq ae.1 2)then(Aj f a).bind λaw=>(
(Jp m ac n o p u v ad w y aa ab aw.2.1).bind λ(ax,ay,az,ba,bb,bc,bd,be,bf,bg,bh,bi,dn,dp)=>j10 g h a b ax az ba bb bc bd bf bg bh bi ay be)
else
if(geq ae.1 3)then(Ht m ac n o p u v ad w y aa ab).bind λ(bj,bk,bl,bm,bn,bp,bq,br,bs,bt,bu,bv,dq)=>j10 g h a b bj bl bm bn bp bq bs bt bu bv bk br
else
j10 g h a b m n o p u v w y aa ab ac ad
else
j12 g h
def En:Nat->Jz4 (LB->Int->Int->Int->Int->Int->Int->LB->Bool->Int->LB->LI->Ga)
|0,_,_,_,_,_,_,_,_,_,_,_,_,_,_,_,_=>none
|z+1,d,e,i,j,l,t,A,B,C,D,E,F,G,I,J,L=>Ji (Wn (En z) c P) Ah4 c P d e i j l t A B C D E F G I J L
def Bmh k f:=En k f As
def Rr(j7:LB-> (List (UInt8×Int×Unit))->Jz4 (LB->Int->Int->Int->Int->Int->Int->LB->Bool->Int->LB->LI->Ga))(di k:LB)(f:Bou):Ga:=(Pn di k f).bind λ(fe,ff,fg,fh,fi,fj,fk,fl,fm,fn,fo,fp,fq,dj)=>if(Bj dj 0)then
some (0,0,dj)
else(Vo di).bind λ(dr,ds,dt,du,dv,dw,dx,dy,dz,fa,fb,fc,fs)=>j7 k f 0 0 0 0 dr dt du dv dw dx dz fa fb fc ds dy
def Td:=Rr Bmh
def Zy:Option (Int×Bool):=(Un j).bind λ(c,e)=>(Nz z d).bind λl=>some (c,(((geq l 0)&&(geq e 0))&&(vA (Ac i) 64)))
abbrev Bpb:=Option (Int×Int×Int×LB×LB×LX×(List LB)×LB×Bool×Int×Int)
def KJ:Bpb:=(Zy z d j i).bind λ(c,e)=>if(!e)then
some (0,0,0,([]:LB),([]:LB),([]:LX),([]:Box),([]:LB),false,0,2)
else
some (z,d,j,i,([]:LB),([]:LX),([]:Box),([]:LB),false,0,0)
def BY:Bot:=some (Bs (Bn z d) 8)
def Zr(a h k:Int)(m n:LB)(b:LX)(f:Box)(o:LB)(p:Bool)(u g:Int):Bot:=(Mt (Bj a 0)).bind λ_=>some (Af (Bn (Ac f) g) (Bs (Ac b) a))
def Zj(a g h:Int)(k m:LB)(n:LX)(o:Box)(p:LB)(u:Bool)(v b f:Int):Boy:=some ((vA b 1000)&&(vA (Bn f a) 4000))
def Amr:Boy:=some (!D)
def Ams:=Amr
abbrev Bqw:=Bool->Option Bool
def Ama(j24:Bqw)(y:Bool):Boy:=j24 y
def NK:=Ama Ams
def Bhr(j23:Bqw):Boy:=j23 (Nw (-1:Int) (0:Int))
def Ame:=Bhr NK
def NB(Hr:Bql)(b:Box)(f a h:Int):Boy:=Hr (Af h 1)
def MY Hr:=NB Hr
def NJ(j23:Bqw)(j20:Bql)(b:Box)(f a h:Int)(w:LB):Boy:=if((Cj (Ac w) 5)||(Ec (Ac w) (Af (Bs (Af (Bn (Bn 81 f) a) 7) 8) 4)))then
j23 (Nw h 0)
else
j20 h
def AK Hr b f a:=NJ NK (MY Hr b f a) b f a
def Pq(j19:Int->LB->Option Bool)(j22:Boy)(b:Box)(f a h:Int):Boy:=if(Cj h (Ac b))then(Aj b h).bind λw=>j19 h w
else
j22
def Gc:Nat->Int->Option Bool
|0,_=>none
|z+1,c=>Pq (AK (Gc z) t B T) Ame t B T c
def AM b f a:=Gc b f a As
def Tt(j16:(List LB)->Jz3 (Option Bool))(f a k o:Int)(p m:LB)(g:LX)(b:Box)(n:LB)(u:Bool)(v:Int):Boy:=j16 b f a 0
def AW:=Tt AM
def Tw:Boy:=(Zr Z l6 Bng C Y e t G J B N).bind λz=>(Zj Z l6 Bng C Y e t G J B T z).bind λc=>if(!c)then
some false
else
o8 N Z l6 Bng C Y e t G J B
def Ty:=Tw AW
abbrev Bo7:=Jz4 (LB->LB->LX-> (List LB)->LB->Bool->Int->Int->Option Bool)
def AS(j14:Bo7)(f a k o:Int)(p m:LB)(g:LX)(b:Box)(n:LB)(u:Bool)(v:Int):Boy:=(DI k g).bind λad=>if(Bj ad 0)then
some false
else
if(Ec (Ac g) 0)then
j14 f a k o p m g b n u v (Af (Ac b) 1)
else
j14 f a k o p m g b n u v (Ac b)
def AO:=AS Ty
def DR:Boy:=if(Ec (Ac G) 0)then
if true then
if true then
if(true||(Ec (Ac t) 1000))then
some false
else
o8 T N Z l6 C Y e t G J B
else(Mt (Bj N 0)).bind λ_=>if((Nw (Bs (Ac e) N) T)||(Ec (Ac t) 1000))then
some false
else
o8 T N Z l6 C Y e t G J B
else(Mt (Bj N 0)).bind λ_=>if(Bj (Gx (Ac e) N) 0)then
if(true||(Ec (Ac t) 1000))then
some false
else
o8 T N Z l6 C Y e t G J B
else(Mt (Bj N 0)).bind λ_=>if((Nw (Bs (Ac e) N) T)||(Ec (Ac t) 1000))then
some false
else
o8 T N Z l6 C Y e t G J B
else(BY N Z).bind λz=>if(Nw (Ac Y) z)then
if true then
if(true||(Ec (Ac t) 1000))then
some false
else
o8 T N Z l6 C Y e t G J B
else(Mt (Bj N 0)).bind λ_=>if((Nw (Bs (Ac e) N) T)||(Ec (Ac t) 1000))then
some false
else
o8 T N Z l6 C Y e t G J B
else(Mt (Bj N 0)).bind λ_=>if(Bj (Gx (Ac e) N) 0)then
if(true||(Ec (Ac t) 1000))then
some false
else
o8 T N Z l6 C Y e t G J B
else(Mt (Bj N 0)).bind λ_=>if((Nw (Bs (Ac e) N) T)||(Ec (Ac t) 1000))then
some false
else
o8 T N Z l6 C Y e t G J B
def Xr:=DR AO
def Nx:Bot:=(Zy z d j i).bind λ(c,l)=>if(!l)then
some 8
else
if(Bj B 0)then
if(!(((((geq B 18)||(geq B 24))&&(!J))&&(geq (Af (Af (Ac C) (Ac e)) (Ac t)) 0))&&(geq (Ac G) 0)))then
some 8
else
some 0
else
if J then
if(!((geq (Af (Af (Ac C) (Ac e)) (Ac t)) 0)&&(vA (Ac G) 100000)))then
some 8
else
some 0
else(Xr z d j i C e t G J B c).bind λA=>if(!A)then
some 8
else
some 0
abbrev Ot:=Option (Int×Int×Int×LB×LB×LX×(List LB)×LB×Bool×Int)
def Bms(b f g:Int)(h:LB)(a:Box)(k:Bool)(m:Int)(u:Box)(n:LB)(o:LX)(p:LB):Ot:=some (b,f,g,h,n,o,u,p,k,m)
def Bdo:=Bms
def PC(j8:Jz3 (LB-> (List LB)->Bool->Int-> (List LB)->LB->LX->LB->Ot))(nk:Int-> (List LB)->Ot)(w a:Box)(b f g:Int)(h:LB)(k:Bool)(m:Int)(n:LB)(o:LX)(p:LB)(v:Int)(u:Box):Ot:=if(Cj v (Ac (dJ w a)))then(Aj u v).bind λ_=>(Aj u v).bind λy=>(By y).bind λaa=>(Aj u v).bind λ_=>(Rn u v aa).bind λab=>nk (Af v 1) ab
else
j8 b f g h a k m u n o p
def Xw:Nat->Int-> (List LB)->Ot
|0,_,_=>none
|z+1,c,d=>PC Bdo (Xw z) t Bnv Bod Boe Bof Bmy Bog Boh Bnw U Bnp c d
def Bmm w a b f g h k m n o p:=Xw w a b f g h k m n o p As
def bZ(j6:(List LB)-> (List LB)->Jz3 (LB->Bool->Int->LB->LX->LB->Int-> (List LB)->Ot))(b f g:Int)(h:LB)(a:Box)(k:Bool)(m:Int)(n:LB)(o:LX)(p:LB):Ot:=(mkI (Ac a) ([]:LB)).bind λw=>(Mt (geq (Ac a) (Ac a))).bind λ_=>j6 w a b f g h k m n o p 0 (dJ w a)
def Bdp:=bZ Bmm
def bM(j5:Jz3 (LB-> (List LB)->Bool->Int->LB->LX->LB->Ot))(b f g:Int)(h ac:LB)(ad:LX)(a:Box)(ae:LB)(k:Bool)(m:Int):Ot:=(By ac).bind λn=>(Dx ad).bind λo=>(By ae).bind λp=>j5 b f g h a k m n o p
def UM:=bM Bdp
abbrev bR:=Option (Int×Int×Int×LB×LB×LX×(List LB)×LB×Bool×Int×Int×Int)
def BO:bR:=(UM d j E i C e t G J B).bind λ(c,l,A,D,F,I,L,M,N,O)=>some (c,l,A,D,F,I,L,M,N,O,z,T)
def DF:=BO
def XM(j2:Jz4 (LB->LB->LX-> (List LB)->LB->Bool->Int->Int->bR))(g h b:Int)(k m:LB)(n:LX)(o:Box)(p:LB)(f:Bool)(a:Int):bR:=(Nx g h b k m n o p f a).bind λv=>if(Bj v 0)then
some (0,0,0,([]:LB),([]:LB),([]:LX),([]:Box),([]:LB),false,0,0,v)
else(Un b).bind λ(u,aj)=>if(Bj a 0)then
j2 u g h b k m n o p f a a
else
if f then
j2 u g h b k m n o p f a 36
else
j2 u g h b k m n o p f a aj
def AB:=XM DF
abbrev Dl:=Option (LX×Int)
def Bid:Dl:=some (e,0)
def Avm:=Bid
abbrev Bq5:=Int->LX->Dl
def HY(Hr:Bq5)(a:Int)(b:LB)(f:Int)(o:LX):Dl:=Hr (Af f (Bs a 8)) o
def Oh Hr:=HY Hr
def SC(j28:Bq5)(a:Int)(b:LB)(f:Int)(k:Int32)(g:LX):Dl:=(Mt (Nw (Ap 32 a) 0)).bind λ_=>(Mt (Nw (Ap 32 a) 0)).bind λ_=>(Bt g ([(Cx (Ed k (GI.toZ (Ap 32 a)).toNat) (GI.toZ (Ap 32 a)).toNat)]:LX)).bind λp=>j28 f p
def IG Hr a b:=SC (Oh Hr a b) a b
def Ii(j27:Int->Int32->LX->Dl)(tZ:Int32->Int->Dl)(a:Int)(b:LB)(f:Int)(g:LX)(k:Int32)(h:Int):Dl:=if(Cj h (Bs a 8))then(Aj b (Af f h)).bind λm=>(Mt (Nw (Bn 8 h) 0)).bind λ_=>tZ (K4 k (Ed (Ae m:Int32) (GI.toZ (Bn 8 h)).toNat)) (Af h 1)
else
j27 f k g
def Gp(Hr:Bq5)(a:Int)(b:LB)(f:Int)(g:LX):Nat->Int32->Int->Dl
|0,_,_=>none
|q+1,k,h=>Ii (IG Hr a b) (Gp Hr a b f g q) a b f g k h
def Tj Hr a b f g:=Gp Hr a b f g As
def Is(j28:Bq5)(j25:Int->LX->Int32->Int->Dl)(j30:LX->Dl)(a:Int)(b:LB)(f:Int)(g:LX):Dl:=if(Cj f (Ac b))then
if(geq a 8)then(Aj b f).bind λm=>(Bt g ([(Ap (Ae m:Int32) 128)]:LX)).bind λu=>j28 f u
else
j25 f g 0 0
else
j30 g
def Fi:Nat->Int->LX->Dl
|0,_,_=>none
|c+1,d,e=>Is (Oh (Fi c) z i) (Tj (Fi c) z i) Avm z i d e
def Awp a b:=Fi a b As
def YL(j16:Int->LB->Int->LX->Dl)(a:Int)(b:LB):Dl:=(Sd a).bind λ(v,w,n)=>if(Bj n 0)then
some (([]:LX),n)
else(Mt (Bj (Bs a 8) 0)).bind λ_=>if(Bj (Gx (Ac b) (Bs a 8)) 0)then
some (([]:LX),12)
else(Mt (Bj (Bs a 8) 0)).bind λ_=>if(Ec (Bs (Ac b) (Bs a 8)) 4000)then
some (([]:LX),4)
else
j16 a b 0 ([]:LX)
def ZA:=YL Awp
def YY:Bot:=(Nz z d).bind λc=>if(Bj c 0)then
some c
else(DI d e).bind λi=>if(Bj i 0)then
some i
else
if(geq (Ac e) 0)then
some 2
else(Mt (Bj z 0)).bind λ_=>if(Bj (Gx (Ac e) z) 0)then
some 2
else
some 0
abbrev Pu:=Option (LX×Int)
def Ah9:Pu:=some (e,0)
def Azu:=Ah9
abbrev Bqt:=Int->LX->Pu
def wF(nT:Bqt)(b a:Int)(u:LX):Pu:=nT (Af a b) u
def xZ nT:=wF nT
def Bh5(j20:Bqt)(b a:Int)(g:LX):Pu:=if(Ec (Ap ((Af a b)-a) 1) 0)then(Mt (decide (0<= (Ap ((Af a b)-a) 1)/\ (Ap ((Af a b)-a) 1)<((Af a b)-a)))).bind λ_=>Option.bind (Mt (decide (0<= (Ap (Ap ((Af a b)-a) 1) 1)/\ (Ap (Ap ((Af a b)-a) 1) 1)<((Af a b)-a)))) λ_=>(Aj g (a+(Ap ((Af a b)-a) 1))).bind λk=>(Aj g (a+(Ap (Ap ((Af a b)-a) 1) 1))).bind λm=>(Mt (decide (0<= (Ap ((Af a b)-a) 1)/\ (Ap ((Af a b)-a) 1)<((Af a b)-a)))).bind λ_=>(Rn g (a+(Ap ((Af a b)-a) 1)) (Ap k (Bs m 2))).bind λn=>j20 a n
else
j20 a g
def vV nT b:=Bh5 (xZ nT b) b
def jY(j19:Bqt)(nU:Bqt)(b a f:Int)(g:LX):Pu:=if(Cj f (Ap ((Af a b)-a) 1))then(Mt (decide (0<= (Af f 1)/\ (Af f 1)<((Af a b)-a)))).bind λ_=>(Mt (decide (0<=f/\f<((Af a b)-a)))).bind λ_=>(Aj g (a+(Af f 1))).bind λk=>(Aj g (a+f)).bind λm=>(Mt (decide (0<=f/\f<((Af a b)-a)))).bind λ_=>(Rn g (a+f) (Ap k m)).bind λn=>nU (Af f 1) n
else
j19 a g
def RN(nT:Bqt)(b a:Int):Nat->Int->LX->Pu
|0,_,_=>none
|q+1,f,g=>jY (vV nT b) (RN nT b a q) b a f g
def Bcd nT b a:=RN nT b a As
def wC(j17:Int->Int->LX->Pu)(j22:LX->Pu)(b a:Int)(h:LX):Pu:=if(Cj a (Ac h))then(pE (Ac h) a (Af a b)).bind λ_=>j17 a 0 h
else
j22 h
def RV:Nat->Int->LX->Pu
|0,_,_=>none
|c+1,d,e=>wC (Bcd (RV c) z) Azu z d e
def Bb9 b:=RV b As
def J8(j12:Int->Int->LX->Pu)(b:Int)(o:LX):Pu:=(pN b o).bind λp=>if(Bj p 0)then
some (([]:LX),p)
else(Dx o).bind λv=>j12 b 0 v
def E_:=J8 Bb9
def mD:Bqn:=(gW z e U).bind λ(c,d)=>if(Bj d 0)then
some (0,0,(List.replicate 16 (0:Int32)),(List.replicate 16 (0:Int32)),d)
else(fO z e U L (Ap L c)).bind λ(i,j,l)=>some ((Ap L c),i,j,l,0)
def FU:Bp5:=(JW z L l5 o9 p9).bind λc=>if(Bj c 0)then
some (0,0,0,0,(List.replicate 16 (0:Int32)),(List.replicate 16 (0:Int32)),c)
else(JY z L).bind λ(d,e)=>(mD l5 o9 p9 (Ap Bmx d)).bind λ(i,j,l,t,A)=>(
some (i,z,Bmx,j,l,t,A))
def zJ:Bph:=some (KR (Ed (Ae L:UInt32) (GI.toZ (1:UInt64)).toNat) (Ae (Cx L (GI.toZ (31:UInt64)).toNat):UInt32))
abbrev Ep:=Option (LU×Int)
def Bi3:Ep:=some (X,0)
def Asp:=Bi3
def EZ(j12:LU->Ep)(SU:Int-> (List (Int×Int32×(Int×LX×LX×Unit)×Unit))->LU->Ep)(b:LX)(a f g:Int)(k:Bo3)(h:LU):Ep:=if(Cj g (Ac b))then(Aj b g).bind λ_=>(Aj b g).bind λac=>(Mt (Bj a 0)).bind λ_=>(Aj k (Gx g a)).bind λ_=>(Aj k (Gx g a)).bind λp=>(FU p.1 p.2.1 p.2.2.1.1 p.2.2.1.2.1 p.2.2.1.2.2.1 ac).bind λ(u,ad,ae,v,af,ag,w)=>if(Bj w 0)then
some (([]:LU),w)
else(Rn k (Gx g a) (ad,ae,(v,af,ag,()),())).bind λah=>(zJ u).bind λai=>(Bt h ([ai]:LU)).bind λaj=>SU (Af g 1) ah aj
else
j12 h
def Qv:Nat->Int-> (List (Int×Int32×(Int×LX×LX×Unit)×Unit))->LU->Ep
|0,_,_,_=>none
|z+1,c,d,i=>EZ Asp (Qv z) e B T c d i
def Apd b a f:=Qv b a f As
def Asw(j10:LX->Jz3 ( (List (Int×Int32×(Int×LX×LX×Unit)×Unit))->LU->Ep))(a f:Int)(b:LX)(m:Bo3):Ep:=j10 b a f 0 m ([]:LU)
def Asz:=Asw Apd
def Ata(j9:Int->Int->LX-> (List (Int×Int32×(Int×LX×LX×Unit)×Unit))->Ep)(zi:Int-> (List (Int×Int32×(Int×LX×LX×Unit)×Unit))->Ep)(a f:Int)(n b:LX)(o:Int)(m:Bo3):Ep:=if(Cj o 6)then(ng f n).bind λ(ak,al,u,am,an,v)=>(Aj m o).bind λ_=>(Rn m o (ak,al,(u,am,an,()),())).bind λao=>zi (Af o 1) ao
else
j9 a f b m
def TU:Nat->Int-> (List (Int×Int32×(Int×LX×LX×Unit)×Unit))->Ep
|0,_,_=>none
|c+1,i,j=>Ata Asz (TU c) z d e U i j
def VY a f n b:=TU a f n b As
def TL(j7:Int->Int->LX->LX->Int-> (List (Int×Int32×(Int×LX×LX×Unit)×Unit))->Ep)(a f:Int)(n y:LX):Ep:=(YY a f y).bind λaa=>if(Bj aa 0)then
some (([]:LU),aa)
else(E_ a y).bind λ(b,ab)=>if(Bj ab 0)then
some (([]:LU),ab)
else
j7 a f n b 0 (List.replicate 6 ((0:Int),(0:Int32),((0:Int),(List.replicate 16 (0:Int32)),(List.replicate 16 (0:Int32)),()),()))
def TK:=TL VY
abbrev Qu:=Option ((List (Int×Int×UInt64×UInt64×Unit)))
def Bie:Qu:=some Bno
def Aw0:=Bie
abbrev Bp1:=Int-> (List (Int×Int×UInt64×UInt64×Unit))->Qu
def Awt(j6:(List (Int×Int×UInt64×UInt64×Unit))->Qu)(Se:Bp1)(b:Int)(a:Bov):Qu:=if(Cj b 6)then(M4).bind λ(f,g,h,k)=>(Aj a b).bind λ_=>(Rn a b (f,g,h,k,())).bind λm=>Se (Af b 1) m
else
j6 a
def SB:Nat->Int-> (List (Int×Int×UInt64×UInt64×Unit))->Qu
|0,_,_=>none
|q+1,b,a=>Awt Aw0 (SB q) b a
def Avv:=SB As
def TG(j4:Bp1):Qu:=j4 0 (List.replicate 6 ((0:Int),(0:Int),(0:UInt64),(0:UInt64),()))
def UL:=TG Avv
def oW:Bp2:=(By c).bind λd=>some (d,z)
abbrev Fl:=Option (LB×Int×Int)
def Abl:Fl:=some (i,z,0)
def qZ:=Abl
abbrev Bpl:=UInt64->Int->Int->LB->Fl
def Adf(aS:Bpl)(b:UInt64)(a:Int)(m:UInt64)(h f:Int)(w:LB):Fl:=(Mt (Nw (Du h (Ap 8 (Gv f 7))) 0)).bind λ_=>aS (Cx m (GI.toZ (Du h (Ap 8 (Gv f 7)))).toNat) (Ap h (Du h (Ap 8 (Gv f 7)))) (Af f (Du h (Ap 8 (Gv f 7)))) w
def Af0 aS:=Adf aS
def Adh(j19:Bpl)(b:UInt64)(a:Int)(m:UInt64)(h f:Int)(u:LB):Fl:=(Aj u (Ap (Ac u) 1)).bind λ_=>(Mt (Nw (Du h (Ap 8 (Gv f 7))) 0)).bind λ_=>(Mt (Nw (Gv f 7) 0)).bind λ_=>(Aj u (Ap (Ac u) 1)).bind λad=>(Aj u (Ap (Ac u) 1)).bind λ_=>Option.bind (Rn u (Ap (Ac u) 1) (K4 ad (Ed (Ae (Gv m (Ap (Ed (1:UInt64) (GI.toZ (Du h (Ap 8 (Gv f 7)))).toNat) 1)):UInt8) (GI.toZ (Gv f 7)).toNat))) λw=>j19 m h f w
def eA aS b a:=Adh (Af0 aS b a) b a
def eB(j18:Bpl)(j21:Int->LB->Fl)(b:UInt64)(a:Int)(m:UInt64)(h f:Int)(o:LB):Fl:=if(Ec h 0)then
if(geq (Gv f 7) 0)then(Bt o ([(0:UInt8)]:LB)).bind λaa=>j18 m h f aa
else
j18 m h f o
else
j21 f o
def Yf:Nat->UInt64->Int->Int->LB->Fl
|0,_,_,_,_=>none
|z+1,c,d,e,i=>eB (eA (Yf z) A o7) qZ A o7 c d e i
def Aff b a:=Yf b a As
def Ad2:Fl:=some (i,z,0)
def Aey:=Ad2
def Aes(aU:Bpl)(b:UInt64)(a:Int)(n:UInt64)(k g:Int)(ab:LB):Fl:=(Mt (Nw (Du k (Ap 8 (Gv g 7))) 0)).bind λ_=>aU (Cx n (GI.toZ (Du k (Ap 8 (Gv g 7)))).toNat) (Ap k (Du k (Ap 8 (Gv g 7)))) (Af g (Du k (Ap 8 (Gv g 7)))) ab
def Aec aU:=Aes aU
def Ad3(j26:Bpl)(b:UInt64)(a:Int)(n:UInt64)(k g:Int)(v:LB):Fl:=(Aj v (Ap (Ac v) 1)).bind λ_=>(Mt (Nw (Du k (Ap 8 (Gv g 7))) 0)).bind λ_=>(Mt (Nw (Gv g 7) 0)).bind λ_=>(Aj v (Ap (Ac v) 1)).bind λae=>(Aj v (Ap (Ac v) 1)).bind λ_=>Option.bind (Rn v (Ap (Ac v) 1) (K4 ae (Ed (Ae (Gv n (Ap (Ed (1:UInt64) (GI.toZ (Du k (Ap 8 (Gv g 7)))).toNat) 1)):UInt8) (GI.toZ (Gv g 7)).toNat))) λab=>j26 n k g ab
def Adc aU b a:=Ad3 (Aec aU b a) b a
def Abm(j25:Bpl)(j28:Int->LB->Fl)(b:UInt64)(a:Int)(n:UInt64)(k g:Int)(p:LB):Fl:=if(Ec k 0)then
if(geq (Gv g 7) 0)then(Bt p ([(0:UInt8)]:LB)).bind λw=>j25 n k g w
else
j25 n k g p
else
j28 g p
def rT:Nat->UInt64->Int->Int->LB->Fl
|0,_,_,_,_=>none
|z+1,c,d,e,i=>Abm (Adc (rT z) A o7) Aey A o7 c d e i
def Aen b a:=rT b a As
abbrev Bqe:=UInt64->Int->UInt64->Int->Int->LB->Fl
def wH(j15:Bqe)(j22:Bqe)(ac:LB)(y:Int)(b:UInt64)(a:Int):Fl:=(Pc ac y).bind λaf=>if(Bj af 0)then
some (([]:LB),0,8)
else
if((Cj a 0)||(Ec a 64))then
some (([]:LB),0,2)
else
if(Cj a 64)then(Mt (Nw a 0)).bind λ_=>if(Bj (Cx b (GI.toZ a).toNat) 0)then
some (([]:LB),0,16)
else
if(Ec (Af y a) 330000)then
some (([]:LB),0,18)
else(oW ac y).bind λ(ag,ah)=>j15 b a b a ah ag
else
if(Ec (Af y a) 330000)then
some (([]:LB),0,18)
else(oW ac y).bind λ(aa,ai)=>j22 b a b a ai aa
def iE:=wH Aff Aen
def sU:Bo8:=if((Cj z 0)||(Ec z 48))then
some (0,2)
else
some ((Du (Af z 1) 48),0)
def lI:Bq7:=(Pc c z).bind λe=>if(Bj e 0)then
some (([]:LB),0,e)
else(sU d).bind λ(i,j)=>if(Bj j 0)then
some (([]:LB),0,j)
else(Mt (Nw d 0)).bind λ_=>(iE c z (Ap (Ed (1:UInt64) (GI.toZ d).toNat) 1) i).bind λ(l,t,A)=>some (l,t,A)
abbrev qR:=Option (LB×Int×Int)
def nP:qR:=(lI c z d).bind λ(e,i,j)=>if(Bj j 0)then
some (([]:LB),0,j)
else(iE e i (Ae V:UInt64) Bmu).bind λ(l,t,A)=>some (l,t,A)
def nB:=nP
def Aa7(j2:LB->Int->Int->UInt32->Int->qR)(b:LB)(f:Int)(g:UInt32)(a:Int):qR:=(Pc b f).bind λk=>if(Bj k 0)then
some (([]:LB),0,k)
else
if((Cj a 0)||(Ec a 24))then
some (([]:LB),0,2)
else(Mt (Nw a 0)).bind λ_=>(Mt (Nw a 0)).bind λ_=>(MF g a).bind λaa=>if aa then
j2 b f 48 g 32
else
j2 b f (Ae (Cx g (GI.toZ a).toNat):Int) (Gv g (Ap (Ed (1:UInt32) (GI.toZ a).toNat) 1)) a
def rX:=Aa7 nB
abbrev Pe:=Option (LB×Int×Int×Int×UInt64×UInt64×Int)
def VV:Pe:=(
(
some (Bmz,z,d,j,(Af A (Ap (Ae V:UInt64) (Cx A (GI.toZ (4:UInt64)).toNat))),l7,0)))
def jF:=VV
def mX(j10:Jz3 (UInt64->UInt32->UInt64->LB->Pe))(b:UInt32)(k n:Int)(a o:UInt64)(m:LB)(u:Int):Pe:=j10 k u n a b o m
def Ab0:=mX jF
def mJ(j9:UInt32->Int->Int->UInt64->UInt64->LB->Int->Pe)(b:UInt32)(f:Int)(a:UInt64)(k:Int)(m:LB)(n:Int)(o:UInt64):Pe:=if(Ec f 0)then(Mt (Nw f 0)).bind λ_=>if(Cj (Af a (Ap (Ae b:UInt64) (Cx a (GI.toZ (4:UInt64)).toNat))) (Ed (16:UInt64) (GI.toZ f).toNat))then
j9 b k n a o m (Ap f 1)
else
if(Cj f 24)then(Mt (Nw f 0)).bind λ_=>if(Ec (Af a (Ap (Ae b:UInt64) (Cx a (GI.toZ (4:UInt64)).toNat))) (Ed (32:UInt64) (GI.toZ f).toNat))then
j9 b k n a o m (Af f 1)
else
j9 b k n a o m f
else
j9 b k n a o m f
else
if(Cj f 24)then(Mt (Nw f 0)).bind λ_=>if(Ec (Af a (Ap (Ae b:UInt64) (Cx a (GI.toZ (4:UInt64)).toNat))) (Ed (32:UInt64) (GI.toZ f).toNat))then
j9 b k n a o m (Af f 1)
else
j9 b k n a o m f
else
j9 b k n a o m f
def NS:=mJ Ab0
def mI(j8:UInt32->Int->UInt64->Int->LB->Int->UInt64->Pe)(b:UInt32)(f h:Int)(a g:UInt64)(ac k:Int)(m:LB):Pe:=if(Bj ac 0)then
some (([]:LB),0,0,0,0,0,ac)
else(YN f h a g b).bind λ(ag,p)=>if(geq ag 1)then
if(Ec h 0)then(Mt (Nw h 0)).bind λ_=>if(Cj (Af g (Ap (Ae p:UInt64) (Cx g (GI.toZ (4:UInt64)).toNat))) (Ed (16:UInt64) (GI.toZ h).toNat))then
j8 b f a k m (Ap h 1) (Af g (Ap (Ae p:UInt64) (Cx g (GI.toZ (4:UInt64)).toNat)))
else
if(Cj h 24)then(Mt (Nw h 0)).bind λ_=>if(Ec (Af g (Ap (Ae p:UInt64) (Cx g (GI.toZ (4:UInt64)).toNat))) (Ed (32:UInt64) (GI.toZ h).toNat))then
j8 b f a k m (Af h 1) (Af g (Ap (Ae p:UInt64) (Cx g (GI.toZ (4:UInt64)).toNat)))
else
j8 b f a k m h (Af g (Ap (Ae p:UInt64) (Cx g (GI.toZ (4:UInt64)).toNat)))
else
j8 b f a k m h (Af g (Ap (Ae p:UInt64) (Cx g (GI.toZ (4:UInt64)).toNat)))
else
if(Cj h 24)then(Mt (Nw h 0)).bind λ_=>if(Ec (Af g (Ap (Ae p:UInt64) (Cx g (GI.toZ (4:UInt64)).toNat))) (Ed (32:UInt64) (GI.toZ h).toNat))then
j8 b f a k m (Af h 1) (Af g (Ap (Ae p:UInt64) (Cx g (GI.toZ (4:UInt64)).toNat)))
else
j8 b f a k m h (Af g (Ap (Ae p:UInt64) (Cx g (GI.toZ (4:UInt64)).toNat)))
else
j8 b f a k m h (Af g (Ap (Ae p:UInt64) (Cx g (GI.toZ (4:UInt64)).toNat)))
else
j8 b f a k m h g
def mZ:=mI NS
def nL(j7:UInt32->Int->Int->UInt64->UInt64->Int->Int->LB->Pe)(b:UInt32)(v:LB)(w f h:Int)(a g:UInt64):Pe:=(YN f h a g b).bind λ(ad,ae)=>(iE v w (Ae ad:UInt64) 1).bind λ(y,aa,ab)=>if((geq ab 0)&&(geq ad 0))then(iE y aa (Ae ae:UInt64) f).bind λ(ah,ai,aj)=>j7 b f h a g aj ai ah
else
if(geq ab 0)then(rX y aa ae h).bind λ(ak,al,am)=>j7 b f h a g am al ak
else
j7 b f h a g ab aa y
def Aa8:=nL mZ
def nR(j6:UInt32->LB->Jz3 (UInt64->UInt64->Pe))(v:LB)(w f h:Int)(a g:UInt64)(b:UInt32):Pe:=(Pc v w).bind λan=>if(Bj an 0)then
some (([]:LB),0,0,0,0,0,8)
else(iN f h a g).bind λao=>if(Bj ao 0)then
some (([]:LB),0,0,0,0,0,8)
else
j6 b v w f h a g
def rM:=nR Aa8
def Biv:Bo2:=some c
def Ab6:=Biv
def Ei(j16:Bqc)(bD:Bqo)(a:Box)(g:Int)(f:LB):Bo2:=if(Cj g (Ac a))then(Aj a g).bind λn=>(Bt f n).bind λo=>bD (Af g 1) o
else
j16 f
def Da:Nat->Int->LB->Option (LB)
|0,_,_=>none
|z+1,c,d=>Ei Ab6 (Da z) t c d
def Nq a:=Da a As
def Ns(j14:(List LB)->Int->LB->Option (LB))(a:Box)(p:LB):Bo2:=j14 a 0 p
def Io:=Ns Nq
def Nu(j13:(List LB)->LB->Option (LB))(b:Int)(a:Box):Bo2:=if(Ec (Ap b (Ap (0:Int) (0:Int))) 0)then(pE 0 0 0).bind λ_=>(mkI (Ap b (Ap (0:Int) (0:Int))) (0:UInt8)).bind λu=>(Bt ([]:LB) u).bind λk=>(pE (Ac k) 0 0).bind λ_=>j13 a (jS k 0 ((0:Int)-(0:Int)))
else
j13 a ([]:LB)
def Vc:=Nu Io
def Nt(j12:Int-> (List LB)->Option (LB))(a:Box)(b:Int):Bo2:=if(Cj b 0)then
none
else
j12 b a
def Ir:=Nt Vc
def Es(j11:(List LB)->Int->Option (LB))(bk9:Bq9)(a:Box)(b h:Int):Bo2:=if(Cj h (Ac a))then(Aj a h).bind λm=>if(Cj (Af b (Ac m)) 0)then
none
else
bk9 (Af b (Ac m)) (Af h 1)
else
j11 a b
def Dh:Nat->Int->Int->Option (LB)
|0,_,_=>none
|z+1,c,d=>Es Ir (Dh z) t c d
def Abb a:=Dh a As
def Wf(j9:(List LB)->Int->Int->Option (LB))(a:Box):Bo2:=j9 a 0 0
def Gg:=Wf Abb
abbrev Ci:=Option (LB×Int)
def Aqw(v:Int)(p:LB):Ci:=(LG p).bind λ(af,ac)=>if(Bj ac 0)then
some (([]:LB),ac)
else(NP (Ae af:UInt64) 4).bind λ(m,h)=>if(Bj h 0)then
some (([]:LB),h)
else(Gg ([p,m]:Box)).bind λag=>some (ag,0)
def PU:=Aqw
abbrev Bpd:=Int-> (List (Int×Int×UInt64×UInt64×Unit))->Int->LB->Ci
def Apk(tN:Bpd)(b:LU)(a g f:Int)(n:Bov)(k:Int)(w:LB):Ci:=tN (Af f 1) n k w
def QG tN:=Apk tN
abbrev Bq0:=Int->Int->LB->Ci
def Asd(Q2:Bq0)(h:Int)(b:LU)(f a g:Int)(n:Bov)(m:LB)(o k:Int)(ab:LB):Ci:=Q2 (Af o 1) (Af k 1) ab
def Apn Q2:=Asd Q2
def Apf(j48:Bq0)(h:Int)(b:LU)(f a g:Int)(n:Bov)(m:LB)(o k:Int)(y:LB):Ci:=(Aj m (Bs o 8)).bind λ_=>(Aj m (Bs o 8)).bind λah=>(Mt (Nw (Gx o 8) 0)).bind λ_=>(Aj y (Bs k 8)).bind λ_=>(Mt (Nw (Gx k 8) 0)).bind λ_=>(Aj y (Bs k 8)).bind λai=>(Aj y (Bs k 8)).bind λ_=>Option.bind (Rn y (Bs k 8) (K4 ai (Ed (Gv (Cx ah (GI.toZ (Gx o 8)).toNat) 1) (GI.toZ (Gx k 8)).toNat))) λab=>j48 o k ab
def DU Q2 h b f a g n m:=Apf (Apn Q2 h b f a g n m) h b f a g n m
def FB(j47:Bq0)(j50:Bpd)(b:LU)(a g h f:Int)(n:Bov)(m:LB)(o k:Int)(w:LB):Ci:=if(Cj o h)then
if(geq (Gx k 8) 0)then(Bt w ([(0:UInt8)]:LB)).bind λaj=>j47 o k aj
else
j47 o k w
else
j50 f n k w
def Jn(tN:Bpd)(b:LU)(a g h f:Int)(n:Bov)(m:LB):Nat->Int->Int->LB->Ci
|0,_,_,_=>none
|q+1,o,k,w=>FB (DU (Jn tN b a g h f n m q) h b f a g n m) (QG tN b a g) b a g h f n m o k w
def Apo tN b a g h f n m:=Jn tN b a g h f n m As
def EI(j44:Int->Int-> (List (Int×Int×UInt64×UInt64×Unit))->LB->Int->Int->LB->Ci)(j52:Int->LB->Ci)(b:LU)(a g f:Int)(u:Bov)(v:Int)(p:LB):Ci:=if(Cj f (Ac b))then(Aj b f).bind λ_=>(Aj b f).bind λak=>(Mt (Bj a 0)).bind λ_=>(Aj u (Gx f a)).bind λ_=>(Aj u (Gx f a)).bind λaa=>(rM ([]:LB) 0 aa.1 aa.2.1 aa.2.2.1 aa.2.2.2.1 ak).bind λ(m,h,al,am,an,ao,ad)=>if(Bj ad 0)then
some (([]:LB),ad)
else(Mt (Bj a 0)).bind λ_=>(Aj u (Gx f a)).bind λ_=>(Rn u (Gx f a) (al,am,an,ao,())).bind λn=>j44 h f n m 0 v p
else
j52 v p
def Mn:Nat->Int-> (List (Int×Int×UInt64×UInt64×Unit))->Int->LB->Ci
|0,_,_,_,_=>none
|z+1,c,d,e,i=>EI (Apo (Mn z) X q9 Bmv) PU X q9 Bmv c d e i
def Aom b a g:=Mn b a g As
def TB(j27:LU->Jz3 ( (List (Int×Int×UInt64×UInt64×Unit))->Int->LB->Ci))(a g:Int)(ap aq:LX):Ci:=(TK a g ap aq).bind λ(b,ae)=>if(Bj ae 0)then
some (([]:LB),ae)
else(UL).bind λar=>j27 b a g 0 ar 0 ([]:LB)
def KS:=TB Aom
def EX(b f g:Int)(h k:LB)(m:LX)(n:Box)(o:LB)(p:Bool)(u a:Int):Bpb:=some (b,f,g,h,([]:LB),([]:LX),([]:Box),([]:LB),false,a,a)
abbrev Cs:=Option (Int×Int×Int×LB×LB×LX×(List LB)×LB×Bool×Int×Int)
def Az7:Cs:=some (z,d,j,i,C,e,t,G,D,l,0)
def YT:=Az7
abbrev Bpz:=Int->LB->LX-> (List LB)->Cs
def LH(bD:Bpz)(p:Int)(n:LB)(a b g:Int)(f:LB)(h:Bool)(k o:Int)(m:LB)(u:Int)(ao:LB)(ap:LX)(aq:Box):Cs:=bD (Af u 1) ao ap aq
def Vi bD:=LH bD
def LJ(j24:Bpz)(p:Int)(n:LB)(a b g:Int)(f:LB)(h:Bool)(k o:Int)(m:LB)(u ad:Int)(ae:LB)(af:LX)(ag:Box):Cs:=if(Bj ad 0)then(EX a b g f ae af ag m h k ad).bind λ(ar,au,av,aw,ax,ay,az,ba,bb,bc,bd)=>some (ar,au,av,aw,ax,ay,az,ba,bb,bc,bd)
else
j24 u ae af ag
def Np bD p n a b g f h k o m:=LJ (Vi bD p n a b g f h k o m) p n a b g f h k o m
abbrev Bpq:=Int->Int->LB->LX-> (List LB)->Cs
def Big(j23:Bpq)(p:Int)(n:LB)(a b g:Int)(f:LB)(h:Bool)(k o:Int)(m:LB)(u:Int)(ab:LX)(v:Box)(be:Int):Cs:=j23 u be ([]:LB) ab v
def Bjg bD p n a b g f h k o m:=Big (Np bD p n a b g f h k o m) p n a b g f h k o m
def Baz(j23:Bpq)(p:Int)(n:LB)(a b g:Int)(f:LB)(h:Bool)(k o:Int)(m:LB)(u:Int)(ac:Box):Cs:=j23 u 0 ([]:LB) ([]:LX) ac
def Aza bD p n a b g f h k o m:=Baz (Np bD p n a b g f h k o m) p n a b g f h k o m
def Az8(j23:Bpq)(j21:Int->LX-> (List LB)->Int->Cs)(j22:Int-> (List LB)->Cs)(p:Int)(n:LB)(a b g:Int)(f:LB)(h:Bool)(k o:Int)(m:LB)(u:Int)(aa:LB)(w:LX)(v:Box):Cs:=(ZA b aa).bind λ(bf,ah)=>if(Bj ah 0)then
j23 u ah aa w v
else(Bt w bf).bind λab=>if(Cj (Ac ab) (Bn o a))then
j23 u 0 ([]:LB) ab v
else(GB f).bind λ(bg,ai)=>if(Bj ai 0)then
j21 u ab v ai
else(KS a b bg ab).bind λ(bh,aj)=>if(Bj aj 0)then
j21 u ab v aj
else(Bt v ([bh]:Box)).bind λac=>j22 u ac
def XY bD p n a b g f h k o m:=Az8 (Np bD p n a b g f h k o m) (Bjg bD p n a b g f h k o m) (Aza bD p n a b g f h k o m) p n a b g f h k o m
def MC(j24:Bpz)(j23:Bpq)(j20:Bpz)(j26:Jz3 (LB->Bool->Int->LB->LX-> (List LB)->LB->Cs))(p:Int)(n:LB)(a b g:Int)(f:LB)(h:Bool)(k o:Int)(m:LB)(u:Int)(y:LB)(w:LX)(v:Box):Cs:=if(Cj u (Ac n))then(Aj n u).bind λbi=>(Bt y ([bi]:LB)).bind λaa=>if(Cj (Ac aa) p)then
j24 u aa w v
else(Zr a b g f aa w v m h k o).bind λbj=>(Zj a b g f aa w v m h k (Af (Ac v) 1) (Af bj 1)).bind λbk=>if(!bk)then
j23 u 18 aa w v
else
j20 u aa w v
else
j26 a b g f h k y w v m
def Mz:Nat->Int->LB->LX-> (List LB)->Cs
|0,_,_,_,_=>none
|c+1,d,e,j,t=>MC (Vi (Mz c) z i l l9 N C J B T Bmy) (Np (Mz c) z i l l9 N C J B T Bmy) (XY (Mz c) z i l l9 N C J B T Bmy) YT z i l l9 N C J B T Bmy d e j t
def Bav p n a b g f h k o m:=Mz p n a b g f h k o m As
def PF(j14:Int->LB->Jz3 (LB->Bool->Int->Int->LB->Int->LB->LX-> (List LB)->Cs))(bl bm bn:Int)(bp bq:LB)(br:LX)(bs:Box)(bt:LB)(bu:Bool)(bv:Int)(n:LB):Cs:=(AB bl bm bn bp bq br bs bt bu bv).bind λ(a,b,g,f,ak,al,am,m,h,k,o,an)=>if(Bj an 0)then
some (a,b,g,f,ak,al,am,m,h,k,an)
else(BY a b).bind λp=>j14 p n a b g f h k o m 0 ak al am
def Fx:=PF Bav
abbrev Bpn:=Option (Int×Int×Int×LB×LB×LX×(List LB)×LB×Bool×Int×LB×Int)
def Zt:Bpn:=(Nx z d j i C e t G J B).bind λc=>if(Bj c 0)then
some (0,0,0,([]:LB),([]:LB),([]:LX),([]:Box),([]:LB),false,0,([]:LB),c)
else
if(Cj T 0)then
some (0,0,0,([]:LB),([]:LB),([]:LX),([]:Box),([]:LB),false,0,([]:LB),2)
else(UM z d j i C e t G J B).bind λ(l,A,D,E,F,I,L,M,N,O)=>(Bo M 0 (Du T (Ac M))).bind λP=>(By P).bind λR=>(Bo M (Du T (Ac M)) (Ac M)).bind λU=>some (l,A,D,E,F,I,L,U,N,O,R,0)
def ZK:Bo8:=if(Ec (Ac c) 64)then
some (0,2)
else
if(geq (Ac c) 0)then
some (1,0)
else
some (2,0)
abbrev Wa:=Option (LB×Int)
def Bdh:Wa:=(LG c).bind λ(z,d)=>(NP (Ae z:UInt64) 4).bind λ(e,i)=>(Bt c e).bind λj=>some (j,0)
def PB:=Bdh
def OZ(j6:LB->Wa)(Se:Int->LB->Wa)(b f g h k m:Int)(a:LB):Wa:=if(Cj m 5)then(Aj ([b,f,g,h,k]:LI) m).bind λw=>(Aj ([(2:Int),(2:Int),(2:Int),(4:Int),(4:Int)]:LI) m).bind λy=>(NP (Ae w:UInt64) y).bind λ(n,v)=>(Bt a n).bind λo=>Se (Af m 1) o
else
j6 a
def Tn:Nat->Int->LB->Wa
|0,_,_=>none
|c+1,e,i=>OZ PB (Tn c) z d j E F e i
def Bdq b f g h k:=Tn b f g h k As
def cL(j4:Jz6 (LB->Wa))(b f g h k:Int):Wa:=(Um b f g h k).bind λp=>if(Bj p 0)then
some (([]:LB),p)
else
j4 b f g h k 0 ([(84:UInt8),(84:UInt8),(65:UInt8),(49:UInt8)]:LB)
def eJ:=cL Bdq
abbrev Lz:=Option (LB×Int)
def Bly:Lz:=some (c,0)
def Bmr:=Bly
def Bdi(j14:LB->Lz)(b:LB):Lz:=(LG b).bind λ(m,u)=>(NP (Ae m:UInt64) 4).bind λ(n,v)=>(Bt b n).bind λg=>j14 g
def bL:=Bdi Bmr
def Bdv(bk8:Int->LB->Lz)(a:LI)(f:Int)(h:LB):Lz:=bk8 (Af f 1) h
def bT bk8:=Bdv bk8
def VQ(j11:Int->LB->Lz)(j13:LB->Lz)(a:LI)(f:Int)(b:LB):Lz:=if(Cj f (Ac a))then(Aj a f).bind λo=>(NP (Ae o:UInt64) 4).bind λ(p,w)=>(Bt b p).bind λh=>j11 f h
else
j13 b
def BE:Nat->Int->LB->Lz
|0,_,_=>none
|z+1,c,d=>VQ (bT (BE z) R) bL R c d
def Bk7 a:=BE a As
def gA(j8:LI->Int->LB->Lz)(a:LI):Lz:=(Zi a).bind λk=>if(Bj k 0)then
some (([]:LB),k)
else
j8 a 0 ([]:LB)
def aZ:=gA Bk7
abbrev Od:=Option (LB×Int)
def OS(f g h:Int)(b k:LB)(m:LX)(a:Box)(n:LB)(o:Bool)(p:Int)(u:LB)(v:LI):Od:=(aZ v).bind λ(aa,y)=>if(Bj y 0)then
some (([]:LB),y)
else(
(Bt u aa).bind λab=>(Gg a).bind λac=>(Bt ab ac).bind λad=>some (ad,0))
def FM:=OS
def OT(j8:Jz3 (LB->LB->LX-> (List LB)->LB->Bool->Int->LB->LI->Od))(nk:Int->LI->Od)(a:Box)(f g h:Int)(b k:LB)(m:LX)(n:LB)(o:Bool)(p:Int)(u:LB)(w:Int)(v:LI):Od:=if(Cj w (Ac a))then(Aj a w).bind λai=>(Bt v ([(Ac ai)]:LI)).bind λaj=>nk (Af w 1) aj
else
j8 f g h b k m a n o p u v
def Xu:Nat->Int->LI->Od
|0,_,_=>none
|z+1,c,d=>OT FM (Xu z) t B T Bnu Bmy Bnw U Bnp Boi Bna Boj c d
def Bmn a f g h b k m n o p u:=Xu a f g h b k m n o p u As
def PD(j6:(List LB)->Jz3 (LB->LB->LX->LB->Bool->Int->LB->Int->LI->Od))(f g h:Int)(b k:LB)(m:LX)(a:Box)(n:LB)(o:Bool)(p:Int)(u:LB):Od:=j6 a f g h b k m n o p u 0 ([]:LI)
def bE:=PD Bmn
def bG(j5:Jz3 (LB->LB->LX-> (List LB)->LB->Bool->Int->LB->Od))(f g h:Int)(b k:LB)(m:LX)(a:Box)(n:LB)(o:Bool)(p ak:Int):Od:=(ZK b).bind λ(al,ae)=>if(Bj ae 0)then
some (([]:LB),ae)
else(eJ al f g h ak).bind λ(af,ag)=>if(Bj ag 0)then
some (([]:LB),ag)
else
if(b !=([]:LB))then(UJ b).bind λ(am,ah)=>if(Bj ah 0)then
some (([]:LB),ah)
else(Bt af am).bind λan=>j5 f g h b k m a n o p an
else
j5 f g h b k m a n o p af
def eN:=bG bE
abbrev Vn:=Option (Int×Int×Int×LB×LB×LX×(List LB)×LB×Bool×Int×Int)
def TE:Vn:=(eN d j E i C e t Y D l z).bind λ(c,A)=>if(Bj A 0)then(EX d j E i C e t Y D l A).bind λ(B,F,G,I,J,L,M,N,O,P,R)=>some (B,F,G,I,J,L,M,N,O,P,R)
else
some (d,j,E,i,([]:LB),([]:LX),([]:Box),c,true,0,0)
def IK:=TE
abbrev Bps:=Jz4 (LB->Bool->Int->LB->LB->LX-> (List LB)->Vn)
def Auf(j4:Bps)(o a b g:Int)(f:LB)(k:Bool)(m:Int)(h n:LB)(ad:Int)(ae:LX)(af:Box):Vn:=if(Bj ad 0)then(EX a b g f h ae af n k m ad).bind λ(au,v,w,av,aw,ax,y,aa,ay,az,ba)=>some (au,v,w,av,aw,ax,y,aa,ay,az,ba)
else
j4 o a b g f k m h n ae af
def Av2:=Auf IK
def VL(j3:Jz4 (LB->Bool->Int->LB->LB->Int->LX-> (List LB)->Vn))(j4:Bps)(bb bc bd:Int)(be bf:LB)(bg:LX)(bh:Box)(bi:LB)(bj:Bool)(bk:Int):Vn:=(AB bb bc bd be bf bg bh bi bj bk).bind λ(a,b,g,f,h,p,u,n,k,m,bl,ag)=>if(Bj ag 0)then
some (a,b,g,f,h,p,u,n,k,m,ag)
else(Zr a b g f h p u n k m bl).bind λo=>if((Ec (Ac h) 0)||(geq o 0))then(EX a b g f h p u n k m 24).bind λ(bm,bn,bp,bq,br,bs,bt,bu,bv,bw,bx)=>some (bm,bn,bp,bq,br,bs,bt,bu,bv,bw,bx)
else
if(Ec (Ac p) 0)then(GB f).bind λ(bz,ah)=>if(Bj ah 0)then
j3 o a b g f k m h n ah p u
else(KS a b bz p).bind λ(da,ai)=>if(Bj ai 0)then
j3 o a b g f k m h n ai p u
else(Bt u ([da]:Box)).bind λdb=>j3 o a b g f k m h n 0 ([]:LX) db
else
j4 o a b g f k m h n p u
def Hm:=VL Av2 IK
abbrev Cm:=Option (Int×Int×Int×LB×LB×LX×(List LB)×LB×Bool×Int×(List (Int×LB×Unit))×Int)
def Avk(f g h:Int)(k m:LB)(n:Bool)(o:Int)(a:LB)(w:Bow)(p:LB)(u:LX)(v:Box):Cm:=some (f,g,h,k,p,u,v,m,n,o,w,0)
def Awu:=Avk
def Awy(j32:Jz3 (LB->LB->Bool->Int->LB-> (List (Int×LB×Unit))->LB->LX-> (List LB)->Cm))(w:Bow)(f g h:Int)(k m:LB)(n:Bool)(o:Int)(a p:LB)(u:LX)(v:Box):Cm:=j32 f g h k m n o a w p u v
def VN:=Awy Awu
abbrev Bo1:=Jz4 (LB->LB->Bool->Int->LB-> (List (Int×LB×Unit))->LB->LX-> (List LB)->Cm)
def IE(nU:Bo1)(b:Bou)(y df dg dh:Int)(di dj:LB)(dk:Bool)(dl:Int)(dm:LB)(dn:Bow)(dp:LB)(dq:LX)(dr:Box):Cm:=nU (Af y 1) df dg dh di dj dk dl dm dn dp dq dr
def Ik nU:=IE nU
def ID(j29:Bo1)(b:Bou)(aa:UInt8×Int×Unit)(a:LB)(ab y f g h:Int)(k p:LB)(u:LX)(v:Box)(m:LB)(n:Bool)(o ac ad ae:Int)(af:LB)(ag:Bool)(ah:Int)(w:Bow)(ai:LB)(aj:LX)(ak:Box)(al:LB):Cm:=(
(Bo a (Du aa.2.1 (Ac a)) (Ac a)).bind λbm=>(Bt w ([(ab,([]:LB),())]:Bow)).bind λbn=>j29 y ac ad ae af al ag ah bm bn ai aj ak)
def TQ nU b:=ID (Ik nU b) b
def Avw(j29:Bo1)(b:Bou)(an y f g h:Int)(k p:LB)(u:LX)(v:Box)(m:LB)(n:Bool)(o:Int)(a:LB)(ao ap aq:Int)(ar au:LB)(av:Bool)(aw:Int)(ax:LB)(w:Bow)(ay:LB)(az:LX)(ba:Box):Cm:=(Bt w ([(an,ax,())]:Bow)).bind λds=>j29 y ao ap aq ar au av aw a ds ay az ba
def VM nU b:=Avw (Ik nU b) b
def Aut(j29:Bo1)(b:Bou)(bb y f g h:Int)(k p:LB)(u:LX)(v:Box)(m:LB)(n:Bool)(o:Int)(a:LB)(bc bd be:Int)(bf:LB)(bg:Bool)(bh:Int)(w:Bow)(bi:LB)(bj:LX)(bk:Box)(bl:LB):Cm:=(Bt w ([(bb,([]:LB),())]:Bow)).bind λdt=>j29 y bc bd be bf bl bg bh a dt bi bj bk
def UR nU b:=Aut (Ik nU b) b
def Yp(j26:(UInt8×Int×Unit)->LB->Jz5 (LB->LB->LX-> (List LB)->LB->Bool->Int->Int->Int->Int->LB->Bool->Int-> (List (Int×LB×Unit))->LB->LX-> (List LB)->LB->Cm))(j33:Jz5 (LB->LB->LX-> (List LB)->LB->Bool->Int->LB->Int->Int->Int->LB->LB->Bool->Int->LB-> (List (Int×LB×Unit))->LB->LX-> (List LB)->Cm))(j34:Jz5 (LB->LB->LX-> (List LB)->LB->Bool->Int->LB->Int->Int->Int->LB->Bool->Int-> (List (Int×LB×Unit))->LB->LX-> (List LB)->LB->Cm))(j29:Bo1)(j31:(List (Int×LB×Unit))->Jz3 (LB->LB->Bool->Int->LB->LB->LX-> (List LB)->Cm))(b:Bou)(y f g h:Int)(k m:LB)(n:Bool)(o:Int)(a:LB)(w:Bow)(p:LB)(u:LX)(v:Box):Cm:=if(Cj y (Ac b))then(Aj b y).bind λaa=>if(geq aa.1 1)then(
(
(
(Bo a 0 (Du aa.2.1 (Ac a))).bind λam=>(
(Fx f g h k p u v m n o am).bind λ(ac,ad,ae,af,ai,aj,ak,al,ag,ah,ab)=>j26 aa a ab y f g h k p u v m n o ac ad ae af ag ah w ai aj ak al))))
else
if(geq aa.1 2)then(
(
(
(Zt f g h k p u v m n o aa.2.1).bind λ(ao,ap,aq,ar,ay,az,ba,au,av,aw,ax,an)=>j33 an y f g h k p u v m n o a ao ap aq ar au av aw ax w ay az ba)))
else
if(geq aa.1 3)then(
(
(
(Hm f g h k p u v m n o).bind λ(bc,bd,be,bf,bi,bj,bk,bl,bg,bh,bb)=>j34 bb y f g h k p u v m n o a bc bd be bf bg bh w bi bj bk bl)))
else
j29 y f g h k m n o a w p u v
else
j31 w f g h k m n o a p u v
def Il:Nat->Jz4 (LB->LB->Bool->Int->LB-> (List (Int×LB×Unit))->LB->LX-> (List LB)->Cm)
|0,_,_,_,_,_,_,_,_,_,_,_,_,_=>none
|z+1,c,d,e,i,j,l,t,A,B,C,D,E,F=>Yp (TQ (Il z) P) (VM (Il z) P) (UR (Il z) P) (Ik (Il z) P) VN P c d e i j l t A B C D E F
def Bia b:=Il b As
def CX(j17:(List (UInt8×Int×Unit))->Jz4 (LB->LB->Bool->Int->LB-> (List (Int×LB×Unit))->LB->LX-> (List LB)->Cm))(du dv dw:Int)(dx dy:LB)(b:Bou):Cm:=(Ri b).bind λbq=>if(Bj bq 0)then
some (0,0,0,([]:LB),([]:LB),([]:LX),([]:Box),([]:LB),false,0,([]:Bow),bq)
else(KJ du dv dw dx).bind λ(dz,fa,fb,fc,fd,fe,ff,fg,fh,fi,br)=>if(Bj br 0)then
some (0,0,0,([]:LB),([]:LB),([]:LX),([]:Box),([]:LB),false,0,([]:Bow),br)
else
j17 b 0 dz fa fb fc fg fh fi dy ([]:Bow) fd fe ff
def FT:=CX Bia
def Bmt:Bot:=some z
def Bdd:=Bmt
def OY:Bot:=if(Cj Bn3 (Ac Boa))then(Aj Boa Bn3).bind λz=>Bm7 (Af Bob (Ac z)) (Af Bn3 1)
else
Bm2 Bob
def Xp:Nat->Int->Int->Option Int
|0,_,_=>none
|z+1,c,d=>OY Bdd (Xp z) t c d
def Bmk a:=Xp a As
def bX(j4:(List LB)->Int->Int->Option Int)(n o p:Int)(u h:LB)(k:LX)(a:Box)(m:LB)(v:Bool)(w:Int):Bot:=j4 a (Af (Af (Ac h) (Bn 4 (Ac k))) (Ac m)) 0
def dR:=bX Bmk
abbrev Oa:=Option (Int×Int)
def Bjk:Oa:=some (z,0)
def Axf:=Bjk
def Ayt(zi:LB->Jz5 (LB->LB->Bool->Int->LB->LX-> (List LB)->Oa))(a:Bou)(b f:Int)(au:LB)(ab ac ad:Int)(ae af:LB)(ag:Bool)(ah:Int)(ai:LB)(aj:LX)(ak:Box):Oa:=(dR ab ac ad ae ai aj ak af ag ah).bind λav=>zi au (jQ b av) (Af f 1) ab ac ad ae af ag ah ai aj ak
def MB zi:=Ayt zi
def Xo(j10:Int->Int->LB->Jz3 (LB->LB->Bool->Int->LB->LX-> (List LB)->Oa))(j12:Int->Oa)(a:Bou)(g:LB)(b f h k m:Int)(n o:LB)(p:Bool)(u:Int)(v:LB)(w:LX)(y:Box):Oa:=if(Cj f (Ac a))then(Aj a f).bind λaa=>if(geq aa.1 1)then(Bo g 0 (Du aa.2.1 (Ac g))).bind λaw=>(Fx h k m n v w y o p u aw).bind λ(ax,ay,az,ba,bb,bc,bd,be,bf,bg,dp)=>(Bo g (Du aa.2.1 (Ac g)) (Ac g)).bind λbh=>j10 b f bh ax ay az ba be bf bg bb bc bd
else
if(geq aa.1 2)then(Zt h k m n v w y o p u aa.2.1).bind λ(bi,bj,bk,bl,bm,bn,bp,bq,br,bs,dq,dr)=>j10 b f g bi bj bk bl bq br bs bm bn bp
else
if(geq aa.1 3)then(Hm h k m n v w y o p u).bind λ(bt,bu,bv,bw,bx,bz,da,db,dc,dd,ds)=>j10 b f g bt bu bv bw db dc dd bx bz da
else
j10 b f g h k m n o p u v w y
else
j12 b
def Jt:Nat->LB->Jz5 (LB->LB->Bool->Int->LB->LX-> (List LB)->Oa)
|0,_,_,_,_,_,_,_,_,_,_,_,_,_=>none
|z+1,c,d,e,i,j,l,t,A,B,C,D,E,F=>Xo (MB (Jt z) P) Axf P c d e i j l t A B C D E F
def Bml a:=Jt a As
def FQ(j7:(List (UInt8×Int×Unit))->LB->Jz5 (LB->LB->Bool->Int->LB->LX-> (List LB)->Oa))(al am an:Int)(ao ap:LB)(a:Bou):Oa:=(FT al am an ao ap a).bind λ(dt,du,dv,dw,dx,dy,dz,fa,fb,fc,fd,aq)=>if(Bj aq 0)then
some (0,aq)
else(KJ al am an ao).bind λ(de,df,dg,dh,di,dj,dk,dl,dm,dn,ar)=>if(Bj ar 0)then
some (0,ar)
else
j7 a ap 0 0 de df dg dh dl dm dn di dj dk
def LN:=FQ Bml
def Fe:Bo8:=if((Cj z 1)||(Ec z 1048576))then
some (0,2)
else
if(geq (Bs (Bn z 256) 245) 0)then
some (1,0)
else
some ((Bs (Bn z 256) 245),0)
def Dw:Bot:=(Fe j).bind λ(c,e)=>(Cv z d).bind λl=>if(((Bj l 0)||(Bj e 0))||(Ec (Ac i) 64))then
some 2
else
some 0
def Qo:Bpb:=(Dw z d j i).bind λc=>if(Bj c 0)then
some (0,0,0,([]:LB),([]:LB),([]:LX),([]:Box),([]:LB),false,0,c)
else
some (z,d,j,i,([]:LB),([]:LX),([]:Box),([]:LB),false,0,0)
def Lh(f g a:Int)(h k:LB)(m:LX)(n:Box)(o:LB)(p:Bool)(u:Int):Bot:=(Fe a).bind λ(b,v)=>some b
def Eu:Bot:=(Mt (Bj z 0)).bind λ_=>(Lh z d j i C e t G J B).bind λc=>some (Af (Bn (Ac t) c) (Bs (Ac e) z))
def Ti(a g h:Int)(k m:LB)(n:LX)(o:Box)(p:LB)(u:Bool)(v b f:Int):Boy:=if(vA b 1000)then(Mt (Bj a 0)).bind λ_=>some (vA f (Bs 4000 a))
else
some false
def Bjy:Boy:=some true
def Ac3:=Bjy
def Rm(j12:Boy)(SU:Bql)(h f g n:Int)(o k:LB)(b:LX)(a:Box)(m:LB)(p:Bool)(u v:Int):Boy:=if(Cj v (Ac a))then(Aj a v).bind λw=>if(Cj (Ac w) 5)then
some false
else(Aj a v).bind λy=>if(Ec (Ac y) (Af (Bs (Af (Bn (Bn 81 h) f) 7) 8) 4))then
some false
else
SU (Af v 1)
else
j12
def Hn:Nat->Int->Option Bool
|0,_=>none
|c+1,l=>Rm Ac3 (Hn c) z d j E i C e t G J B l
def Abq h f g n o k b a m p u:=Hn h f g n o k b a m p u As
def CI(j10:Bo7)(h f g n:Int)(o k:LB)(b:LX)(a:Box)(m:LB)(p:Bool)(u:Int):Boy:=j10 h f g n o k b a m p u 0
def Acg:=CI Abq
def BS:Boy:=(Eu Z l6 Bng C Y e t G J B).bind λz=>(Ti Z l6 Bng C Y e t G J B T z).bind λc=>if(!c)then
some false
else
o8 N Z l6 Bng C Y e t G J B
def CD:=BS Acg
def BJ(j8:Bo7)(h f g n:Int)(o k:LB)(b:LX)(a:Box)(m:LB)(p:Bool)(u:Int):Boy:=if(Ec (Ac b) 0)then
j8 h f g n o k b a m p u (Af (Ac a) 1)
else
j8 h f g n o k b a m p u (Ac a)
def BM:=BJ CD
def CR:Boy:=(Lh N Z l6 C Y e t G J B).bind λz=>if(Ec (Ac G) 0)then
if true then
if(true||(Nw (Ac e) (Bn z N)))then
if(true||(Ec (Ac t) 1000))then
some false
else
o8 z N Z l6 C Y e t G J B
else(Bd Z e).bind λc=>if((Bj c 0)||(Ec (Ac t) 1000))then
some false
else
o8 z N Z l6 C Y e t G J B
else(Mt (Bj N 0)).bind λ_=>if((Bj (Gx (Ac e) N) 0)||(Nw (Ac e) (Bn z N)))then
if(true||(Ec (Ac t) 1000))then
some false
else
o8 z N Z l6 C Y e t G J B
else(Bd Z e).bind λd=>if((Bj d 0)||(Ec (Ac t) 1000))then
some false
else
o8 z N Z l6 C Y e t G J B
else(Gb N Z).bind λi=>if(Nw (Ac Y) i)then
if(true||(Nw (Ac e) (Bn z N)))then
if(true||(Ec (Ac t) 1000))then
some false
else
o8 z N Z l6 C Y e t G J B
else(Bd Z e).bind λj=>if((Bj j 0)||(Ec (Ac t) 1000))then
some false
else
o8 z N Z l6 C Y e t G J B
else(Mt (Bj N 0)).bind λ_=>if((Bj (Gx (Ac e) N) 0)||(Nw (Ac e) (Bn z N)))then
if(true||(Ec (Ac t) 1000))then
some false
else
o8 z N Z l6 C Y e t G J B
else(Bd Z e).bind λl=>if((Bj l 0)||(Ec (Ac t) 1000))then
some false
else
o8 z N Z l6 C Y e t G J B
def Xz:=CR BM
def Hc:Bot:=(Dw z d j i).bind λc=>if(Bj c 0)then
some 8
else
if(Bj B 0)then
if(((((Bj B 18)&&(Bj B 24))||J)||(!(((geq (Ac C) 0)&&(geq (Ac e) 0))&&(geq (Ac t) 0))))||(Ec (Ac G) 0))then
some 8
else
some 0
else
if J then
if((!(((geq (Ac C) 0)&&(geq (Ac e) 0))&&(geq (Ac t) 0)))||(Ec (Ac G) 100000))then
some 8
else
some 0
else(Xz z d j i C e t G J B).bind λl=>if(!l)then
some 8
else
some 0
abbrev Ld:=Option (Int×Int×Int×LB×LB×LX×(List LB)×LB×Bool×Int)
def Bmc(b f g:Int)(h:LB)(a:Box)(k:Bool)(m:Int)(u:Box)(n:LB)(o:LX)(p:LB):Ld:=some (b,f,g,h,n,o,u,p,k,m)
def Al4:=Bmc
def Zb(j6:Jz3 (LB-> (List LB)->Bool->Int-> (List LB)->LB->LX->LB->Ld))(Se:Int-> (List LB)->Ld)(b f g:Int)(h:LB)(a:Box)(k:Bool)(m:Int)(n:LB)(o:LX)(p:LB)(v:Int)(u:Box):Ld:=if(Cj v (Ac a))then(Aj a v).bind λw=>(Bt ([]:LB) w).bind λy=>(Bt u ([y]:Box)).bind λaa=>Se (Af v 1) aa
else
j6 b f g h a k m u n o p
def Na:Nat->Int-> (List LB)->Ld
|0,_,_=>none
|c+1,e,l=>Zb Al4 (Na c) z d j i t J B Bmy U Bnp e l
def Bmd b f g h a k m n o p:=Na b f g h a k m n o p As
def JR(j4:Jz3 (LB-> (List LB)->Bool->Int->LB->LX->LB->Int-> (List LB)->Ld))(b f g:Int)(h ab:LB)(ac:LX)(a:Box)(ad:LB)(k:Bool)(m:Int):Ld:=(Bt ([]:LB) ab).bind λn=>(Bt ([]:LX) ac).bind λo=>(Bt ([]:LB) ad).bind λp=>j4 b f g h a k m n o p 0 ([]:Box)
def Sf:=JR Bmd
def Jk(f g h:Int)(k m:LB)(n:LX)(o:Box)(p:LB)(b:Bool)(a:Int):Bot:=if(Bj a 0)then
some a
else
if b then
some 36
else
some 0
abbrev Bpu:=Option (Int×Int×Int×LB×LB×LX×(List LB)×LB×Bool×Int)
def Kw(a b f:Int)(g k:LB)(m:LX)(n:Box)(o:LB)(p:Bool)(u h:Int):Bpu:=some (a,b,f,g,([]:LB),([]:LX),([]:Box),([]:LB),false,h)
abbrev Br:=Option (LX×Int)
def Bjn:Br:=some (e,0)
def Abt:=Bjn
abbrev Brd:=Int->LX->Br
def Abu(Hr:Brd)(a:Int)(b:LB)(f g:Int)(n:LX):Br:=Hr (Af g (Bs a 8)) n
def Zo Hr:=Abu Hr
def Abz(j28:Brd)(a:Int)(b:LB)(f g k:Int)(h:LX):Br:=if(geq a 8)then(Bt h ([(Ae (Ap k 128):Int32)]:LX)).bind λo=>j28 g o
else
if(Nw k f)then(Bt h ([(Ae (Ap k (Bn 2 f)):Int32)]:LX)).bind λp=>j28 g p
else(Bt h ([(Ae k:Int32)]:LX)).bind λu=>j28 g u
def Mc Hr a b f:=Abz (Zo Hr a b f) a b f
def Rl(j27:Int->Int->LX->Br)(tZ:Int->Int->Br)(a:Int)(b:LB)(f g:Int)(h:LX)(k m:Int):Br:=if(Nw m 0)then(Aj b (Af g m)).bind λv=>tZ (Af (Bn 256 k) (Ae v:Int)) (Ap m 1)
else
j27 g k h
def Ek(Hr:Brd)(a:Int)(b:LB)(f g:Int)(h:LX):Nat->Int->Int->Br
|0,_,_=>none
|q+1,k,m=>Rl (Mc Hr a b f) (Ek Hr a b f g h q) a b f g h k m
def Zu Hr a b f g h:=Ek Hr a b f g h As
def Rg(j25:Int->LX->Int->Int->Br)(j30:LX->Br)(a:Int)(b:LB)(f g:Int)(h:LX):Br:=if(Cj g (Ac b))then
j25 g h 0 (Ap (Bs a 8) 1)
else
j30 h
def Dy:Nat->Int->LX->Br
|0,_,_=>none
|c+1,d,e=>Rg (Zu (Dy c) z i l) Abt z i l d e
def Abr a b f:=Dy a b f As
def BH(j16:Int->LB->Int->Int->LX->Br)(a:Int)(b:LB):Br:=(Gt a).bind λf=>if(geq f 0)then
some (([]:LX),2)
else(Mt (Bj (Bs a 8) 0)).bind λ_=>if(Ec (Gx (Ac b) (Bs a 8)) 0)then
some (([]:LX),12)
else(Mt (Bj (Bs a 8) 0)).bind λ_=>if(Ec (Bs (Ac b) (Bs a 8)) 4000)then
some (([]:LX),4)
else
j16 a b f 0 ([]:LX)
def Zh:=BH Abr
def Wc:Bot:=(Cv z d).bind λc=>if(Bj c 0)then
some 2
else(Bd d e).bind λi=>if(Bj i 0)then(Bd d e).bind λj=>some j
else
if(Cj (Ac e) 1)then
some 2
else(Mt (Bj z 0)).bind λ_=>if(Ec (Gx (Ac e) z) 0)then
some 2
else
some 0
def Blh:Bo4:=some e
def Aju:=Blh
def Xa:Bo4:=if(Cj p8 (Ac Bm0))then
if(geq (Ac Bm0) 1)then(Aj Bm0 0).bind λz=>(Bt w9 ([z]:LX)).bind λc=>Bm6 (Af p8 1) c
else
if(Cj p8 (Ap (Ac Bm0) 1))then(Aj Bm0 (Af p8 1)).bind λd=>(Aj Bm0 p8).bind λe=>(Cf (Ap (Ae d:Int) (Ae e:Int))).bind λi=>(Bt w9 ([i]:LX)).bind λj=>Bm6 (Af p8 1) j
else(Aj Bm0 p8).bind λl=>(Aj w9 (Ap p8 1)).bind λ_=>(Aj w9 (Ap p8 1)).bind λt=>(Cf (Ap (Ae l:Int) (Bs (Ae t:Int) 2))).bind λA=>(Bt w9 ([A]:LX)).bind λB=>Bm6 (Af p8 1) B
else
Bni w9
def Lp:Nat->Int->LX->Option (LX)
|0,_,_=>none
|z+1,c,d=>Xa Aju (Lp z) e c d
def Bld a:=Lp a As
def Afz(j4:Bqz)(a:LX):Bo4:=j4 a 0 ([]:LX)
def PR:=Afz Bld
abbrev Mi:=Option (LX×Int)
def Bht:Mi:=some (e,0)
def Amz:=Bht
def NL(j6:LX->Mi)(Se:Int->LX->Mi)(a:Int)(b:LX)(g:Int)(f:LX):Mi:=if(Cj g (Ac b))then(Bo b g (Af g a)).bind λh=>(PR h).bind λk=>(Bt f k).bind λm=>Se (Af g a) m
else
j6 f
def Uf:Nat->Int->LX->Mi
|0,_,_=>none
|c+1,d,i=>NL Amz (Uf c) z e d i
def Bho a b:=Uf a b As
def MQ(j4:Int->LX->Int->LX->Mi)(a:Int)(b:LX):Mi:=(Mh a b).bind λn=>if(Bj n 0)then(Mh a b).bind λo=>some (([]:LX),o)
else
j4 a b 0 ([]:LX)
def LZ:=MQ Bho
def Bk2:Bo4:=some e
def Aci:=Bk2
def Sj:Bo4:=if(Cj Bn0 (Ac Bm0))then(Aj Bm0 Bn0).bind λz=>(Bt w9 ([z]:LX)).bind λc=>Bm6 (Af Bn0 p8) c
else
Bni w9
def Iy:Nat->Int->LX->Option (LX)
|0,_,_=>none
|z+1,c,d=>Sj Aci (Iy z) e B c d
def Bk8 a f:=Iy a f As
def CP(j4:LX->Int->Int->LX->Option (LX))(a:LX)(m f:Int):Bo4:=j4 a f m ([]:LX)
def Yq:=CP Bk8
def IM:Bqu:=(Ym z e U).bind λc=>(Cf (Ap (Ae L:Int) (Ae c:Int))).bind λd=>(Yc z e U d).bind λ(i,j,l)=>(AL i j l L).bind λ(t,A,B)=>some (d,t,A,B)
def Zf:Bqb:=(Kz z L l5 o9 p9).bind λc=>(Cf (Ap (Ae Bmx:Int) c)).bind λd=>(IM l5 o9 p9 d).bind λ(e,i,j,l)=>some (e,z,Bmx,i,j,l)
def IY:Bph:=if(Nw L 0)then
some (Bn 2 (Ae L:UInt32))
else
some (Ae (Ap (Bn (-2:Int) (Ae L:Int)) 1):UInt32)
abbrev Bqk:=Option (LU)
def Bkc:Bqk:=some X
def Aeb:=Bkc
abbrev Bqq:=Int->LU->Option (LU)
def Ady(bD:Bqq)(a b:Int)(f g:LX)(h:Int)(n:LU):Bqk:=bD (Af h 1) n
def EE bD:=Ady bD
def Adx(tq:Int->LU->Int->Int32->Int->LX->LX->Option (LU))(h a b:Int)(f g k:LX)(m:Int)(aa:Int32)(n:LU)(p:Int)(u:Int32)(v:Int)(w y:LX)(ab:Int)(ac:Int32)(ad:Int)(ae af:LX):Bqk:=(IY aa).bind λai=>(Aj n (Af h (Bn m a))).bind λ_=>(Rn n (Af h (Bn m a)) ai).bind λaj=>tq (Af m 1) aj ab ac ad ae af
def EB tq:=Adx tq
def Pd(j22:Int->Int32->LU->Int->Int32->Int->LX->LX->Int->Int32->Int->LX->LX->Option (LU))(j24:Bqq)(a b:Int)(f g:LX)(h:Int)(k:LX)(m:Int)(n:LU)(p:Int)(u:Int32)(v:Int)(w y:LX):Bqk:=if(Cj m (Ac k))then(Aj k m).bind λ_=>(Aj k m).bind λah=>(
(Zf p u v w y ah).bind λ(aa,ab,ac,ad,ae,af)=>j22 m aa n p u v w y ab ac ad ae af)
else
j24 h n
def Kf(bD:Bqq)(a b:Int)(f g:LX)(h:Int)(k:LX):Nat->Int->LU->Int->Int32->Int->LX->LX->Option (LU)
|0,_,_,_,_,_,_,_=>none
|q+1,m,n,p,u,v,w,y=>Pd (EB (Kf bD a b f g h k q) h a b f g k) (EE bD a b f g) a b f g h k m n p u v w y
def EO bD a b f g h k:=Kf bD a b f g h k As
def Ut(j20:Int->LX->Int->LU->Int->Int32->Int->LX->LX->Option (LU))(j26:LU->Option (LU))(a b:Int)(f g:LX)(h:Int)(o:LU):Bqk:=if(Cj h a)then(KX b f).bind λ(ak,al,am,an,ao,ar)=>(Yq g h a).bind λk=>j20 h k 0 o ak al am an ao
else
j26 o
def Hj:Nat->Int->LU->Option (LU)
|0,_,_=>none
|c+1,i,j=>Ut (EO (Hj c) z d e U) Aeb z d e U i j
def Ae6 a b f g:=Hj a b f g As
def HJ(j14:Int->Int->LX->LX->Int->LU->Option (LU))(a b:Int)(f ag:LX):Bqk:=(LZ a ag).bind λ(g,au)=>(mkI (Ac ag) (0:UInt32)).bind λap=>(Mt (geq (Ac ag) (Ac ag))).bind λ_=>j14 a b f g 0 ap
def EP:=HJ Ae6
abbrev Hx:=Option ((List (Int×Int×UInt64×UInt64×Unit)))
def Bks:Hx:=some Bno
def Aew:=Bks
def Vb(j6:(List (Int×Int×UInt64×UInt64×Unit))->Hx)(Se:Int-> (List (Int×Int×UInt64×UInt64×Unit))->Hx)(b:Int)(g:LU)(f:Int)(a:Bov):Hx:=if(Cj f (Ac g))then
if(Cj f b)then(Jf).bind λ(k,m,n,o)=>(Bt a ([(k,m,n,o,())]:Bov)).bind λp=>Se (Af f 1) p
else(Aj a (Ap f b)).bind λ_=>(Aj g (Ap f b)).bind λu=>(Aj a (Ap f b)).bind λh=>(Tr h.1 h.2.1 h.2.2.1 h.2.2.2.1 u).bind λ(v,w,y,aa)=>(Bt a ([(v,w,y,aa,())]:Bov)).bind λab=>Se (Af f 1) ab
else
j6 a
def Ki:Nat->Int-> (List (Int×Int×UInt64×UInt64×Unit))->Hx
|0,_,_=>none
|c+1,d,e=>Vb Aew (Ki c) z X d e
def Bkk b g:=Ki b g As
def FA(j4:Int->LU->Int-> (List (Int×Int×UInt64×UInt64×Unit))->Hx)(b:Int)(g:LU):Hx:=j4 b g 0 ([]:Bov)
def AT:=FA Bkk
abbrev Hv:=Option (LB×Int)
def Bkl:Hv:=some (i,z)
def Aem:=Bkl
def Uz(j6:Int->LB->Hv)(Se:UInt64->Int->Int->LB->Hv)(f:Int)(g:UInt64)(h a:Int)(b:LB):Hv:=if(Cj h f)then(Dv b a (Ae (FP g 2):Int)).bind λ(k,m)=>Se (Bs g 2) (Af h 1) m k
else
j6 a b
def Kj:Nat->UInt64->Int->Int->LB->Hv
|0,_,_,_,_=>none
|c+1,d,e,i,j=>Uz Aem (Kj c) z d e i j
def Bku f:=Kj f As
def Afc(j4:Int->UInt64->Int->Int->LB->Hv)(n:LB)(o:Int)(p:UInt64)(f:Int):Hv:=j4 f p 0 o n
def Pp:=Afc Bku
abbrev Mf:=Option (LB×Int)
def Amb:Mf:=if(Cj z 48)then(Dv i d 0).bind λ(c,e)=>some (c,e)
else
some (i,d)
def NN:=Amb
def AR(j6:Int->Int->LB->Mf)(Se:Int->Int->LB->Mf)(a g b:Int)(f:LB):Mf:=if(Cj g a)then(Dv f b 1).bind λ(h,k)=>Se (Af g 1) k h
else
j6 a b f
def Pj:Nat->Int->Int->LB->Mf
|0,_,_,_=>none
|c+1,d,e,i=>AR NN (Pj c) z d e i
def Bhs a:=Pj a As
def Ane(j4:Jz3 (LB->Mf))(m:LB)(n a:Int):Mf:=j4 a 0 n m
def XV:=Ane Bhs
def Qz:Bp2:=(Yb V Bmu).bind λd=>(XV c z d).bind λ(e,i)=>if(geq d 48)then(Pp e i (Ae V:UInt64) 32).bind λ(j,l)=>some (j,l)
else(Fm Bmu).bind λt=>(Mt (Bj t 0)).bind λ_=>(Pp e i (FP (Ae V:UInt64) t) Bmu).bind λ(A,B)=>some (A,B)
abbrev PY:=Option (LB×Int)
def AX:PY:=(
(
(Dv Bol Bmu 1).bind λ(z,c)=>(
(
(Gk Bnz Bns Bnb Bnh V).bind λd=>(Qz z c d Bns).bind λ(e,i)=>some (e,i)))))
def MV:=AX
def AU(j2:UInt32->Jz3 (UInt64->UInt64->LB->PY))(m:LB)(g f a:Int)(h k:UInt64)(b:UInt32):PY:=(Qs f a h k b).bind λy=>if y then(
(
(Dv m g 0).bind λ(n,o)=>(Pp n o (Ae b:UInt64) f).bind λ(aa,ab)=>some (aa,ab)))
else
j2 b g f a h k m
def Jw:=AU MV
def Aev:Bo2:=(Tz c).bind λz=>some z
def DX:=Aev
abbrev Bpr:=Int->Int->LB->Option (LB)
def Ael(RA:Bpr)(f:LU)(b:Bov)(m a:Int)(u:LB):Bo2:=RA m (Af a 1) u
def DQ RA:=Ael RA
def Ae7(jM:Bpr)(f:LU)(a:Int)(b:Bov)(h:Int)(g:LB)(m o:Int)(w:LB):Bo2:=(Aj g (Bs o 8)).bind λ_=>(Aj g (Bs o 8)).bind λaj=>if(geq (FP (Cx aj (GI.toZ (Ae (Gx o 8):UInt64)).toNat) 2) 1)then(Aj w (Bs m 8)).bind λ_=>(Aj w (Bs m 8)).bind λak=>(Aj w (Bs m 8)).bind λ_=>(Rn w (Bs m 8) (Af ak (Ed (1:UInt8) (GI.toZ (Ae (Gx m 8):UInt64)).toNat))).bind λal=>jM (Af m 1) (Af o 1) al
else
jM (Af m 1) (Af o 1) w
def Uu jM:=Ae7 jM
def Uw(j40:Bpr)(j42:Bpr)(f:LU)(b:Bov)(a h:Int)(g:LB)(m o:Int)(u:LB):Bo2:=if(Cj o h)then
if(geq (Gx m 8) 0)then(Bt u ([(0:UInt8)]:LB)).bind λam=>j40 m o am
else
j40 m o u
else
j42 m a u
def Fh(RA:Bpr)(f:LU)(b:Bov)(a h:Int)(g:LB):Nat->Int->Int->LB->Option (LB)
|0,_,_,_=>none
|q+1,m,o,u=>Uw (Uu (Fh RA f b a h g q) f a b h g) (DQ RA f b) f b a h g m o u
def EH RA f b a h g:=Fh RA f b a h g As
def FD(j38:Int->Int->LB->Int->Int->LB->Option (LB))(f:LU)(b:Bov)(n a:Int)(k:LB)(h:Int)(g:LB):Bo2:=j38 a h g n 0 k
def Adz RA f b:=FD (EH RA f b) f b
def Oj(j37:Int->Int->LB->Int->LB->Option (LB))(j44:Bqc)(f:LU)(b:Bov)(n a:Int)(k:LB):Bo2:=if(Cj a (Ac f))then(Aj b a).bind λ_=>(Aj f a).bind λv=>(
(
(Aj b a).bind λp=>(
(
(Jw ([]:LB) 0 p.1 p.2.1 p.2.2.1 p.2.2.2.1 v).bind λ(g,h)=>j37 n a k h g))))
else
j44 k
def He:Nat->Int->Int->LB->Option (LB)
|0,_,_,_=>none
|z+1,c,d,e=>Oj (Adz (He z) X Bno) DX X Bno c d e
def Aet f b:=He f b As
def GO(j23:LU-> (List (Int×Int×UInt64×UInt64×Unit))->Int->Int->LB->Option (LB))(an:Int)(f:LU):Bo2:=(AT an f).bind λb=>j23 f b 0 0 ([]:LB)
def PO:=GO Aet
def Ul:Bp2:=(Wc z d U).bind λc=>if(Bj c 0)then(Wc z d U).bind λi=>some (([]:LB),i)
else(EP z d e U).bind λj=>(PO z j).bind λl=>some (l,0)
def QB:Bpu:=(Of i).bind λ(c,l)=>(Ul z d c e).bind λ(A,D)=>(Bt t ([A]:Box)).bind λE=>some (z,d,j,i,C,([]:LX),E,G,J,B)
abbrev EC:=Option (Int×Int×Int×LB×LB×LX×(List LB)×LB×Bool×Int×Int)
def Acu:EC:=(Zh d C).bind λ(c,A)=>(Bt e c).bind λB=>(Lh z d j i ([]:LB) B t G D l).bind λE=>if(geq (Ac B) (Bn E z))then(QB z d j i ([]:LB) B t G D l).bind λ(F,I,J,L,M,N,O,P,R,T)=>some (F,I,J,L,M,N,O,P,R,T,0)
else
some (z,d,j,i,([]:LB),B,t,G,D,l,0)
def Ad0:=Acu
def Ach(j2:Jz3 (LB->Bool->Int->LB->LX-> (List LB)->LB->EC))(a b g:Int)(h ak:LB)(p:LX)(f:Box)(n:LB)(k:Bool)(m:Int)(al:UInt8):EC:=(Bt ak ([al]:LB)).bind λo=>(Gb a b).bind λam=>if(Cj (Ac o) am)then
some (a,b,g,h,o,p,f,n,k,m,0)
else(Eu a b g h o p f n k m).bind λan=>(Ti a b g h o p f n k m (Af (Ac f) 1) (Af an 1)).bind λao=>if(!ao)then(Kw a b g h o p f n k m 18).bind λ(ap,v,aq,ar,au,av,aw,ax,ay,az)=>some (ap,v,aq,ar,au,av,aw,ax,ay,az,18)
else
j2 a b g h k m o p f n
def Sa:=Ach Ad0
abbrev Gd:=Option (Int×Int×Int×LB×LB×LX×(List LB)×LB×Bool×Int×Int)
def Aj3:Gd:=some (z,d,j,i,C,e,t,G,D,l,0)
def HI:=Aj3
def KC(nk:Jz4 (LB->Bool->Int->LB->LX-> (List LB)->LB->Gd))(a:LB)(n w b f g:Int)(h:LB)(k:Bool)(m y aa ab:Int)(ac:LB)(ad:Bool)(ae:Int)(af:LB)(ag:LX)(ah:Box)(ai:LB):Gd:=if(Bj w 0)then
some (y,aa,ab,ac,af,ag,ah,ai,ad,ae,w)
else
nk (Af n 1) y aa ab ac ad ae af ag ah ai
def Zk nk:=KC nk
def Ro(j8:Jz5 (LB->Bool->Int->Int->Int->Int->LB->Bool->Int->LB->LX-> (List LB)->LB->Gd))(j10:Jz3 (LB->Bool->Int->LB->LX-> (List LB)->LB->Gd))(a:LB)(n b f g:Int)(h:LB)(k:Bool)(m:Int)(o:LB)(p:LX)(u:Box)(v:LB):Gd:=if(Cj n (Ac a))then(Aj a n).bind λaj=>(
(
(
(Sa b f g h o p u v k m aj).bind λ(y,aa,ab,ac,af,ag,ah,ai,ad,ae,w)=>j8 n w b f g h k m y aa ab ac ad ae af ag ah ai)))
else
j10 b f g h k m o p u v
def Nb:Nat->Jz4 (LB->Bool->Int->LB->LX-> (List LB)->LB->Gd)
|0,_,_,_,_,_,_,_,_,_,_,_=>none
|z+1,d,e,i,j,l,t,A,B,C,D,E=>Ro (Zk (Nb z) c) HI c d e i j l t A B C D E
def Bmf a:=Nb a As
def Yr(j6:LB->Jz4 (LB->Bool->Int->LB->LX-> (List LB)->LB->Gd))(aw ax ay:Int)(az ba:LB)(bb:LX)(bc:Box)(bd:LB)(be:Bool)(bf:Int)(a:LB):Gd:=(Hc aw ax ay az ba bb bc bd be bf).bind λbg=>if(Bj bg 0)then
some (0,0,0,([]:LB),([]:LB),([]:LX),([]:Box),([]:LB),false,0,bg)
else(Sf aw ax ay az ba bb bc bd be bf).bind λ(ak,al,am,an,ao,ap,aq,ar,au,av)=>(Jk ak al am an ao ap aq ar au av).bind λbh=>if(Bj bh 0)then
some (ak,al,am,an,ao,ap,aq,ar,au,av,bh)
else
j6 a 0 ak al am an au av ao ap aq ar
def Gl:=Yr Bmf
def Mo:Bpn:=(Hc z d j i C e t G J B).bind λc=>if(Bj c 0)then
some (0,0,0,([]:LB),([]:LB),([]:LX),([]:Box),([]:LB),false,0,([]:LB),c)
else
if(Cj T 0)then
some (0,0,0,([]:LB),([]:LB),([]:LX),([]:Box),([]:LB),false,0,([]:LB),2)
else(Sf z d j i C e t G J B).bind λ(l,A,D,E,F,I,L,M,N,O)=>(Bo M 0 (Du T (Ac M))).bind λP=>(Bo M (Du T (Ac M)) (Ac M)).bind λR=>some (l,A,D,E,F,I,L,R,N,O,P,0)
def Ps:Bot:=if(c==([]:LB))then
some 1
else
some 2
def EY:Bo2:=(Bf (Ae z:UInt64) 2).bind λc=>(Bt ([(84:UInt8),(84:UInt8),(65:UInt8),(49:UInt8)]:LB) c).bind λe=>(Bf (Ae d:UInt64) 2).bind λi=>(Bt e i).bind λl=>(Bf (Ae j:UInt64) 2).bind λt=>(Bt l t).bind λA=>(Bf (Ae E:UInt64) 4).bind λB=>(Bt A B).bind λC=>(Bf (Ae F:UInt64) 4).bind λD=>(Bt C D).bind λG=>(Js G).bind λI=>(Bf (Ae I:UInt64) 4).bind λJ=>(Bt G J).bind λL=>some L
def Afw:Bo2:=(Js c).bind λz=>(Bf (Ae z:UInt64) 4).bind λd=>(Bt c d).bind λe=>some e
def HM:=Afw
def Wy(j6:Bqc)(Se:Bqo)(b:LI)(f:Int)(a:LB):Bo2:=if(Cj f (Ac b))then(Aj b f).bind λm=>(Bf (Ae m:UInt64) 4).bind λg=>(Bt a g).bind λh=>Se (Af f 1) h
else
j6 a
def Lt:Nat->Int->LB->Option (LB)
|0,_,_=>none
|z+1,c,d=>Wy HM (Lt z) R c d
def Bln b:=Lt b As
def Aj7(j4:LI->Int->LB->Option (LB))(b:LI):Bo2:=j4 b 0 ([]:LB)
def QM:=Aj7 Bln
def GR:Bo2:=(QM R).bind λz=>(Bt I z).bind λd=>(Bt d c).bind λe=>some e
def GL:=GR
def Afo(j12:LI->LB->LB->Option (LB))(b f g:Int)(a h:LB)(aa:LX)(k:LB)(m:Bool)(n p o:Int)(v:LI)(w:LB)(u:Box):Bo2:=(EY p b f g o).bind λaf=>if(a !=([]:LB))then(Rw a).bind λae=>(Bt af ae).bind λaj=>j12 v w aj
else
j12 v w af
def Xb:=Afo GL
def Yz(j11:Jz3 (LB->LB->LX->LB->Bool->Int->Int->Int->LI->LB-> (List LB)->Option (LB)))(bk9:Int->LI->LB->Option (LB))(b f g:Int)(a h:LB)(aa:LX)(k:LB)(m:Bool)(n p o:Int)(u:Box)(y:Int)(v:LI)(w:LB):Bo2:=if(Cj y (Ac u))then(Aj u y).bind λ_=>(Aj u y).bind λak=>(Bt v ([(Ac ak)]:LI)).bind λae=>(Aj u y).bind λ_=>(Aj u y).bind λal=>(Bt w al).bind λad=>bk9 (Af y 1) ae ad
else
j11 b f g a h aa k m n p o v w u
def Nn:Nat->Int->LI->LB->Option (LB)
|0,_,_,_=>none
|c+1,l,t,A=>Yz Xb (Nn c) z d j i C e G J B T Bnu Bnv l t A
def Blw b f g a h aa k m n p o u:=Nn b f g a h aa k m n p o u As
def Akk(j9:Jz3 (LB->LB->LX->LB->Bool->Int->Int->Int-> (List LB)->Int->LI->LB->Option (LB)))(b f g:Int)(a h k:LB)(m:Bool)(n p o:Int)(aa:LX)(u:Box):Bo2:=j9 b f g a h aa k m n p o u 0 ([]:LI) ([]:LB)
def Akq:=Akk Blw
def JP(j8:Jz3 (LB->LB->LB->Bool->Int->Int->Int->LX-> (List LB)->Option (LB)))(b f g:Int)(a h:LB)(ab:LX)(k:LB)(m:Bool)(n p o:Int)(ac:Box):Bo2:=if(Ec (Ac ab) 0)then(Of a).bind λ(am,ap)=>(Ul b f am ab).bind λ(an,aq)=>(Bt ac ([an]:Box)).bind λao=>j8 b f g a h k m n p o ([]:LX) ao
else
j8 b f g a h k m n p o ab ac
def Akb:=JP Akq
def Xy(j7:Jz3 (LB->LB->LX->LB->Bool->Int->Int->Int-> (List LB)->Option (LB)))(b f g:Int)(a h:LB)(ab:LX)(ac:Box)(k:LB)(m:Bool)(n:Int):Bo2:=(
(Ps a).bind λp=>(
(Eu b f g a h ab ac k m n).bind λo=>(
j7 b f g a h ab k m n p o ac)))
def Tk:=Xy Akb
abbrev GN:=Option (Int×Int×Int×LB×LB×LX×(List LB)×LB×Bool×Int×Int)
def Ve:GN:=(
(
(
(Tk z d j i C e t G D l).bind λc=>some (z,d,j,i,([]:LB),([]:LX),([]:Box),c,true,0,0))))
def EV:=Ve
def Uv(j2:Jz3 (LB->Bool->Int->LB->LX-> (List LB)->LB->GN))(aa ab ac:Int)(ad ae:LB)(af:LX)(ag:Box)(ah:LB)(ai:Bool)(aj:Int):GN:=(Hc aa ab ac ad ae af ag ah ai aj).bind λak=>if(Bj ak 0)then
some (0,0,0,([]:LB),([]:LB),([]:LX),([]:Box),([]:LB),false,0,ak)
else(Sf aa ab ac ad ae af ag ah ai aj).bind λ(a,b,f,g,h,n,o,p,k,m)=>(Jk a b f g h n o p k m).bind λal=>if(Bj al 0)then
some (a,b,f,g,h,n,o,p,k,m,al)
else
if(Ec (Ac h) 0)then(Kw a b f g h n o p k m 24).bind λ(ao,ap,aq,ar,au,av,aw,ax,ay,az)=>some (ao,ap,aq,ar,au,av,aw,ax,ay,az,24)
else(Eu a b f g h n o p k m).bind λba=>if(geq ba 0)then(Kw a b f g h n o p k m 24).bind λ(bb,bc,bd,be,bf,bg,bh,bi,bj,bk)=>some (bb,bc,bd,be,bf,bg,bh,bi,bj,bk,24)
else
j2 a b f g k m h n o p
def Fa:=Uv EV
abbrev Ey:=Option (Int×Int×Int×LB×LB×LX×(List LB)×LB×Bool×Int×(List (Int×LB×Unit))×Int)
def Acz(g h k:Int)(m n:LB)(o:Bool)(p:Int)(f:Bow)(u:LB)(v:LX)(w:Box):Ey:=some (g,h,k,m,u,v,w,n,o,p,f,0)
def BT:=Acz
def Sy(zi:Jz5 (LB->LB->Bool->Int-> (List (Int×LB×Unit))->LB->LX-> (List LB)->Ey))(y:LB)(b:Bou)(a:Int)(f:Bow)(bt bu:Int)(bv:LB)(bw bx bz:Int)(da db:LB)(dc:Bool)(dd:Int)(de:LB)(df:LX)(dg:Box):Ey:=(Bt f ([(bu,bv,())]:Bow)).bind λdh=>zi bt (Af a 1) bw bx bz da db dc dd dh de df dg
def Mw zi:=Sy zi
def Oq(j10:Int-> (List (Int×LB×Unit))->Int->Int->LB->Jz3 (LB->LB->Bool->Int->LB->LX-> (List LB)->Ey))(j12:Jz3 (LB->LB->Bool->Int-> (List (Int×LB×Unit))->LB->LX-> (List LB)->Ey))(y:LB)(b:Bou)(aa a g h k:Int)(m n:LB)(o:Bool)(p:Int)(f:Bow)(u:LB)(v:LX)(w:Box):Ey:=if(Cj a (Ac b))then(Aj b a).bind λab=>if(geq ab.1 1)then(Aj b a).bind λac=>(Mk y aa ac.2.1).bind λ(ad,ae)=>(Gl g h k m u v w n o p ad).bind λ(af,ag,ah,ai,aj,ak,al,am,an,ao,ap)=>j10 a f ae ap ([]:LB) af ag ah ai am an ao aj ak al
else
if(geq ab.1 2)then(Aj b a).bind λaq=>(
(Mo g h k m u v w n o p aq.2.1).bind λ(ar,au,av,aw,ax,ay,az,ba,bb,bc,bd,be)=>j10 a f aa be bd ar au av aw ba bb bc ax ay az)
else
if(geq ab.1 3)then(Fa g h k m u v w n o p).bind λ(bf,bg,bh,bi,bj,bk,bl,bm,bn,bp,bq)=>j10 a f aa bq ([]:LB) bf bg bh bi bm bn bp bj bk bl
else
j10 a f aa 0 ([]:LB) g h k m n o p u v w
else
j12 g h k m n o p f u v w
def Kg:Nat->Jz5 (LB->LB->Bool->Int-> (List (Int×LB×Unit))->LB->LX-> (List LB)->Ey)
|0,_,_,_,_,_,_,_,_,_,_,_,_,_=>none
|z+1,d,e,i,j,l,t,A,B,C,D,E,F,G=>Oq (Mw (Kg z) c P) BT c P d e i j l t A B C D E F G
def Bkt y b:=Kg y b As
def Ou(j7:LB-> (List (UInt8×Int×Unit))->Jz5 (LB->LB->Bool->Int-> (List (Int×LB×Unit))->LB->LX-> (List LB)->Ey))(di dj dk:Int)(dl y:LB)(b:Bou):Ey:=(Jq b).bind λbr=>if(Bj br 0)then
some (0,0,0,([]:LB),([]:LB),([]:LX),([]:Box),([]:LB),false,0,([]:Bow),br)
else(Qo di dj dk dl).bind λ(dm,dn,dp,dq,dr,ds,dt,du,dv,dw,bs)=>if(Bj bs 0)then
some (0,0,0,([]:LB),([]:LB),([]:LX),([]:Box),([]:LB),false,0,([]:Bow),bs)
else
j7 y b 0 0 dm dn dp dq du dv dw ([]:Bow) dr ds dt
def Pw:=Ou Bkt
def Bis:Bot:=some z
def Ab8:=Bis
def Nr(j6:Bp3)(Se:Bp9)(k m n:Int)(o f:LB)(g:LX)(a:Box)(h:LB)(p:Bool)(u b v:Int):Bot:=if(Cj v (Ac a))then(Aj a v).bind λw=>Se (Af b (Ac w)) (Af v 1)
else
j6 b
def Fp:Nat->Int->Int->Option Int
|0,_,_=>none
|c+1,l,A=>Nr Ab8 (Fp c) z d j i C e t G J B l A
def Bir k m n o f g a h p u:=Fp k m n o f g a h p u As
def Va(j4:Jz3 (LB->LB->LX-> (List LB)->LB->Bool->Int->Int->Int->Option Int))(k m n:Int)(o f:LB)(g:LX)(a:Box)(h:LB)(p:Bool)(u:Int):Bot:=j4 k m n o f g a h p u (Af (Af (Ac f) (Bn 4 (Ac g))) (Ac h)) 0
def Rh:=Va Bir
abbrev Fj:=Option (Int×Int)
def Bkh:Fj:=some (z,0)
def Adt:=Bkh
abbrev Bpm:=Jz6 (LB->LB->Bool->Int->LB->LX-> (List LB)->Fj)
def Aeo(zi:Bpm)(h:LB)(f:Bou)(g a dc bl bm bn:Int)(bp bq:LB)(br:Bool)(bs:Int)(bt:LB)(bu:LX)(bv:Box):Fj:=(Rh bl bm bn bp bt bu bv bq br bs).bind λdd=>zi (jQ g dd) dc (Af a 1) bl bm bn bp bq br bs bt bu bv
def Uy zi:=Aeo zi
def Ib(j10:Bpm)(j12:Int->Fj)(h:LB)(f:Bou)(g b a k m n:Int)(o p:LB)(u:Bool)(v:Int)(w:LB)(y:LX)(aa:Box):Fj:=if(Cj a (Ac f))then(Aj f a).bind λab=>if(geq ab.1 1)then(Aj f a).bind λac=>(Bo h b (Af b (Du ac.2.1 (Ap (Ac h) b)))).bind λad=>(Gl k m n o w y aa p u v ad).bind λ(ae,af,ag,ah,ai,aj,ak,al,am,an,de)=>j10 g a (Af b (Du ac.2.1 (Ap (Ac h) b))) ae af ag ah al am an ai aj ak
else
if(geq ab.1 2)then(Aj f a).bind λao=>(
(Mo k m n o w y aa p u v ao.2.1).bind λ(ap,aq,ar,au,av,aw,ax,ay,az,ba,df,dg)=>j10 g a b ap aq ar au ay az ba av aw ax)
else
if(geq ab.1 3)then(Fa k m n o w y aa p u v).bind λ(bb,bc,bd,be,bf,bg,bh,bi,bj,bk,dh)=>j10 g a b bb bc bd be bi bj bk bf bg bh
else
j10 g a b k m n o p u v w y aa
else
j12 g
def Ef:Nat->Jz6 (LB->LB->Bool->Int->LB->LX-> (List LB)->Fj)
|0,_,_,_,_,_,_,_,_,_,_,_,_,_=>none
|z+1,d,e,i,j,l,t,A,B,C,D,E,F,G=>Ib (Uy (Ef z) c P) Adt c P d e i j l t A B C D E F G
def Bky h f:=Ef h f As
def Qn(j7:LB-> (List (UInt8×Int×Unit))->Jz6 (LB->LB->Bool->Int->LB->LX-> (List LB)->Fj))(bw bx bz:Int)(da h:LB)(f:Bou):Fj:=(Pw bw bx bz da h f).bind λ(du,dv,dw,dx,dy,dz,fa,fb,fc,fd,fe,db)=>if(Bj db 0)then
some (0,db)
else(Qo bw bx bz da).bind λ(di,dj,dk,dl,dm,dn,dp,dq,dr,ds,ff)=>j7 h f 0 0 0 di dj dk dl dq dr ds dm dn dp
def Qr:=Qn Bky
def Ab5:Boy:=(RC i C P).bind λ(c,d,e)=>(Td i C P).bind λ(j,l,t)=>(LN Bnn Bn7 z i C P).bind λ(A,B)=>(Qr Bnn Bn7 z i C P).bind λ(D,E)=>some (((((geq c j)&&(geq d l))&&(geq e t))&&(geq A D))&&(geq B E))
def Aba:=Ab5
def Ab9(j2:Int->LB->LB-> (List (UInt8×Int×Unit))->Int->Int->Option Bool)(h k g:Int)(a b:LB)(f:Bou):Boy:=if((Ec (Ac a) 100)||(Ec (Ac b) 600))then
some true
else(SI f).bind λac=>if ac then
some true
else
j2 g a b f h k
def Zs:=Ab9 Aba
def Blo:Bot:=some z
def Bl8:=Blo
def Bl3(j6:Bp3)(Se:Bp9)(b h k m n o f:Int)(g:LI)(a p:Int):Bot:=if(Cj p b)then(Aj g p).bind λu=>Se (Af a u) (Af p 1)
else
j6 a
def Aj8:Nat->Int->Int->Option Int
|0,_,_=>none
|c+1,e,i=>Bl3 Bl8 (Aj8 c) z d j E F O l Bnx e i
def Bkz b h k m n o f g:=Aj8 b h k m n o f g As
def Bl7(j4:Jz7 (LI->Int->Int->Option Int))(h k m n o f:Int)(g:LI)(b:Int):Bot:=j4 b h k m n o f g f 0
def Bhx:=Bl7 Bkz
abbrev QD:=Option (LB×Int)
def Bhv(u:LX)(n o g f h k p:Int)(b:LI):QD:=if(Bj n 0)then
some (([]:LB),n)
else(Vt f u).bind λ(af,ai)=>some (af,0)
def Bhq:=Bhv
def Bhp(j2:LX->Jz7 (LI->QD))(v y:LB)(o g f h k p:Int)(b:LI)(a:Int):QD:=(Bhx o g f h k p b a).bind λm=>(Aj b a).bind λaa=>if(Cj (Ap (Ac v) m) aa)then
some (([]:LB),24)
else(Of y).bind λ(ab,ag)=>(Aj b a).bind λac=>(Bo v m (Af m ac)).bind λad=>(
(Mm h k).bind λw=>(Aj w a).bind λ_=>(Aj w a).bind λae=>(Fz g f ab ae ad).bind λ(u,n)=>j2 u n o g f h k p b)
def Azr:=Bhp Bhq
end Go.Pl
