/- A part of the proof of a statement of this seat (see the text that ends in Proof): PfPure. No conditions of its own. -/
import Derived.Test.YtidigmkmfmopgaaGreatDoorPfBA
set_option linter.unusedVariables false
namespace Go.Pl
open Go Go.Lv
abbrev LB:=List UInt8
abbrev LI:=List Int
abbrev LX:=List Int32
abbrev LU:=List UInt32
abbrev LQ:=List UInt64
def NQ(a b f:Int)(g:LX):Option (Int×Int):=
some (a,b)
abbrev aO:=Option (Int32×Int32×Int)
def lF(a:Int)(b:Bool):aO:=
if b then
(Le (Om (Am a 1) 0)).bind λ_=>
some ((uT (Ea (1:Int32) (GI.toZ (Am a 1)).toNat)),(Am (Ea (1:Int32) (GI.toZ (Am a 1)).toNat) 1),0)
else
some (0,0,2)
def WA:=lF
def UO(j2:Int->Bool->aO)(a:Int):aO:=
if(geq a 8)then
j2 a (geq a 8)
else
if(geq a 16)then
j2 a (geq a 16)
else
j2 a (geq a 24)
def Vi:=UO WA
def Hl(a b:Int):Option Int:=
(Vi b).bind λ(g,h,f)=>
if(((Bi f 0)||(Cr a 1))||(Ez a 6))then
some 2
else
some 0
def Vw(a:Int):Option (Int×Int):=
if((Cr a 1)||(Ez a 1048576))then
some (0,2)
else
some ((pP 1 (Cv (Bn 256 a) 245)),0)
def Jp(g b:Int):Option (Int×Int):=
(Vw g).bind λ(a,f)=>
if(Bi f 0)then
some (0,f)
else
if((Cr b 1)||(Ez b 4000))then
some (0,2)
else
(Le (Bi a 0)).bind λ_=>
if(Ez (Cv (Am (Ad b a) 1) a) 1000)then
some (0,4)
else
some ((Cv (Am (Ad b a) 1) a),0)
def MO(a g f:Int)(h:LX)(b:Int):Option Int:=
(NQ a g f h).bind λ(k,m)=>
(Hl k m).bind λn=>
if((Bi n 0)||(Cr b 1))then
some 8
else
(Le (Bi a 0)).bind λ_=>
if(Ez b (Cv 4000 a))then
some 8
else
(Jp f b).bind λ(p,o)=>
if(Bi o 0)then
some 8
else
some 0
def Aew:Option Int:=
some 0
def kY:=Aew
def HF(j6:Option Int)(Th:Int->Option Int)(b f:Int32)(a:LX)(g:Int):Option Int:=
if(Cr g (Ac a))then
(Ap a g).bind λh=>
if((Cr h b)||(Ez h f))then
some 16
else
Th (Ad g 1)
else
j6
def Ub(b f:Int32)(a:LX):Nat->Int->Option Int
|0,_=>none
|q+1,g=>HF kY (Ub b f a q) b f a g
def mM b f a:=Ub b f a Ay
def XF(j4:Int32->Int32->LX->Int->Option Int)(m:Int)(a:LX):Option Int:=
(Vi m).bind λ(b,f,k)=>
if(Bi k 0)then
some k
else
if(Ez (Ac a) 4000)then
some 4
else
j4 b f a 0
def Zc:=XF mM
def Ex(a f h:Int)(b:LX):Option Int:=
if(Cr a 1)then
some 8
else
(Le (Bi a 0)).bind λ_=>
if(Bi (Ic (Ac b) a) 0)then
some 8
else
(Le (Bi a 0)).bind λ_=>
(MO a f h b (Cv (Ac b) a)).bind λg=>
if(Bi g 0)then
some g
else
(Zc f b).bind λk=>
if(Bi k 0)then
some 8
else
some 0
abbrev bS:=Option (Int×Int×Int×Int×Int×Int)
def lN(h:LB)(a b f:Int)(g:LX):bS:=
if(h !=([]:LB))then
some (2,a,b,f,(Cv (Ac g) a),0)
else
some (1,a,b,f,(Cv (Ac g) a),0)
def XD:=lN
def JU(j2:LB->Int->Int->Int->LX->bS)(a b f:Int)(g:LX)(h:LB):bS:=
(Ex a b f g).bind λk=>
if(Bi k 0)then
some (0,0,0,0,0,k)
else
if(Ez (Ac h) 64)then
some (0,0,0,0,0,2)
else
(Le (Bi a 0)).bind λ_=>
(
j2 h a b f g)
def ZS:=JU XD
abbrev Ci:=Option (UInt64×Int)
def kM(h:UInt64):Ci:=
some (h,0)
def VN:=kM
def VH(j30:UInt64->Ci)(h b:UInt64)(a:LB)(f:LQ):Ci:=
j30 h
def XC:=VH VN
def JD(j29:UInt64->UInt64->LB->LQ->Ci)(iR:UInt64->Int->Ci)(a:LB)(b:UInt64)(f:LQ)(h:UInt64)(m:Int):Ci:=
if(Cr m (Ac a))then
(Ap a m).bind λp=>
Option.bind (Ap f (GI.toZ (Zy (Af (Ck h (GI.toZ (56:UInt64)).toNat):UInt8) p))) λ_=>
Option.bind (Ap f (GI.toZ (Zy (Af (Ck h (GI.toZ (56:UInt64)).toNat):UInt8) p))) λu=>
iR (Zy (Ea h (GI.toZ (8:UInt64)).toNat) u) (Ad m 1)
else
j29 h b a f
def Uq(a:LB)(b:UInt64)(f:LQ):Nat->UInt64->Int->Ci
|0,_,_=>none
|q+1,h,m=>JD XC (Uq a b f q) a b f h m
def VX a b f:=Uq a b f Ay
def XZ(j27:LB->UInt64->LQ->UInt64->Int->Ci)(b:UInt64)(a:LB)(f:LQ):Ci:=
j27 a b f b 0
def HZ:=XZ VX
def lJ(Po:Int->LQ->Ci)(b:UInt64)(a:LB)(g:Int)(o:LQ):Ci:=
Po (Ad g 1) o
def YB Po:=lJ Po
def VO(j24:Int->LQ->Ci)(b:UInt64)(a:LB)(g:Int)(k:UInt64)(f:LQ):Ci:=
(Ap f g).bind λ_=>
(Nz f g k).bind λo=>
j24 g o
def JJ Po b a:=VO (YB Po b a) b a
def KB(j23:Int->UInt64->LQ->Ci)(Ap8:UInt64->Int->Ci)(b:UInt64)(a:LB)(g:Int)(f:LQ)(k:UInt64)(n:Int):Ci:=
if(Cr n 8)then
Ap8 (Zy (Ea k (GI.toZ (1:UInt64)).toNat) (Bn 4823603603198064275 (Ck k (GI.toZ (63:UInt64)).toNat))) (Ad n 1)
else
j23 g k f
def Uu(Po:Int->LQ->Ci)(b:UInt64)(a:LB)(g:Int)(f:LQ):Nat->UInt64->Int->Ci
|0,_,_=>none
|q+1,k,n=>KB (JJ Po b a) (Uu Po b a g f q) b a g f k n
def WI Po b a g f:=Uu Po b a g f Ay
def JG(j21:Int->LQ->UInt64->Int->Ci)(j26:UInt64->LB->LQ->Ci)(b:UInt64)(a:LB)(g:Int)(f:LQ):Ci:=
if(Cr g 256)then
j21 g f (Ea (Af g:UInt64) (GI.toZ (56:UInt64)).toNat) 0
else
j26 b a f
def Pv(b:UInt64)(a:LB):Nat->Int->LQ->Ci
|0,_,_=>none
|q+1,g,f=>JG (WI (Pv b a q) b a) HZ b a g f
def VQ b a:=Pv b a Ay
def aP(j16:UInt64->LB->Int->LQ->Ci)(b:UInt64)(a:LB):Ci:=
if(Ez (Ac a) 100000)then
some (0,4)
else
j16 b a 0 (List.replicate 256 (0:UInt64))
def fO:=aP VQ
def eL(a:LB):Option (UInt64×Int):=
(fO 0 a).bind λ(b,f)=>
some (b,f)
def An6(a:LX):Option (LX):=
some a
def Abn:=An6
def iF(j6:LX->Option (LX))(Th:Int->LX->Option (LX))(f:UInt64)(b:Int)(a:LX):Option (LX):=
if(Cr b 8)then
(Le (Om (Bn 8 b) 0)).bind λ_=>
(Ap a b).bind λ_=>
(Nz a b (Af (Af (Ck f (GI.toZ (Bn 8 b)).toNat):Int8):Int32)).bind λg=>
Th (Ad b 1) g
else
j6 a
def MM(f:UInt64):Nat->Int->LX->Option (LX)
|0,_,_=>none
|q+1,b,a=>iF Abn (MM f q) f b a
def Aeg f:=MM f Ay
def Ace(j4:UInt64->Int->LX->Option (LX))(f:UInt64):Option (LX):=
j4 f 0 (List.replicate 16 (0:Int32))
def Ai2:=Ace Aeg
def Uf(a:LB):Option (LX×Int):=
if(Ez (Ac a) 64)then
some (([(0:Int32),(0:Int32),(0:Int32),(0:Int32),(0:Int32),(0:Int32),(0:Int32),(0:Int32),(0:Int32),(0:Int32),(0:Int32),(0:Int32),(0:Int32),(0:Int32),(0:Int32),(0:Int32)]:LX),2)
else
(eL a).bind λ(f,b)=>
if(Bi b 0)then
some (([(0:Int32),(0:Int32),(0:Int32),(0:Int32),(0:Int32),(0:Int32),(0:Int32),(0:Int32),(0:Int32),(0:Int32),(0:Int32),(0:Int32),(0:Int32),(0:Int32),(0:Int32),(0:Int32)]:LX),b)
else
(Ai2 f).bind λg=>
some (g,0)
def RK(a b:UInt64):Option (UInt64×UInt64):=
some ((Ad (Ad (Bn (Ck a (GI.toZ (32:UInt64)).toNat) (Ck b (GI.toZ (32:UInt64)).toNat)) (Ck (Ad (Bn (Ck a (GI.toZ (32:UInt64)).toNat) (Ev b 4294967295)) (Ck (Bn (Ev a 4294967295) (Ev b 4294967295)) (GI.toZ (32:UInt64)).toNat)) (GI.toZ (32:UInt64)).toNat)) (Ck (Ad (Ev (Ad (Bn (Ck a (GI.toZ (32:UInt64)).toNat) (Ev b 4294967295)) (Ck (Bn (Ev a 4294967295) (Ev b 4294967295)) (GI.toZ (32:UInt64)).toNat)) 4294967295) (Bn (Ev a 4294967295) (Ck b (GI.toZ (32:UInt64)).toNat))) (GI.toZ (32:UInt64)).toNat)),(Bn a b))
def OJ(a b:UInt64):Option (UInt64×UInt64):=
(RK a b).bind λ(f,g)=>
some (f,g)
def Ra(a:LI):Option (LI):=
some a
def La:=Ra
def Im(j10:LI->Option (LI))(bk8:Int->LI->Option (LI))(b:Int)(a:LI):Option (LI):=
if(Cr b (Ac a))then
(
(jH (Ac a) b (Ac a)).bind λ_=>
(jH (Ac a) 0 b).bind λ_=>
bk8 (Ad b (YH ((Ac a)-b) (YQ a 0 (b-(0:Int))).length)) (Xn a b ((Ac a)-b) (YQ a 0 (b-(0:Int)))))
else
j10 a
def Fz:Nat->Int->LI->Option (LI)
|0,_,_=>none
|q+1,b,a=>Im La (Fz q) b a
def Sm:=Fz Ay
def Sg(j8:Int->LI->Option (LI))(f:LI)(g:UInt64):Option (LI):=
(mkI (Af g:Int) (0:Int)).bind λk=>
(Le (geq (Af g:Int) (Af g:Int))).bind λ_=>
j8 (YH (Ac k) f.length) (Abb k f)
def Se:=Sg Sm
def Sa(j7:LI->UInt64->Option (LI))(f:LI)(h:Int):Option (LI):=
(OJ (Af (Ac f):UInt64) (Af h:UInt64)).bind λ(m,g)=>
if((Ez m 0)||(Ez g 9223372036854775807))then
none
else
j7 f g
def Sp:=Sa Se
def Sr(j6:LI->Int->Option (LI))(f:LI)(h:Int):Option (LI):=
if(Cr h 0)then
none
else
j6 f h
def Qn:=Sr Sp
def YS(f:LI):Option (LI):=
some f
def BJ:=YS
def Hz(j16:LI->Option (LI))(Ap9:Int->LI->Option (LI))(a:List LI)(g:Int)(f:LI):Option (LI):=
if(Cr g (Ac a))then
(Ap a g).bind λo=>
(Dy f o).bind λp=>
Ap9 (Ad g 1) p
else
j16 f
def Fi(a:List LI):Nat->Int->LI->Option (LI)
|0,_,_=>none
|q+1,g,f=>Hz BJ (Fi a q) a g f
def Qt a:=Fi a Ay
def Rb(j14:(List LI)->Int->LI->Option (LI))(a:List LI)(k:LI):Option (LI):=
j14 a 0 k
def Kz:=Rb Qt
def Qz(j13:(List LI)->LI->Option (LI))(b:Int)(a:List LI):Option (LI):=
if(Ez (Am b (Am (0:Int) (0:Int))) 0)then
(jH 0 0 0).bind λ_=>
(mkI (Am b (Am (0:Int) (0:Int))) (0:Int)).bind λu=>
(Dy ([]:LI) u).bind λm=>
(jH (Ac m) 0 0).bind λ_=>
j13 a (YQ m 0 ((0:Int)-(0:Int)))
else
j13 a ([]:LI)
def Qy:=Qz Kz
def Qw(j12:Int-> (List LI)->Option (LI))(a:List LI)(b:Int):Option (LI):=
if(Cr b 0)then
none
else
j12 b a
def Qu:=Qw Qy
def Ip(j11:(List LI)->Int->Option (LI))(bk9:Int->Int->Option (LI))(a:List LI)(b h:Int):Option (LI):=
if(Cr h (Ac a))then
(Ap a h).bind λn=>
if(Cr (Ad b (Ac n)) 0)then
none
else
bk9 (Ad b (Ac n)) (Ad h 1)
else
j11 a b
def Fw(a:List LI):Nat->Int->Int->Option (LI)
|0,_,_=>none
|q+1,b,h=>Ip Qu (Fw a q) a b h
def Sf a:=Fw a Ay
def Sj(j9:(List LI)->Int->Int->Option (LI))(a:List LI):Option (LI):=
j9 a 0 0
def Qj:=Sj Sf
def VE(a b:LI):Option (LI):=
(Qj ([a,b]:List LI)).bind λf=>
some f
def AK(a b:Int):Option (LI×Int):=
(Jp a b).bind λ(f,g)=>
if(Bi g 0)then
some (([]:LI),g)
else
(Vw a).bind λ(h,n)=>
(Qn ([h]:LI) (Am f 1)).bind λk=>
(VE k ([(Am b (Bn (Am f 1) h))]:LI)).bind λm=>
some (m,0)
def OO(a f:Int)(b:LX):Option Int:=
(Hl a f).bind λg=>
if(Bi g 0)then
some g
else
(Zc f b).bind λh=>
if(Bi h 0)then
some h
else
if(geq (Ac b) 0)then
some 2
else
(Le (Bi a 0)).bind λ_=>
if(Bi (Ic (Ac b) a) 0)then
some 2
else
some 0
def eP(a:Int)(b:LX):Option Int:=
if((Cr a 1)||(Ez a 6))then
some 2
else
if(Ez (Ac b) 4000)then
some 4
else
(Le (Bi a 0)).bind λ_=>
if(Bi (Ic (Ac b) a) 0)then
some 2
else
some 0
def El(a:LX):Option (LX):=
(
(Dy ([]:LX) a).bind λb=>
some b)
abbrev Km:=Option (LX×Int)
def Akn(f:LX):Km:=
some (f,0)
def zK:=Akn
def nV(cD:Int->LX->Km)(b a:Int)(k:LX):Km:=
cD (Ad a b) k
def aF cD:=nV cD
def nU(j20:Int->LX->Km)(b a:Int)(g:LX):Km:=
if(Ez (Am ((Ad a b)-a) 1) 0)then
(Le (decide (0<= (Am ((Ad a b)-a) 1)/\ (Am ((Ad a b)-a) 1)<((Ad a b)-a)))).bind λ_=>
Option.bind (Le (decide (0<= (Am (Am ((Ad a b)-a) 1) 1)/\ (Am (Am ((Ad a b)-a) 1) 1)<((Ad a b)-a)))) λ_=>
(Ap g (a+(Am ((Ad a b)-a) 1))).bind λm=>
(Ap g (a+(Am (Am ((Ad a b)-a) 1) 1))).bind λn=>
(Le (decide (0<= (Am ((Ad a b)-a) 1)/\ (Am ((Ad a b)-a) 1)<((Ad a b)-a)))).bind λ_=>
(Nz g (a+(Am ((Ad a b)-a) 1)) (Am m (Cv n 2))).bind λo=>
j20 a o
else
j20 a g
def lI cD b:=nU (aF cD b) b
def ZM(j19:Int->LX->Km)(Bkr:Int->LX->Km)(b a h:Int)(g:LX):Km:=
if(Cr h (Am ((Ad a b)-a) 1))then
(Le (decide (0<= (Ad h 1)/\ (Ad h 1)<((Ad a b)-a)))).bind λ_=>
(Le (decide (0<=h/\h<((Ad a b)-a)))).bind λ_=>
(Ap g (a+(Ad h 1))).bind λm=>
(Ap g (a+h)).bind λn=>
(Le (decide (0<=h/\h<((Ad a b)-a)))).bind λ_=>
(Nz g (a+h) (Am m n)).bind λo=>
Bkr (Ad h 1) o
else
j19 a g
def FG(cD:Int->LX->Km)(b a:Int):Nat->Int->LX->Km
|0,_,_=>none
|q+1,h,g=>ZM (lI cD b) (FG cD b a q) b a h g
def zC cD b a:=FG cD b a Ay
def kN(j17:Int->Int->LX->Km)(j22:LX->Km)(b a:Int)(f:LX):Km:=
if(Cr a (Ac f))then
(jH (Ac f) a (Ad a b)).bind λ_=>
j17 a 0 f
else
j22 f
def EW(b:Int):Nat->Int->LX->Km
|0,_,_=>none
|q+1,a,f=>kN (zC (EW b q) b) zK b a f
def nE b:=EW b Ay
def sL(j12:Int->Int->LX->Km)(b:Int)(p:LX):Km:=
(eP b p).bind λu=>
if(Bi u 0)then
some (([]:LX),u)
else
(El p).bind λv=>
j12 b 0 v
def Aac:=sL nE
abbrev rI:=Option (Int×LX×LX×Int)
def Akp(a:Int)(b:LX)(f:Bool):rI:=
if f then
some (10,b,(List.replicate 16 (0:Int32)),0)
else
if(geq a 16)then
some (9,b,(List.replicate 16 (0:Int32)),0)
else
some (0,(List.replicate 16 (0:Int32)),(List.replicate 16 (0:Int32)),2)
def zF:=Akp
def xY(j2:Int->LX->Bool->rI)(a:Int)(b:LX):rI:=
if(geq a 8)then
j2 a b (geq a 8)
else
j2 a b (geq a 24)
def uL:=xY zF
def xO(a:Int)(f:LX):Option (Int×Int32×Int×LX×LX×Int):=
(uL a f).bind λ(g,h,k,b)=>
if(Bi b 0)then
some (0,0,0,(List.replicate 16 (0:Int32)),(List.replicate 16 (0:Int32)),b)
else
some (a,0,g,h,k,0)
def Zw(a:Int)(k:Int32)(b:Int)(f m:LX):Option Int:=
(uL a f).bind λ(g,n,o,h)=>
if((Bi h 0)||(Bi g b))then
some 8
else
some 0
def mW(a:Int):Option (Int×Int):=
if(geq a 8)then
some (4,0)
else
if(geq a 16)then
if(geq a 16)then
some (5,0)
else
some (0,2)
else
if(geq a 24)then
some (5,0)
else
some (0,2)
def aA(a:Int)(b:Int32):Option Int32:=
(Le (Om a 0)).bind λ_=>
(Le (Om a 0)).bind λ_=>
some (Af (Ail (Am (Ea (Af b:Int) (GI.toZ a).toNat) (Af b:Int)) (GI.toZ a).toNat):Int32)
def Zv(b:Int)(f:Int32):Option (Int32×Int):=
(mW b).bind λ(g,a)=>
if(Bi a 0)then
some (0,a)
else
(aA g f).bind λh=>
some (h,0)
def NJ(a:Int)(b f:LX):Option Int:=
if((Bi a 9)&&(Bi a 10))then
some 8
else
some 0
abbrev Wo:=Option (Int32×Int)
def pX(g:Int32)(a:Int)(b f:LX):Wo:=
(Le (Om a 0)).bind λ_=>
some ((Ck g (GI.toZ a).toNat),0)
def bQ:=pX
def OE(j6:Int32->Int->LX->LX->Wo)(Th:Int32->Int->Wo)(b:LX)(a:Int)(f:LX)(g:Int32)(h:Int):Wo:=
if(Cr h 16)then
(Ap b h).bind λm=>
(Ap f h).bind λ_=>
(Ap f h).bind λn=>
Th (Ad g (Bn m n)) (Ad h 1)
else
j6 g a b f
def Xc(b:LX)(a:Int)(f:LX):Nat->Int32->Int->Wo
|0,_,_=>none
|q+1,g,h=>OE bQ (Xc b a f q) b a f g h
def aQ b a f:=Xc b a f Ay
def bM(j4:LX->Int->LX->Int32->Int->Wo)(a:Int)(b f:LX):Wo:=
(NJ a b f).bind λk=>
if(Bi k 0)then
some (0,k)
else
(Le (Om (Am a 1) 0)).bind λ_=>
j4 b a f (Ea (1:Int32) (GI.toZ (Am a 1)).toNat) 0
def YA:=bM aQ
def cM(a:Int):Option Int32:=
if(geq a 0)then
some 4
else
if(Cr a 4)then
some 2
else
some 1
abbrev Vq:=Option (Int×LX×LX×Int)
def Afh(g:Int)(b f:LX):Vq:=
some (g,b,f,0)
def pZ:=Afh
def OP(j6:Int->LX->LX->Vq)(Th:Int->LX->Vq)(h:Int32)(f:LX)(g a:Int)(b:LX):Vq:=
if(Cr a 16)then
(Ap f a).bind λm=>
if(geq m 0)then
Th (Ad a 1) b
else
if((Cr m 0)==(Cr h 0))then
(Ap b a).bind λ_=>
(Ap b a).bind λo=>
(cM a).bind λp=>
(Ap b a).bind λ_=>
(Nz b a (Ad o p)).bind λu=>
Th (Ad a 1) u
else
(Ap b a).bind λ_=>
(Ap b a).bind λv=>
(cM a).bind λw=>
(Ap b a).bind λ_=>
(Nz b a (Am v w)).bind λy=>
Th (Ad a 1) y
else
j6 g b f
def Xl(h:Int32)(f:LX)(g:Int):Nat->Int->LX->Vq
|0,_,_=>none
|q+1,a,b=>OP pZ (Xl h f g q) h f g a b
def qB h f g:=Xl h f g Ay
def aY(j4:Int32->LX->Int->Int->LX->Vq)(g:Int)(k f:LX)(h:Int32):Vq:=
(NJ g k f).bind λn=>
if(Bi n 0)then
some (0,(List.replicate 16 (0:Int32)),(List.replicate 16 (0:Int32)),n)
else
if(geq h 0)then
some (g,k,f,0)
else
j4 h f g 0 k
def iH:=aY qB
abbrev mZ:=Option (Int×LX×LX×Int)
def tC(g:Int32)(b:Int)(f a:LX):mZ:=
(Ap (Xn a 1 ((16:Int)-(1:Int)) (YQ a 0 ((16:Int)-(0:Int)))) 0).bind λ_=>
(Nz (Xn a 1 ((16:Int)-(1:Int)) (YQ a 0 ((16:Int)-(0:Int)))) 0 g).bind λk=>
some (b,f,k,0)
def hU:=tC
def UA(j2:Int32->Int->LX->LX->mZ)(b:Int)(f a:LX)(g:Int32):mZ:=
(NJ b f a).bind λh=>
if(Bi h 0)then
some (0,(List.replicate 16 (0:Int32)),(List.replicate 16 (0:Int32)),h)
else
(
(jH 16 1 16).bind λ_=>
(jH 16 0 16).bind λ_=>
j2 g b f a)
def pG:=UA hU
def YO(a:Int)(b f:LX)(g h:Int32):Option (Int×LX×LX):=
(iH a b f h).bind λ(k,m,n,v)=>
(pG k m n g).bind λ(o,p,u,w)=>
some (o,p,u)
def ZT(b:Int)(f g:LX)(a:Int32):Option (Int32×Int×LX×LX×Int):=
(YA b f g).bind λ(h,k)=>
if(Bi k 0)then
some (0,0,(List.replicate 16 (0:Int32)),(List.replicate 16 (0:Int32)),k)
else
(YO b f g a (Am a h)).bind λ(m,n,o)=>
some ((Am a h),m,n,o,0)
def Xj(a:Int)(b:Int32)(f:Int)(g h:LX)(k:Int32):Option (Int32×Int×Int32×Int×LX×LX×Int):=
(Zw a b f g h).bind λm=>
if(Bi m 0)then
some (0,0,0,0,(List.replicate 16 (0:Int32)),(List.replicate 16 (0:Int32)),m)
else
(Zv a b).bind λ(n,y)=>
(ZT f g h (Am k n)).bind λ(o,p,u,v,w)=>
(
some (o,a,k,p,u,v,w))
def pC(a:Int32):Option UInt32:=
some (Zy (Ea (Af a:UInt32) (GI.toZ (1:UInt64)).toNat) (Af (Ck a (GI.toZ (31:UInt64)).toNat):UInt32))
abbrev Dp:=Option (LU×Int)
def rE(k:LU):Dp:=
some (k,0)
def UQ:=rE
def Wm(j12:LU->Dp)(Aqa:Int-> (List (Int×Int32×(Int×LX×LX×Unit)×Unit))->LU->Dp)(b:LX)(a f g:Int)(o:List (Int×Int32×(Int×LX×LX×Unit)×Unit))(k:LU):Dp:=
if(Cr g (Ac b))then
(Ap b g).bind λ_=>
(Ap b g).bind λac=>
(Le (Bi a 0)).bind λ_=>
(Ap o (Ic g a)).bind λ_=>
(Ap o (Ic g a)).bind λp=>
(Xj p.1 p.2.1 p.2.2.1.1 p.2.2.1.2.1 p.2.2.1.2.2.1 ac).bind λ(u,ad,ae,v,af,ag,w)=>
if(Bi w 0)then
some (([]:LU),w)
else
(Nz o (Ic g a) (ad,ae,(v,af,ag,()),())).bind λah=>
(pC u).bind λai=>
(Dy k ([ai]:LU)).bind λaj=>
Aqa (Ad g 1) ah aj
else
j12 k
def Mc(b:LX)(a f:Int):Nat->Int-> (List (Int×Int32×(Int×LX×LX×Unit)×Unit))->LU->Dp
|0,_,_,_=>none
|q+1,g,o,k=>Wm UQ (Mc b a f q) b a f g o k
def XP b a f:=Mc b a f Ay
def ZW(j10:LX->Int->Int->Int-> (List (Int×Int32×(Int×LX×LX×Unit)×Unit))->LU->Dp)(a f:Int)(b:LX)(h:List (Int×Int32×(Int×LX×LX×Unit)×Unit)):Dp:=
j10 b a f 0 h ([]:LU)
def KO:=ZW XP
def ZC(j9:Int->Int->LX-> (List (Int×Int32×(Int×LX×LX×Unit)×Unit))->Dp)(bk7:Int-> (List (Int×Int32×(Int×LX×LX×Unit)×Unit))->Dp)(a f:Int)(m b:LX)(n:Int)(h:List (Int×Int32×(Int×LX×LX×Unit)×Unit)):Dp:=
if(Cr n 6)then
(xO f m).bind λ(ak,al,u,am,an,v)=>
(Ap h n).bind λ_=>
(Nz h n (ak,al,(u,am,an,()),())).bind λao=>
bk7 (Ad n 1) ao
else
j9 a f b h
def KA(a f:Int)(m b:LX):Nat->Int-> (List (Int×Int32×(Int×LX×LX×Unit)×Unit))->Dp
|0,_,_=>none
|q+1,n,h=>ZC KO (KA a f m b q) a f m b n h
def Yo a f m b:=KA a f m b Ay
def JQ(j7:Int->Int->LX->LX->Int-> (List (Int×Int32×(Int×LX×LX×Unit)×Unit))->Dp)(a f:Int)(m y:LX):Dp:=
(OO a f y).bind λaa=>
if(Bi aa 0)then
some (([]:LU),aa)
else
(Aac a y).bind λ(b,ab)=>
if(Bi ab 0)then
some (([]:LU),ab)
else
j7 a f m b 0 (List.replicate 6 ((0:Int),(0:Int32),((0:Int),(List.replicate 16 (0:Int32)),(List.replicate 16 (0:Int32)),()),()))
def JH:=JQ Yo
def sO:Option (Int×Int×UInt64×UInt64):=
some (10,10,16384,16384)
abbrev Ly:=Option ((List (Int×Int×UInt64×UInt64×Unit)))
def uR(a:List (Int×Int×UInt64×UInt64×Unit)):Ly:=
some a
def aD:=uR
def ZV(j6:(List (Int×Int×UInt64×UInt64×Unit))->Ly)(Th:Int-> (List (Int×Int×UInt64×UInt64×Unit))->Ly)(b:Int)(a:List (Int×Int×UInt64×UInt64×Unit)):Ly:=
if(Cr b 6)then
(sO).bind λ(f,g,h,k)=>
(Ap a b).bind λ_=>
(Nz a b (f,g,h,k,())).bind λm=>
Th (Ad b 1) m
else
j6 a
def GO:Nat->Int-> (List (Int×Int×UInt64×UInt64×Unit))->Ly
|0,_,_=>none
|q+1,b,a=>ZV aD (GO q) b a
def HQ:=GO Ay
def JR(j4:Int-> (List (Int×Int×UInt64×UInt64×Unit))->Ly):Ly:=
j4 0 (List.replicate 6 ((0:Int),(0:Int),(0:UInt64),(0:UInt64),()))
def KE:=JR HQ
def Kg(b:LB)(a:Int):Option Int:=
if(((Cr a 0)||(Ez a 330000))||(Bi (Ac b) (Ail (Ad a 7) (GI.toZ (3:UInt64)).toNat)))then
some 8
else
if(Ez (Ev a 7) 0)then
(Ap b (Am (Ac b) 1)).bind λf=>
(Le (Om (Ev a 7) 0)).bind λ_=>
if(Bi (Ck f (GI.toZ (Ev a 7)).toNat) 0)then
some 8
else
some 0
else
some 0
def qP(a b:Int)(f g:UInt64):Option Int:=
if(!((geq (Fe (pP a 0) 24) a)&&((geq (Fe (pP b 0) 24) b)&&((geq (Fe f 68719476735) f)&&((geq (Fe g 68719476735) g)&&true)))))then
some 8
else
some 0
def bL:=qP
def OI(j4:Int->Int->UInt64->UInt64->Option Int)(a b:Int)(f g:UInt64):Option Int:=
(
(
j4 a b f g))
def bC:=OI bL
def OL(j3:Int->Int->UInt64->UInt64->Option Int)(a b:Int)(f g:UInt64):Option Int:=
(
(
j3 a b f g))
def VF:=OL bC
def NN(a f:Int)(g h:UInt64)(b:UInt32):Option (Int×UInt32):=
(Le (Om a 0)).bind λ_=>
if(geq (Ck b (GI.toZ a).toNat) 0)then
some (0,b)
else
(Le (Om a 0)).bind λ_=>
some (1,(Am b (Ea (1:UInt32) (GI.toZ a).toNat)))
def Fo(a:LB):Option (LB):=
(
(Dy ([]:LB) a).bind λb=>
some b)
def dC(a:LB)(b:Int):Option (LB×Int):=
(Fo a).bind λf=>
some (f,b)
abbrev Eh:=Option (LB×Int×Int)
def sZ(f:Int)(o:LB):Eh:=
some (o,f,0)
def fZ:=sZ
def vI(Bai:UInt64->Int->Int->LB->Eh)(b:UInt64)(a:Int)(m:UInt64)(h f:Int)(w:LB):Eh:=
(Le (Om (Fe h (Am 8 (Ev f 7))) 0)).bind λ_=>
Bai (Ck m (GI.toZ (Fe h (Am 8 (Ev f 7)))).toNat) (Am h (Fe h (Am 8 (Ev f 7)))) (Ad f (Fe h (Am 8 (Ev f 7)))) w
def gL Bai:=vI Bai
def gS(j19:UInt64->Int->Int->LB->Eh)(b:UInt64)(a:Int)(m:UInt64)(h f:Int)(u:LB):Eh:=
(Ap u (Am (Ac u) 1)).bind λ_=>
(Le (Om (Fe h (Am 8 (Ev f 7))) 0)).bind λ_=>
(Le (Om (Ev f 7) 0)).bind λ_=>
(Ap u (Am (Ac u) 1)).bind λad=>
(Ap u (Am (Ac u) 1)).bind λ_=>
Option.bind (Nz u (Am (Ac u) 1) (wU ad (Ea (Af (Ev m (Am (Ea (1:UInt64) (GI.toZ (Fe h (Am 8 (Ev f 7)))).toNat) 1)):UInt8) (GI.toZ (Ev f 7)).toNat))) λw=>
j19 m h f w
def TP Bai b a:=gS (gL Bai b a) b a
def TX(j18:UInt64->Int->Int->LB->Eh)(j21:Int->LB->Eh)(b:UInt64)(a:Int)(m:UInt64)(h f:Int)(o:LB):Eh:=
if(Ez h 0)then
if(geq (Ev f 7) 0)then
(Dy o ([(0:UInt8)]:LB)).bind λab=>
j18 m h f ab
else
j18 m h f o
else
j21 f o
def Ry(b:UInt64)(a:Int):Nat->UInt64->Int->Int->LB->Eh
|0,_,_,_,_=>none
|q+1,m,h,f,o=>TX (TP (Ry b a q) b a) fZ b a m h f o
def uJ b a:=Ry b a Ay
def Ajn(g:Int)(p:LB):Eh:=
some (p,g,0)
def tV:=Ajn
def Aic(Baj:UInt64->Int->Int->LB->Eh)(b:UInt64)(a:Int)(n:UInt64)(k g:Int)(y:LB):Eh:=
(Le (Om (Fe k (Am 8 (Ev g 7))) 0)).bind λ_=>
Baj (Ck n (GI.toZ (Fe k (Am 8 (Ev g 7)))).toNat) (Am k (Fe k (Am 8 (Ev g 7)))) (Ad g (Fe k (Am 8 (Ev g 7)))) y
def tR Baj:=Aic Baj
def vC(j26:UInt64->Int->Int->LB->Eh)(b:UInt64)(a:Int)(n:UInt64)(k g:Int)(v:LB):Eh:=
(Ap v (Am (Ac v) 1)).bind λ_=>
(Le (Om (Fe k (Am 8 (Ev g 7))) 0)).bind λ_=>
(Le (Om (Ev g 7) 0)).bind λ_=>
(Ap v (Am (Ac v) 1)).bind λae=>
(Ap v (Am (Ac v) 1)).bind λ_=>
Option.bind (Nz v (Am (Ac v) 1) (wU ae (Ea (Af (Ev n (Am (Ea (1:UInt64) (GI.toZ (Fe k (Am 8 (Ev g 7)))).toNat) 1)):UInt8) (GI.toZ (Ev g 7)).toNat))) λy=>
j26 n k g y
def tK Baj b a:=vC (tR Baj b a) b a
def uM(j25:UInt64->Int->Int->LB->Eh)(j28:Int->LB->Eh)(b:UInt64)(a:Int)(n:UInt64)(k g:Int)(p:LB):Eh:=
if(Ez k 0)then
if(geq (Ev g 7) 0)then
(Dy p ([(0:UInt8)]:LB)).bind λw=>
j25 n k g w
else
j25 n k g p
else
j28 g p
def eS(b:UInt64)(a:Int):Nat->UInt64->Int->Int->LB->Eh
|0,_,_,_,_=>none
|q+1,n,k,g,p=>uM (tK (eS b a q) b a) tV b a n k g p
def uN b a:=eS b a Ay
def lB(j15:UInt64->Int->UInt64->Int->Int->LB->Eh)(j22:UInt64->Int->UInt64->Int->Int->LB->Eh)(ac:LB)(aa:Int)(b:UInt64)(a:Int):Eh:=
(Kg ac aa).bind λaf=>
if(Bi af 0)then
some (([]:LB),0,8)
else
if((Cr a 0)||(Ez a 64))then
some (([]:LB),0,2)
else
if(Cr a 64)then
(Le (Om a 0)).bind λ_=>
if(Bi (Ck b (GI.toZ a).toNat) 0)then
some (([]:LB),0,16)
else
if(Ez (Ad aa a) 330000)then
some (([]:LB),0,18)
else
(dC ac aa).bind λ(ag,ah)=>
j15 b a b a ah ag
else
if(Ez (Ad aa a) 330000)then
some (([]:LB),0,18)
else
(dC ac aa).bind λ(ab,ai)=>
j22 b a b a ai ab
def XM:=lB uJ uN
def BE(b:UInt32)(a:Int):Option Bool:=
(Le (Om a 0)).bind λ_=>
some (Om (Ck b (GI.toZ a).toNat) 48)
def fR(a:Int):Option (Int×Int):=
if((Cr a 0)||(Ez a 48))then
some (0,2)
else
some ((Fe (Ad a 1) 48),0)
def ZI(b:LB)(f a:Int):Option (LB×Int×Int):=
(Kg b f).bind λg=>
if(Bi g 0)then
some (([]:LB),0,g)
else
(fR a).bind λ(k,h)=>
if(Bi h 0)then
some (([]:LB),0,h)
else
(Le (Om a 0)).bind λ_=>
(XM b f (Am (Ea (1:UInt64) (GI.toZ a).toNat) 1) k).bind λ(m,n,o)=>
some (m,n,o)
abbrev fQ:=Option (LB×Int×Int)
def bB(b:LB)(f h:Int)(k:UInt32)(m:Int):fQ:=
(ZI b f h).bind λ(p,u,n)=>
if(Bi n 0)then
some (([]:LB),0,n)
else
(XM p u (Af k:UInt64) m).bind λ(v,w,y)=>
some (v,w,y)
def OM:=bB
def bA(j2:LB->Int->Int->UInt32->Int->fQ)(b:LB)(f:Int)(g:UInt32)(a:Int):fQ:=
(Kg b f).bind λo=>
if(Bi o 0)then
some (([]:LB),0,o)
else
if((Cr a 0)||(Ez a 24))then
some (([]:LB),0,2)
else
(Le (Om a 0)).bind λ_=>
(Le (Om a 0)).bind λ_=>
(BE g a).bind λaa=>
if aa then
j2 b f 48 g 32
else
j2 b f (Af (Ck g (GI.toZ a).toNat):Int) (Ev g (Am (Ea (1:UInt32) (GI.toZ a).toNat) 1)) a
def iA:=bA OM
abbrev Jz:=Option (LB×Int×Int×Int×UInt64×UInt64×Int)
def HE(k u n:Int)(a:UInt64)(b:UInt32)(o:UInt64)(m:LB):Jz:=
(
(
some (m,k,u,n,(Ad a (Am (Af b:UInt64) (Ck a (GI.toZ (4:UInt64)).toNat))),o,0)))
def WS:=HE
def bI(j10:Int->Int->Int->UInt64->UInt32->UInt64->LB->Jz)(b:UInt32)(k n:Int)(a o:UInt64)(m:LB)(u:Int):Jz:=
j10 k u n a b o m
def aX:=bI WS
def bP(j9:UInt32->Int->Int->UInt64->UInt64->LB->Int->Jz)(b:UInt32)(f:Int)(a:UInt64)(k:Int)(m:LB)(n:Int)(o:UInt64):Jz:=
if(Ez f 0)then
(Le (Om f 0)).bind λ_=>
if(Cr (Ad a (Am (Af b:UInt64) (Ck a (GI.toZ (4:UInt64)).toNat))) (Ea (16:UInt64) (GI.toZ f).toNat))then
j9 b k n a o m (Am f 1)
else
if(Cr f 24)then
(Le (Om f 0)).bind λ_=>
if(Ez (Ad a (Am (Af b:UInt64) (Ck a (GI.toZ (4:UInt64)).toNat))) (Ea (32:UInt64) (GI.toZ f).toNat))then
j9 b k n a o m (Ad f 1)
else
j9 b k n a o m f
else
j9 b k n a o m f
else
if(Cr f 24)then
(Le (Om f 0)).bind λ_=>
if(Ez (Ad a (Am (Af b:UInt64) (Ck a (GI.toZ (4:UInt64)).toNat))) (Ea (32:UInt64) (GI.toZ f).toNat))then
j9 b k n a o m (Ad f 1)
else
j9 b k n a o m f
else
j9 b k n a o m f
def CQ:=bP aX
def bJ(j8:UInt32->Int->UInt64->Int->LB->Int->UInt64->Jz)(b:UInt32)(f h:Int)(a g:UInt64)(y k:Int)(m:LB):Jz:=
if(Bi y 0)then
some (([]:LB),0,0,0,0,0,y)
else
(NN f h a g b).bind λ(ag,p)=>
if(geq ag 1)then
if(Ez h 0)then
(Le (Om h 0)).bind λ_=>
if(Cr (Ad g (Am (Af p:UInt64) (Ck g (GI.toZ (4:UInt64)).toNat))) (Ea (16:UInt64) (GI.toZ h).toNat))then
j8 b f a k m (Am h 1) (Ad g (Am (Af p:UInt64) (Ck g (GI.toZ (4:UInt64)).toNat)))
else
if(Cr h 24)then
(Le (Om h 0)).bind λ_=>
if(Ez (Ad g (Am (Af p:UInt64) (Ck g (GI.toZ (4:UInt64)).toNat))) (Ea (32:UInt64) (GI.toZ h).toNat))then
j8 b f a k m (Ad h 1) (Ad g (Am (Af p:UInt64) (Ck g (GI.toZ (4:UInt64)).toNat)))
else
j8 b f a k m h (Ad g (Am (Af p:UInt64) (Ck g (GI.toZ (4:UInt64)).toNat)))
else
j8 b f a k m h (Ad g (Am (Af p:UInt64) (Ck g (GI.toZ (4:UInt64)).toNat)))
else
if(Cr h 24)then
(Le (Om h 0)).bind λ_=>
if(Ez (Ad g (Am (Af p:UInt64) (Ck g (GI.toZ (4:UInt64)).toNat))) (Ea (32:UInt64) (GI.toZ h).toNat))then
j8 b f a k m (Ad h 1) (Ad g (Am (Af p:UInt64) (Ck g (GI.toZ (4:UInt64)).toNat)))
else
j8 b f a k m h (Ad g (Am (Af p:UInt64) (Ck g (GI.toZ (4:UInt64)).toNat)))
else
j8 b f a k m h (Ad g (Am (Af p:UInt64) (Ck g (GI.toZ (4:UInt64)).toNat)))
else
j8 b f a k m h g
def OH:=bJ CQ
def bY(j7:UInt32->Int->Int->UInt64->UInt64->Int->Int->LB->Jz)(b:UInt32)(v:LB)(w f h:Int)(a g:UInt64):Jz:=
(NN f h a g b).bind λ(ad,ae)=>
(XM v w (Af ad:UInt64) 1).bind λ(aa,ab,ac)=>
if((geq ac 0)&&(geq ad 0))then
(XM aa ab (Af ae:UInt64) f).bind λ(ah,ai,aj)=>
j7 b f h a g aj ai ah
else
if(geq ac 0)then
(iA aa ab ae h).bind λ(ak,al,am)=>
j7 b f h a g am al ak
else
j7 b f h a g ac ab aa
def aS:=bY OH
def bV(j6:UInt32->LB->Int->Int->Int->UInt64->UInt64->Jz)(v:LB)(w f h:Int)(a g:UInt64)(b:UInt32):Jz:=
(Kg v w).bind λan=>
if(Bi an 0)then
some (([]:LB),0,0,0,0,0,8)
else
(VF f h a g).bind λao=>
if(Bi ao 0)then
some (([]:LB),0,0,0,0,0,8)
else
j6 b v w f h a g
def iG:=bV aS
abbrev Cj:=Option (UInt32×Int)
def mT(h:UInt32):Cj:=
some (h,0)
def XH:=mT
def KH(j30:UInt32->Cj)(Bks:UInt32->Int->Cj)(a:LB)(b:LU)(h:UInt32)(m:Int):Cj:=
if(Cr m (Ac a))then
(Ap a m).bind λp=>
(Ap b (GI.toZ (Zy (Af h:UInt8) p))).bind λ_=>
(Ap b (GI.toZ (Zy (Af h:UInt8) p))).bind λu=>
Bks (Zy (Ck h (GI.toZ (8:UInt64)).toNat) u) (Ad m 1)
else
j30 h
def Vf(a:LB)(b:LU):Nat->UInt32->Int->Cj
|0,_,_=>none
|q+1,h,m=>KH XH (Vf a b q) a b h m
def WB a b:=Vf a b Ay
def UY(j28:LB->LU->UInt32->Int->Cj)(f:UInt32)(a:LB)(b:LU):Cj:=
j28 a b f 0
def WK:=UY WB
def WQ(j27:UInt32->LB->LU->Cj)(f:UInt32)(a:LB)(b:LU):Cj:=
j27 f a b
def JI:=WQ WK
def nO(Po:Int->LU->Cj)(f:UInt32)(a:LB)(g:Int)(o:LU):Cj:=
Po (Ad g 1) o
def XG Po:=nO Po
def YN(j24:Int->LU->Cj)(f:UInt32)(a:LB)(g:Int)(k:UInt32)(b:LU):Cj:=
(Ap b g).bind λ_=>
(Nz b g k).bind λo=>
j24 g o
def II Po f a:=YN (XG Po f a) f a
def HY(j23:Int->UInt32->LU->Cj)(Ap8:UInt32->Int->Cj)(f:UInt32)(a:LB)(g:Int)(b:LU)(k:UInt32)(n:Int):Cj:=
if(Cr n 8)then
Ap8 (Zy (Ck k (GI.toZ (1:UInt64)).toNat) (Bn 3988292384 (Ev k 1))) (Ad n 1)
else
j23 g k b
def Va(Po:Int->LU->Cj)(f:UInt32)(a:LB)(g:Int)(b:LU):Nat->UInt32->Int->Cj
|0,_,_=>none
|q+1,k,n=>HY (II Po f a) (Va Po f a g b q) f a g b k n
def VK Po f a g b:=Va Po f a g b Ay
def JZ(j21:Int->LU->UInt32->Int->Cj)(j26:UInt32->LB->LU->Cj)(f:UInt32)(a:LB)(g:Int)(b:LU):Cj:=
if(Cr g 256)then
j21 g b (Af g:UInt32) 0
else
j26 f a b
def Qe(f:UInt32)(a:LB):Nat->Int->LU->Cj
|0,_,_=>none
|q+1,g,b=>JZ (VK (Qe f a q) f a) JI f a g b
def WC f a:=Qe f a Ay
def bZ(j16:UInt32->LB->Int->LU->Cj)(f:UInt32)(a:LB):Cj:=
if(Ez (Ac a) 100000)then
some (0,4)
else
j16 f a 0 (List.replicate 256 (0:UInt32))
def iO:=bZ WC
def AR(b:LB):Option (UInt32×Int):=
(iO 4294967295 b).bind λ(f,a)=>
if(Bi a 0)then
some (0,a)
else
some ((Ae0 f),0)
def Aan(b:UInt64)(a:Int):Option Bool:=
if(geq a 8)then
some true
else
(Le (Om (Bn 8 a) 0)).bind λ_=>
some (geq (Ck b (GI.toZ (Bn 8 a)).toNat) 0)
abbrev ER:=Option (LB×Int)
def yF(a:LB):ER:=
some (a,0)
def nA:=yF
def aJ(j6:LB->ER)(Th:Int->LB->ER)(f:UInt64)(g:LB)(b:Int)(a:LB):ER:=
if(Cr b (Ac g))then
(Le (Om (Bn 8 b) 0)).bind λ_=>
(Ap a b).bind λ_=>
(Nz a b (Af (Ck f (GI.toZ (Bn 8 b)).toNat):UInt8)).bind λk=>
Th (Ad b 1) k
else
j6 a
def FK(f:UInt64)(g:LB):Nat->Int->LB->ER
|0,_,_=>none
|q+1,b,a=>aJ nA (FK f g q) f g b a
def lR f g:=FK f g Ay
def nH(j4:UInt64->LB->Int->LB->ER)(f:UInt64)(h:Int):ER:=
if((Cr h 1)||(Ez h 8))then
some (([]:LB),2)
else
(Aan f h).bind λm=>
if(!m)then
some (([]:LB),16)
else
(mkI h (0:UInt8)).bind λg=>
(Le (geq h h)).bind λ_=>
j4 f g 0 g
def CU:=nH lR
def TV(f:LB):Option (LB):=
some f
def Yj:=TV
def Gj(j16:LB->Option (LB))(Ap9:Int->LB->Option (LB))(a:List LB)(g:Int)(f:LB):Option (LB):=
if(Cr g (Ac a))then
(Ap a g).bind λo=>
(Dy f o).bind λp=>
Ap9 (Ad g 1) p
else
j16 f
def En(a:List LB):Nat->Int->LB->Option (LB)
|0,_,_=>none
|q+1,g,f=>Gj Yj (En a q) a g f
def Ox a:=En a Ay
def Oq(j14:(List LB)->Int->LB->Option (LB))(a:List LB)(k:LB):Option (LB):=
j14 a 0 k
def Jn:=Oq Ox
def Pc(j13:(List LB)->LB->Option (LB))(b:Int)(a:List LB):Option (LB):=
if(Ez (Am b (Am (0:Int) (0:Int))) 0)then
(jH 0 0 0).bind λ_=>
(mkI (Am b (Am (0:Int) (0:Int))) (0:UInt8)).bind λu=>
(Dy ([]:LB) u).bind λm=>
(jH (Ac m) 0 0).bind λ_=>
j13 a (YQ m 0 ((0:Int)-(0:Int)))
else
j13 a ([]:LB)
def Oo:=Pc Jn
def Oz(j12:Int-> (List LB)->Option (LB))(a:List LB)(b:Int):Option (LB):=
if(Cr b 0)then
none
else
j12 b a
def Oy:=Oz Oo
def Gy(j11:(List LB)->Int->Option (LB))(bk9:Int->Int->Option (LB))(a:List LB)(b h:Int):Option (LB):=
if(Cr h (Ac a))then
(Ap a h).bind λn=>
if(Cr (Ad b (Ac n)) 0)then
none
else
bk9 (Ad b (Ac n)) (Ad h 1)
else
j11 a b
def Ew(a:List LB):Nat->Int->Int->Option (LB)
|0,_,_=>none
|q+1,b,h=>Gy Oy (Ew a q) a b h
def Pr a:=Ew a Ay
def Qa(j9:(List LB)->Int->Int->Option (LB))(a:List LB):Option (LB):=
j9 a 0 0
def Nn:=Qa Pr
abbrev Bv:=Option (LB×Int)
def YJ(u:Int)(p:LB):Bv:=
(AR p).bind λ(af,ac)=>
if(Bi ac 0)then
some (([]:LB),ac)
else
(CU (Af af:UInt64) 4).bind λ(m,h)=>
if(Bi h 0)then
some (([]:LB),h)
else
(Nn ([p,m]:List LB)).bind λag=>
some (ag,0)
def EM:=YJ
def WG(iR:Int-> (List (Int×Int×UInt64×UInt64×Unit))->Int->LB->Bv)(a:LU)(b f g:Int)(k:List (Int×Int×UInt64×UInt64×Unit))(n:Int)(v:LB):Bv:=
iR (Ad g 1) k n v
def ED iR:=WG iR
def XL(Afb:Int->Int->LB->Bv)(h:Int)(a:LU)(g b f:Int)(k:List (Int×Int×UInt64×UInt64×Unit))(m:LB)(o n:Int)(aa:LB):Bv:=
Afb (Ad o 1) (Ad n 1) aa
def DQ Afb:=XL Afb
def EE(j48:Int->Int->LB->Bv)(h:Int)(a:LU)(g b f:Int)(k:List (Int×Int×UInt64×UInt64×Unit))(m:LB)(o n:Int)(y:LB):Bv:=
(Ap m (Cv o 8)).bind λ_=>
(Ap m (Cv o 8)).bind λah=>
(Le (Om (Ic o 8) 0)).bind λ_=>
(Ap y (Cv n 8)).bind λ_=>
(Le (Om (Ic n 8) 0)).bind λ_=>
(Ap y (Cv n 8)).bind λai=>
(Ap y (Cv n 8)).bind λ_=>
Option.bind (Nz y (Cv n 8) (wU ai (Ea (Ev (Ck ah (GI.toZ (Ic o 8)).toNat) 1) (GI.toZ (Ic n 8)).toNat))) λaa=>
j48 o n aa
def Vu Afb h a g b f k m:=EE (DQ Afb h a g b f k m) h a g b f k m
def Wb(j47:Int->Int->LB->Bv)(j50:Int-> (List (Int×Int×UInt64×UInt64×Unit))->Int->LB->Bv)(a:LU)(b f h g:Int)(k:List (Int×Int×UInt64×UInt64×Unit))(m:LB)(o n:Int)(v:LB):Bv:=
if(Cr o h)then
if(geq (Ic n 8) 0)then
(Dy v ([(0:UInt8)]:LB)).bind λaj=>
j47 o n aj
else
j47 o n v
else
j50 g k n v
def Gv(iR:Int-> (List (Int×Int×UInt64×UInt64×Unit))->Int->LB->Bv)(a:LU)(b f h g:Int)(k:List (Int×Int×UInt64×UInt64×Unit))(m:LB):Nat->Int->Int->LB->Bv
|0,_,_,_=>none
|q+1,o,n,v=>Wb (Vu (Gv iR a b f h g k m q) h a g b f k m) (ED iR a b f) a b f h g k m o n v
def YP iR a b f h g k m:=Gv iR a b f h g k m Ay
def Vz(j44:Int->Int-> (List (Int×Int×UInt64×UInt64×Unit))->LB->Int->Int->LB->Bv)(j52:Int->LB->Bv)(a:LU)(b f g:Int)(w:List (Int×Int×UInt64×UInt64×Unit))(u:Int)(p:LB):Bv:=
if(Cr g (Ac a))then
(Ap a g).bind λ_=>
(Ap a g).bind λak=>
(Le (Bi b 0)).bind λ_=>
(Ap w (Ic g b)).bind λ_=>
(Ap w (Ic g b)).bind λab=>
(iG ([]:LB) 0 ab.1 ab.2.1 ab.2.2.1 ab.2.2.2.1 ak).bind λ(m,h,al,am,an,ao,ad)=>
if(Bi ad 0)then
some (([]:LB),ad)
else
(Le (Bi b 0)).bind λ_=>
(Ap w (Ic g b)).bind λ_=>
(Nz w (Ic g b) (al,am,an,ao,())).bind λk=>
j44 h g k m 0 u p
else
j52 u p
def Jc(a:LU)(b f:Int):Nat->Int-> (List (Int×Int×UInt64×UInt64×Unit))->Int->LB->Bv
|0,_,_,_,_=>none
|q+1,g,w,u,p=>Vz (YP (Jc a b f q) a b f) EM a b f g w u p
def EB a b f:=Jc a b f Ay
def HK(j27:LU->Int->Int->Int-> (List (Int×Int×UInt64×UInt64×Unit))->Int->LB->Bv)(b f:Int)(ap aq:LX):Bv:=
(JH b f ap aq).bind λ(a,ae)=>
if(Bi ae 0)then
some (([]:LB),ae)
else
(KE).bind λar=>
j27 a b f 0 ar 0 ([]:LB)
def Ui:=HK EB
def Sc(a:Int)(b:LX):LI->Int->Option (List LX)
  |[],_=>some []
  |n::l,x=>Option.bind (Bk b x (Ad x (Bn n a))) λp=>Option.bind (Sc a b l (Ad x (Bn n a))) λps=>some (p::ps)
def Sy(a f:Int)(t:LX):List LX->List LB->Option (List LB×Int)
  |[],o=>some (o,0)
  |x::xs,o=>Option.bind (Ui a f t x) λy=>
    if(Bi y.2 0)=true then some ([],y.2)
    else Option.bind (Dy o [y.1]) λo'=>Sy a f t xs o'
def WY(a h:Int)(b:LX):Option (List LX):=
  Option.bind (Le (Bi a 0)) λ_=>Option.bind (AK h (Cv (Ac b) a)) λl=>Option.bind (Le (decide (Ac l.1<=17179869184))) λ_=>Sc a b l.1 0
def PQ(a f h:Int)(b:LX)(p:LB):Option (List LB×Int):=
  Option.bind (Ex a f h b) λe=>
    if(Bi e 0)=true then some ([],e)
    else Option.bind (Uf p) λt=>
      if(Bi t.2 0)=true then some ([],t.2)
      else Option.bind (WY a h b) λxs=>Sy a f t.1 xs []
def NT(b f a g h:Int):Option Bool:=
some (((((((geq b 1)||(geq b 2))&&(Ez f 0))&&(gle f 6))&&(Ez g 0))&&(gle g 1048576))&&(Ez h 0))
def Pm:=NT
def AV(j2:Int->Int->Int->Int->Int->Option Bool)(b f a g h:Int):Option Bool:=
if(geq a 8)then
if(geq a 8)then
j2 b f a g h
else
some false
else
if(geq a 16)then
if(geq a 16)then
j2 b f a g h
else
some false
else
if(geq a 24)then
j2 b f a g h
else
some false
def Sd:=AV Pm
def QF(k a m f b:Int):Option Bool:=
(Le (Bi a 0)).bind λ_=>
if(Ez b (Cv 4000 a))then
some false
else
(Jp f b).bind λ(g,h)=>
some ((geq h 0)&&(gle g 1000))
def On(a b f g h:Int):Option Int:=
(Sd a b f g h).bind λk=>
if(!k)then
some 8
else
(QF a b f g h).bind λm=>
if(!m)then
some 8
else
some 0
abbrev Pw:=Option (LB×Int)
def jM(a:LB):Pw:=
(AR a).bind λ(u,aa)=>
(CU (Af u:UInt64) 4).bind λ(n,v)=>
(Dy a n).bind λo=>
some (o,0)
def DK:=jM
def DM(j6:LB->Pw)(Th:Int->LB->Pw)(b f g h k m:Int)(a:LB):Pw:=
if(Cr m 5)then
(Ap ([b,f,g,h,k]:LI) m).bind λw=>
(Ap ([(2:Int),(2:Int),(2:Int),(4:Int),(4:Int)]:LI) m).bind λy=>
(CU (Af w:UInt64) y).bind λ(n,v)=>
(Dy a n).bind λo=>
Th (Ad m 1) o
else
j6 a
def Nt(b f g h k:Int):Nat->Int->LB->Pw
|0,_,_=>none
|q+1,m,a=>DM DK (Nt b f g h k q) b f g h k m a
def SB b f g h k:=Nt b f g h k Ay
def SD(j4:Int->Int->Int->Int->Int->Int->LB->Pw)(b f g h k:Int):Pw:=
(On b f g h k).bind λp=>
if(Bi p 0)then
some (([]:LB),p)
else
j4 b f g h k 0 ([(84:UInt8),(84:UInt8),(65:UInt8),(49:UInt8)]:LB)
def TO:=SD SB
def vR(a:LB):Option (UInt64×Int):=
if(Ez (Ac a) 64)then
some (0,2)
else
(eL a).bind λ(b,f)=>
some (b,0)
def IK(b:LB):Option (LB×Int):=
(vR b).bind λ(f,a)=>
if(Bi a 0)then
some (([]:LB),a)
else
(CU f 8).bind λ(g,h)=>
some (g,h)
def Adb:Option Int:=
some 0
def lS:=Adb
def IV(j6:Option Int)(Th:Int->Int->Option Int)(a:LI)(f b:Int):Option Int:=
if(Cr b (Ac a))then
(Ap a b).bind λg=>
if((Cr g 5)||(Ez g f))then
some 8
else
Th (Am f g) (Ad b 1)
else
j6
def Uw(a:LI):Nat->Int->Int->Option Int
|0,_,_=>none
|q+1,f,b=>IV lS (Uw a q) a f b
def VW a:=Uw a Ay
def GK(j4:LI->Int->Int->Option Int)(a:LI):Option Int:=
if((geq (Ac a) 0)||(Ez (Ac a) 1000))then
some 8
else
j4 a 100000 0
def Rn:=GK VW
abbrev Is:=Option (LB×Int)
def zT(g:LB):Is:=
some (g,0)
def jE:=zT
def SC(j14:LB->Is)(b:LB):Is:=
(AR b).bind λ(m,u)=>
(CU (Af m:UInt64) 4).bind λ(n,v)=>
(Dy b n).bind λg=>
j14 g
def RS:=SC jE
def jJ(bk8:Int->LB->Is)(a:LI)(f:Int)(h:LB):Is:=
bk8 (Ad f 1) h
def RH bk8:=jJ bk8
def GQ(j11:Int->LB->Is)(j13:LB->Is)(a:LI)(f:Int)(b:LB):Is:=
if(Cr f (Ac a))then
(Ap a f).bind λo=>
(CU (Af o:UInt64) 4).bind λ(p,w)=>
(Dy b p).bind λh=>
j11 f h
else
j13 b
def Ul(a:LI):Nat->Int->LB->Is
|0,_,_=>none
|q+1,f,b=>GQ (RH (Ul a q) a) RS a f b
def lV a:=Ul a Ay
def WR(j8:LI->Int->LB->Is)(a:LI):Is:=
(Rn a).bind λk=>
if(Bi k 0)then
some (([]:LB),k)
else
j8 a 0 ([]:LB)
def ZP:=WR lV
def cC(a:LB):Option Int:=
some (Ac a)
def Abu(a:LB):Option (LB):=
some a
def nQ:=Abu
def JK(j6:LB->Option (LB))(Th:Int->LB->Option (LB))(b:List LB)(f:Int)(a:LB):Option (LB):=
if(Cr f (Ac b))then
(Ap b f).bind λg=>
(Dy a g).bind λh=>
Th (Ad f 1) h
else
j6 a
def Uv(b:List LB):Nat->Int->LB->Option (LB)
|0,_,_=>none
|q+1,f,a=>JK nQ (Uv b q) b f a
def mN b:=Uv b Ay
def lH(j4:(List LB)->Int->LB->Option (LB))(b:List LB):Option (LB):=
j4 b 0 ([]:LB)
def mJ:=lH mN
abbrev Fv:=Option (LB×Int)
def iT(k:Int)(a:List LB)(b f n:LB):Fv:=
if(Bi k 0)then
some (([]:LB),k)
else
(Dy ([b,f,n]:List LB) a).bind λm=>
(mJ m).bind λad=>
some (ad,0)
def RM:=iT
def RF(j14:Int-> (List LB)->LB->LB->LB->Fv)(h:LI)(a:List LB)(b f:LB):Fv:=
(ZP h).bind λ(n,k)=>
j14 k a b f n
def Ws:=RF RM
def jA(bk9:Int->LI->Fv)(a:List LB)(b f:LB)(g:Int)(m:LI):Fv:=
bk9 (Ad g 1) m
def SK bk9:=jA bk9
def GU(j11:Int->LI->Fv)(j13:LI-> (List LB)->LB->LB->Fv)(a:List LB)(b f:LB)(g:Int)(h:LI):Fv:=
if(Cr g (Ac a))then
(Ap a g).bind λ_=>
(Ap a g).bind λae=>
(cC ae).bind λk=>
(Ap h g).bind λ_=>
(Nz h g k).bind λm=>
j11 g m
else
j13 h a b f
def Uy(a:List LB)(b f:LB):Nat->Int->LI->Fv
|0,_,_=>none
|q+1,g,h=>GU (SK (Uy a b f q) a b f) Ws a b f g h
def nG a b f:=Uy a b f Ay
def UT(j9:(List LB)->LB->LB->Int->LI->Fv)(a:List LB)(b f:LB):Fv:=
(mkI (Ac a) (0:Int)).bind λaf=>
(Le (geq (Ac a) (Ac a))).bind λ_=>
j9 a b f 0 af
def HI:=UT nG
def YE(j8:(List LB)->LB->LB->Fv)(p u v:Int)(w:LX)(o:LB):Fv:=
(ZS p u v w o).bind λ(y,ag,ah,ai,aj,aa)=>
if(Bi aa 0)then
some (([]:LB),aa)
else
(PQ p u v w o).bind λ(a,ab)=>
if(Bi ab 0)then
some (([]:LB),ab)
else
(TO y ag ah ai aj).bind λ(b,ac)=>
if(Bi ac 0)then
some (([]:LB),ac)
else
if(geq y 2)then
(IK o).bind λ(ak,al)=>
j8 a b ak
else
j8 a b ([]:LB)
def PX:=YE HI
def VR:Option (LB×Bool):=
(PX 1 8 8000 ([(0:Int32)]:LX) ([]:LB)).bind λ(a,b)=>
some (a,((geq b 0)&&(geq (Ac a) 36)))
def QC(a:LB):Option (LB×LB×Int×Int×Int×Int×Int×LI×Int×LB×Bool×Int×Int):=
if(Ez (Ac a) 64)then
some (([]:LB),([]:LB),0,0,0,0,0,([]:LI),0,([]:LB),false,0,2)
else
some (a,([]:LB),0,0,0,0,0,([]:LI),0,([]:LB),false,0,0)
def Mx(a:LB):Option (LB):=
(
(Dy ([]:LB) a).bind λb=>
some b)
def Gw(a:LI):Option (LI):=
(
(Dy ([]:LI) a).bind λb=>
some b)
def Ee(a b:LB)(f g h k m:Int)(n:LI)(o:Int)(p:LB)(u:Bool)(v:Int):Option (LB×LB×Int×Int×Int×Int×Int×LI×Int×LB×Bool×Int):=
(Mx b).bind λw=>
(Mx p).bind λy=>
(Gw n).bind λaa=>
some (a,w,f,g,h,k,m,aa,o,y,u,v)
def Dm(g h k a b:Int):Option (LI×Int):=
(On g h k a b).bind λf=>
if(Bi f 0)then
some (([]:LI),f)
else
(AK a b).bind λ(m,n)=>
some (m,n)
def Pz(a f g h k:Int)(b:LB):Option Int:=
if((b==([]:LB)) !=(geq a 1))then
some 26
else
some 0
def jG(w:Int)(o p:LB)(h b f k m:Int)(g:LI)(a:Int)(n:LB)(u:Bool)(v:Int):Option Bool:=
some (gle (Ac n) w)
def SH:=jG
def DJ(j8:Int->LB->LB->Int->Int->Int->Int->Int->LI->Int->LB->Bool->Int->Option Bool)(bk6:Int->Int->Option Bool)(y:LI)(o p:LB)(h b f k m:Int)(g:LI)(a:Int)(n:LB)(u:Bool)(v w aa:Int):Option Bool:=
if(Cr aa (Ac y))then
(Ap y aa).bind λac=>
bk6 (Ad w (Cv (Bn (Bn ac b) f) 8)) (Ad aa 1)
else
j8 w o p h b f k m g a n u v
def Re(y:LI)(o p:LB)(h b f k m:Int)(g:LI)(a:Int)(n:LB)(u:Bool)(v:Int):Nat->Int->Int->Option Bool
|0,_,_=>none
|q+1,w,aa=>DJ SH (Re y o p h b f k m g a n u v q) y o p h b f k m g a n u v w aa
def RG y o p h b f k m g a n u v:=Re y o p h b f k m g a n u v Ay
def SI(j6:LI->LB->LB->Int->Int->Int->Int->Int->LI->Int->LB->Bool->Int->Int->Int->Option Bool)(o p:LB)(h b f k m:Int)(g:LI)(a:Int)(n:LB)(u:Bool)(v:Int)(ab:LI):Option Bool:=
if(geq (Ac g) 0)then
some ((geq a 0)&&(geq (Ac n) 0))
else
(Rn g).bind λad=>
if((((Bi ad 0)||(Bi (Ac g) (Ac ab)))||(Cr a 0))||(Ez a (Ac ab)))then
some false
else
(Bk ab 0 a).bind λy=>
j6 y o p h b f k m g a n u v 0 0
def RN:=SI RG
def RP(j5:LB->LB->Int->Int->Int->Int->Int->LI->Int->LB->Bool->Int->LI->Option Bool)(o p:LB)(h b f k m:Int)(g:LI)(a:Int)(n:LB)(u:Bool)(v:Int):Option Bool:=
if((geq h 0)&&((geq b 0)&&((geq f 0)&&((geq k 0)&&((geq m 0)&&true)))))then
some (((geq (Ac g) 0)&&(geq a 0))&&(geq (Ac n) 0))
else
(Dm h b f k m).bind λ(ab,ae)=>
if(Bi ae 0)then
some false
else
(Pz h b f k m o).bind λaf=>
if(Bi af 0)then
some false
else
j5 o p h b f k m g a n u v ab
def BI:=RP RN
def Ii(a b:LB):Option Bool:=
some (a==b)
def Nv(b a:LB):Option Bool:=
if(Om (Ac b) (Ac a))then
(Bk b 0 (Ac a)).bind λf=>
(Ii f a).bind λg=>
some g
else
some false
abbrev Ny:=Option (Int×Int)
def wF(b:Int):Ny:=
some (b,0)
def eK:=wF
def AT(j6:Int->Ny)(Th:Int->Int->Ny)(a:LB)(b f:Int):Ny:=
if(Cr f (Ac a))then
(Ap a f).bind λg=>
if(Ez g 127)then
some (0,12)
else
Th (wU (Ea b (GI.toZ (7:UInt64)).toNat) (Af g:Int)) (Ad f 1)
else
j6 b
def Pj(a:LB):Nat->Int->Int->Ny
|0,_,_=>none
|q+1,b,f=>AT eK (Pj a q) a b f
def NB a:=Pj a Ay
def NI(j4:LB->Int->Int->Ny)(a:LB):Ny:=
if(Bi (Ac a) 4)then
some (0,2)
else
j4 a 0 0
def OC:=NI NB
abbrev Jq:=Option (Int×Int)
def jD(a:LB)(b:UInt8)(h:Int):Jq:=
if(Ez h 4000)then
some (0,4)
else
if(Cr (Ac a) h)then
some (0,24)
else
if(geq b 16)then
(Bk a (Am h 10) h).bind λk=>
(Bk k 0 3).bind λu=>
if(u !=([51,68,73]:LB))then
some (0,12)
else
(Bk k 3 (Ac k)).bind λv=>
(Bk a 3 10).bind λw=>
(Ii v w).bind λy=>
if(!y)then
some (0,12)
else
some (h,0)
else
some (h,0)
def DD:=jD
def RT(j8:LB->UInt8->Int->Jq)(a:LB)(g:Int)(b:UInt8):Jq:=
if(geq b 16)then
j8 a b (Ad (Ad g 10) 10)
else
j8 a b (Ad g 10)
def DA:=RT DD
def RL(j7:LB->Int->UInt8->Jq)(a:LB)(g:Int)(b:UInt8)(m:Bool):Jq:=
if m then
some (0,12)
else
j7 a g b
def RZ:=RL DA
def RQ(j6:LB->Int->UInt8->Bool->Jq)(a:LB)(f b:UInt8):Jq:=
(Bk a 6 10).bind λaa=>
(OC aa).bind λ(g,ab)=>
if(Bi ab 0)then
if true then
j6 a g b true
else
if(geq b 0)then
j6 a g b (!((Om f 2)&&(gle f 4)))
else
if(geq b 16)then
j6 a g b (!(geq f 4))
else
j6 a g b (!false)
else
(Ap a 4).bind λac=>
if(Bi ac 0)then
j6 a g b true
else
if(geq b 0)then
j6 a g b (!((Om f 2)&&(gle f 4)))
else
if(geq b 16)then
j6 a g b (!(geq f 4))
else
j6 a g b (!false)
def SM:=RQ RZ
def DN(j5:LB->UInt8->UInt8->Jq)(a:LB):Jq:=
(Nv a ([(73:UInt8),(68:UInt8),(51:UInt8)]:LB)).bind λn=>
if(!n)then
some (0,6)
else
if(Cr (Ac a) 10)then
some (0,24)
else
(Ap a 3).bind λf=>
(Ap a 5).bind λb=>
(
(
(
j5 a f b)))
def UC:=DN SM
abbrev EU:=Option (UInt64×Int)
def Ak1(b:UInt64):EU:=
some (b,0)
def zD:=Ak1
def ZU(j6:UInt64->EU)(Th:UInt64->Int->EU)(a:LB)(b:UInt64)(f:Int):EU:=
if(Cr f (Ac a))then
(Ap a f).bind λg=>
(Le (Om (Bn 8 f) 0)).bind λ_=>
Th (wU b (Ea (Af g:UInt64) (GI.toZ (Bn 8 f)).toNat)) (Ad f 1)
else
j6 b
def EZ(a:LB):Nat->UInt64->Int->EU
|0,_,_=>none
|q+1,b,f=>ZU zD (EZ a q) a b f
def kR a:=EZ a Ay
def nN(j4:LB->UInt64->Int->EU)(a:LB):EU:=
if((Cr (Ac a) 1)||(Ez (Ac a) 8))then
some (0,2)
else
j4 a 0 0
def mL:=nN kR
def eE(f:LB)(a b:Int):Option (UInt64×Int):=
if(((Cr b 1)||(Ez b 8))||(Cr a 0))then
some (0,2)
else
if(Ez a (Am (Ac f) b))then
some (0,24)
else
(Bk f a (Ad a b)).bind λg=>
(mL g).bind λ(h,k)=>
some (h,k)
def Aet(g:LB):Option (LB):=
some g
def rQ:=Aet
def eV(j6:LB->Option (LB))(Th:Int->LB->Option (LB))(a b:Int)(f:UInt64)(h:Int)(g:LB):Option (LB):=
if(Cr h (Ac ([(2000:UInt64),(Af (Ad a 32):UInt64),(Af b:UInt64),f,(0:UInt64),(0:UInt64)]:LQ)))then
(Ap ([(2000:UInt64),(Af (Ad a 32):UInt64),(Af b:UInt64),f,(0:UInt64),(0:UInt64)]:LQ) h).bind λ_=>
(Ap ([(2000:UInt64),(Af (Ad a 32):UInt64),(Af b:UInt64),f,(0:UInt64),(0:UInt64)]:LQ) h).bind λk=>
(CU k 4).bind λ(m,o)=>
(Dy g m).bind λn=>
Th (Ad h 1) n
else
j6 g
def EV(a b:Int)(f:UInt64):Nat->Int->LB->Option (LB)
|0,_,_=>none
|q+1,h,g=>eV rQ (EV a b f q) a b f h g
def rV a b f:=EV a b f Ay
def rS(j4:Int->Int->UInt64->Int->LB->Option (LB))(a b:Int)(f:UInt64):Option (LB):=
j4 a b f 0 ([(65:UInt8),(80:UInt8),(69:UInt8),(84:UInt8),(65:UInt8),(71:UInt8),(69:UInt8),(88:UInt8)]:LB)
def oS:=rS rV
def UI(b:LB)(g:UInt64):Option (Int×Int×Bool):=
(eE b 12 4).bind λ(a,m)=>
(eE b 16 4).bind λ(f,n)=>
if(((Cr a 32)||(Ez a 3032))||(Ez f 1000))then
some (0,0,false)
else
(oS (Am (Af a:Int) 32) (Af f:Int) g).bind λh=>
(Ii b h).bind λk=>
some ((Am (Af a:Int) 32),(Af f:Int),k)
def oW(a:LB):Option (Int×Int):=
(Nv a ([(65:UInt8),(80:UInt8),(69:UInt8),(84:UInt8),(65:UInt8),(71:UInt8),(69:UInt8),(88:UInt8)]:LB)).bind λf=>
if(!f)then
some (0,6)
else
if(Cr (Ac a) 32)then
some (0,24)
else
(Bk a 0 32).bind λg=>
(UI g 2684354560).bind λ(b,h,k)=>
if(!k)then
some (0,12)
else
if(Cr (Ac a) (Ad b 64))then
some (0,24)
else
(Bk a (Am (Ad b 64) 32) (Ad b 64)).bind λm=>
(oS b h 2147483648).bind λn=>
(Ii m n).bind λo=>
if(!o)then
some (0,12)
else
some ((Ad b 64),0)
def AG(a:LB):Option (Int×Int):=
(UC a).bind λ(f,b)=>
if(Bi b 6)then
some (f,b)
else
(oW a).bind λ(g,h)=>
some (g,h)
def Xf(b:List UInt8):Nat->Int->Option (Int×Int)
  |0,_=>none
  |q+1,x=>Option.bind (Bk b x (Ac b)) λs=>Option.bind (AG s) λr=>
    if geq r.2 (6:Int)=true then some (x,0)
    else if(geq r.2 (0:Int)&&Ez (Ad x r.1) (4000:Int))=true then some (0,4)
    else if Bi r.2 (0:Int)=true then some (0,r.2)
    else Xf b q (Ad x r.1)
def Jm(b:List UInt8):Option (Int×Int):=Xf b Ay 0
def Al(a:Int):Option (Bool×Int):=
some (false,a)
def Hs(b a:LB):Option Bool:=
if(Om (Ac b) (Ac a))then
(Bk b 0 (Ac a)).bind λf=>
some (f==a)
else
some false
def Jt(a b:LB):Option Bool:=
(Hs a b).bind λf=>
some f
def zV:Option Bool:=
some false
def jC:=zV
def Wu(j6:Option Bool)(Th:Int->Option Bool)(a:LB)(b:Int):Option Bool:=
if(Cr b 2)then
(Ap ([([73,68,51]:LB),([65,80,69,84,65,71,69,88]:LB)]:List LB) b).bind λf=>
if(Cr (Ac a) (Ac f))then
(Jt f a).bind λg=>
if g then
some true
else
Th (Ad b 1)
else
Th (Ad b 1)
else
j6
def Kq(a:LB):Nat->Int->Option Bool
|0,_=>none
|q+1,b=>Wu jC (Kq a q) a b
def RJ a:=Kq a Ay
def RO(j4:LB->Int->Option Bool)(a:LB):Option Bool:=
j4 a 0
def Rh:=RO RJ
abbrev Td:=Option (Int×Int×Int×Int×Int×Int)
def kX(a:LI):Td:=
(Ap a 0).bind λ_=>
(Ap a 0).bind λh=>
(Ap a 1).bind λ_=>
(Ap a 1).bind λk=>
(Ap a 2).bind λ_=>
(Ap a 2).bind λm=>
(Ap a 3).bind λ_=>
(Ap a 3).bind λn=>
(Ap a 4).bind λ_=>
(Ap a 4).bind λo=>
(Sd h k m n o).bind λp=>
if(!p)then
some (0,0,0,0,0,12)
else
(QF h k m n o).bind λu=>
if(!u)then
some (0,0,0,0,0,4)
else
some (h,k,m,n,o,0)
def HS:=kX
def JL(j6:LI->Td)(Th:Int->Int->LI->Td)(b:LB)(g f:Int)(a:LI):Td:=
if(Cr f 5)then
(Ap ([(2:Int),(2:Int),(2:Int),(4:Int),(4:Int)]:LI) f).bind λh=>
(eE b g h).bind λ(v,ae)=>
(Ap a f).bind λ_=>
(Nz a f (Af v:Int)).bind λw=>
Th (Ad g h) (Ad f 1) w
else
j6 a
def Pq(b:LB):Nat->Int->Int->LI->Td
|0,_,_,_=>none
|q+1,g,f,a=>JL HS (Pq b q) b g f a
def HT b:=Pq b Ay
def UP(j4:LB->Int->Int->LI->Td)(b:LB):Td:=
(Bk b 0 (Fe 4 (Ac b))).bind λy=>
(Jt ([84,84,65,49]:LB) y).bind λaa=>
if(!aa)then
some (0,0,0,0,0,12)
else
if(Cr (Ac b) 22)then
some (0,0,0,0,0,24)
else
(eE b 18 4).bind λ(ab,af)=>
(Bk b 0 18).bind λac=>
(AR ac).bind λ(ad,ag)=>
if(Bi (Af ad:UInt64) ab)then
some (0,0,0,0,0,22)
else
j4 b 4 0 (List.replicate 5 (0:Int))
def Nc:=UP HT
def Rq(a f:LB):Option (Bool×Int):=
(IK f).bind λ(b,g)=>
if((Bi g 0)||(Bi (Ac a) (Ac b)))then
some (false,2)
else
(Ii a b).bind λh=>
some (h,0)
abbrev Vy:=Option (LI×Int)
def qA(a:LI):Vy:=
(Rn a).bind λk=>
if(Bi k 0)then
some (([]:LI),12)
else
some (a,0)
def ON:=qA
def OG(j6:LI->Vy)(Th:Int->LI->Vy)(b:LB)(f:LI)(g:Int)(a:LI):Vy:=
if(Cr g (Ac f))then
(eE b (Bn 4 g) 4).bind λ(k,u)=>
(Ap a g).bind λ_=>
(Nz a g (Af k:Int)).bind λm=>
Th (Ad g 1) m
else
j6 a
def Xg(b:LB)(f:LI):Nat->Int->LI->Vy
|0,_,_=>none
|q+1,g,a=>OG ON (Xg b f q) b f g a
def bG b f:=Xg b f Ay
def bO(j4:LB->LI->Int->LI->Vy)(b:LB)(h:Int):Vy:=
if((Cr h 1)||(Ez h 1000))then
some (([]:LI),2)
else
if(Cr (Ac b) (Ad (Bn 4 h) 4))then
some (([]:LI),24)
else
(eE b (Bn 4 h) 4).bind λ(n,v)=>
(Bk b 0 (Bn 4 h)).bind λo=>
(AR o).bind λ(p,w)=>
if(Bi (Af p:UInt64) n)then
some (([]:LI),22)
else
(mkI h (0:Int)).bind λf=>
(Le (geq h h)).bind λ_=>
j4 b f 0 f
def EA:=bO bG
def CX(f a b g h:Int):Option (Int×Int):=
some (a,b)
def JY(a:LB):Option (LB×Int):=
if(Cr (Ac a) 5)then
some (([]:LB),24)
else
if(Ez (Ac a) 41254)then
some (([]:LB),4)
else
(Bk a 0 (Am (Ac a) 4)).bind λf=>
(AR f).bind λ(g,b)=>
if(Bi b 0)then
some (([]:LB),b)
else
(Bk a (Am (Ac a) 4) (Ac a)).bind λh=>
(mL h).bind λ(k,m)=>
if((Bi m 0)||(Bi k (Af g:UInt64)))then
some (([]:LB),22)
else
(Bk a 0 (Am (Ac a) 4)).bind λn=>
some (n,0)
def Aij(a:LB):Option (LB×Int×Int):=
if(Ez (Ac a) 41250)then
some (([]:LB),0,4)
else
(Fo a).bind λb=>
some (b,(Bn 8 (Ac a)),0)
def Ajv(g:UInt64):Option UInt64:=
some g
def yB:=Ajv
def mO(j6:UInt64->Option UInt64)(Th:UInt64->Int->Option UInt64)(b f:Int)(h:LB)(k:Int)(g:UInt64)(a:Int):Option UInt64:=
if(Cr a f)then
(Ap h (Ail (Ad b a) (GI.toZ (3:UInt64)).toNat)).bind λm=>
(Le (Om (Ev (Ad b a) 7) 0)).bind λ_=>
(Le (Om (Fe (Am f a) (Am 8 (Ev (Ad b a) 7))) 0)).bind λ_=>
(Le (Om a 0)).bind λ_=>
Th (wU g (Ea (Af (Ev (Ck m (GI.toZ (Ev (Ad b a) 7)).toNat) (Am (Ea (1:UInt8) (GI.toZ (Fe (Am f a) (Am 8 (Ev (Ad b a) 7)))).toNat) 1)):UInt64) (GI.toZ a).toNat)) (Ad a (Fe (Am f a) (Am 8 (Ev (Ad b a) 7))))
else
j6 g
def QO(b f:Int)(h:LB)(k:Int):Nat->UInt64->Int->Option UInt64
|0,_,_=>none
|q+1,g,a=>mO yB (QO b f h k q) b f h k g a
def zB b f h k:=QO b f h k Ay
def yM(j4:Int->Int->LB->Int->UInt64->Int->Option UInt64)(h:LB)(k b f:Int):Option UInt64:=
j4 b f h k 0 0
def tN:=yM zB
abbrev Ge:=Option (LB×Int×Int)
def tB(o:Int)(p:LB):Ge:=
some (p,o,0)
def fG:=tB
def vF(iR:Int->Int->LB->Ge)(a:Int)(g:LB)(f b h:Int)(u:LB):Ge:=
iR (Ad b 64) h u
def TW iR:=vF iR
def tI(Afb:UInt64->Int->Int->LB->Ge)(a b:Int)(g:LB)(f:Int)(k n:UInt64)(m h:Int)(w:LB):Ge:=
(Le (Om (Fe m (Am 8 (Ev h 7))) 0)).bind λ_=>
Afb (Ck n (GI.toZ (Fe m (Am 8 (Ev h 7)))).toNat) (Am m (Fe m (Am 8 (Ev h 7)))) (Ad h (Fe m (Am 8 (Ev h 7)))) w
def gI Afb:=tI Afb
def hH(j48:UInt64->Int->Int->LB->Ge)(a b:Int)(g:LB)(f:Int)(k n:UInt64)(m h:Int)(v:LB):Ge:=
(Ap v (Am (Ac v) 1)).bind λ_=>
(Le (Om (Fe m (Am 8 (Ev h 7))) 0)).bind λ_=>
(Le (Om (Ev h 7) 0)).bind λ_=>
(Ap v (Am (Ac v) 1)).bind λaa=>
(Ap v (Am (Ac v) 1)).bind λ_=>
Option.bind (Nz v (Am (Ac v) 1) (wU aa (Ea (Af (Ev n (Am (Ea (1:UInt64) (GI.toZ (Fe m (Am 8 (Ev h 7)))).toNat) 1)):UInt8) (GI.toZ (Ev h 7)).toNat))) λw=>
j48 n m h w
def TM Afb a b g f k:=hH (gI Afb a b g f k) a b g f k
def TU(j47:UInt64->Int->Int->LB->Ge)(j50:Int->Int->LB->Ge)(a:Int)(g:LB)(f b:Int)(k n:UInt64)(m h:Int)(u:LB):Ge:=
if(Ez m 0)then
if(geq (Ev h 7) 0)then
(Dy u ([(0:UInt8)]:LB)).bind λab=>
j47 n m h ab
else
j47 n m h u
else
j50 b h u
def Rp(iR:Int->Int->LB->Ge)(a:Int)(g:LB)(f b:Int)(k:UInt64):Nat->UInt64->Int->Int->LB->Ge
|0,_,_,_,_=>none
|q+1,n,m,h,u=>TU (TM (Rp iR a g f b k q) a b g f k) (TW iR a g f) a g f b k n m h u
def gT iR a g f b k:=Rp iR a g f b k Ay
def fY(j44:Int->UInt64->UInt64->Int->Int->LB->Ge)(j52:Int->LB->Ge)(a:Int)(g:LB)(f b o:Int)(p:LB):Ge:=
if(Cr b a)then
(tN g f b (Fe 64 (Am a b))).bind λk=>
j44 b k k (Fe 64 (Am a b)) o p
else
j52 o p
def AZ(a:Int)(g:LB)(f:Int):Nat->Int->Int->LB->Ge
|0,_,_,_=>none
|q+1,b,o,p=>fY (gT (AZ a g f q) a g f) fG a g f b o p
def eZ a g f:=AZ a g f Ay
def lD(j27:Int->LB->Int->Int->Int->LB->Ge)(g:LB)(f y a:Int):Ge:=
(Kg g f).bind λac=>
if(Bi ac 0)then
some (([]:LB),0,8)
else
if(((Cr y 0)||(Ez y a))||(Ez a f))then
some (([]:LB),0,2)
else
j27 a g f y 0 ([]:LB)
def lO:=lD eZ
def HN(g:LB)(b f a:Int):Option (UInt64×Int):=
(Kg g b).bind λh=>
if(Bi h 0)then
some (0,8)
else
if(((Cr a 0)||(Ez a 64))||(Cr f 0))then
some (0,2)
else
if(Ez f (Am b a))then
some (0,24)
else
(tN g b f a).bind λk=>
some (k,0)
def Ia(a:UInt64):Option Int:=
if(geq a 0)then
some 64
else
(Ap ([(0:UInt8),(1:UInt8),(56:UInt8),(2:UInt8),(57:UInt8),(49:UInt8),(28:UInt8),(3:UInt8),(61:UInt8),(58:UInt8),(42:UInt8),(50:UInt8),(38:UInt8),(29:UInt8),(17:UInt8),(4:UInt8),(62:UInt8),(47:UInt8),(59:UInt8),(36:UInt8),(45:UInt8),(43:UInt8),(51:UInt8),(22:UInt8),(53:UInt8),(39:UInt8),(33:UInt8),(30:UInt8),(24:UInt8),(18:UInt8),(12:UInt8),(5:UInt8),(63:UInt8),(55:UInt8),(48:UInt8),(27:UInt8),(60:UInt8),(41:UInt8),(37:UInt8),(16:UInt8),(46:UInt8),(35:UInt8),(44:UInt8),(21:UInt8),(52:UInt8),(32:UInt8),(23:UInt8),(11:UInt8),(54:UInt8),(26:UInt8),(40:UInt8),(15:UInt8),(34:UInt8),(20:UInt8),(31:UInt8),(10:UInt8),(25:UInt8),(14:UInt8),(19:UInt8),(9:UInt8),(13:UInt8),(8:UInt8),(7:UInt8),(6:UInt8)]:LB) (GI.toZ (Ck (Bn (Ev a (uT a)) 285870213051353865) (GI.toZ (58:UInt64)).toNat))).bind λb=>
some (Af b:Int)
abbrev Jw:=Option (Int×Int×Int)
def Aci:Jw:=
some (0,0,24)
def mB:=Aci
def qC(j10:Jw):Jw:=
j10
def qF:=qC mB
def bU(j9:Jw)(f a:Int):Jw:=
if(geq f 48)then
some (f,(Ad 0 (Ad a f)),0)
else
j9
def bN:=bU qF
def bF(j8:Int->Int->Jw)(f b a:Int):Jw:=
if(Cr f (Fe 48 (Am b a)))then
some (f,(Ad (Ad (0:Int) (1:Int)) (Ad a f)),0)
else
j8 f a
def aM:=bF bN
def aL(j7:Int->Int->Int->Jw)(h:Int)(k:UInt64)(a:Int)(g:LB)(b:Int):Jw:=
if(Bi h 0)then
some (0,0,h)
else
(Ia (Ae0 k)).bind λf=>
j7 f b a
def bX:=aL aM
def CZ(j6:Int->UInt64->Int->LB->Int->Jw)(g:LB)(b a:Int):Jw:=
(Kg g b).bind λm=>
if(Bi m 0)then
some (0,0,m)
else
if(Cr a 0)then
some (0,0,2)
else
if(Om a b)then
some (0,0,24)
else
(
(
(HN g b a (Fe 48 (Am b a))).bind λ(k,h)=>
j6 h k a g b))
def NH:=CZ bX
abbrev lX:=Option (UInt32×Int×Int)
def gU(a b f:Int)(g:LB)(h k:Int):lX:=
(HN g h b k).bind λ(m,n)=>
if(Bi n 0)then
some (0,0,n)
else
if(Cr f 48)then
(Le (Om a 0)).bind λ_=>
some ((wU (Ea (Af f:UInt32) (GI.toZ a).toNat) (Af m:UInt32)),(Ad b k),0)
else
(BE (Af m:UInt32) a).bind λu=>
if(!u)then
some (0,0,12)
else
some ((Af m:UInt32),(Ad b k),0)
def UB:=gU
def iE(j2:Int->Int->Int->LB->Int->Int->lX)(g:LB)(h v a:Int):lX:=
(Kg g h).bind λo=>
if(Bi o 0)then
some (0,0,o)
else
if((Cr a 0)||(Ez a 24))then
some (0,0,2)
else
(NH g h v).bind λ(f,b,p)=>
if(Bi p 0)then
some (0,0,p)
else
if(geq f 48)then
j2 a b f g h 32
else
j2 a b f g h a
def oZ:=iE UB
abbrev My:=Option (UInt32×Int×Int×Int×UInt64×UInt64×Int)
def qG(f:UInt32)(k w m:Int)(a n:UInt64):My:=
some (f,k,w,m,(Ad a (Am (Af f:UInt64) (Ck a (GI.toZ (4:UInt64)).toNat))),n,0)
def aU:=qG
def fF(j10:UInt32->Int->Int->Int->UInt64->UInt64->My)(f:UInt32)(k m:Int)(a n:UInt64)(w:Int):My:=
j10 f k w m a n
def gQ:=fF aU
def eU(j9:UInt32->Int->Int->UInt64->UInt64->Int->My)(f:UInt32)(k b:Int)(a:UInt64)(m:Int)(n:UInt64):My:=
if(Ez b 0)then
(Le (Om b 0)).bind λ_=>
if(Cr (Ad a (Am (Af f:UInt64) (Ck a (GI.toZ (4:UInt64)).toNat))) (Ea (16:UInt64) (GI.toZ b).toNat))then
j9 f k m a n (Am b 1)
else
if(Cr b 24)then
(Le (Om b 0)).bind λ_=>
if(Ez (Ad a (Am (Af f:UInt64) (Ck a (GI.toZ (4:UInt64)).toNat))) (Ea (32:UInt64) (GI.toZ b).toNat))then
j9 f k m a n (Ad b 1)
else
j9 f k m a n b
else
j9 f k m a n b
else
if(Cr b 24)then
(Le (Om b 0)).bind λ_=>
if(Ez (Ad a (Am (Af f:UInt64) (Ck a (GI.toZ (4:UInt64)).toNat))) (Ea (32:UInt64) (GI.toZ b).toNat))then
j9 f k m a n (Ad b 1)
else
j9 f k m a n b
else
j9 f k m a n b
def JB:=eU gQ
def fJ(j8:UInt32->Int->Int->UInt64->Int->UInt64->My)(b h:Int)(a g:UInt64)(f:UInt32)(k:Int):My:=
(NN b h a g f).bind λ(ad,o)=>
if(geq ad 1)then
if(Ez h 0)then
(Le (Om h 0)).bind λ_=>
if(Cr (Ad g (Am (Af o:UInt64) (Ck g (GI.toZ (4:UInt64)).toNat))) (Ea (16:UInt64) (GI.toZ h).toNat))then
j8 f k b a (Am h 1) (Ad g (Am (Af o:UInt64) (Ck g (GI.toZ (4:UInt64)).toNat)))
else
if(Cr h 24)then
(Le (Om h 0)).bind λ_=>
if(Ez (Ad g (Am (Af o:UInt64) (Ck g (GI.toZ (4:UInt64)).toNat))) (Ea (32:UInt64) (GI.toZ h).toNat))then
j8 f k b a (Ad h 1) (Ad g (Am (Af o:UInt64) (Ck g (GI.toZ (4:UInt64)).toNat)))
else
j8 f k b a h (Ad g (Am (Af o:UInt64) (Ck g (GI.toZ (4:UInt64)).toNat)))
else
j8 f k b a h (Ad g (Am (Af o:UInt64) (Ck g (GI.toZ (4:UInt64)).toNat)))
else
if(Cr h 24)then
(Le (Om h 0)).bind λ_=>
if(Ez (Ad g (Am (Af o:UInt64) (Ck g (GI.toZ (4:UInt64)).toNat))) (Ea (32:UInt64) (GI.toZ h).toNat))then
j8 f k b a (Ad h 1) (Ad g (Am (Af o:UInt64) (Ck g (GI.toZ (4:UInt64)).toNat)))
else
j8 f k b a h (Ad g (Am (Af o:UInt64) (Ck g (GI.toZ (4:UInt64)).toNat)))
else
j8 f k b a h (Ad g (Am (Af o:UInt64) (Ck g (GI.toZ (4:UInt64)).toNat)))
else
j8 f k b a h g
def TQ:=fJ JB
def iI(j7:Int->Int->UInt64->UInt64->UInt32->Int->My)(p:Int)(u:LB)(v b h:Int)(a g:UInt64):My:=
(HN u v p 1).bind λ(ae,aa)=>
if(Bi aa 0)then
some (0,0,0,0,0,0,aa)
else
if(geq ae 0)then
(HN u v (Ad p 1) b).bind λ(af,ab)=>
if(Bi ab 0)then
some (0,0,0,0,0,0,ab)
else
j7 b h a g (Af af:UInt32) (Ad (Ad p 1) b)
else
(oZ u v (Ad p 1) h).bind λ(y,ag,ac)=>
if(Bi ac 0)then
some (0,0,0,0,0,0,ac)
else
(Le (Om b 0)).bind λ_=>
if(Cr (Ad y (Ea (1:UInt32) (GI.toZ b).toNat)) y)then
some (0,0,0,0,0,0,12)
else
j7 b h a g (Ad y (Ea (1:UInt32) (GI.toZ b).toNat)) ag
def gB:=iI TQ
def gW(j6:Int->LB->Int->Int->Int->UInt64->UInt64->My)(u:LB)(v p b h:Int)(a g:UInt64):My:=
(Kg u v).bind λah=>
if(Bi ah 0)then
some (0,0,0,0,0,0,8)
else
(VF b h a g).bind λai=>
if(Bi ai 0)then
some (0,0,0,0,0,0,8)
else
j6 p u v b h a g
def NS:=gW gB
abbrev Cg:=Option (LU×Int×Int)
def qY(k:Int)(m:LU):Cg:=
some (m,k,0)
def US:=qY
def VT(Po:Int->Int-> (List (Int×Int×UInt64×UInt64×Unit))->LU->Cg)(a f:Int)(g:LB)(b k v:Int)(w:UInt32)(h:Int)(ag:List (Int×Int×UInt64×UInt64×Unit))(m:LU):Cg:=
(Dy m ([w]:LU)).bind λak=>
Po (Ad k v) (Ad h 1) ag ak
def DT Po:=VT Po
def Wk(j22:Int->Int->UInt32->Int-> (List (Int×Int×UInt64×UInt64×Unit))->LU->Cg)(a f:Int)(g:LB)(b k h y:Int)(w:UInt32)(v:Int)(n:List (Int×Int×UInt64×UInt64×Unit))(m:LU)(aa ab:Int)(ac ad:UInt64):Cg:=
if(Bi y 0)then
some (([]:LU),0,y)
else
(Le (Bi a 0)).bind λ_=>
(Ap n (Ic h a)).bind λ_=>
(Nz n (Ic h a) (aa,ab,ac,ad,())).bind λag=>
j22 k v w h ag m
def Wg Po a f g b:=Wk (DT Po a f g b) a f g b
def Vm(j21:Int->Int->Int->UInt32->Int-> (List (Int×Int×UInt64×UInt64×Unit))->LU->Int->Int->UInt64->UInt64->Cg)(j24:Int->LU->Cg)(a f:Int)(g:LB)(b k h:Int)(n:List (Int×Int×UInt64×UInt64×Unit))(m:LU):Cg:=
if(Cr h (Bn f a))then
(lO g b k (Fe (Ad k 81) b)).bind λ(ah,ae,af)=>
if(Bi af 0)then
some (([]:LU),0,af)
else
(Le (Bi a 0)).bind λ_=>
(Ap n (Ic h a)).bind λ_=>
(
(
(Ap n (Ic h a)).bind λp=>
(
(NS ah ae 0 p.1 p.2.1 p.2.2.1 p.2.2.2.1).bind λ(w,v,aa,ab,ac,ad,y)=>
j21 k h y w v n m aa ab ac ad)))
else
j24 k m
def Py(a f:Int)(g:LB)(b:Int):Nat->Int->Int-> (List (Int×Int×UInt64×UInt64×Unit))->LU->Cg
|0,_,_,_,_=>none
|q+1,k,h,n,m=>Vm (Wg (Py a f g b q) a f g b) US a f g b k h n m
def UW a f g b:=Py a f g b Ay
def VV(j16:Int->Int->LB->Int->Int->Int-> (List (Int×Int×UInt64×UInt64×Unit))->LU->Cg)(a f:Int)(g:LB)(b:Int)(o:List (Int×Int×UInt64×UInt64×Unit)):Cg:=
j16 a f g b 0 0 o ([]:LU)
def DZ:=VV UW
def WE(j15:Int->Int->LB->Int-> (List (Int×Int×UInt64×UInt64×Unit))->Cg)(Bak:Int-> (List (Int×Int×UInt64×UInt64×Unit))->Cg)(a f:Int)(g:LB)(b u:Int)(o:List (Int×Int×UInt64×UInt64×Unit)):Cg:=
if(Cr u 6)then
(sO).bind λ(al,ae,af,am)=>
(Ap o u).bind λ_=>
(Nz o u (al,ae,af,am,())).bind λan=>
Bak (Ad u 1) an
else
j15 a f g b o
def EK(a f:Int)(g:LB)(b:Int):Nat->Int-> (List (Int×Int×UInt64×UInt64×Unit))->Cg
|0,_,_=>none
|q+1,u,o=>WE DZ (EK a f g b q) a f g b u o
def Wh a f g b:=EK a f g b Ay
def JO(j13:Int->Int->LB->Int->Int-> (List (Int×Int×UInt64×UInt64×Unit))->Cg)(a f:Int)(g:LB)(b:Int):Cg:=
j13 a f g b 0 (List.replicate 6 ((0:Int),(0:Int),(0:UInt64),(0:UInt64),()))
def JV:=JO Wh
def BC(a:UInt32):Option Int32:=
some (Zy (Af (Ck a (GI.toZ (1:UInt64)).toNat):Int32) (uT (Af (Ev a 1):Int32)))
def lC(b:Int)(f g:LX)(a:Int32):Option (Int32×Int×LX×LX×Int):=
(YA b f g).bind λ(h,k)=>
if(Bi k 0)then
some (0,0,(List.replicate 16 (0:Int32)),(List.replicate 16 (0:Int32)),k)
else
(YO b f g (Ad a h) a).bind λ(m,n,o)=>
some ((Ad a h),m,n,o,0)
def Nu(a:Int)(b:Int32)(f:Int)(g h:LX)(o:Int32):Option (Int32×Int×Int32×Int×LX×LX×Int):=
(Zw a b f g h).bind λk=>
if(Bi k 0)then
some (0,0,0,0,(List.replicate 16 (0:Int32)),(List.replicate 16 (0:Int32)),k)
else
(Zv a b).bind λ(m,y)=>
(lC f g h o).bind λ(n,p,u,v,w)=>
(
some ((Ad n m),a,(Ad n m),p,u,v,w))
abbrev Ie:=Option (LX×Int)
def Aja(f:LX):Ie:=
some (f,0)
def tP:=Aja
def uS(cD:Int->LX->Ie)(b a:Int)(h:LX):Ie:=
cD (Ad a b) h
def fS cD:=uS cD
def TT(j20:Int->LX->Ie)(Afl:Int->LX->Ie)(b a g:Int)(h:LX):Ie:=
if(Om g 0)then
(Le (decide (0<= (Ad g 1)/\ (Ad g 1)<((Ad a b)-a)))).bind λ_=>
(Le (decide (0<=g/\g<((Ad a b)-a)))).bind λ_=>
(Ap h (a+(Ad g 1))).bind λo=>
(Ap h (a+g)).bind λp=>
(Le (decide (0<=g/\g<((Ad a b)-a)))).bind λ_=>
(Nz h (a+g) (Am o p)).bind λu=>
Afl (Am g 1) u
else
j20 a h
def AS(cD:Int->LX->Ie)(b a:Int):Nat->Int->LX->Ie
|0,_,_=>none
|q+1,g,h=>TT (fS cD b) (AS cD b a q) b a g h
def gC cD b a:=AS cD b a Ay
def iJ(j18:Int->Int->LX->Ie)(b a:Int)(k:LX):Ie:=
j18 a (Am (Am ((Ad a b)-a) 1) 1) k
def TS cD b:=iJ (gC cD b) b
def fT(j17:Int->LX->Ie)(j22:LX->Ie)(b a:Int)(f:LX):Ie:=
if(Cr a (Ac f))then
(jH (Ac f) a (Ad a b)).bind λ_=>
if(Ez (Am ((Ad a b)-a) 1) 0)then
(Le (decide (0<= (Am ((Ad a b)-a) 1)/\ (Am ((Ad a b)-a) 1)<((Ad a b)-a)))).bind λ_=>
Option.bind (Le (decide (0<= (Am (Am ((Ad a b)-a) 1) 1)/\ (Am (Am ((Ad a b)-a) 1) 1)<((Ad a b)-a)))) λ_=>
(Ap f (a+(Am ((Ad a b)-a) 1))).bind λv=>
(Ap f (a+(Am (Am ((Ad a b)-a) 1) 1))).bind λw=>
(Le (decide (0<= (Am ((Ad a b)-a) 1)/\ (Am ((Ad a b)-a) 1)<((Ad a b)-a)))).bind λ_=>
(Nz f (a+(Am ((Ad a b)-a) 1)) (Ad v (Cv w 2))).bind λy=>
j17 a y
else
j17 a f
else
j22 f
def Wa(b:Int):Nat->Int->LX->Ie
|0,_,_=>none
|q+1,a,f=>fT (TS (Wa b q) b) tP b a f
def fV b:=Wa b Ay
def oD(j12:Int->Int->LX->Ie)(b:Int)(m:LX):Ie:=
(eP b m).bind λn=>
if(Bi n 0)then
some (([]:LX),n)
else
(El m).bind λaa=>
j12 b 0 aa
def uB:=oD fV
abbrev Cn:=Option (LX×Int)
def SV(a b:Int)(k:LX):Cn:=
(uB a k).bind λ(ah,af)=>
if(Bi af 0)then
some (([]:LX),af)
else
(Zc b ah).bind λae=>
if(Bi ae 0)then
some (([]:LX),ae)
else
some (ah,0)
def Oj:=SV
def SP(Bak:Int-> (List (Int×Int32×(Int×LX×LX×Unit)×Unit))->LX->Cn)(a:Int)(f:LU)(b g:Int)(w:Int32)(u:Int)(h:List (Int×Int32×(Int×LX×LX×Unit)×Unit))(k:LX)(y:Int)(v:Int32)(aa:Int)(ab ac:LX):Cn:=
if(Bi u 0)then
some (([]:LX),u)
else
(Nz h (Ic g a) (y,v,(aa,ab,ac,()),())).bind λai=>
(Dy k ([w]:LX)).bind λaj=>
Bak (Ad g 1) ai aj
def BY Bak:=SP Bak
def Oe(j16:Int->Int32->Int-> (List (Int×Int32×(Int×LX×LX×Unit)×Unit))->LX->Int->Int32->Int->LX->LX->Cn)(j18:Int->Int->LX->Cn)(f:LU)(a b g:Int)(h:List (Int×Int32×(Int×LX×LX×Unit)×Unit))(k:LX):Cn:=
if(Cr g (Ac f))then
(Ap f g).bind λag=>
(Le (Bi a 0)).bind λ_=>
(Ap h (Ic g a)).bind λ_=>
(
(Ap h (Ic g a)).bind λm=>
(
(BC ag).bind λae=>
(
(Nu m.1 m.2.1 m.2.2.1.1 m.2.2.1.2.1 m.2.2.1.2.2.1 ae).bind λ(w,y,v,aa,ab,ac,u)=>
j16 g w u h k y v aa ab ac)))
else
j18 a b k
def Kl(f:LU)(a b:Int):Nat->Int-> (List (Int×Int32×(Int×LX×LX×Unit)×Unit))->LX->Cn
|0,_,_,_=>none
|q+1,g,h,k=>Oe (BY (Kl f a b q) a f b) Oj f a b g h k
def TA f a b:=Kl f a b Ay
def SS(j13:LU->Int->Int->Int-> (List (Int×Int32×(Int×LX×LX×Unit)×Unit))->LX->Cn)(f:LU)(a b:Int)(n:List (Int×Int32×(Int×LX×LX×Unit)×Unit)):Cn:=
j13 f a b 0 n ([]:LX)
def CB:=SS TA
def TC(j12:LU->Int->Int-> (List (Int×Int32×(Int×LX×LX×Unit)×Unit))->Cn)(Aqa:Int-> (List (Int×Int32×(Int×LX×LX×Unit)×Unit))->Cn)(f:LU)(a b:Int)(o:LX)(p:Int)(n:List (Int×Int32×(Int×LX×LX×Unit)×Unit)):Cn:=
if(Cr p 6)then
(xO b o).bind λ(ak,af,ae,al,am,v)=>
(Ap n p).bind λ_=>
(Nz n p (ak,af,(ae,al,am,()),())).bind λan=>
Aqa (Ad p 1) an
else
j12 f a b n
def BT(f:LU)(a b:Int)(o:LX):Nat->Int-> (List (Int×Int32×(Int×LX×LX×Unit)×Unit))->Cn
|0,_,_=>none
|q+1,p,n=>TC CB (BT f a b o q) f a b o p n
def Ts f a b o:=BT f a b o Ay
def EL(j10:LU->Int->Int->LX->Int-> (List (Int×Int32×(Int×LX×LX×Unit)×Unit))->Cn)(a b:Int)(o:LX)(f:LU):Cn:=
j10 f a b o 0 (List.replicate 6 ((0:Int),(0:Int32),((0:Int),(List.replicate 16 (0:Int32)),(List.replicate 16 (0:Int32)),()),()))
def Wq:=EL Ts
def Jv(a h:Int)(u:LX)(f:Int)(v:LB):Option (LX×Int):=
(Hl a h).bind λk=>
if(Bi k 0)then
some (([]:LX),k)
else
if(Cr f 1)then
some (([]:LX),2)
else
(Le (Bi a 0)).bind λ_=>
if(Ez f (Cv 4000 a))then
some (([]:LX),2)
else
(JY v).bind λ(w,m)=>
if(Bi m 0)then
some (([]:LX),m)
else
(Aij w).bind λ(n,b,o)=>
if(Bi o 0)then
some (([]:LX),o)
else
(JV a f n b).bind λ(y,g,p)=>
if(Bi p 0)then
some (([]:LX),p)
else
if(Om (Am b g) 8)then
some (([]:LX),12)
else
(HN n b g (Am b g)).bind λ(aa,ab)=>
if((Bi ab 0)||(Bi aa 0))then
some (([]:LX),12)
else
(Wq a h u y).bind λ(ac,ad)=>
some (ac,ad)
abbrev Dv:=Option (LB×Int)
def zU(g:LB):Dv:=
some (g,0)
def jI:=zU
def jK(Po:Int->LB->Dv)(b:Int)(a:LX)(f:Int)(h:LB):Dv:=
Po (Ad f 1) h
def RV Po:=jK Po
def DB(j28:Int->LB->Dv)(Aqb:Int->LB->Dv)(b:Int)(a:LX)(k:Int32)(f m:Int)(h:LB):Dv:=
if(Cr m (Cv b 8))then
(Le (Om (Bn 8 m) 0)).bind λ_=>
(Dy h ([(Af (Ck k (GI.toZ (Bn 8 m)).toNat):UInt8)]:LB)).bind λp=>
Aqb (Ad m 1) p
else
j28 f h
def Ko(Po:Int->LB->Dv)(b:Int)(a:LX)(k:Int32)(f:Int):Nat->Int->LB->Dv
|0,_,_=>none
|q+1,m,h=>DB (RV Po b a) (Ko Po b a k f q) b a k f m h
def RW Po b a k f:=Ko Po b a k f Ay
def RY(j26:Int32->Int->Int->LB->Dv)(b:Int)(a:LX)(f:Int)(g:LB)(k:Int32):Dv:=
j26 k f 0 g
def Nr Po b a:=RY (RW Po b a) b a
def DF(j25:Int->LB->Int32->Dv)(j30:LB->Dv)(b:Int)(a:LX)(f:Int)(g:LB):Dv:=
if(Cr f (Ac a))then
(Ap a f).bind λn=>
if(geq b 8)then
j25 f g (Ad n 128)
else
j25 f g n
else
j30 g
def Hm(b:Int)(a:LX):Nat->Int->LB->Dv
|0,_,_=>none
|q+1,f,g=>DF (Nr (Hm b a q) b a) jI b a f g
def iU b a:=Hm b a Ay
def WH(j16:Int->LX->Int->LB->Dv)(b:Int)(a:LX):Dv:=
(Zc b a).bind λo=>
if(Bi o 0)then
some (([]:LB),o)
else
j16 b a 0 ([]:LB)
def Jg:=WH iU
def CV:Option Int:=
some (-1:Int)
def Ph:=CV
def Fb(j6:Option Int)(Th:Int->Option Int)(a:LI)(b f:Int):Option Int:=
if(Cr f (Ac a))then
(Ap a f).bind λg=>
if(geq b g)then
some f
else
Th (Ad f 1)
else
j6
def Ce(a:LI)(b:Int):Nat->Int->Option Int
|0,_=>none
|q+1,f=>Fb Ph (Ce a b q) a b f
def Iq a b:=Ce a b Ay
def Io(j4:LI->Int->Int->Option Int)(a:LI)(b:Int):Option Int:=
j4 a b 0
def Kb:=Io Iq
def Il(a:LI)(b:Int):Option Bool:=
(Kb a b).bind λf=>
some (Om f 0)
def Tc(a:Int):Option Bool:=
(Il ([(4:Int),(12:Int),(16:Int),(22:Int),(24:Int),(26:Int),(38:Int)]:LI) a).bind λb=>
some b
def ZN(bi:Bool):Option Int:=
if(!bi)then
some 8
else
some 0
def Bs:=ZN
def HB(j22:Bool->Option Int):Option Int:=
j22 ((true==true)&&((geq (0:Int) (0:Int))&&true))
def Yv:=HB Bs
def KM(j22:Bool->Option Int)(bj:Bool)(bk:Int):Option Int:=
j22 ((bj==true)&&((geq bk 0)&&true))
def Fc:=KM Bs
def KL(j13:Bool->Int->Option Int)(g ak:LB)(ae af aa ag ab b:Int)(m:Bool)(n:Int)(f:LI)(h:LB):Option Int:=
(Pz ae af aa ag ab g).bind λdm=>
(Al dm).bind λ(dn,am)=>
j13 dn am
def Yx:=KL Fc
def HH(j22:Bool->Option Int)(bl:Bool)(bm:Int):Option Int:=
j22 ((bl==true)&&((geq bm 0)&&true))
def Kf:=HH Bs
def IP(j25:Bool->Int->Option Int)(g a:LB)(k p o u v b:Int)(m:Bool)(n:Int)(f:LI)(h:LB)(bg:Int):Option Int:=
(Dm k p o u v).bind λ(dp,bh)=>
if(Bi bh 0)then
(Al bh).bind λ(an,bn)=>
j25 an bn
else
(Bk a bg (Ac a)).bind λdq=>
(EA dq (Ac dp)).bind λ(dr,aa)=>
if(geq aa 24)then
j25 true 0
else
if(Bi aa 0)then
(Al aa).bind λ(ds,ab)=>
j25 ds ab
else
(Bk a (Ad (Ad bg (Bn 4 (Ac dr))) 4) (Ac a)).bind λfc=>
j25 false 0
def Ki:=IP Kf
def KI(j25:Bool->Int->Option Int)(j24:LB->LB->Int->Int->Int->Int->Int->Int->Bool->Int->LI->LB->Int->Option Int)(bd:Bool)(bc:Int)(g a:LB)(k p o u v b:Int)(m:Bool)(n:Int)(f:LI)(h:LB):Option Int:=
if(Bi bc 0)then
(Al bc).bind λ(dt,bh)=>
j25 dt bh
else
if(!bd)then
(Al 26).bind λ(an,bn)=>
j25 an bn
else
j24 g a k p o u v b m n f h 8
def HC:=KI Kf Ki
def JP(j15:Bool->Int->LB->LB->Int->Int->Int->Int->Int->Int->Bool->Int->LI->LB->Option Int)(g a:LB)(k p o u v b:Int)(m:Bool)(n:Int)(f:LI)(h:LB):Option Int:=
(Bk a 0 8).bind λdu=>
(Rq du g).bind λ(bd,bc)=>
j15 bd bc g a k p o u v b m n f h
def Yu:=JP HC
def JS(j22:Bool->Option Int)(bp:Bool)(bq:Int):Option Int:=
j22 ((bp==true)&&((geq bq 0)&&true))
def Ij:=JS Bs
def Yr(j28:Bool->Int->Option Int)(w ah:Int)(g a:LB)(k p o u v b:Int)(m:Bool)(n:Int)(ao:LX)(f:LI)(h:LB):Option Int:=
if(Bi ah 0)then
(Al ah).bind λ(br,bs)=>
j28 br bs
else
(Jg o ao).bind λ(bt,be)=>
if(Bi be 0)then
(Al be).bind λ(bu,bv)=>
j28 bu bv
else
(Dy h bt).bind λdv=>
(
(Bk a w (Ac a)).bind λdw=>
j28 false 0)
def IZ:=Yr Ij
def IB(j27:Int->Int->LB->LB->Int->Int->Int->Int->Int->Int->Bool->Int->LX->LI->LB->Option Int)(w:Int)(g a:LB)(k p o u v b:Int)(m:Bool)(n:Int)(ap:LX)(ad f:LI)(h:LB):Option Int:=
(Ap ad b).bind λ_=>
(Bk a 0 w).bind λdx=>
(Ap ad b).bind λdy=>
(CX k p o u v).bind λ(dz,bf)=>
(Jv dz bf ap dy dx).bind λ(ao,ah)=>
j27 w ah g a k p o u v b m n ao f h
def Yw:=IB IZ
def AY(j13:Bool->Int->Option Int)(j12:LB->LB->Int->Int->Int->Int->Int->Int->Bool->Int->LI->LB->Option Int)(j25:Bool->Int->Option Int)(j23:LB->LB->Int->Int->Int->Int->Int->Int->Bool->Int->LI->LB->Option Int)(j24:LB->LB->Int->Int->Int->Int->Int->Int->Bool->Int->LI->LB->Int->Option Int)(j28:Bool->Int->Option Int)(j26:Int->LB->LB->Int->Int->Int->Int->Int->Int->Bool->Int->LX->LI->LI->LB->Option Int)(j22:Bool->Option Int)(j21:Option Int)(aq ar:LB)(au av aw ax ay:Int)(az:LI)(ai:Int)(aj:LB)(ac:Bool)(y:Int):Option Int:=
if(Ez (Ac aq) 64)then
some 8
else
if((geq y 0)&&(!ac))then
(Ee aq ar au av aw ax ay az ai aj ac y).bind λ(g,a,k,p,o,u,v,f,b,h,m,n)=>
(BI aq ar au av aw ax ay az ai aj ac y).bind λbw=>
if bw then
if(geq k 0)then
(Jm a).bind λ(al,ba)=>
if(geq ba 24)then
j13 true 0
else
if(Bi ba 0)then
(Al ba).bind λ(bx,bz)=>
j13 bx bz
else
(Bk a al (Ac a)).bind λda=>
(Rh da).bind λan=>
if an then
j13 true 0
else
(Bk a al (Ac a)).bind λdb=>
(Nc db).bind λ(ae,af,aa,ag,ab,bb)=>
if(geq bb 24)then
j13 true 0
else
if(Bi bb 0)then
(Al bb).bind λ(dc,dd)=>
j13 dc dd
else
(
(Bk a (Ad al 22) (Ac a)).bind λak=>
(
j12 g ak ae af aa ag ab b m n f h))
else
if(geq (Ac f) 0)then
if(geq k 2)then
if(Cr (Ac a) 8)then
j25 true 0
else
j23 g a k p o u v b m n f h
else
j24 g a k p o u v b m n f h 0
else
if(Cr b (Ac f))then
(Ap f b).bind λ_=>
(Ap f b).bind λw=>
if(Cr (Ac a) w)then
j28 true 0
else
(Uf g).bind λ(ap,am)=>
if(Bi am 0)then
(Al am).bind λ(de,df)=>
j28 de df
else
(Dm k p o u v).bind λ(ad,dg)=>
if((Bi dg 0)||(Om b (Ac ad)))then
(Al 8).bind λ(dh,di)=>
j28 dh di
else
j26 w g a k p o u v b m n ap ad f h
else
if(Ez (Ac a) 4000)then
(Al 38).bind λ(dj,bf)=>
j22 ((dj==true)&&((geq bf 0)&&true))
else
j21
else
j22 false
else
if((geq (Ac ar) 0)&&(geq (Ac az) 0))then
if((((geq au 0)&&((geq av 0)&&((geq aw 0)&&((geq ax 0)&&((geq ay 0)&&true)))))&&(geq ai 0))&&(gle (Ac aj) 12000))then
if(geq y 0)then
j22 true
else
if(!ac)then
(Tc y).bind λdk=>
j22 dk
else
j22 false
else
j22 false
else
if((false&&(geq ai 0))&&(gle (Ac aj) 12000))then
if(geq y 0)then
j22 true
else
if(!ac)then
(Tc y).bind λdl=>
j22 dl
else
j22 false
else
j22 false
def Ta:=AY Fc Yx Kf Yu Ki Ij Yw Bs Yv
def Sk(f g:LB)(h k m n o:Int)(p:LI)(u:Int)(v:LB)(b:Bool)(a:Int):Option (LB×LB×Int×Int×Int×Int×Int×LI×Int×LB×Bool×Int×Int):=
(Ta f g h k m n o p u v b a).bind λw=>
if(Bi w 0)then
some (([]:LB),([]:LB),0,0,0,0,0,([]:LI),0,([]:LB),false,0,w)
else
if(Bi a 0)then
(
(
(Ee f g h k m n o p u v b a).bind λ(y,aa,ab,ac,ad,ae,af,ag,ah,ai,aj,ak)=>
(
some (y,aa,ab,ac,ad,ae,af,ag,ah,ai,aj,ak,a))))
else
if b then
(Ee f g h k m n o p u v b a).bind λ(al,am,an,ao,ap,aq,ar,au,av,aw,ax,ay)=>
some (al,am,an,ao,ap,aq,ar,au,av,aw,ax,ay,36)
else
(Ee f g h k m n o p u v b a).bind λ(az,ba,bb,bc,bd,be,bf,bg,bh,bi,bj,bk)=>
some (az,ba,bb,bc,bd,be,bf,bg,bh,bi,bj,bk,0)
def iQ(b g:LB)(h k m n o:Int)(p:LI)(u:Int)(f:LB)(v:Bool)(w a:Int):Option (LB×LB×Int×Int×Int×Int×Int×LI×Int×LB×Bool×Int×Int):=
some (b,([]:LB),0,0,0,0,0,([]:LI),0,f,false,a,a)
abbrev As:=Option (LB×LB×Int×Int×Int×Int×Int×LI×Int×LB×Bool×Int×Int)
def NC(UE:LB->Int->Int->Int->Int->Int->Int->LI->LB->As)(a:LB)(b:Bool)(f:Int)(ar:LB)(au av aw ax ay az:Int)(bh:Bool)(be:Int)(ba:LI)(bb:LB):As:=
if bh then
(Ee a ar au av aw ax ay ba az bb b f).bind λ(fh,fi,fj,bc,bi,ai,fk,fl,fm,fn,fo,aj)=>
some (fh,fi,fj,bc,bi,ai,fk,fl,fm,fn,fo,aj,0)
else
if(Bi be 0)then
(iQ a ar au av aw ax ay ba az bb b f be).bind λ(fp,fq,fs,ft,fu,fv,fw,fx,fy,fz,ga,gb,gc)=>
some (fp,fq,fs,ft,fu,fv,fw,fx,fy,fz,ga,gb,gc)
else
UE ar au av aw ax ay az ba bb
def Cs UE:=NC UE
def cG(j71:LB->Int->Int->Int->Int->Int->Int->Bool->Int->LI->LB->As)(a:LB)(b:Bool)(f:Int)(g:LB)(m p o u v h:Int)(k:LI)(n:LB):As:=
j71 g m p o u v h true 0 k n
def BA UE a b f:=cG (Cs UE a b f) a b f
def cQ(j71:LB->Int->Int->Int->Int->Int->Int->Bool->Int->LI->LB->As)(a:LB)(b:Bool)(f h:Int)(k:LI)(n:LB)(bj:Bool)(bk:Int)(bl:LB)(bm bn bp bq br:Int):As:=
j71 bl bm bn bp bq br h bj bk k n
def Pk UE a b f:=cQ (Cs UE a b f) a b f
def MK(j62:Int->LI->LB->Bool->Int->LB->Int->Int->Int->Int->Int->As)(a:LB)(b:Bool)(f:Int)(af:LB)(ab ac y ad aa h:Int)(k:LI)(n:LB):As:=
(Pz ab ac y ad aa a).bind λgd=>
(Al gd).bind λ(ge,ak)=>
j62 h k n ge ak af ab ac y ad aa
def Ug UE a b f:=MK (Pk UE a b f) a b f
def eD(j71:LB->Int->Int->Int->Int->Int->Int->Bool->Int->LI->LB->As)(a:LB)(b:Bool)(f m p o u v h:Int)(n:LB)(bs:Bool)(bt:Int)(bu:LB)(bv:LI):As:=
j71 bu m p o u v h bs bt bv n
def Mp UE a b f:=eD (Cs UE a b f) a b f
def NX(j75:Int->Int->Int->Int->Int->Int->LB->Bool->Int->LB->LI->As)(a:LB)(b:Bool)(f:Int)(g:LB)(m p o u v h:Int)(k:LI)(n:LB)(bf:Int):As:=
(Dm m p o u v).bind λ(gf,bg)=>
if(Bi bg 0)then
(Al bg).bind λ(al,bw)=>
j75 m p o u v h n al bw g k
else
(Bk g bf (Ac g)).bind λgg=>
(EA gg (Ac gf)).bind λ(dw,y)=>
if(geq y 24)then
j75 m p o u v h n true 0 g k
else
if(Bi y 0)then
(Al y).bind λ(gh,aa)=>
j75 m p o u v h n gh aa g k
else
(Bk g (Ad (Ad bf (Bn 4 (Ac dw))) 4) (Ac g)).bind λgi=>
j75 m p o u v h n false 0 gi dw
def Ls UE a b f:=NX (Mp UE a b f) a b f
def NO(j75:Int->Int->Int->Int->Int->Int->LB->Bool->Int->LB->LI->As)(j74:LB->Int->Int->Int->Int->Int->Int->LI->LB->Int->As)(a:LB)(b:Bool)(f:Int)(bd:Bool)(aq:Int)(g:LB)(m p o u v h:Int)(k:LI)(n:LB):As:=
if(Bi aq 0)then
(Al aq).bind λ(gj,bg)=>
j75 m p o u v h n gj bg g k
else
if(!bd)then
(Al 26).bind λ(al,bw)=>
j75 m p o u v h n al bw g k
else
j74 g m p o u v h k n 8
def MZ UE a b f:=NO (Mp UE a b f) (Ls UE a b f) a b f
def NA(j64:Bool->Int->LB->Int->Int->Int->Int->Int->Int->LI->LB->As)(a:LB)(b:Bool)(f:Int)(g:LB)(m p o u v h:Int)(k:LI)(n:LB):As:=
(Bk g 0 8).bind λgk=>
(Rq gk a).bind λ(bd,aq)=>
j64 bd aq g m p o u v h k n
def Up UE a b f:=NA (MZ UE a b f) a b f
def dY(j71:LB->Int->Int->Int->Int->Int->Int->Bool->Int->LI->LB->As)(a:LB)(b:Bool)(f m p o u v:Int)(k:LI)(bx:Bool)(bz:Int)(da:LB)(db:Int)(dc:LB):As:=
j71 da m p o u v db bx bz k dc
def Um UE a b f:=dY (Cs UE a b f) a b f
def AU(j78:Int->Int->Int->Int->Int->LI->Bool->Int->LB->Int->LB->As)(a:LB)(b:Bool)(f w ag:Int)(g:LB)(m p o u v h:Int)(am:LX)(k:LI)(n:LB):As:=
if(Bi ag 0)then
(Al ag).bind λ(dd,de)=>
j78 m p o u v k dd de g h n
else
(Jg o am).bind λ(df,aj)=>
if(Bi aj 0)then
(Al aj).bind λ(dg,dh)=>
j78 m p o u v k dg dh g h n
else
(Dy n df).bind λdi=>
(
(Bk g w (Ac g)).bind λdj=>
j78 m p o u v k false 0 dj (Ad h 1) di)
def NF UE a b f:=AU (Um UE a b f) a b f
def MX(j77:Int->Int->LB->Int->Int->Int->Int->Int->Int->LX->LI->LB->As)(a:LB)(b:Bool)(f w:Int)(g:LB)(m p o u v h:Int)(an:LX)(ae k:LI)(n:LB):As:=
(Ap ae h).bind λ_=>
(Bk g 0 w).bind λgl=>
(Ap ae h).bind λgm=>
(CX m p o u v).bind λ(bi,ai)=>
(Jv bi ai an gm gl).bind λ(am,ag)=>
j77 w ag g m p o u v h am k n
def Tz UE a b f:=MX (NF UE a b f) a b f
def Jk(j62:Int->LI->LB->Bool->Int->LB->Int->Int->Int->Int->Int->As)(j61:LB->Int->Int->Int->Int->Int->Int->LI->LB->As)(j75:Int->Int->Int->Int->Int->Int->LB->Bool->Int->LB->LI->As)(j73:LB->Int->Int->Int->Int->Int->Int->LI->LB->As)(j74:LB->Int->Int->Int->Int->Int->Int->LI->LB->Int->As)(j78:Int->Int->Int->Int->Int->LI->Bool->Int->LB->Int->LB->As)(j76:Int->LB->Int->Int->Int->Int->Int->Int->LX->LI->LI->LB->As)(j71:LB->Int->Int->Int->Int->Int->Int->Bool->Int->LI->LB->As)(j70:LB->Int->Int->Int->Int->Int->Int->LI->LB->As)(a:LB)(b:Bool)(f:Int)(g:LB)(m p o u v h:Int)(k:LI)(n:LB):As:=
if(geq m 0)then
(Jm g).bind λ(ah,ao)=>
if(geq ao 24)then
j62 h k n true 0 g m p o u v
else
if(Bi ao 0)then
(Al ao).bind λ(dk,dl)=>
j62 h k n dk dl g m p o u v
else
(Bk g ah (Ac g)).bind λdm=>
(Rh dm).bind λal=>
if al then
j62 h k n true 0 g m p o u v
else
(Bk g ah (Ac g)).bind λdn=>
(Nc dn).bind λ(ab,ac,y,ad,aa,ap)=>
if(geq ap 24)then
j62 h k n true 0 g m p o u v
else
if(Bi ap 0)then
(Al ap).bind λ(dp,dq)=>
j62 h k n dp dq g m p o u v
else
(
(Bk g (Ad ah 22) (Ac g)).bind λaf=>
(
j61 af ab ac y ad aa h k n))
else
if(geq (Ac k) 0)then
if(geq m 2)then
if(Cr (Ac g) 8)then
j75 m p o u v h n true 0 g k
else
j73 g m p o u v h k n
else
j74 g m p o u v h k n 0
else
if(Cr h (Ac k))then
(Ap k h).bind λ_=>
(Ap k h).bind λw=>
if(Cr (Ac g) w)then
j78 m p o u v k true 0 g h n
else
(Uf a).bind λ(an,ak)=>
if(Bi ak 0)then
(Al ak).bind λ(dr,ds)=>
j78 m p o u v k dr ds g h n
else
(Dm m p o u v).bind λ(ae,dt)=>
if((Bi dt 0)||(Om h (Ac ae)))then
(Al 8).bind λ(du,bc)=>
j78 m p o u v k du bc g h n
else
j76 w g m p o u v h an ae k n
else
if(Ez (Ac g) 4000)then
(Al 38).bind λ(dv,ai)=>
j71 g m p o u v h dv ai k n
else
j70 g m p o u v h k n
def Bd(a:LB)(b:Bool)(f:Int):Nat->LB->Int->Int->Int->Int->Int->Int->LI->LB->As
|0,_,_,_,_,_,_,_,_,_=>none
|q+1,g,m,p,o,u,v,h,k,n=>Jk (Pk (Bd a b f q) a b f) (Ug (Bd a b f q) a b f) (Mp (Bd a b f q) a b f) (Up (Bd a b f q) a b f) (Ls (Bd a b f q) a b f) (Um (Bd a b f q) a b f) (Tz (Bd a b f q) a b f) (Cs (Bd a b f q) a b f) (BA (Bd a b f q) a b f) a b f g m p o u v h k n
def cI a b f:=Bd a b f Ay
def DI(j37:LB->Bool->Int->LB->Int->Int->Int->Int->Int->Int->LI->LB->As)(gn go:LB)(gp gq gr gs gt:Int)(gu:LI)(gv:Int)(gw:LB)(gx:Bool)(gy:Int)(gz:LB):As:=
(Sk gn go gp gq gr gs gt gu gv gw gx gy).bind λ(a,dx,dy,dz,fa,fb,fc,fd,fe,ff,b,f,fg)=>
if(Bi fg 0)then
some (a,dx,dy,dz,fa,fb,fc,fd,fe,ff,b,f,fg)
else
(Dy dx gz).bind λha=>
j37 a b f ha dy dz fa fb fc fe fd ff
def Ds:=DI cI
def Tj(a:LB):Option (LB×LB×Int×Int×Int×Int×Int×LI×Int×LB×Bool×Int×Bool):=
(QC ([]:LB)).bind λ(b,f,g,h,k,m,n,o,p,u,v,w,y)=>
(Ds b f g h k m n o p u v w a).bind λ(aa,ab,ac,ad,ae,af,ag,ah,ai,aj,ak,al,am)=>
some (aa,ab,ac,ad,ae,af,ag,ah,ai,aj,ak,al,((geq y 0)&&(geq am 0)))
abbrev rH:=Option (Int×Int)
def yO(a:LB):rH:=
(Bk a (Am (Ac a) 32) (Ac a)).bind λg=>
(UI g 0).bind λ(f,y,h)=>
if h then
if(Cr (Am (Ac a) 32) f)then
some (0,24)
else
some ((Ad f 32),0)
else
(Bk a (Am (Ac a) 32) (Ac a)).bind λk=>
(UI k 2147483648).bind λ(b,m,n)=>
if(!n)then
some (0,12)
else
if(Cr (Ac a) (Ad b 64))then
some (0,24)
else
(Bk a (Am (Ac a) (Ad b 64)) (Ad (Am (Ac a) (Ad b 64)) 32)).bind λo=>
(oS b m 2684354560).bind λp=>
(Ii o p).bind λu=>
if(!u)then
some (0,12)
else
some ((Ad b 64),0)
def mC:=yO
def oB(j2:LB->rH)(a:LB):rH:=
if(Cr (Am (Ac a) 32) 0)then
some (0,6)
else
(Bk a (Am (Ac a) 32) (Ac a)).bind λv=>
(Nv v ([(65:UInt8),(80:UInt8),(69:UInt8),(84:UInt8),(65:UInt8),(71:UInt8),(69:UInt8),(88:UInt8)]:LB)).bind λw=>
if(!w)then
some (0,6)
else
j2 a
def sV:=oB mC
abbrev Hi:=Option (Int×Int)
def vY(a:Int):Hi:=
some (a,0)
def dO:=vY
def dH(bk8:Int->LB->Hi)(a:Int)(g:LB):Hi:=
bk8 (Ad a 1) g
def NM bk8:=dH bk8
def MY(j12:Int->LB->Hi)(a f:Int)(b:LB):Hi:=
if(geq f 0)then
some (0,38)
else
(Bk b 0 (Am (Ac b) f)).bind λg=>
j12 a g
def MQ bk8:=MY (NM bk8)
def SG(j11:Int->Int->LB->Hi)(j14:Int->Hi)(a:Int)(b:LB):Hi:=
if(Ez (Ac b) 0)then
(sV b).bind λ(f,k)=>
j11 a f b
else
j14 a
def Wz:Nat->Int->LB->Hi
|0,_,_=>none
|q+1,a,b=>SG (MQ (Wz q)) dO a b
def iS:=Wz Ay
def SA(j8:Int->LB->Hi)(h:LB):Hi:=
if(Ez (Ac h) 4000)then
some (0,38)
else
j8 0 h
def GY:=SA iS
def JX(p a:LB)(g u v w y:Int)(b:LI)(h:Int)(aa:LB)(ab:Bool)(ac:Int):Option Int:=
if(geq g 0)then
(Jm a).bind λ(k,f)=>
if(Bi f 0)then
some f
else
(Bk a k (Ac a)).bind λm=>
(Nc m).bind λ(ad,ae,af,ag,ah,n)=>
some n
else
if((Cr h (Ac b))||(geq (Ac b) 0))then
some 24
else
(GY a).bind λ(ai,o)=>
some o
def Tv(aa ab:LB)(ac ad ae af ag:Int)(ah:LI)(ai:Int)(aj:LB)(ak:Bool)(al:Int):Option (LB×LB×Int×Int×Int×Int×Int×LI×Int×LB×Bool×Int×Int):=
(Sk aa ab ac ad ae af ag ah ai aj ak al).bind λ(a,f,g,h,k,m,n,o,p,b,u,v,w)=>
if(Bi w 0)then
some (a,f,g,h,k,m,n,o,p,b,u,v,w)
else
(JX a f g h k m n o p b u v).bind λy=>
if(Bi y 0)then
(iQ a f g h k m n o p b u v y).bind λ(am,an,ao,ap,aq,ar,au,av,aw,ax,ay,az,ba)=>
some (am,an,ao,ap,aq,ar,au,av,aw,ax,ay,az,ba)
else
some (a,([]:LB),0,0,0,0,0,([]:LI),0,b,true,0,0)
def Nk(am an:LB):Option (LB×LB×Int×Int×Int×Int×Int×LI×Int×LB×Bool×Int×Int):=
(QC an).bind λ(a,b,f,g,h,k,m,n,o,p,u,v,w)=>
if(Bi w 0)then
some (a,b,f,g,h,k,m,n,o,p,u,v,w)
else
(Ds a b f g h k m n o p u v am).bind λ(y,aa,ab,ac,ad,ae,af,ag,ah,ai,aj,ak,al)=>
if(Bi al 0)then
some (y,aa,ab,ac,ad,ae,af,ag,ah,ai,aj,ak,al)
else
(Tv y aa ab ac ad ae af ag ah ai aj ak).bind λ(ao,ap,aq,ar,au,av,aw,ax,ay,az,ba,bb,bc)=>
some (ao,ap,aq,ar,au,av,aw,ax,ay,az,ba,bb,bc)
def Vx:Option Bool:=
(VR).bind λ(a,b)=>
if(!b)then
some false
else
(Bk a 0 22).bind λf=>
(Tj f).bind λ(ai,aj,ak,al,am,an,g,h,ao,ap,aq,ar,k)=>
(Bk a 0 30).bind λm=>
(Tj m).bind λ(au,av,aw,ax,ay,az,ba,n,bb,o,bc,bd,p)=>
(Tj a).bind λ(be,bf,bg,bh,bi,bj,bk,bl,bm,u,bn,bp,v)=>
(Nk a ([]:LB)).bind λ(bq,br,bs,bt,bu,bv,bw,bx,bz,w,y,da,aa)=>
(Dy ([]:LB) a).bind λab=>
(Dy ab ([(0:UInt8)]:LB)).bind λac=>
(Nk ac ([]:LB)).bind λ(db,dc,dd,de,df,dg,dh,di,dj,dk,dl,dm,ad)=>
(Bk a 0 35).bind λae=>
(Nk ae ([]:LB)).bind λ(dn,dp,dq,dr,ds,dt,du,dv,dw,dx,dy,dz,af)=>
(Nk ([(73:UInt8)]:LB) ([]:LB)).bind λ(fa,fb,fc,fd,fe,ff,fg,fh,fi,fj,fk,fl,ag)=>
(Nk ([]:LB) ([]:LB)).bind λ(fm,fn,fo,fp,fq,fs,ft,fu,fv,fw,fx,fy,ah)=>
some ((((((((((((((k&&(geq g 1))&&(geq (Ac h) 0))&&p)&&(geq (Ac n) 1))&&(geq (Ac o) 0))&&v)&&(u==([128]:LB)))&&(geq aa 0))&&y)&&(w==([128]:LB)))&&(geq ad 38))&&(geq af 24))&&(geq ag 12))&&(geq ah 24))
def Iy(a b f:Int)(g:LX):Option (Int×Int):=
some (a,b)
def Jy(a:Int):Option Int:=
if(geq a 8)then
some 128
else
if(geq a 16)then
some 32768
else
if(geq a 24)then
some 8388608
else
some 0
def Df(a b:Int):Option Int:=
if((Cr a 1)||(Ez a 6))then
some 2
else
(Jy b).bind λf=>
if(geq f 0)then
some 2
else
some 0
def jV:Option Int:=
some 0
def LC:=jV
def Cm(j6:Option Int)(Th:Int->Option Int)(a:LX)(b f:Int):Option Int:=
if(Cr f (Ac a))then
(Ap a f).bind λg=>
if(Cr (Af g:Int) (uT b))then
some 16
else
(Ap a f).bind λh=>
if(Om (Af h:Int) b)then
some 16
else
Th (Ad f 1)
else
j6
def Ba(a:LX)(b:Int):Nat->Int->Option Int
|0,_=>none
|q+1,f=>Cm LC (Ba a b q) a b f
def LG a b:=Ba a b Ay
def De(j4:LX->Int->Int->Option Int)(k:Int)(a:LX):Option Int:=
(Jy k).bind λb=>
if(geq b 0)then
some 2
else
if(Ez (Ac a) 4000)then
some 4
else
j4 a b 0
def Ax:=De LG
def Cp(b f:Int)(a:LX):Option Int:=
(Df b f).bind λg=>
if(Bi g 0)then
some 2
else
(Ax f a).bind λh=>
if(Bi h 0)then
(Ax f a).bind λk=>
some k
else
if(Cr (Ac a) 1)then
some 2
else
(Le (Bi b 0)).bind λ_=>
if(Ez (Ic (Ac a) b) 0)then
some 2
else
some 0
def Dr(a f b:Int):Option Int:=
(Df a f).bind λg=>
if((Bi g 0)||(Cr b 1))then
some 2
else
(Le (Bi a 0)).bind λ_=>
if(Ez b (Cv 4000 a))then
some 2
else
some 0
def Rg(a:Int):Option (Int×Int):=
if((Cr a 1)||(Ez a 1048576))then
some (0,2)
else
if(geq (Cv (Bn a 256) 245) 0)then
some (1,0)
else
some ((Cv (Bn a 256) 245),0)
abbrev Jd:=Option (LI×Int)
def SQ(a:LI):Jd:=
if(Ez (Ac a) 1000)then
some (([]:LI),4)
else
some (a,0)
def CH:=SQ
def Ti(j6:LI->Jd)(Th:Int->LI->Jd)(b f:Int)(a:LI):Jd:=
if(Ez f 0)then
(Dy a ([(Fe f b)]:LI)).bind λh=>
Th (Am f (Fe f b)) h
else
j6 a
def Kk(b:Int):Nat->Int->LI->Jd
|0,_,_=>none
|q+1,f,a=>Ti CH (Kk b q) b f a
def BW b:=Kk b Ay
def Tr(j4:Int->Int->LI->Jd)(k g:Int):Jd:=
(Rg k).bind λ(b,m)=>
if(((Bi m 0)||(Cr g 1))||(Ez g 4000))then
some (([]:LI),2)
else
j4 b g ([]:LI)
def BB:=Tr BW
def Mi(a b:Int):Option (Int×Int):=
(BB a b).bind λ(f,g)=>
some ((Ac f),g)
def HR(f g a:Int)(h:LX)(b:Int):Option Bool:=
(Iy f g a h).bind λ(k,m)=>
(Dr k m b).bind λn=>
if(Bi n 0)then
some false
else
(Mi a b).bind λ(p,o)=>
some (geq o 0)
def Dg(a f g:Int)(b:LX):Option Int:=
(Iy a f g b).bind λ(h,k)=>
(Cp h k b).bind λm=>
if(Bi m 0)then
some 8
else
(Le (Bi a 0)).bind λ_=>
(HR a f g b (Cv (Ac b) a)).bind λn=>
if(!n)then
some 8
else
some 0
def FD(f:LB):Option (Int×Int×Int×Int×Int×Int×Int×Int×Int×Int×LI×Int):=
if(Ez (Ac f) 100000)then
some (0,0,0,0,0,0,0,0,0,0,([]:LI),4)
else
(Jm f).bind λ(a,n)=>
if(Bi n 0)then
some (0,0,0,0,0,0,0,0,0,0,([]:LI),n)
else
(Bk f a (Ac f)).bind λu=>
(Nc u).bind λ(b,g,h,k,m,o)=>
if(Bi o 0)then
some (b,g,h,k,m,0,0,0,0,0,([]:LI),o)
else
(Dm b g h k m).bind λ(p,v)=>
if(geq b 2)then
some (b,g,h,k,m,a,(Ad a 22),(Ad (Ad a 22) 8),0,0,p,0)
else
some (b,g,h,k,m,a,(Ad a 22),(Ad a 22),0,0,p,0)
abbrev Ek:=Option (Int×Int×Int×Int×Int×Int)
def iY(a:LB)(k m n o p f g b aa y:Int)(h:LI):Ek:=
if(Cr (Ac a) y)then
some (0,0,0,0,0,24)
else
some (f,g,b,aa,y,0)
def SE:=iY
def SO(j12:LB->Int->Int->Int->Int->Int->Int->Int->Int->Int->Int->LI->Ek)(a:LB)(k m n o p f g b:Int)(h:LI)(ae aa y:Int):Ek:=
if(Bi ae 0)then
some (0,0,0,0,0,ae)
else
j12 a k m n o p f g b aa y h
def Wr:=SO SE
def RE(j11:LB->Int->Int->Int->Int->Int->Int->Int->Int->LI->Int->Int->Int->Ek)(a:LB)(u:LI)(k m n o p f g b v:Int)(h:LI):Ek:=
j11 a k m n o p f g b h 0 (Ad (Ad b (Bn 4 (Ac u))) 4) v
def DL:=RE Wr
def IJ(j10:LB->LI->Int->Int->Int->Int->Int->Int->Int->Int->Int->LI->Ek)(bk8:Int->Int->Ek)(u:LI)(a:LB)(k m n o p f g b:Int)(h:LI)(w v:Int):Ek:=
if(Cr w (Ac u))then
(Ap u w).bind λ_=>
(Ap u w).bind λag=>
bk8 (Ad w 1) (Ad v ag)
else
j10 a u k m n o p f g b v h
def Ur(u:LI)(a:LB)(k m n o p f g b:Int)(h:LI):Nat->Int->Int->Ek
|0,_,_=>none
|q+1,w,v=>IJ DL (Ur u a k m n o p f g b h q) u a k m n o p f g b h w v
def XX u a k m n o p f g b h:=Ur u a k m n o p f g b h Ay
def YG(j11:LB->Int->Int->Int->Int->Int->Int->Int->Int->LI->Int->Int->Int->Ek)(j8:LI->LB->Int->Int->Int->Int->Int->Int->Int->Int->LI->Int->Int->Ek)(ab:Int)(a:LB)(k m n o p f g b ac ad:Int)(u h:LI):Ek:=
if(Bi ab 0)then
j11 a k m n o p f g b h ab ac ad
else
j8 u a k m n o p f g b h 0 (Ad (Ad b (Bn 4 (Ac u))) 4)
def YD:=YG Wr XX
def UN(j11:LB->Int->Int->Int->Int->Int->Int->Int->Int->LI->Int->Int->Int->Ek)(j7:Int->LB->Int->Int->Int->Int->Int->Int->Int->Int->Int->Int->LI->LI->Ek)(a:LB):Ek:=
(FD a).bind λ(k,m,n,o,p,f,g,b,ac,ad,h,af)=>
if(Bi af 0)then
some (0,0,0,0,0,af)
else
if(Cr (Ac a) b)then
j11 a k m n o p f g b h 24 ac ad
else
(Bk a b (Ac a)).bind λah=>
(EA ah (Ac h)).bind λ(u,ab)=>
j7 ab a k m n o p f g b ac ad u h
def ZZ:=UN Wr YD
def Ri(a:Int):Option Int:=
some (pP 1 (Cv (Bn 256 a) 245))
def Qp(a:LI):Option (LI):=
some a
def Lq:=Qp
def Ik(j6:LI->Option (LI))(Th:Int->LI->Option (LI))(b f:Int)(a:LI):Option (LI):=
if(Ez f 0)then
(Ri b).bind λg=>
(Dy a ([(Fe f g)]:LI)).bind λh=>
(Ri b).bind λk=>
Th (Am f k) h
else
j6 a
def Ep(b:Int):Nat->Int->LI->Option (LI)
|0,_,_=>none
|q+1,f,a=>Ik Lq (Ep b q) b f a
def Ye b:=Ep b Ay
def Xu(j4:Int->Int->LI->Option (LI))(b m:Int):Option (LI):=
j4 b m ([]:LI)
def Ei:=Xu Ye
def Uh(a:Int)(f:LB)(b:Bool)(bd bg bt dl:Int)(ar au:LB)(av aw ax ay az:Int)(ba:LI)(ap:Int)(aq:LB)(bb:Bool)(bc:Int)(bh:LB)(bi bj bk bl bm be:Int)(bf:LB)(bn:Bool)(bp:Int)(bu bv bq:LB)(br:LI):Option Bool:=
if((((((((Bi bd 0)||(Bi bg 0))||(Bi bt 0))||(Bi dl 0))||(aq !=bu))||(bf !=bv))||(Bi ap a))||(Bi be (Ad a 1)))then
some false
else
(Ds bh bq bi bj bk bl bm br be bf bn bp f).bind λ(dv,dw,dx,dy,dz,fa,fb,fc,fd,dm,fe,ff,fu)=>
(Tv dv dw dx dy dz fa fb fc fd dm fe ff).bind λ(fv,fw,fx,fy,fz,ga,gb,gc,gd,dr,ge,gf,gg)=>
if(b&&(Om (Ac dm) (Ac bv)))then
(Bk dm 0 (Ac bv)).bind λfg=>
some ((fg==bv)&&(dr==dm))
else
some (false&&(dr==dm))
def Lt:=Uh
def Mb(j22:Int->LB->Bool->Int->Int->Int->Int->LB->LB->Int->Int->Int->Int->Int->LI->Int->LB->Bool->Int->LB->Int->Int->Int->Int->Int->Int->LB->Bool->Int->LB->LB->LB->LI->Option Bool)(a:Int)(f:LB)(b:Bool)(v bd bg bt g k m:Int)(h:LX)(ar au:LB)(av aw ax ay az:Int)(ba:LI)(ap:Int)(aq:LB)(bb:Bool)(bc:Int)(bh:LB)(bi bj bk bl bm be:Int)(bf:LB)(bn:Bool)(bp:Int)(bu bq:LB)(br:LI):Option Bool:=
(Bk h 0 v).bind λfh=>
(Jg k fh).bind λ(bv,dl)=>
j22 a f b bd bg bt dl ar au av aw ax ay az ba ap aq bb bc bh bi bj bk bl bm be bf bn bp bu bv bq br
def Lr:=Mb Lt
def Lw(j21:Int->LB->Bool->Int->Int->Int->Int->Int->Int->Int->LX->LB->LB->Int->Int->Int->Int->Int->LI->Int->LB->Bool->Int->LB->Int->Int->Int->Int->Int->Int->LB->Bool->Int->LB->LB->LI->Option Bool)(a:Int)(f:LB)(b:Bool)(v bd bg g k m:Int)(h:LX)(n:LI)(ar au:LB)(av aw ax ay az:Int)(ba:LI)(ap:Int)(aq:LB)(bb:Bool)(bc:Int)(bh:LB)(bi bj bk bl bm be:Int)(bf:LB)(bn:Bool)(bp:Int)(bq:LB)(br:LI):Option Bool:=
(Ap n a).bind λ_=>
(Ap n a).bind λfi=>
(Bk h 0 (Am v (Bn fi g))).bind λfj=>
(Jg k fj).bind λ(bu,bt)=>
j21 a f b v bd bg bt g k m h ar au av aw ax ay az ba ap aq bb bc bh bi bj bk bl bm be bf bn bp bu bq br
def Lu:=Lw Lr
def Hv(j20:Int->LB->Bool->Int->Int->Int->Int->Int->Int->LX->LI->LB->LB->Int->Int->Int->Int->Int->LI->Int->LB->Bool->Int->LB->Int->Int->Int->Int->Int->Int->LB->Bool->Int->LB->LI->Option Bool)(a:Int)(f:LB)(b:Bool)(o:LB)(w v bd g k m:Int)(h:LX)(n:LI)(ar:LB)(av aw ax ay az ap:Int)(aq:LB)(bb:Bool)(bc:Int)(au:LB)(ba:LI):Option Bool:=
(Bk o (Am w 1) w).bind λdn=>
(
(
(Ds ar au av aw ax ay az ba ap aq bb bc dn).bind λ(bh,bq,bi,bj,bk,bl,bm,br,be,bf,bn,bp,bg)=>
j20 a f b v bd bg g k m h n ar au av aw ax ay az ba ap aq bb bc bh bi bj bk bl bm be bf bn bp bq br))
def Ml:=Hv Lu
def Hq(j19:Int->LB->Bool->LB->Int->Int->Int->Int->Int->Int->LX->LI->LB->Int->Int->Int->Int->Int->Int->LB->Bool->Int->LB->LI->Option Bool)(a:Int)(f:LB)(b:Bool)(o:LB)(w v g k m:Int)(h:LX)(aa ab ac p ad:Int)(n:LI)(ae:LB)(af ag ah ai aj ak:Int)(y:LB)(al:Bool)(am:Int)(an:LB)(u:LI):Option Bool:=
(
(
(Bk o p (Am w 1)).bind λbw=>
(
(Ds ae an af ag ah ai aj u ak y al am bw).bind λ(ar,au,av,aw,ax,ay,az,ba,ap,aq,bb,bc,bd)=>
j19 a f b o w v bd g k m h n ar av aw ax ay az ap aq bb bc au ba)))
def Ey:=Hq Ml
def Uo(Ap9:Int->Int->Int->Option Bool)(a:Int)(f:LB)(b:Bool)(o:LB)(g k m:Int)(h:LX)(aa ab ac p ad:Int)(n:LI)(ae:LB)(af ag ah ai aj ak:Int)(y:LB)(al:Bool)(am:Int)(an:LB)(u:LI)(w v ao:Int):Option Bool:=
(Ap u ao).bind λ_=>
(Ap u ao).bind λfk=>
(Ap n ao).bind λ_=>
(Ap n ao).bind λfl=>
Ap9 (Ad w fk) (Ad v (Bn fl g)) (Ad ao 1)
def Mk Ap9:=Uo Ap9
def Hr(j16:Int->Int->Int->Option Bool)(j18:Int->LB->Bool->LB->Int->Int->Int->Int->Int->LX->Int->Int->Int->Int->Int->LI->LB->Int->Int->Int->Int->Int->Int->LB->Bool->Int->LB->LI->Option Bool)(a:Int)(f:LB)(b:Bool)(o:LB)(g k m:Int)(h:LX)(aa ab ac p ad:Int)(n:LI)(ae:LB)(af ag ah ai aj ak:Int)(y:LB)(al:Bool)(am:Int)(an:LB)(u:LI)(w v ao:Int):Option Bool:=
if(gle ao a)then
(Ap u ao).bind λ_=>
(Ap u ao).bind λfm=>
if(Cr fm 1)then
some false
else
(Ap u ao).bind λ_=>
(Ap u ao).bind λfn=>
if(Ez fn (Am (Ac o) w))then
some false
else
j16 w v ao
else
j18 a f b o w v g k m h aa ab ac p ad n ae af ag ah ai aj ak y al am an u
def Db(a:Int)(f:LB)(b:Bool)(o:LB)(g k m:Int)(h:LX)(aa ab ac p ad:Int)(n:LI)(ae:LB)(af ag ah ai aj ak:Int)(y:LB)(al:Bool)(am:Int)(an:LB)(u:LI):Nat->Int->Int->Int->Option Bool
|0,_,_,_=>none
|q+1,w,v,ao=>Hr (Mk (Db a f b o g k m h aa ab ac p ad n ae af ag ah ai aj ak y al am an u q) a f b o g k m h aa ab ac p ad n ae af ag ah ai aj ak y al am an u) Ey a f b o g k m h aa ab ac p ad n ae af ag ah ai aj ak y al am an u w v ao
def Lz a f b o g k m h aa ab ac p ad n ae af ag ah ai aj ak y al am an u:=Db a f b o g k m h aa ab ac p ad n ae af ag ah ai aj ak y al am an u Ay
def Mn(j14:Int->LB->Bool->LB->Int->Int->Int->LX->Int->Int->Int->Int->Int->LI->LB->Int->Int->Int->Int->Int->Int->LB->Bool->Int->LB->LI->Int->Int->Int->Option Bool)(a:Int)(f:LB)(b:Bool)(o:LB)(bs bx g k m:Int)(h:LX)(aa ab ac p ad:Int)(n:LI)(ae:LB)(af ag ah ai aj ak:Int)(y:LB)(al:Bool)(am:Int)(an:LB)(u:LI):Option Bool:=
if((((Bi bs 0)||(Bi bx 0))||(Bi (Ac u) (Ac n)))||(Bi (Ac y) 0))then
some false
else
j14 a f b o g k m h aa ab ac p ad n ae af ag ah ai aj ak y al am an u p 0 0
def Mq:=Mn Lz
def Hy(j13:Int->LB->Bool->LB->Int->Int->Int->Int->Int->LX->Int->Int->Int->Int->Int->LI->LB->Int->Int->Int->Int->Int->Int->LB->Bool->Int->LB->LI->Option Bool)(a:Int)(f:LB)(b:Bool)(o:LB)(bs g k m:Int)(h:LX)(aa ab ac p ad:Int)(n:LI)(bz:LB)(da db dc dd de df:Int)(dg:Bool)(dh:Int)(di:LB)(dj:LI)(dk:LB):Option Bool:=
(
(Bk o 0 p).bind λdp=>
(Ds bz di da db dc dd de dj df dk dg dh dp).bind λ(ae,an,af,ag,ah,ai,aj,u,ak,y,al,am,bx)=>
j13 a f b o bs bx g k m h aa ab ac p ad n ae af ag ah ai aj ak y al am an u)
def Md:=Hy Mq
def Mu(j12:Int->LB->Bool->LB->Int->Int->Int->Int->LX->Int->Int->Int->Int->Int->LI->LB->Int->Int->Int->Int->Int->Int->Bool->Int->LB->LI->LB->Option Bool)(g k m:Int)(h:LX)(dq:LB)(a:Int)(f:LB):Option Bool:=
(Vx).bind λb=>
(Dg g k m h).bind λfo=>
if((((((Bi fo 0)||(Ez (Ac h) 400))||(Ez (Ac dq) 64))||(Cr a 0))||(Ez (Ac f) 100))||(!b))then
some b
else
(PX g k m h dq).bind λ(o,fp)=>
(ZZ o).bind λ(aa,ab,ac,p,ad,fq)=>
(Le (Bi g 0)).bind λ_=>
(Ei m (Cv (Ac h) g)).bind λn=>
if((((Bi fp 0)||(Bi fq 0))||(Cr p 0))||(Ez p (Ac o)))then
some false
else
if(Om a (Ac n))then
some b
else
(QC dq).bind λ(bz,di,da,db,dc,dd,de,dj,df,dk,dg,dh,bs)=>
j12 a f b o bs g k m h aa ab ac p ad n bz da db dc dd de df dg dh di dj dk
def Js:=Mu Md
def Kn(f g b a h:Int):Option Bool:=
if((((geq f 1)||(geq f 2))&&(Om g 1))&&(gle g 6))then
some ((((((geq b 8)||(geq b 16))||(geq b 24))&&(Om a 1))&&(gle a 1048576))&&(Om h 1))
else
some (((false&&(Om a 1))&&(gle a 1048576))&&(Om h 1))
def Yn(h a k f b:Int):Option Bool:=
(
(Le (Bi a 0)).bind λ_=>
(
if(Ez b (Cv 4000 a))then
some true
else
(Ei f b).bind λg=>
some (Ez (Ac g) 1000)))
def Mf(a b f g h:Int):Option Int:=
(Kn a b f g h).bind λk=>
if(!k)then
some 8
else
(Yn a b f g h).bind λm=>
if m then
some 8
else
some 0
def Ej(a f g h k:Int)(b:LB):Option Int:=
if((b==([]:LB)) !=(geq a 1))then
some 26
else
some 0
def IX(b:Int):Option Int:=
if(Ez b 100000)then
some 8
else
some 0
def HP:=IX
def LZ(bk6:Int->Int->Option Int)(a:LI)(b f:Int):Option Int:=
(Ap a f).bind λg=>
bk6 (Ad b g) (Ad f 1)
def LJ bk6:=LZ bk6
def Yh(j8:Int->Int->Option Int)(j10:Int->Option Int)(a:LI)(b f:Int):Option Int:=
if(Cr f (Ac a))then
(Ap a f).bind λh=>
if(Cr h 5)then
some 8
else
(Ap a f).bind λk=>
if(Ez k 100000)then
some 8
else
j8 b f
else
j10 b
def Lc(a:LI):Nat->Int->Int->Option Int
|0,_,_=>none
|q+1,b,f=>Yh (LJ (Lc a q) a) HP a b f
def LW a:=Lc a Ay
def Yb(j6:LI->Int->Int->Option Int)(a:LI):Option Int:=
if((Cr (Ac a) 1)||(Ez (Ac a) 1000))then
some 8
else
j6 a 0 0
def Iz:=Yb LW
def Gx(g h k a b:Int):Option (LI):=
(Ei a b).bind λf=>
some f
def Gs(f a b g h:Int):Option (Int×Int):=
some (a,b)
def TI(a b:Int):Option Int:=
some (Cv (Bn a b) 8)
def OZ(k a b f g h:Int):Option Int:=
(Gs a b f g h).bind λ(p,u)=>
(TI p u).bind λv=>
some (Bn k v)
def QJ:=OZ
def AO(j6:Int->Int->Int->Int->Int->Int->Option Int)(Th:Int->Int->Option Int)(n a b f g h:Int)(m:LI)(k o:Int):Option Int:=
if(Cr o n)then
(Ap m o).bind λ_=>
(Ap m o).bind λw=>
Th (Ad k w) (Ad o 1)
else
j6 k a b f g h
def Nf(n a b f g h:Int)(m:LI):Nat->Int->Int->Option Int
|0,_,_=>none
|q+1,k,o=>AO QJ (Nf n a b f g h m q) n a b f g h m k o
def nP n a b f g h m:=Nf n a b f g h m Ay
def QY(j4:Int->Int->Int->Int->Int->Int->LI->Int->Int->Option Int)(a b f g h n:Int):Option Int:=
(Gx a b f g h).bind λm=>
j4 n a b f g h m 0 0
def Yp:=QY nP
abbrev Gu:=Option (Int×Int)
def kG(a:Int):Gu:=
some (a,0)
def jP:=kG
def Xp(j6:Int->Gu)(Th:Int->Int->Gu)(b:LB)(a f:Int):Gu:=
if(Cr f 4)then
(Ap b f).bind λg=>
if(Om g 128)then
some (0,12)
else
(Ap b f).bind λh=>
Th (Ad (Bn 128 a) (Af h:Int)) (Ad f 1)
else
j6 a
def Lo(b:LB):Nat->Int->Int->Gu
|0,_,_=>none
|q+1,a,f=>Xp jP (Lo b q) b a f
def LH b:=Lo b Ay
def ME(j4:LB->Int->Int->Gu)(b:LB):Gu:=
if(Bi (Ac b) 4)then
some (0,2)
else
j4 b 0 0
def EF:=ME LH
abbrev Ih:=Option (Int×Int)
def PF(a:LB)(g:Int):Ih:=
if(Ez g 4000)then
some (0,4)
else
if(Cr (Ac a) g)then
some (0,24)
else
(Ap a 5).bind λh=>
if(geq h 16)then
(Bk a (Am g 10) g).bind λk=>
(Bk a 3 10).bind λm=>
(Dy ([51,68,73]:LB) m).bind λn=>
if(k !=n)then
some (0,12)
else
some (g,0)
else
some (g,0)
def Zh:=PF
def PO(j6:LB->Int->Ih)(a:LB)(b:Int):Ih:=
(Ap a 5).bind λo=>
if(geq o 16)then
j6 a (Ad (Ad 10 b) 10)
else
j6 a (Ad 10 b)
def Zf:=PO Zh
def PM(j5:LB->Int->Ih)(a:LB):Ih:=
if(Cr (Ac a) 10)then
some (0,24)
else
(Bk a 6 10).bind λp=>
(EF p).bind λ(b,f)=>
(Ap a 3).bind λu=>
if(Cr u 2)then
if true then
if true then
if(true||(Bi f 0))then
some (0,12)
else
j5 a b
else
(Ap a 5).bind λv=>
if(Bi v 0)then
(Ap a 5).bind λw=>
if(Bi w 16)then
if(true||(Bi f 0))then
some (0,12)
else
j5 a b
else
(Ap a 3).bind λy=>
if((Bi y 4)||(Bi f 0))then
some (0,12)
else
j5 a b
else
if(false||(Bi f 0))then
some (0,12)
else
j5 a b
else
(Ap a 4).bind λaa=>
if(Bi aa 0)then
if(true||(Bi f 0))then
some (0,12)
else
j5 a b
else
(Ap a 5).bind λab=>
if(Bi ab 0)then
(Ap a 5).bind λac=>
if(Bi ac 16)then
if(true||(Bi f 0))then
some (0,12)
else
j5 a b
else
(Ap a 3).bind λad=>
if((Bi ad 4)||(Bi f 0))then
some (0,12)
else
j5 a b
else
if(false||(Bi f 0))then
some (0,12)
else
j5 a b
else
(Ap a 3).bind λae=>
if(Ez ae 4)then
if true then
if(true||(Bi f 0))then
some (0,12)
else
j5 a b
else
(Ap a 5).bind λaf=>
if(Bi af 0)then
(Ap a 5).bind λag=>
if(Bi ag 16)then
if(true||(Bi f 0))then
some (0,12)
else
j5 a b
else
(Ap a 3).bind λah=>
if((Bi ah 4)||(Bi f 0))then
some (0,12)
else
j5 a b
else
if(false||(Bi f 0))then
some (0,12)
else
j5 a b
else
(Ap a 4).bind λai=>
if(Bi ai 0)then
if(true||(Bi f 0))then
some (0,12)
else
j5 a b
else
(Ap a 5).bind λaj=>
if(Bi aj 0)then
(Ap a 5).bind λak=>
if(Bi ak 16)then
if(true||(Bi f 0))then
some (0,12)
else
j5 a b
else
(Ap a 3).bind λal=>
if((Bi al 4)||(Bi f 0))then
some (0,12)
else
j5 a b
else
if(false||(Bi f 0))then
some (0,12)
else
j5 a b
def OS:=PM Zf
def QB(j4:LB->Ih)(a:LB):Ih:=
if(Cr (Ac a) 3)then
some (0,6)
else
(Bk a 0 3).bind λam=>
if(am !=([73,68,51]:LB))then
some (0,6)
else
j4 a
def KJ:=QB OS
def VG(a:UInt64):Option UInt64:=
some a
def XR:=VG
def EJ(j6:UInt64->Option UInt64)(Th:UInt64->Int->Option UInt64)(b:LB)(a:UInt64)(f:Int):Option UInt64:=
if(Om f 0)then
(Ap b f).bind λg=>
Th (Ad (Bn 256 a) (Af g:UInt64)) (Am f 1)
else
j6 a
def Qg(b:LB):Nat->UInt64->Int->Option UInt64
|0,_,_=>none
|q+1,a,f=>EJ XR (Qg b q) b a f
def WJ b:=Qg b Ay
def VC(j4:LB->UInt64->Int->Option UInt64)(b:LB):Option UInt64:=
j4 b 0 (Am (Ac b) 1)
def Dz:=VC WJ
def Ym(b:LB):Option (Int×Int×Bool):=
(Bk b 12 16).bind λg=>
(Dz g).bind λa=>
(Bk b 16 20).bind λh=>
(Dz h).bind λf=>
if(((Cr a 32)||(Ez a 3032))||(Ez f 1000))then
some (0,0,false)
else
some ((Am (Af a:Int) 32),(Af f:Int),true)
def FP(a:LB):Option (LB):=
some a
def FT:=FP
def Ue(j6:LB->Option (LB))(Th:UInt64->Int->LB->Option (LB))(b:Int)(f:UInt64)(g:Int)(a:LB):Option (LB):=
if(Cr g b)then
(Dy a ([(Af (GJ f 256):UInt8)]:LB)).bind λh=>
Th (Cv f 256) (Ad g 1) h
else
j6 a
def Jl(b:Int):Nat->UInt64->Int->LB->Option (LB)
|0,_,_,_=>none
|q+1,f,g,a=>Ue FT (Jl b q) b f g a
def FY b:=Jl b Ay
def FJ(j4:Int->UInt64->Int->LB->Option (LB))(k:UInt64)(b:Int):Option (LB):=
j4 b k 0 ([]:LB)
def Fg:=FJ FY
def Ua(a b:Int)(f:UInt64):Option (LB):=
(Fg 2000 4).bind λg=>
(Dy ([(65:UInt8),(80:UInt8),(69:UInt8),(84:UInt8),(65:UInt8),(71:UInt8),(69:UInt8),(88:UInt8)]:LB) g).bind λh=>
(Fg (Af (Ad a 32):UInt64) 4).bind λk=>
(Dy h k).bind λm=>
(Fg (Af b:UInt64) 4).bind λn=>
(Dy m n).bind λo=>
(Fg f 4).bind λp=>
(Dy o p).bind λu=>
(mkI (8:Int) (0:UInt8)).bind λv=>
(Dy u v).bind λw=>
some w
def Yl(a b:Int):Option (LB):=
(Ua a b 2684354560).bind λf=>
some f
def Nm(a b:Int)(f:Bool):Option (LB):=
if f then
(Ua a b 2147483648).bind λg=>
some g
else
(Ua a b 0).bind λh=>
some h
abbrev Na:=Option (Int×Int)
def MI(a:LB)(b f:Int):Na:=
if(Cr (Ac a) (Ad 64 b))then
some (0,24)
else
(Bk a (Am (Ad 64 b) 32) (Ad 64 b)).bind λg=>
(Nm b f true).bind λh=>
if(g !=h)then
some (0,12)
else
some ((Ad 64 b),0)
def KX:=MI
def MH(j4:LB->Int->Int->Na)(a:LB):Na:=
if(Cr (Ac a) 32)then
some (0,24)
else
(Bk a 0 32).bind λk=>
(Ym k).bind λ(b,f,m)=>
if(!m)then
some (0,12)
else
(Bk a 0 32).bind λn=>
(Yl b f).bind λo=>
if(n !=o)then
some (0,12)
else
j4 a b f
def KV:=MH KX
def MC(j3:LB->Na)(a:LB):Na:=
if(Cr (Ac a) 8)then
some (0,6)
else
(Bk a 0 8).bind λp=>
if(p !=([65,80,69,84,65,71,69,88]:LB))then
some (0,6)
else
j3 a
def EI:=MC KV
abbrev Hb:=Option (LI×Int)
def LD(bk6:Int->LI->Hb)(a:LB)(b:Int)(f:LI)(g h:Int):Hb:=
if(geq h 6)then
some (f,0)
else
if(Bi h 0)then
some (([]:LI),h)
else
if(Ez (Ad b g) 4000)then
some (([]:LI),4)
else
(Dy f ([g]:LI)).bind λm=>
bk6 (Ad b g) m
def Qi bk6:=LD bk6
def Yi(j9:Int->LI->Int->Int->Hb)(a:LB)(b:Int)(f:LI):Hb:=
(Bk a b (Ac a)).bind λn=>
(KJ n).bind λ(o,k)=>
if(geq k 6)then
(Bk a b (Ac a)).bind λp=>
(EI p).bind λ(u,v)=>
j9 b f u v
else
j9 b f o k
def Qq(a:LB):Nat->Int->LI->Hb
|0,_,_=>none
|q+1,b,f=>Yi (Qi (Qq a q) a) a b f
def kI a:=Qq a Ay
def kK(j6:LB->Int->LI->Hb)(a:LB):Hb:=
j6 a 0 ([]:LI)
def YL:=kK kI
abbrev Gt:=Option (Int×Int)
def MJ(a b:Int):Gt:=
some (b,a)
def LR:=MJ
def Yc(j6:Int->Int->Gt)(Th:Int->Int->Gt)(a:Int)(f:LI)(b g:Int):Gt:=
if(Cr g (Ac f))then
(Ap f g).bind λ_=>
(Ap f g).bind λh=>
Th (Ad b h) (Ad g 1)
else
j6 a b
def Lj(a:Int)(f:LI):Nat->Int->Int->Gt
|0,_,_=>none
|q+1,b,g=>Yc LR (Lj a f q) a f b g
def Xt a f:=Lj a f Ay
def LA(j4:Int->LI->Int->Int->Gt)(k:LB):Gt:=
(YL k).bind λ(f,a)=>
j4 a f 0 0
def Mo:=LA Xt
def Tk(a b:LB):Option Bool:=
if(Cr (Ac a) (Ac b))then
(Bk b 0 (Ac a)).bind λf=>
some (a==f)
else
some false
def PN(a:UInt32)(b:Bool):Option UInt32:=
if b then
some (Zy (Cv a 2) 3988292384)
else
some (Cv a 2)
def OY:=PN
def PU(j2:UInt32->Bool->Option UInt32)(a:UInt32)(f:Int):Option UInt32:=
if(geq f 1)then
j2 a (!(geq (GJ a 2) 1))
else
j2 a (geq (GJ a 2) 1)
def KN:=PU OY
def OX(a:UInt32):Option UInt32:=
some a
def PT:=OX
def Zl(j6:UInt32->Option UInt32)(Th:UInt32->UInt8->Int->Option UInt32)(a:UInt32)(b:UInt8)(f:Int):Option UInt32:=
if(Cr f 8)then
(KN a (Af (GJ b 2):Int)).bind λg=>
Th g (Cv b 2) (Ad f 1)
else
j6 a
def Mv:Nat->UInt32->UInt8->Int->Option UInt32
|0,_,_,_=>none
|q+1,a,b,f=>Zl PT (Mv q) a b f
def lA:=Mv Ay
def kW(j4:UInt32->UInt8->Int->Option UInt32)(h:UInt32)(k:UInt8):Option UInt32:=
j4 h k 0
def aG:=kW lA
def HU(a:UInt32):Option UInt32:=
some a
def IF:=HU
def Wi(j6:UInt32->Option UInt32)(Th:UInt32->Int->Option UInt32)(b:LB)(a:UInt32)(f:Int):Option UInt32:=
if(Cr f (Ac b))then
(Ap b f).bind λg=>
(aG a g).bind λh=>
Th h (Ad f 1)
else
j6 a
def Kh(b:LB):Nat->UInt32->Int->Option UInt32
|0,_,_=>none
|q+1,a,f=>Wi IF (Kh b q) b a f
def IQ b:=Kh b Ay
def HM(j4:LB->UInt32->Int->Option UInt32)(k:UInt32)(b:LB):Option UInt32:=
j4 b k 0
def TE:=HM IQ
def Ww(a:LB):Option UInt32:=
(TE 4294967295 a).bind λb=>
some (Am 4294967295 b)
abbrev Ig:=Option (Int×Int×Int×Int×Int×Int)
def QP(k h g f b:UInt64):Ig:=
(Kn (Af k:Int) (Af h:Int) (Af g:Int) (Af f:Int) (Af b:Int)).bind λv=>
if(!v)then
some (0,0,0,0,0,12)
else
(Yn (Af k:Int) (Af h:Int) (Af g:Int) (Af f:Int) (Af b:Int)).bind λw=>
if w then
some (0,0,0,0,0,4)
else
some ((Af k:Int),(Af h:Int),(Af g:Int),(Af f:Int),(Af b:Int),0)
def PB:=QP
def QM(j6:UInt64->UInt64->UInt64->UInt64->UInt64->Ig)(a:LB):Ig:=
(Bk a 4 6).bind λu=>
(Bk a 6 8).bind λp=>
(Bk a 8 10).bind λo=>
(Bk a 10 14).bind λn=>
(Bk a 14 18).bind λm=>
(
(Dz u).bind λk=>
(
(Dz p).bind λh=>
(
(Dz o).bind λg=>
(
(Dz n).bind λf=>
(
(Dz m).bind λb=>
(
j6 k h g f b))))))
def RC:=QM PB
def PC(j5:LB->Ig)(a:LB):Ig:=
if(Cr (Ac a) 22)then
some (0,0,0,0,0,24)
else
(Bk a 18 22).bind λy=>
(Bk a 0 18).bind λaa=>
(Dz y).bind λab=>
(Ww aa).bind λac=>
if(Bi ab (Af ac:UInt64))then
some (0,0,0,0,0,22)
else
j5 a
def QV:=PC RC
def QW(j4:LB->Ig)(a:LB):Ig:=
(Bk a 0 (Fe 4 (Ac a))).bind λad=>
(Bk ([84,84,65,49]:LB) 0 (Fe 4 (Ac a))).bind λae=>
if(ad !=ae)then
some (0,0,0,0,0,12)
else
j4 a
def Nj:=QW QV
abbrev Wj:=Option (Int×Int×Int×Int×Int×Int×Int)
def FE(b:Int)(a:LB):Wj:=
(Nj a).bind λ(k,m,n,o,p,h)=>
if(geq h 24)then
some (0,0,0,0,0,0,(-1:Int))
else
some ((Ad b 22),k,m,n,o,p,h)
def EY:=FE
def GC(j2:Int->LB->Wj)(f:LB):Wj:=
(Mo f).bind λ(b,g)=>
if(geq g 24)then
some (0,0,0,0,0,0,(-1:Int))
else
if(Bi g 0)then
some (0,0,0,0,0,0,g)
else
(Bk f b (Ac f)).bind λa=>
(Tk a ([73,68,51]:LB)).bind λu=>
if u then
some (0,0,0,0,0,0,(-1:Int))
else
(Tk a ([65,80,69,84,65,71,69,88]:LB)).bind λv=>
if v then
some (0,0,0,0,0,0,(-1:Int))
else
j2 b a
def Zr:=GC EY
def QT(a:UInt64)(b:Bool):Option UInt64:=
if b then
some (Zy (Bn a 2) 4823603603198064275)
else
some (Bn a 2)
def Zt:=QT
def OW(j2:UInt64->Bool->Option UInt64)(a:UInt64)(f:Int):Option UInt64:=
if(geq f 1)then
j2 a (!(Om a 9223372036854775808))
else
j2 a (Om a 9223372036854775808)
def IL:=OW Zt
def RA(a:UInt64):Option UInt64:=
some a
def RB:=RA
def AF(j6:UInt64->Option UInt64)(Th:UInt64->Int->Option UInt64)(b:UInt8)(a:UInt64)(f:Int):Option UInt64:=
if(Ez f 0)then
(Le (Bi f 0)).bind λ_=>
(IL a (Ic (Cv (Af b:Int) f) 2)).bind λg=>
Th g (Cv f 2)
else
j6 a
def Nd(b:UInt8):Nat->UInt64->Int->Option UInt64
|0,_,_=>none
|q+1,a,f=>AF RB (Nd b q) b a f
def mP b:=Nd b Ay
def mH(j4:UInt8->UInt64->Int->Option UInt64)(h:UInt64)(b:UInt8):Option UInt64:=
j4 b h 128
def YW:=mH mP
def GZ(a:UInt64):Option UInt64:=
some a
def JA:=GZ
def Vn(j6:UInt64->Option UInt64)(Th:UInt64->Int->Option UInt64)(b:LB)(a:UInt64)(f:Int):Option UInt64:=
if(Cr f (Ac b))then
(Ap b f).bind λg=>
(YW a g).bind λh=>
Th h (Ad f 1)
else
j6 a
def Ju(b:LB):Nat->UInt64->Int->Option UInt64
|0,_,_=>none
|q+1,a,f=>Vn JA (Ju b q) b a f
def gM b:=Ju b Ay
def gO(j4:LB->UInt64->Int->Option UInt64)(k:UInt64)(b:LB):Option UInt64:=
j4 b k 0
def CE:=gO gM
def aK(a:LB):Option UInt64:=
(CE 0 a).bind λb=>
some b
def Rl(a:LB):Option (LB):=
(aK a).bind λb=>
(Fg b 8).bind λf=>
some f
abbrev Eu:=Option (LI×Int)
def OT(f:LI):Eu:=
(Iz f).bind λh=>
if(Bi h 0)then
some (([]:LI),12)
else
some (f,0)
def Zu:=OT
def Zk(j8:LI->Eu)(bk6:Int->LI->Eu)(b:LB)(a g:Int)(f:LI):Eu:=
if(Cr g a)then
(Bk b (Bn 4 g) (Ad (Bn 4 g) 4)).bind λk=>
(Dz k).bind λm=>
(Dy f ([(Af m:Int)]:LI)).bind λn=>
bk6 (Ad g 1) n
else
j8 f
def Mw(b:LB)(a:Int):Nat->Int->LI->Eu
|0,_,_=>none
|q+1,g,f=>Zk Zu (Mw b a q) b a g f
def QQ b a:=Mw b a Ay
def QE(j6:LB->Int->Int->LI->Eu)(b:LB)(a:Int):Eu:=
j6 b a 0 ([]:LI)
def QR:=QE QQ
def QZ(j5:LB->Int->Eu)(b:LB)(a:Int):Eu:=
if((Cr a 1)||(Ez a 1000))then
some (([]:LI),2)
else
if(Cr (Ac b) (Ad (Bn 4 a) 4))then
some (([]:LI),24)
else
(Bk b (Bn 4 a) (Ad (Bn 4 a) 4)).bind λo=>
(Bk b 0 (Bn 4 a)).bind λp=>
(Dz o).bind λu=>
(Ww p).bind λv=>
if(Bi u (Af v:UInt64))then
some (([]:LI),22)
else
j5 b a
def Rw:=QZ QR
abbrev Ld:=Option (Int×LI×Int)
def IY(b g:Int)(h:LI):Ld:=
if(geq g 24)then
some (0,([]:LI),(-1:Int))
else
some ((Ad (Ad b (Bn 4 (Ac h))) 4),h,g)
def GW:=IY
def IH(j4:Int->Int->LI->Ld)(a:LB)(f k m n o b:Int):Ld:=
(Bk a b (Ac a)).bind λp=>
(Gx f k m n o).bind λu=>
(Rw p (Ac u)).bind λ(h,g)=>
j4 b g h
def Dk:=IH GW
def Ht(j3:LB->Int->Int->Int->Int->Int->Int->Ld)(a:LB)(f k m n o:Int)(v:LB):Ld:=
if(geq f 2)then
if(Cr (Ac a) 8)then
some (0,([]:LI),(-1:Int))
else
(Bk a 0 8).bind λw=>
(Rl v).bind λy=>
if(w !=y)then
some (0,([]:LI),26)
else
j3 a f k m n o 8
else
j3 a f k m n o 0
def Et:=Ht Dk
def ZB(b:UInt64)(a:LB):Option (UInt64×Int):=
if(Ez (Ac a) 100000)then
some (0,4)
else
(CE b a).bind λf=>
some (f,0)
def eC(a:LB):Option (UInt64×Int):=
(ZB 0 a).bind λ(b,f)=>
some (b,f)
def pJ(a:LX):Option (LX):=
some a
def pR:=pJ
def WV(bk6:UInt64->Int->LX->Option (LX))(b:UInt64)(f:Int)(a:LX)(g:Int32):Option (LX):=
(Ap a f).bind λ_=>
(Nz a f g).bind λh=>
bk6 (Cv b 256) (Ad f 1) h
def DU bk6:=WV bk6
def EH(j8:UInt64->Int->LX->Int32->Option (LX))(j10:LX->Option (LX))(b:UInt64)(f:Int)(a:LX):Option (LX):=
if(Cr f 8)then
if(Ez (Af (GJ b 256):Int32) 127)then
j8 b f a (Am (Af (GJ b 256):Int32) 256)
else
j8 b f a (Af (GJ b 256):Int32)
else
j10 a
def Ma:Nat->UInt64->Int->LX->Option (LX)
|0,_,_,_=>none
|q+1,b,f,a=>EH (DU (Ma q)) pR b f a
def sQ:=Ma Ay
def sR(j6:UInt64->Int->LX->Option (LX))(k:UInt64):Option (LX):=
j6 k 0 (List.replicate 16 (0:Int32))
def iZ:=sR sQ
def Ys(a:LB):Option (LX×Int):=
if(Ez (Ac a) 64)then
some (([(0:Int32),(0:Int32),(0:Int32),(0:Int32),(0:Int32),(0:Int32),(0:Int32),(0:Int32),(0:Int32),(0:Int32),(0:Int32),(0:Int32),(0:Int32),(0:Int32),(0:Int32),(0:Int32)]:LX),2)
else
(eC a).bind λ(b,g)=>
(iZ b).bind λf=>
some (f,0)
def CC(b:LB):Option (LB):=
(Ww b).bind λa=>
(Dy ([]:LB) b).bind λf=>
(Dy f ([(Af a:UInt8),(Af (Ck a (GI.toZ (8:UInt64)).toNat):UInt8),(Af (Ck a (GI.toZ (16:UInt64)).toNat):UInt8),(Af (Ck a (GI.toZ (24:UInt64)).toNat):UInt8)]:LB)).bind λg=>
some g
def Tm(a:LB):Option Int:=
if(Cr (Ac a) 5)then
some 24
else
if(Ez (Ac a) 41254)then
some 4
else
(Bk a 0 (Am (Ac a) 4)).bind λb=>
(CC b).bind λf=>
if(f !=a)then
some 22
else
some 0
def Pp:Option (Int×Int×UInt64×UInt64):=
some (10,10,16384,16384)
def kF(a:UInt64):Option UInt64:=
some a
def jO:=kF
def Yg(j6:UInt64->Option UInt64)(Th:UInt64->Int->Option UInt64)(b:Int)(a:UInt64)(f:Int):Option UInt64:=
if(Cr f b)then
Th (Bn a 2) (Ad f 1)
else
j6 a
def Lh(b:Int):Nat->UInt64->Int->Option UInt64
|0,_,_=>none
|q+1,a,f=>Yg jO (Lh b q) b a f
def jU b:=Lh b Ay
def jX(j4:Int->UInt64->Int->Option UInt64)(b:Int):Option UInt64:=
j4 b 1 0
def Hf:=jX jU
def MT(a g:Int)(h k:UInt64)(b:UInt32):Option Bool:=
(Hf a).bind λf=>
some (Cr (Af b:UInt64) f)
def HJ(a g:Int)(h k:UInt64)(b:UInt32):Option UInt32:=
(Hf a).bind λf=>
some (Af (Am (Af b:UInt64) f):UInt32)
abbrev CI:=Option (Int×UInt64)
def QD(b:Int)(a f:UInt64):CI:=
if(Cr b 24)then
(Hf (Ad b 5)).bind λg=>
if(Ez (Am (Ad a f) (Cv a 16)) g)then
some ((Ad b 1),(Am (Ad a f) (Cv a 16)))
else
some (b,(Am (Ad a f) (Cv a 16)))
else
some (b,(Am (Ad a f) (Cv a 16)))
def Zs:=QD
def QS(j2:Int->UInt64->UInt64->CI)(b:Int)(a f:UInt64):CI:=
if(Ez b 0)then
(Hf (Ad b 4)).bind λh=>
if(Cr (Am (Ad a f) (Cv a 16)) h)then
some ((Am b 1),(Am (Ad a f) (Cv a 16)))
else
j2 b a f
else
j2 b a f
def Yt:=QS Zs
abbrev Xs:=Option (Int×Int×UInt64×UInt64)
def IW(h:UInt32)(f a:Int)(g b:UInt64)(o:Int)(p:UInt64):Xs:=
(Yt f g (Af h:UInt64)).bind λ(aa,ab)=>
some (aa,o,ab,p)
def Vs:=IW
def ID(j2:UInt32->Int->Int->UInt64->UInt64->Int->UInt64->Xs)(f a:Int)(g b:UInt64)(h:UInt32):Xs:=
(MT f a g b h).bind λu=>
if(!u)then
(
(
(HJ f a g b h).bind λk=>
(Yt a b (Af k:UInt64)).bind λ(m,n)=>
j2 h f a g b m n))
else
j2 h f a g b a b
def CG:=ID Vs
abbrev Gg:=Option (Int×Int×UInt64×UInt64)
def gY(a b:Int)(f g:UInt64):Gg:=
some (a,b,f,g)
def fH:=gY
def GX(j6:Int->Int->UInt64->UInt64->Gg)(Th:Int->Int->Int->UInt64->UInt64->Gg)(h:Int)(k:LU)(m a b:Int)(f g:UInt64):Gg:=
if(Cr m (Ac k))then
(Ap k m).bind λn=>
(CG a b f g n).bind λ(o,p,u,v)=>
Th (Ad m h) o p u v
else
j6 a b f g
def Pb(h:Int)(k:LU):Nat->Int->Int->Int->UInt64->UInt64->Gg
|0,_,_,_,_,_=>none
|q+1,m,a,b,f,g=>GX fH (Pb h k q) h k m a b f g
def fP h k:=Pb h k Ay
def GM(j4:Int->LU->Int->Int->Int->UInt64->UInt64->Gg)(h:Int)(k:LU):Gg:=
(Pp).bind λ(w,y,aa,ab)=>
(Le (Bi h 0)).bind λ_=>
j4 h k (Ic (Ac k) h) w y aa ab
def Tn:=GM fP
def XN(a:Int):Option Int:=
some (Ic a 2)
def VL:=XN
def DV(j6:Int->Option Int)(Th:Int->Int->Option Int)(b a f:Int):Option Int:=
if(Cr f (Ic b 8))then
Th (Cv a 2) (Ad f 1)
else
j6 a
def Qc(b:Int):Nat->Int->Int->Option Int
|0,_,_=>none
|q+1,a,f=>DV VL (Qc b q) b a f
def XB b:=Qc b Ay
def VP(j4:Int->Int->Int->Option Int)(g:LB)(k b:Int):Option Int:=
(Ap g (Cv b 8)).bind λh=>
j4 b (Af h:Int) 0
def Nq:=VP XB
abbrev Fq:=Option (LB×Int)
def SU(b g a:Int)(f:LB):Fq:=
(Ap f (Cv a 8)).bind λ_=>
(Ap f (Cv a 8)).bind λm=>
(Ap f (Cv a 8)).bind λ_=>
(Nz f (Cv a 8) (Ad m (Af (Bn b g):UInt8))).bind λn=>
some (n,(Ad a 1))
def CJ:=SU
def BZ(j8:Int->Int->Int->LB->Fq)(bk6:Int->Int->Fq)(b a:Int)(f:LB)(g h:Int):Fq:=
if(Cr h (Ic a 8))then
bk6 (Bn g 2) (Ad h 1)
else
j8 b g a f
def Oi(b a:Int)(f:LB):Nat->Int->Int->Fq
|0,_,_=>none
|q+1,g,h=>BZ CJ (Oi b a f q) b a f g h
def TK b a f:=Oi b a f Ay
def SZ(j6:Int->Int->LB->Int->Int->Fq)(b a:Int)(f:LB):Fq:=
j6 b a f 1 0
def BL:=SZ TK
def SX(j5:Int->Int->LB->Fq)(k:LB)(a b:Int):Fq:=
if(geq (Ic a 8) 0)then
(Dy k ([(0:UInt8)]:LB)).bind λo=>
j5 b a o
else
j5 b a k
def BF:=SX BL
abbrev Fl:=Option (LB×Int)
def cU(a:Int)(b:LB):Fl:=
some (b,a)
def cK:=cU
def Uk(j6:Int->LB->Fl)(Th:Int->Int->LB->Fl)(f:Int)(g:LB)(h k a:Int)(b:LB):Fl:=
if(Cr k f)then
(Nq g h k).bind λm=>
(BF b a m).bind λ(n,o)=>
Th (Ad k 1) o n
else
j6 a b
def Je(f:Int)(g:LB)(h:Int):Nat->Int->Int->LB->Fl
|0,_,_,_=>none
|q+1,k,a,b=>Uk cK (Je f g h q) f g h k a b
def dG f g h:=Je f g h Ay
def eQ(j4:Int->LB->Int->Int->Int->LB->Fl)(g:LB)(h p f:Int):Fl:=
j4 f g h p 0 ([]:LB)
def QX:=eQ dG
def kL(a:UInt64):Option UInt64:=
some a
def kA:=kL
def Xr(j6:UInt64->Option UInt64)(Th:UInt64->Int->Option UInt64)(b:Int)(f:LB)(g:Int)(a:UInt64)(h:Int):Option UInt64:=
if(Om h 0)then
(Nq f g (Ad b h)).bind λk=>
Th (Ad (Bn 2 a) (Af k:UInt64)) (Am h 1)
else
j6 a
def Li(b:Int)(f:LB)(g:Int):Nat->UInt64->Int->Option UInt64
|0,_,_=>none
|q+1,a,h=>Xr kA (Li b f g q) b f g a h
def KY b f g:=Li b f g Ay
def MG(j4:Int->LB->Int->UInt64->Int->Option UInt64)(f:LB)(g b m:Int):Option UInt64:=
j4 b f g 0 (Am m 1)
def Wf:=MG KY
abbrev Ja:=Option (Int×Int)
def TF(b a:Int)(g:LB)(f:Int):Ja:=
if(geq a 48)then
some (a,(Ad b a))
else
if(Om (Ad b a) f)then
some ((-1:Int),0)
else
some (a,(Ad (Ad b a) 1))
def CA:=TF
def BR(j6:Int->Int->LB->Int->Ja)(Th:Int->Ja)(b:Int)(g:LB)(f a:Int):Ja:=
if((Cr (Ad b a) f)&&(Cr a 48))then
(Nq g f (Ad b a)).bind λh=>
if(geq h 1)then
Th (Ad a 1)
else
j6 b a g f
else
j6 b a g f
def Oh(b:Int)(g:LB)(f:Int):Nat->Int->Ja
|0,_=>none
|q+1,a=>BR CA (Oh b g f q) b g f a
def pK b g f:=Oh b g f Ay
def pU(j4:Int->LB->Int->Int->Ja)(g:LB)(f b:Int):Ja:=
j4 b g f 0
def cT:=pU pK
def JN(b:UInt32)(f:Int):Option Int:=
(Hf f).bind λa=>
(Le (Bi a 0)).bind λ_=>
some (Af (Fe 48 (Cv (Af b:UInt64) a)):Int)
abbrev DW:=Option (UInt32×Int×Int)
def BO(g a b:Int)(h:LB)(f k:Int):DW:=
if((Cr a 0)||(Cr (Am f b) k))then
some (0,0,24)
else
(Wf h f b k).bind λm=>
if(Cr a 48)then
(Hf g).bind λo=>
some ((Af (Ad (Bn (Af a:UInt64) o) m):UInt32),(Ad b k),0)
else
(JN (Af m:UInt32) g).bind λp=>
if(Cr p a)then
some (0,0,12)
else
some ((Af m:UInt32),(Ad b k),0)
def BM:=BO
def TJ(j2:Int->Int->Int->LB->Int->Int->DW)(h:LB)(f n g:Int):DW:=
if(Om n f)then
some (0,0,24)
else
(cT h f n).bind λ(a,b)=>
if(geq a 48)then
j2 g a b h f 32
else
j2 g a b h f g
def NL:=TJ BM
def MU(g:LB)(b a f n:Int)(v w:UInt64):Option (UInt32×Int×Int):=
if(Om a b)then
some (0,0,24)
else
(Nq g b a).bind λo=>
if(geq o 0)then
if(Cr (Am (Am b a) 1) f)then
some (0,0,24)
else
(Wf g b (Ad a 1) f).bind λp=>
some ((Af p:UInt32),(Ad (Ad a 1) f),0)
else
(NL g b (Ad a 1) n).bind λ(h,u,k)=>
if(Bi k 0)then
some (0,0,k)
else
(Hf f).bind λm=>
if(Ez (Ad (Af h:UInt64) m) 4294967295)then
some (0,0,12)
else
some ((Af (Ad (Af h:UInt64) m):UInt32),u,0)
abbrev Bw:=Option (LU×Int)
def kJ(b:LU):Bw:=
some (b,0)
def jT:=kJ
def Xm(j18:LU->Bw)(Po:Int->Bw)(a:LB)(b:LU)(m:Int):Bw:=
if(Cr m (Bn 8 (Ac a)))then
(Nq a (Bn 8 (Ac a)) m).bind λn=>
if(Bi n 0)then
some (b,12)
else
Po (Ad m 1)
else
j18 b
def Lp(a:LB)(b:LU):Nat->Int->Bw
|0,_=>none
|q+1,m=>Xm jT (Lp a b q) a b m
def KZ a b:=Lp a b Ay
def KU(j16:LB->LU->Int->Bw)(f:Int)(a:LB)(b:LU):Bw:=
if(Ez (Am (Bn 8 (Ac a)) f) 7)then
some (b,12)
else
j16 a b f
def Yf:=KU KZ
def LO(Aqa:Int->Int->LU->Bw)(g h:Int)(a:LB)(f k:Int)(b:LU)(o p:Int)(u v:UInt64):Bw:=
(QX a (Bn 8 (Ac a)) f (Fe (Ad f 81) (Bn 8 (Ac a)))).bind λ(y,aa)=>
(MU y aa 0 o p u v).bind λ(ab,ac,w)=>
if(Bi w 0)then
some (b,w)
else
(Dy b ([ab]:LU)).bind λad=>
Aqa (Ad f ac) (Ad k 1) ad
def Ln Aqa:=LO Aqa
def KW(j13:Int->Int->LU->Int->Int->UInt64->UInt64->Bw)(j15:Int->LB->LU->Bw)(g h:Int)(a:LB)(f k:Int)(b:LU):Bw:=
if(Cr k (Bn h g))then
(Pp).bind λ(n,ae,af,ag)=>
if(Om k g)then
(Tn g b).bind λ(ah,ai,aj,ak)=>
j13 f k b ah ai aj ak
else
j13 f k b n ae af ag
else
j15 f a b
def Gd(g h:Int)(a:LB):Nat->Int->Int->LU->Bw
|0,_,_,_=>none
|q+1,f,k,b=>KW (Ln (Gd g h a q) g h a) Yf g h a f k b
def jW g h a:=Gd g h a Ay
def PZ(j10:Int->Int->LB->Int->Int->LU->Bw)(g h:Int)(a:LB):Bw:=
j10 g h a 0 0 ([]:LU)
def HV:=PZ jW
def rN(a:Int):Option (Int×Int):=
if(geq a 8)then
some (4,0)
else
if((geq a 16)||(geq a 24))then
some (5,0)
else
some (0,2)
def vS(a:Int)(b:LX):Option (Int×LX×LX×Int):=
(rN a).bind λ(g,f)=>
if(Bi f 0)then
some (0,(List.replicate 16 (0:Int32)),(List.replicate 16 (0:Int32)),2)
else
if(geq a 16)then
some (9,b,(List.replicate 16 (0:Int32)),0)
else
some (10,b,(List.replicate 16 (0:Int32)),0)
def dB(a:Int)(b:LX):Option (Int×Int32×Int×LX×LX×Int):=
(vS a b).bind λ(f,g,h,k)=>
if(Bi k 0)then
some (0,0,0,(List.replicate 16 (0:Int32)),(List.replicate 16 (0:Int32)),2)
else
some (a,0,f,g,h,0)
def IM(a:UInt32):Option Int32:=
if(geq (GJ a 2) 0)then
some (Af (Cv a 2):Int32)
else
some (Af (Cv (uT (Ad (Af a:Int) 1)) 2):Int32)
def Dd(a:Int):Option Int32:=
some (Af (Af (Af a:UInt64):UInt32):Int32)
def TD(a:Int):Option Int32:=
some (Af a:Int32)
def SR:=TD
def BQ(j6:Int->Option Int32)(Th:Int->Int->Option Int32)(h:Int)(f g:LX)(a b:Int):Option Int32:=
if(Cr b 16)then
(Ap f b).bind λ_=>
(Ap g b).bind λ_=>
(Ap f b).bind λk=>
(Ap g b).bind λm=>
(Dd (Bn (Af k:Int) (Af m:Int))).bind λn=>
(Dd (Ad a (Af n:Int))).bind λo=>
Th (Af o:Int) (Ad b 1)
else
j6 a
def Og(h:Int)(f g:LX):Nat->Int->Int->Option Int32
|0,_,_=>none
|q+1,a,b=>BQ SR (Og h f g q) h f g a b
def pS h f g:=Og h f g Ay
def pN(j4:Int->LX->LX->Int->Int->Option Int32)(h:Int)(f g:LX):Option Int32:=
j4 h f g 0 0
def dX:=pN pS
def QL(b:Int)(f g:LX)(a:Int):Option Int32:=
(dX b f g).bind λk=>
(Dd (Ad (Af k:Int) (Cv a 2))).bind λh=>
(Le (Bi a 0)).bind λ_=>
(Le (Bi a 0)).bind λ_=>
if(Cr (Ic (Af h:Int) a) 0)then
some (Af (Am (Cv (Af h:Int) a) 1):Int32)
else
some (Af (Cv (Af h:Int) a):Int32)
def Zn:=QL
def PL(j2:Int->LX->LX->Int->Option Int32)(b:Int)(f g:LX):Option Int32:=
if(geq b 9)then
j2 b f g 512
else
j2 b f g 1024
def KK:=PL Zn
def JT(a:Int):Option Int32:=
if(geq a 0)then
some 4
else
if(gle a 3)then
some 2
else
some 1
def Yq(a:Int32):Option Int32:=
if(Cr a 0)then
some (-1:Int32)
else
if(Ez a 0)then
some 1
else
some 0
abbrev Fj:=Option (Int×LX×LX)
def dL(g:Int)(b a:LX):Fj:=
some (g,b,a)
def dM:=dL
def Us(j6:Int->LX->LX->Fj)(Th:Int->LX->Fj)(h:Int32)(g:Int)(a:LX)(f:Int)(b:LX):Fj:=
if(Cr f 16)then
(Ap b f).bind λ_=>
(Ap a f).bind λ_=>
(Ap b f).bind λk=>
(Ap a f).bind λm=>
(JT f).bind λn=>
(Yq m).bind λo=>
(Yq h).bind λp=>
(Ap b f).bind λ_=>
(Nz b f (Ad k (Bn (Bn n o) p))).bind λu=>
Th (Ad f 1) u
else
j6 g b a
def Jh(h:Int32)(g:Int)(a:LX):Nat->Int->LX->Fj
|0,_,_=>none
|q+1,f,b=>Us dM (Jh h g a q) h g a f b
def cS h g a:=Jh h g a Ay
def cP(j4:Int32->Int->LX->Int->LX->Fj)(g:Int)(v a:LX)(h:Int32):Fj:=
j4 h g a 0 v
def OQ:=cP cS
abbrev Gi:=Option (Int×LX×LX)
def HL(b:Int32)(f:Int)(g a:LX):Gi:=
(Ap a 0).bind λ_=>
(Nz a 0 b).bind λk=>
some (f,g,k)
def IE:=HL
def Vt(j6:Int32->Int->LX->LX->Gi)(Th:Int->LX->Gi)(b:Int32)(f:Int)(g:LX)(h:Int)(a:LX):Gi:=
if(Ez h 0)then
(Ap a (Am h 1)).bind λ_=>
(Ap a (Am h 1)).bind λm=>
(Ap a h).bind λ_=>
(Nz a h m).bind λn=>
Th (Am h 1) n
else
j6 b f g a
def Ke(b:Int32)(f:Int)(g:LX):Nat->Int->LX->Gi
|0,_,_=>none
|q+1,h,a=>Vt IE (Ke b f g q) b f g h a
def gV b f g:=Ke b f g Ay
def fU(j4:Int32->Int->LX->Int->LX->Gi)(f:Int)(g o:LX)(b:Int32):Gi:=
j4 b f g 15 o
def SY:=fU gV
def Zj(a:Int)(b f:LX)(g:Int32):Option (Int32×Int×LX×LX):=
(KK a b f).bind λk=>
(Dd (Ad (Af g:Int) (Af k:Int))).bind λh=>
(OQ a b f g).bind λ(m,n,o)=>
(SY m n o h).bind λ(p,u,v)=>
some (h,p,u,v)
def JE(b:Int32)(a:Int):Option Int32:=
(Le (Bi a 0)).bind λ_=>
(Le (Bi a 0)).bind λ_=>
if(Cr (Ic (Bn (Am a 1) (Af b:Int)) a) 0)then
some (Af (Am (Cv (Bn (Am a 1) (Af b:Int)) a) 1):Int32)
else
some (Af (Cv (Bn (Am a 1) (Af b:Int)) a):Int32)
def Vo:=JE
def JM(j2:Int32->Int->Option Int32)(f:Int)(b:Int32):Option Int32:=
if(geq f 5)then
j2 b 32
else
j2 b 16
def Tp:=JM Vo
def CK(b:Int)(a:Int32)(h:Int)(k m:LX):Option Int:=
if(geq b 8)then
(Tp 4 a).bind λf=>
some (Af f:Int)
else
(Tp 5 a).bind λg=>
some (Af g:Int)
def Zm(a:Int)(k:Int32)(b:Int)(f g:LX)(m:Int32):Option (Int32×Int×Int32×Int×LX×LX):=
(Zj b f g m).bind λ(n,o,p,u)=>
(CK a k b f g).bind λv=>
(Dd (Ad (Af n:Int) v)).bind λh=>
some (h,a,h,o,p,u)
def Vl(a:Int)(b:LX):Option Int:=
if((Cr a 1)||(Ez a 6))then
some 2
else
if(Ez (Ac b) 4000)then
some 4
else
(Le (Bi a 0)).bind λ_=>
if(Ez (Ic (Ac b) a) 0)then
some 2
else
some 0
def eG(b:LX):Option (LX):=
some b
def cZ:=eG
def Tu(j8:LX->Option (LX))(bk6:Int->LX->Option (LX))(a:LX)(f:Int)(b:LX):Option (LX):=
if(Om f 0)then
(Ap b (Ad f 1)).bind λ_=>
(Ap a f).bind λm=>
(Ap b (Ad f 1)).bind λn=>
(Dd (Am (Af n:Int) (Af m:Int))).bind λo=>
(Ap b f).bind λ_=>
(Nz b f o).bind λp=>
bk6 (Am f 1) p
else
j8 b
def Ji(a:LX):Nat->Int->LX->Option (LX)
|0,_,_=>none
|q+1,f,b=>Tu cZ (Ji a q) a f b
def dV a:=Ji a Ay
def FI(j6:LX->Int->LX->Option (LX))(a g:LX):Option (LX):=
j6 a (Am (Ac a) 2) g
def Tw:=FI dV
def FQ(j5:LX->LX->Option (LX))(a:LX):Option (LX):=
(mkI (Ac a) (0:Int32)).bind λk=>
(Le (geq (Ac a) (Ac a))).bind λ_=>
(Ap a (Am (Ac a) 1)).bind λu=>
(Ap k (Am (Ac a) 1)).bind λ_=>
(Nz k (Am (Ac a) 1) u).bind λh=>
if(Ez (Ac a) 1)then
(Ap a (Am (Ac a) 1)).bind λv=>
(Ap a (Am (Ac a) 2)).bind λw=>
(Dd (Ad (Af v:Int) (Cv (Af w:Int) 2))).bind λy=>
(Ap h (Am (Ac a) 1)).bind λ_=>
(Nz h (Am (Ac a) 1) y).bind λaa=>
j5 a aa
else
j5 a h
def AQ:=FQ Tw
abbrev Ib:=Option (LX×Int)
def mA(f:LX):Ib:=
some (f,0)
def kZ:=mA
def PY(j6:LX->Ib)(Th:Int->LX->Ib)(a:Int)(b:LX)(g:Int)(f:LX):Ib:=
if(Cr g (Ac b))then
(Bk b g (Ad g a)).bind λh=>
(AQ h).bind λk=>
(Dy f k).bind λm=>
Th (Ad g a) m
else
j6 f
def Rj(a:Int)(b:LX):Nat->Int->LX->Ib
|0,_,_=>none
|q+1,g,f=>PY kZ (Rj a b q) a b g f
def nF a b:=Rj a b Ay
def OV(j4:Int->LX->Int->LX->Ib)(a:Int)(b:LX):Ib:=
(Vl a b).bind λn=>
if(Bi n 0)then
(Vl a b).bind λo=>
some (([]:LX),o)
else
j4 a b 0 ([]:LX)
def GR:=OV nF
def FF(a f:Int)(w:LX):Option (LX):=
(GR a w).bind λ(aj,ai)=>
some aj
def Tx:=FF
def GA(Afl:Int->LX->Option (LX))(b:LU)(a f:Int)(g:LX)(h:Int)(m:LX):Option (LX):=
Afl (Ad h 1) m
def FN Afl:=GA Afl
def FH(Aqb:Int->LX->Int->Int32->Int->LX->LX->Option (LX))(b:LU)(h a f:Int)(g:LX)(k:Int)(af:LX)(y:Int)(aa:Int32)(ab:Int)(ac ad:LX):Option (LX):=
Aqb (Ad k a) af y aa ab ac ad
def FC Aqb:=FH Aqb
def FO(j30:Int->LX->Int->Int32->Int->LX->LX->Option (LX))(b:LU)(h a f:Int)(g:LX)(k:Int)(ae:Int32)(m:LX)(n:Int)(o:Int32)(p:Int)(u v:LX)(y:Int)(aa:Int32)(ab:Int)(ac ad:LX):Option (LX):=
(Ap m k).bind λ_=>
(Nz m k ae).bind λaf=>
j30 k af y aa ab ac ad
def FV Aqb b h a f g:=FO (FC Aqb b h a f g) b h a f g
def FX(j29:Int->Int32->LX->Int->Int32->Int->LX->LX->Int->Int32->Int->LX->LX->Option (LX))(j32:Int->LX->Option (LX))(b:LU)(a f:Int)(g:LX)(h k:Int)(m:LX)(n:Int)(o:Int32)(p:Int)(u v:LX):Option (LX):=
if(Cr k (Ac b))then
(Ap b k).bind λah=>
(
(IM ah).bind λag=>
(
(Zm n o p u v ag).bind λ(ae,y,aa,ab,ac,ad)=>
j29 k ae m n o p u v y aa ab ac ad))
else
j32 h m
def Np(Afl:Int->LX->Option (LX))(b:LU)(a f:Int)(g:LX)(h:Int):Nat->Int->LX->Int->Int32->Int->LX->LX->Option (LX)
|0,_,_,_,_,_,_,_=>none
|q+1,k,m,n,o,p,u,v=>FX (FV (Np Afl b a f g h q) b h a f g) (FN Afl b a f g) b a f g h k m n o p u v
def FB Afl b a f g h:=Np Afl b a f g h Ay
def Uj(j26:Int->Int->LX->Int->Int32->Int->LX->LX->Option (LX))(j34:Int->Int->LX->Option (LX))(b:LU)(a f:Int)(g:LX)(h:Int)(w:LX):Option (LX):=
if(Cr h a)then
(dB f g).bind λ(ak,ai,al,am,an,aq)=>
j26 h h w ak ai al am an
else
j34 a f w
def Gn(b:LU)(a f:Int)(g:LX):Nat->Int->LX->Option (LX)
|0,_,_=>none
|q+1,h,w=>Uj (FB (Gn b a f g q) b a f g) Tx b a f g h w
def FW b a f g:=Gn b a f g Ay
def KG(j18:LU->Int->Int->LX->Int->LX->Option (LX))(a f:Int)(g:LX)(b:LU):Option (LX):=
(mkI (Ac b) (0:Int32)).bind λao=>
(Le (geq (Ac b) (Ac b))).bind λ_=>
j18 b a f g 0 ao
def Tt:=KG FW
def Tl(g f:Int)(a:LX):Option (LX×Int):=
(Ax f a).bind λb=>
if(Bi b 0)then
some (([]:LX),b)
else
some (a,0)
abbrev Xy:=Option (LX×Int)
def Hw(f a b:Int)(g:LX)(h:LU):Xy:=
if(Bi f 0)then
some (([]:LX),f)
else
(
(
(Tt a b g h).bind λm=>
(Tl a b m).bind λ(n,o)=>
some (n,o)))
def Hu:=Hw
def Ot(j2:Int->Int->Int->LX->LU->Xy)(a b:Int)(g:LX)(p:Int)(k:LB):Xy:=
(Dr a b p).bind λy=>
if(Bi y 0)then
some (([]:LX),2)
else
(Tm k).bind λaa=>
if(Bi aa 0)then
(Tm k).bind λab=>
some (([]:LX),ab)
else
(Bk k 0 (Am (Ac k) 4)).bind λac=>
(HV a p ac).bind λ(h,f)=>
j2 f a b g h
def Di:=Ot Hu
def BS(a b:Int):Option (LB):=
if(geq a 24)then
(Dy ([(Af (Ic b 256):UInt8),(Af (Ic (Cv b 256) 256):UInt8)]:LB) ([(Af (Cv b 65536):UInt8)]:LB)).bind λg=>
some g
else
some ([(Af (Ic b 256):UInt8),(Af (Ic (Cv b 256) 256):UInt8)]:LB)
def Of:=BS
def SW(j2:Int->Int->Option (LB))(a:Int)(f:Int32):Option (LB):=
if(geq a 8)then
some ([(Af (Ad (Af f:Int) 128):UInt8)]:LB)
else
if(Cr (Af f:Int) 0)then
(Jy a).bind λh=>
j2 a (Ad (Af f:Int) (Bn 2 h))
else
j2 a (Af f:Int)
def NK:=SW Of
abbrev Ha:=Option (LB×Int)
def kD(b:LB):Ha:=
some (b,0)
def jR:=kD
def Ya(j6:LB->Ha)(Th:Int->LB->Ha)(f:Int)(a:LX)(g:Int)(b:LB):Ha:=
if(Cr g (Ac a))then
(Ap a g).bind λh=>
(NK f h).bind λk=>
(Dy b k).bind λm=>
Th (Ad g 1) m
else
j6 b
def Lg(f:Int)(a:LX):Nat->Int->LB->Ha
|0,_,_=>none
|q+1,g,b=>Ya jR (Lg f a q) f a g b
def kE f a:=Lg f a Ay
def LM(j4:Int->LX->Int->LB->Ha)(f:Int)(a:LX):Ha:=
(Ax f a).bind λn=>
if(Bi n 0)then
(Ax f a).bind λo=>
some (([]:LB),o)
else
j4 f a 0 ([]:LB)
def Wl:=LM kE
abbrev Xw:=Option (LB×Int)
def Fm(o:LX)(f:Int)(p g:LB)(h k a m n:Int)(u:LI)(b:Int)(v:LB)(w:Bool)(y:Int):Xw:=
if(Bi f 0)then
some (([]:LB),f)
else
(Wl a o).bind λ(ac,ai)=>
some (ac,0)
def Fk:=Fm
def Fp(j2:LX->Int->LB->LB->Int->Int->Int->Int->Int->LI->Int->LB->Bool->Int->Xw)(p g:LB)(h k a m n:Int)(u:LI)(b:Int)(v:LB)(w:Bool)(y:Int):Xw:=
(Ap u b).bind λaa=>
if(Cr (Ac g) aa)then
some (([]:LB),(-1:Int))
else
(Ys p).bind λ(ad,aj)=>
(Bk g 0 aa).bind λae=>
(Gs h k a m n).bind λ(af,ag)=>
(Gx h k a m n).bind λab=>
(Ap ab b).bind λ_=>
(Ap ab b).bind λah=>
(Di af ag ad ah ae).bind λ(o,f)=>
j2 o f p g h k a m n u b v w y
def Dh:=Fp Fk
abbrev Ok:=Option (LB×LB×Int×Int×Int×Int×Int×LI×Int×LB×Bool×Int×Int)
def Br(g a:LB)(m o p u v:Int)(b:LI)(f:Int)(n:LB)(h:Bool)(k:Int):Ok:=
if(geq (Ac b) 0)then
(Et a m o p u v g).bind λ(ag,ak,w)=>
if(Bi w 0)then
some (g,a,m,o,p,u,v,b,f,n,h,k,w)
else
(Bk a ag (Ac a)).bind λal=>
some (g,al,m,o,p,u,v,ak,f,n,h,k,0)
else
if(geq f (Ac b))then
if(Ez (Ac a) 4000)then
some (g,a,m,o,p,u,v,b,f,n,h,k,38)
else
some (g,a,m,o,p,u,v,b,f,n,h,k,(-1:Int))
else
(Dh g a m o p u v b f n h k).bind λ(am,y)=>
if(Bi y 0)then
some (g,a,m,o,p,u,v,b,f,n,h,k,y)
else
(Dy ([]:LB) n).bind λan=>
(Dy an am).bind λah=>
(
(
(
(Ap b f).bind λad=>
(
(Bk a ad (Ac a)).bind λae=>
some (g,ae,m,o,p,u,v,b,(Ad f 1),ah,h,k,0)))))
def Bq:=Br
def He(g af:LB)(aa w ab ac y:Int)(b:LI)(f:Int)(n:LB)(h:Bool)(k:Int):Ok:=
(Ej aa w ab ac y g).bind λaw=>
some (g,af,aa,w,ab,ac,y,b,f,n,h,k,aw)
def Hg:=He
def Bl(j3:LB->LB->Int->Int->Int->Int->Int->LI->Int->LB->Bool->Int->Ok)(j4:LB->LB->Int->Int->Int->Int->Int->LI->Int->LB->Bool->Int->Ok)(g a:LB)(m o p u v:Int)(b:LI)(f:Int)(n:LB)(h:Bool)(k:Int):Ok:=
if(geq m 0)then
(Zr a).bind λ(ag,aa,w,ab,ac,y,ai)=>
if(Bi ai 0)then
some (g,a,m,o,p,u,v,b,f,n,h,k,ai)
else
(
(Bk a ag (Ac a)).bind λaf=>
(
j3 g af aa w ab ac y b f n h k))
else
j4 g a m o p u v b f n h k
def Ag:=Bl Hg Bq
def Xz(o p:LB)(b f g h k:Int)(m:LI)(a:Int)(n:LB)(u:Bool)(v:Int):Option Bool:=
(Ag o p b f g h k m a n u v).bind λ(af,ag,ah,ai,aj,ak,al,am,an,ao,ap,aq,w)=>
some (geq w (-1:Int))
def Cl:=Xz
def Ql(j4:LB->LB->Int->Int->Int->Int->Int->LI->Int->LB->Bool->Int->Option Bool)(o p:LB)(b f g h k:Int)(m:LI)(a:Int)(n:LB)(u:Bool)(v:Int):Option Bool:=
if(geq (Ac m) 0)then
if((Bi a 0)||(Ez (Ac n) 0))then
some false
else
j4 o p b f g h k m a n u v
else
(Iz m).bind λy=>
if(Bi y 0)then
if((true||(Cr a 0))||(Ez a (Ac m)))then
some false
else
(Yp b f g h k a).bind λaa=>
if(Ez (Ac n) aa)then
some false
else
j4 o p b f g h k m a n u v
else
(Gx b f g h k).bind λab=>
if(((Bi (Ac m) (Ac ab))||(Cr a 0))||(Ez a (Ac m)))then
some false
else
(Yp b f g h k a).bind λac=>
if(Ez (Ac n) ac)then
some false
else
j4 o p b f g h k m a n u v
def Qk:=Ql Cl
def Xv(j4:LB->LB->Int->Int->Int->Int->Int->LI->Int->LB->Bool->Int->Option Bool)(j3:LB->LB->Int->Int->Int->Int->Int->LI->Int->LB->Bool->Int->Option Bool)(o p:LB)(b f g h k:Int)(m:LI)(a:Int)(n:LB)(u:Bool)(v:Int):Option Bool:=
if((geq b 0)&&((geq f 0)&&((geq g 0)&&((geq h 0)&&((geq k 0)&&true)))))then
if(((Ez (Ac m) 0)||(Bi a 0))||(Ez (Ac n) 0))then
some false
else
j4 o p b f g h k m a n u v
else
(Mf b f g h k).bind λad=>
if(Bi ad 0)then
some false
else
(Ej b f g h k o).bind λae=>
if(Bi ae 0)then
some false
else
j3 o p b f g h k m a n u v
def Me:=Xv Cl Qk
def Zx(a:Int):Option Bool:=
some (((((((geq a 4)||(geq a 12))||(geq a 16))||(geq a 22))||(geq a 24))||(geq a 26))||(geq a 38))
def Fs(h k:LB)(m n o p u:Int)(v:LI)(f:Int)(g:LB)(b:Bool)(a:Int):Option Int:=
if(Ez (Ac h) 64)then
some 8
else
if((geq a 0)&&(!b))then
(Me h k m n o p u v f g b a).bind λw=>
if(!w)then
some 8
else
some 0
else
if((geq (Ac k) 0)&&(geq (Ac v) 0))then
if((!(((geq m 0)&&((geq n 0)&&((geq o 0)&&((geq p 0)&&((geq u 0)&&true)))))&&(geq f 0)))||(Ez (Ac g) 12000))then
some 8
else
if(Bi a 0)then
if b then
some 8
else
(Zx a).bind λy=>
if(!y)then
some 8
else
some 0
else
some 0
else
if((!(false&&(geq f 0)))||(Ez (Ac g) 12000))then
some 8
else
if(Bi a 0)then
if b then
some 8
else
(Zx a).bind λaa=>
if(!aa)then
some 8
else
some 0
else
some 0
abbrev BU:=Option (LB×LB×Int×Int×Int×Int×Int×LI×Int×LB×Bool×Int)
def Zp(f:LB)(g h k m n:Int)(o:LI)(p:Int)(u:Bool)(v:Int)(a b:LB):BU:=
(Dy ([]:LI) o).bind λaf=>
some (f,a,g,h,k,m,n,af,p,b,u,v)
def AE:=Zp
def AN(j2:LB->Int->Int->Int->Int->Int->LI->Int->Bool->Int->LB->LB->BU)(f w:LB)(g h k m n:Int)(o:LI)(p:Int)(y:LB)(u:Bool)(v:Int):BU:=
(
(
(
(Dy ([]:LB) w).bind λa=>
(
(Dy ([]:LB) y).bind λb=>
j2 f g h k m n o p u v a b))))
def Ro:=AN AE
def Ru(f g:LB)(h k m n o:Int)(p:LI)(u:Int)(v:LB)(b:Bool)(a:Int):Option Int:=
if(Bi a 0)then
some a
else
if b then
some 36
else
some 0
def IG(a m:LB)(n o p u v:Int)(w:LI)(y:Int)(b:LB)(aa:Bool)(ab:Int):Option (LB×LB×Int×Int×Int×Int×Int×LI×Int×LB×Bool×Int):=
(
(
(Dy ([]:LB) b).bind λf=>
some (a,([]:LB),0,0,0,0,0,([]:LI),0,f,false,0)))
def To(b f:LB)(g h k m n:Int)(o:LI)(p:Int)(u:LB)(v:Bool)(w a:Int):Option (LB×LB×Int×Int×Int×Int×Int×LI×Int×LB×Bool×Int×Int):=
(IG b f g h k m n o p u v w).bind λ(y,aa,ab,ac,ad,ae,af,ag,ah,ai,aj,ak)=>
some (y,aa,ab,ac,ad,ae,af,ag,ah,ai,aj,a,a)
abbrev Od:=Option (LB×LB×Int×Int×Int×Int×Int×LI×Int×LB×Bool×Int×Int)
def Bz(bk3:LB->LB->Int->Int->Int->Int->Int->LI->Int->LB->Bool->Int->Od)(a b:LB)(f g h k m:Int)(n:LI)(o:Int)(p:LB)(u:Bool)(v:Int):Od:=
(Ag a b f g h k m n o p u v).bind λ(bb,bc,bd,be,bf,bg,bh,bi,bj,bk,bl,bm,w)=>
if(geq w (-1:Int))then
(Ro a b f g h k m n o p u v).bind λ(bn,bp,bq,br,bs,bt,bu,bv,bw,bx,bz,da)=>
some (bn,bp,bq,br,bs,bt,bu,bv,bw,bx,bz,da,0)
else
if(Bi w 0)then
(To a b f g h k m n o p u v w).bind λ(db,dc,dd,de,df,dg,dh,di,dj,dk,dl,dm,dn)=>
some (db,dc,dd,de,df,dg,dh,di,dj,dk,dl,dm,dn)
else
bk3 bb bc bd be bf bg bh bi bj bk bl bm
def Bc:Nat->LB->LB->Int->Int->Int->Int->Int->LI->Int->LB->Bool->Int->Od
|0,_,_,_,_,_,_,_,_,_,_,_,_=>none
|q+1,a,b,f,g,h,k,m,n,o,p,u,v=>Bz (Bc q) a b f g h k m n o p u v
def mK:=Bc Ay
def Rk(j3:LB->LB->Int->Int->Int->Int->Int->LI->Int->LB->Bool->Int->Od)(al am:LB)(an ao ap aq ar:Int)(au:LI)(av:Int)(aw:LB)(ax:Bool)(ay:Int)(dp:LB):Od:=
(Fs al am an ao ap aq ar au av aw ax ay).bind λaz=>
if(Bi az 0)then
some (([]:LB),([]:LB),0,0,0,0,0,([]:LI),0,([]:LB),false,0,az)
else
(Ro al am an ao ap aq ar au av aw ax ay).bind λ(y,aa,ab,ac,ad,ae,af,ag,ah,ai,aj,ak)=>
(Ru y aa ab ac ad ae af ag ah ai aj ak).bind λba=>
if(Bi ba 0)then
some (y,aa,ab,ac,ad,ae,af,ag,ah,ai,aj,ak,ba)
else
(Dy aa dp).bind λdq=>
j3 y dq ab ac ad ae af ag ah ai aj ak
def Kc:=Rk mK
abbrev If:=Option (Int×Int)
def AH(a:LB)(f g:Int)(b h:LB)(k:Int):If:=
if(Cr (Ac a) k)then
some (0,24)
else
if(b==h)then
(Bk a (Am (Ac a) k) (Ad (Am (Ac a) k) 32)).bind λo=>
(Yl f g).bind λp=>
if(o !=p)then
some (0,12)
else
some (k,0)
else
some (k,0)
def AA:=AH
def Zo(j6:LB->Int->Int->LB->LB->Int->If)(a:LB)(f g:Int)(b h:LB):If:=
if(b==h)then
j6 a f g b h (Ad (Ad 32 f) 32)
else
j6 a f g b h (Ad 32 f)
def AM:=Zo AA
def QN(j5:LB->Int->Int->LB->LB->If)(a:LB):If:=
(Bk a (Am (Ac a) 32) (Ac a)).bind λb=>
(Ym b).bind λ(f,g,n)=>
if(!n)then
some (0,12)
else
(Nm f g true).bind λh=>
(
if(!(b==h))then
(Nm f g false).bind λm=>
if(b !=m)then
some (0,12)
else
j5 a f g b h
else
j5 a f g b h)
def OU:=QN AM
def OR(j4:LB->If)(a:LB):If:=
if(Cr (Ac a) 32)then
some (0,6)
else
(Bk a (Am (Ac a) 32) (Ad (Am (Ac a) 32) 8)).bind λu=>
if(u !=([65,80,69,84,65,71,69,88]:LB))then
some (0,6)
else
j4 a
def HX:=OR OU
abbrev Gh:=Option (Int×Int)
def gP(a:Int):Gh:=
some (a,0)
def iC:=gP
def IC(j6:Int->Gh)(Th:LB->Int->Gh)(b:LB)(a:Int):Gh:=
if(Ez (Ac b) 0)then
(HX b).bind λ(g,h)=>
if(Bi h 0)then
some (0,38)
else
(Bk b 0 (Am (Ac b) g)).bind λk=>
Th k (Ad a 1)
else
j6 a
def Pd:Nat->LB->Int->Gh
|0,_,_=>none
|q+1,b,a=>IC iC (Pd q) b a
def gH:=Pd Ay
def GV(j4:LB->Int->Gh)(f:LB):Gh:=
if(Ez (Ac f) 4000)then
some (0,38)
else
j4 f 0
def CF:=GV gH
def Du(p a:LB)(g u v w y:Int)(b:LI)(h:Int)(aa:LB)(ab:Bool)(ac:Int):Option Int:=
if(geq g 0)then
(Mo a).bind λ(k,f)=>
if(Bi f 0)then
some f
else
(Bk a k (Ac a)).bind λm=>
(Nj m).bind λ(ad,ae,af,ag,ah,n)=>
some n
else
if((geq (Ac b) 0)||(Cr h (Ac b)))then
some 24
else
(CF a).bind λ(ai,o)=>
if(Bi o 0)then
some 38
else
some 0
abbrev bE:=Option (Int×Int×Int×Int×Int×Int×LI×Int)
def nS(a:LB)(b f g h k n:Int):bE:=
(Dm b f g h k).bind λ(ab,p)=>
if(Bi p 0)then
some (0,0,0,0,0,0,([]:LI),p)
else
(Bk a n (Ac a)).bind λac=>
(EA ac (Ac ab)).bind λ(u,v)=>
if(Bi v 0)then
some (0,0,0,0,0,0,([]:LI),v)
else
some (b,f,g,h,k,(Ad (Ad n (Bn 4 (Ac u))) 4),u,0)
def Un:=nS
def AJ(j2:LB->Int->Int->Int->Int->Int->Int->bE)(a o:LB):bE:=
if(Ez (Ac o) 64)then
some (0,0,0,0,0,0,([]:LI),2)
else
if(Ez (Ac a) 100000)then
some (0,0,0,0,0,0,([]:LI),4)
else
(Jm a).bind λ(m,w)=>
if(Bi w 0)then
some (0,0,0,0,0,0,([]:LI),w)
else
(Bk a m (Ac a)).bind λad=>
(Nc ad).bind λ(b,f,g,h,k,y)=>
if(Bi y 0)then
some (0,0,0,0,0,0,([]:LI),y)
else
if((o==([]:LB)) !=(geq b 1))then
some (0,0,0,0,0,0,([]:LI),26)
else
if(o !=([]:LB))then
if(Cr (Ac a) (Ad (Ad m 22) 8))then
some (0,0,0,0,0,0,([]:LI),24)
else
(Bk a (Ad m 22) (Ad (Ad m 22) 8)).bind λae=>
(Rq ae o).bind λ(af,aa)=>
if(Bi aa 0)then
some (0,0,0,0,0,0,([]:LI),aa)
else
if(!af)then
some (0,0,0,0,0,0,([]:LI),26)
else
j2 a b f g h k (Ad (Ad m 22) 8)
else
j2 a b f g h k (Ad m 22)
def Es:=AJ Un
abbrev Ll:=Option (Int×Int×Int×Int×Int×Int×LI×Int)
def IU(m n b h k f g:Int)(o:LI):Ll:=
if(Bi n 0)then
some (0,0,0,0,0,0,([]:LI),n)
else
some (b,h,k,f,g,(Ad (Ad m (Bn 4 (Ac o))) 4),o,0)
def HG:=IU
def IA(j4:Int->Int->Int->Int->Int->Int->Int->LI->Ll)(a:LB)(b h k f g m:Int):Ll:=
(Bk a m (Ac a)).bind λy=>
(Ei f g).bind λaa=>
(Rw y (Ac aa)).bind λ(o,n)=>
j4 m n b h k f g o
def Pe:=IA HG
def Vr(j3:LB->Int->Int->Int->Int->Int->Int->Ll)(a u:LB):Ll:=
if(Ez (Ac a) 100000)then
some (0,0,0,0,0,0,([]:LI),4)
else
(Mo a).bind λ(p,v)=>
if(Bi v 0)then
some (0,0,0,0,0,0,([]:LI),v)
else
(Bk a p (Ac a)).bind λab=>
(Nj ab).bind λ(b,h,k,f,g,w)=>
if(Bi w 0)then
some (0,0,0,0,0,0,([]:LI),w)
else
if((u==([]:LB)) !=(geq b 1))then
some (0,0,0,0,0,0,([]:LI),26)
else
if(geq b 2)then
if(Cr (Am (Ac a) (Ad p 22)) 8)then
some (0,0,0,0,0,0,([]:LI),24)
else
(Bk a (Ad p 22) (Ad (Ad p 22) 8)).bind λac=>
(Rl u).bind λad=>
if(ac !=ad)then
some (0,0,0,0,0,0,([]:LI),26)
else
j3 a b h k f g (Ad (Ad p 22) 8)
else
j3 a b h k f g (Ad p 22)
def Gb:=Vr Pe
def jQ(a:Int):Option Int:=
some a
def kB:=jQ
def Xq(j6:Int->Option Int)(Th:Int->Int->Option Int)(b h k m n o f:Int)(g:LI)(a p:Int):Option Int:=
if(Cr p b)then
(Ap g p).bind λu=>
Th (Ad a u) (Ad p 1)
else
j6 a
def Lm(b h k m n o f:Int)(g:LI):Nat->Int->Int->Option Int
|0,_,_=>none
|q+1,a,p=>Xq kB (Lm b h k m n o f g q) b h k m n o f g a p
def kH b h k m n o f g:=Lm b h k m n o f g Ay
def jY(j4:Int->Int->Int->Int->Int->Int->Int->LI->Int->Int->Option Int)(h k m n o f:Int)(g:LI)(b:Int):Option Int:=
j4 b h k m n o f g f 0
def VZ:=jY kH
abbrev DR:=Option (LB×Int)
def TH(p:LX)(m n g b h k o:Int)(a:LI):DR:=
if(Bi m 0)then
some (([]:LB),m)
else
(Wl b p).bind λ(af,ai)=>
some (af,0)
def TG:=TH
def TB(j2:LX->Int->Int->Int->Int->Int->Int->Int->LI->DR)(v y:LB)(n g b h k o:Int)(a:LI)(f:Int):DR:=
(VZ n g b h k o a f).bind λu=>
(Ap a f).bind λaa=>
if(Cr (Am (Ac v) u) aa)then
some (([]:LB),24)
else
(Ys y).bind λ(ab,ag)=>
(Ap a f).bind λac=>
(Bk v u (Ad u ac)).bind λad=>
(
(Ei h k).bind λw=>
(Ap w f).bind λ_=>
(Ap w f).bind λae=>
(Di g b ab ae ad).bind λ(p,m)=>
j2 p m n g b h k o a)
def Uc:=TB TG
abbrev Wc:=Option (Int×Int×Int×LX×Int)
def lL(a:LB)(aa b f h:Int)(ad:LX):Wc:=
(Bk a aa (Ac a)).bind λaq=>
(GY aq).bind λ(bb,ar)=>
if(Bi ar 0)then
some (0,0,0,([]:LX),38)
else
some (b,f,h,ad,0)
def kT:=lL
def lM(Ap8:Int->Int->LX->Wc)(a:LB)(w:LI)(m b f h o p n g y ab:Int)(ac:LX)(k:LI)(aa aj ak ae:Int)(am ad:LX):Wc:=
if(Bi ak 0)then
some (0,0,0,([]:LX),ak)
else
(Dy ad am).bind λau=>
Ap8 (Ad aa aj) (Ad ae 1) au
def lQ Ap8:=lM Ap8
def WU(j24:Int->Int->Int->Int->LX->LX->Wc)(j26:LB->Int->Int->Int->Int->LX->Wc)(a:LB)(w:LI)(m b f h o p n g y ab:Int)(ac:LX)(k:LI)(aa ae:Int)(ad:LX):Wc:=
if(Cr ae (Ac w))then
(Ap w ae).bind λ_=>
(Ap w ae).bind λaj=>
if(Cr (Ac a) (Ad aa aj))then
some (0,0,0,([]:LX),24)
else
(Ap k ae).bind λ_=>
(Bk a aa (Ad aa aj)).bind λav=>
(Ap k ae).bind λaw=>
(Jv b f ac aw av).bind λ(am,ak)=>
j24 aa aj ak ae am ad
else
j26 a aa b f h ad
def JC(a:LB)(w:LI)(m b f h o p n g y ab:Int)(ac:LX)(k:LI):Nat->Int->Int->LX->Wc
|0,_,_,_=>none
|q+1,aa,ae,ad=>WU (lQ (JC a w m b f h o p n g y ab ac k q) a w m b f h o p n g y ab ac k) kT a w m b f h o p n g y ab ac k aa ae ad
def Gz(a:LB):Option (Int×Int×Int×Int×Int×Int×Int):=
if(Ez (Ac a) 100000)then
some (0,0,0,0,0,0,4)
else
(Mo a).bind λ(b,f)=>
if(Bi f 0)then
some (0,0,0,0,0,0,f)
else
(Bk a b (Ac a)).bind λg=>
(Nj g).bind λ(h,k,m,n,o,p)=>
some (b,h,k,m,n,o,p)
def YF(a:LB)(b o p u f g:Int):Option (LI×Int):=
(Bk a b (Ac a)).bind λh=>
(Ei f g).bind λk=>
(Rw h (Ac k)).bind λ(m,n)=>
some (m,n)
abbrev Ef:=Option (Int×Int×Int×Int×Int×Int)
def LY(b:LB)(a f:Int)(g:LI)(h:Int):Ef:=
if(Cr (Ac b) h)then
some (0,0,0,0,0,24)
else
some (a,(Ad a 22),f,(Ad (Ad f (Bn 4 (Ac g))) 4),h,0)
def Xo:=LY
def Xx(j8:LB->Int->Int->LI->Int->Ef)(bk6:Int->Int->Ef)(b:LB)(a f:Int)(g:LI)(k h:Int):Ef:=
if(Cr k (Ac g))then
(Ap g k).bind λ_=>
(Ap g k).bind λy=>
bk6 (Ad k 1) (Ad h y)
else
j8 b a f g h
def Lk(b:LB)(a f:Int)(g:LI):Nat->Int->Int->Ef
|0,_,_=>none
|q+1,k,h=>Xx Xo (Lk b a f g q) b a f g k h
def LK b a f g:=Lk b a f g Ay
def LN(j6:LB->Int->Int->LI->Int->Int->Ef)(b:LB)(m n o p u a f:Int):Ef:=
if(Cr (Ac b) f)then
some (0,0,0,0,0,24)
else
(YF b f m n o p u).bind λ(g,v)=>
if(Bi v 0)then
some (0,0,0,0,0,v)
else
j6 b a f g 0 (Ad (Ad f (Bn 4 (Ac g))) 4)
def Lf:=LN LK
def MF(j5:LB->Int->Int->Int->Int->Int->Int->Int->Ef)(b:LB):Ef:=
(Gz b).bind λ(a,m,n,o,p,u,w)=>
if(Bi w 0)then
some (0,0,0,0,0,w)
else
if(geq m 2)then
j5 b m n o p u a (Ad (Ad a 22) 8)
else
j5 b m n o p u a (Ad a 22)
def VS:=MF Lf
end Go.Pl
