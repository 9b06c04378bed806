/- A part of a proof (see the text that ends in Proof). No conditions. -/
import Derived.Test.YtjjeabieimfcpaaGreatDoorSnBA
set_option linter.unusedVariables false
namespace Go.Pl
open Go Go.Lv
abbrev LB:=List UInt8
abbrev LI:=List Int
abbrev LX:=List Int32
abbrev LU:=List UInt32
abbrev LQ:=List UInt64
def DQ(a b f:Int)(g:LX):Option (Int×Int):=
some (a,b)
abbrev Qx:=Option (Int32×Int32×Int)
def NO(a:Int)(b:Bool):Qx:=
if b then
(Dy (Hc (Af a 1) 0)).bind λ_=>
some ((cJ (Ey (1:Int32) (GI.toZ (Af a 1)).toNat)),(Af (Ey (1:Int32) (GI.toZ (Af a 1)).toNat) 1),0)
else
some (0,0,2)
def Zy:=NO
def Yp(j2:Int->Bool->Qx)(a:Int):Qx:=
if(geq a 8)then
j2 a (geq a 8)
else
if(geq a 16)then
j2 a (geq a 16)
else
j2 a (geq a 24)
def AG:=Yp Zy
def Ku(a b:Int):Option Int:=
(AG b).bind λ(g,h,f)=>
if(((Bl f 0)||(Cq a 1))||(Fm a 6))then
some 2
else
some 0
def Mi(a:Int):Option (Int×Int):=
if((Cq a 1)||(Fm a 1048576))then
some (0,2)
else
some ((RJ 1 (Jp (Di 256 a) 245)),0)
def Hw(g b:Int):Option (Int×Int):=
(Mi g).bind λ(a,f)=>
if(Bl f 0)then
some (0,f)
else
if((Cq b 1)||(Fm b 4000))then
some (0,2)
else
(Dy (Bl a 0)).bind λ_=>
if(Fm (Jp (Af (Aa b a) 1) a) 1000)then
some (0,4)
else
some ((Jp (Af (Aa b a) 1) a),0)
def RU(a g f:Int)(h:LX)(b:Int):Option Int:=
(DQ a g f h).bind λ(k,m)=>
(Ku k m).bind λn=>
if((Bl n 0)||(Cq b 1))then
some 8
else
(Dy (Bl a 0)).bind λ_=>
if(Fm b (Jp 4000 a))then
some 8
else
(Hw f b).bind λ(p,o)=>
if(Bl o 0)then
some 8
else
some 0
def QI:Option Int:=
some 0
def Zc:=QI
def Wz(j6:Option Int)(BF:Int->Option Int)(b f:Int32)(a:LX)(g:Int):Option Int:=
if(Cq g (Ac a))then
(Ah a g).bind λh=>
if((Cq h b)||(Fm h f))then
some 16
else
BF (Aa g 1)
else
j6
def Ng(b f:Int32)(a:LX):Nat->Int->Option Int
|0,_=>none
|q+1,g=>Wz Zc (Ng b f a q) b f a g
def Xa b f a:=Ng b f a Cx
def Yz(j4:Int32->Int32->LX->Int->Option Int)(m:Int)(a:LX):Option Int:=
(AG m).bind λ(b,f,k)=>
if(Bl k 0)then
some k
else
if(Fm (Ac a) 4000)then
some 4
else
j4 b f a 0
def Lc:=Yz Xa
def Jy(a f h:Int)(b:LX):Option Int:=
if(Cq a 1)then
some 8
else
(Dy (Bl a 0)).bind λ_=>
if(Bl (Fv (Ac b) a) 0)then
some 8
else
(Dy (Bl a 0)).bind λ_=>
(RU a f h b (Jp (Ac b) a)).bind λg=>
if(Bl g 0)then
some g
else
(Lc f b).bind λk=>
if(Bl k 0)then
some 8
else
some 0
abbrev Rb:=Option (Int×Int×Int×Int×Int×Int)
def OJ(h:LB)(a b f:Int)(g:LX):Rb:=
if(h !=([]:LB))then
some (2,a,b,f,(Jp (Ac g) a),0)
else
some (1,a,b,f,(Jp (Ac g) a),0)
def Yk:=OJ
def Mv(j2:LB->Int->Int->Int->LX->Rb)(a b f:Int)(g:LX)(h:LB):Rb:=
(Jy a b f g).bind λk=>
if(Bl k 0)then
some (0,0,0,0,0,k)
else
if(Fm (Ac h) 64)then
some (0,0,0,0,0,2)
else
(Dy (Bl a 0)).bind λ_=>
(
j2 h a b f g)
def KS:=Mv Yk
abbrev Ay:=Option (UInt64×Int)
def OQ(h:UInt64):Ay:=
some (h,0)
def Yo:=OQ
def Xc(j30:UInt64->Ay)(h b:UInt64)(a:LB)(f:LQ):Ay:=
j30 h
def Yy:=Xc Yo
def Xz(j29:UInt64->UInt64->LB->LQ->Ay)(Ue:UInt64->Int->Ay)(a:LB)(b:UInt64)(f:LQ)(h:UInt64)(m:Int):Ay:=
if(Cq m (Ac a))then
(Ah a m).bind λp=>
Option.bind (Ah f (GI.toZ (Sf (Am (Bp h (GI.toZ (56:UInt64)).toNat):UInt8) p))) λ_=>
Option.bind (Ah f (GI.toZ (Sf (Am (Bp h (GI.toZ (56:UInt64)).toNat):UInt8) p))) λu=>
Ue (Sf (Ey h (GI.toZ (8:UInt64)).toNat) u) (Aa m 1)
else
j29 h b a f
def Nl(a:LB)(b:UInt64)(f:LQ):Nat->UInt64->Int->Ay
|0,_,_=>none
|q+1,h,m=>Xz Yy (Nl a b f q) a b f h m
def Xm a b f:=Nl a b f Cx
def Wy(j27:LB->UInt64->LQ->UInt64->Int->Ay)(b:UInt64)(a:LB)(f:LQ):Ay:=
j27 a b f b 0
def Yq:=Wy Xm
def MT(Fp:Int->LQ->Ay)(b:UInt64)(a:LB)(g:Int)(o:LQ):Ay:=
Fp (Aa g 1) o
def Xs Fp:=MT Fp
def Xf(j24:Int->LQ->Ay)(b:UInt64)(a:LB)(g:Int)(k:UInt64)(f:LQ):Ay:=
(Ah f g).bind λ_=>
(Fa f g k).bind λo=>
j24 g o
def Xj Fp b a:=Xf (Xs Fp b a) b a
def Ws(j23:Int->UInt64->LQ->Ay)(nH:UInt64->Int->Ay)(b:UInt64)(a:LB)(g:Int)(f:LQ)(k:UInt64)(n:Int):Ay:=
if(Cq n 8)then
nH (Sf (Ey k (GI.toZ (1:UInt64)).toNat) (Di 4823603603198064275 (Bp k (GI.toZ (63:UInt64)).toNat))) (Aa n 1)
else
j23 g k f
def Oc(Fp:Int->LQ->Ay)(b:UInt64)(a:LB)(g:Int)(f:LQ):Nat->UInt64->Int->Ay
|0,_,_=>none
|q+1,k,n=>Ws (Xj Fp b a) (Oc Fp b a g f q) b a g f k n
def Zz Fp b a g f:=Oc Fp b a g f Cx
def Yf(j21:Int->LQ->UInt64->Int->Ay)(j26:UInt64->LB->LQ->Ay)(b:UInt64)(a:LB)(g:Int)(f:LQ):Ay:=
if(Cq g 256)then
j21 g f (Ey (Am g:UInt64) (GI.toZ (56:UInt64)).toNat) 0
else
j26 b a f
def Oo(b:UInt64)(a:LB):Nat->Int->LQ->Ay
|0,_,_=>none
|q+1,g,f=>Yf (Zz (Oo b a q) b a) Yq b a g f
def Ye b a:=Oo b a Cx
def CZ(j16:UInt64->LB->Int->LQ->Ay)(b:UInt64)(a:LB):Ay:=
if(Fm (Ac a) 100000)then
some (0,4)
else
j16 b a 0 (List.replicate 256 (0:UInt64))
def PY:=CZ Ye
def IN(a:LB):Option (UInt64×Int):=
(PY 0 a).bind λ(b,f)=>
some (b,f)
def ZT(a:LX):Option (LX):=
some a
def NP:=ZT
def QY(j6:LX->Option (LX))(BF:Int->LX->Option (LX))(f:UInt64)(b:Int)(a:LX):Option (LX):=
if(Cq b 8)then
(Dy (Hc (Di 8 b) 0)).bind λ_=>
(Ah a b).bind λ_=>
(Fa a b (Am (Am (Bp f (GI.toZ (Di 8 b)).toNat):Int8):Int32)).bind λg=>
BF (Aa b 1) g
else
j6 a
def DY(f:UInt64):Nat->Int->LX->Option (LX)
|0,_,_=>none
|q+1,b,a=>QY NP (DY f q) f b a
def QX f:=DY f Cx
def PZ(j4:UInt64->Int->LX->Option (LX))(f:UInt64):Option (LX):=
j4 f 0 (List.replicate 16 (0:Int32))
def aE:=PZ QX
def Mp(a:LB):Option (LX×Int):=
if(Fm (Ac a) 64)then
some (([(0:Int32),(0:Int32),(0:Int32),(0:Int32),(0:Int32),(0:Int32),(0:Int32),(0:Int32),(0:Int32),(0:Int32),(0:Int32),(0:Int32),(0:Int32),(0:Int32),(0:Int32),(0:Int32)]:LX),2)
else
(IN a).bind λ(f,b)=>
if(Bl b 0)then
some (([(0:Int32),(0:Int32),(0:Int32),(0:Int32),(0:Int32),(0:Int32),(0:Int32),(0:Int32),(0:Int32),(0:Int32),(0:Int32),(0:Int32),(0:Int32),(0:Int32),(0:Int32),(0:Int32)]:LX),b)
else
(aE f).bind λg=>
some (g,0)
def Ls(a b:UInt64):Option (UInt64×UInt64):=
some ((Aa (Aa (Di (Bp a (GI.toZ (32:UInt64)).toNat) (Bp b (GI.toZ (32:UInt64)).toNat)) (Bp (Aa (Di (Bp a (GI.toZ (32:UInt64)).toNat) (Cp b 4294967295)) (Bp (Di (Cp a 4294967295) (Cp b 4294967295)) (GI.toZ (32:UInt64)).toNat)) (GI.toZ (32:UInt64)).toNat)) (Bp (Aa (Cp (Aa (Di (Bp a (GI.toZ (32:UInt64)).toNat) (Cp b 4294967295)) (Bp (Di (Cp a 4294967295) (Cp b 4294967295)) (GI.toZ (32:UInt64)).toNat)) 4294967295) (Di (Cp a 4294967295) (Bp b (GI.toZ (32:UInt64)).toNat))) (GI.toZ (32:UInt64)).toNat)),(Di a b))
def Kw(a b:UInt64):Option (UInt64×UInt64):=
(Ls a b).bind λ(f,g)=>
some (f,g)
def Pg(a:LI):Option (LI):=
some a
def Gx:=Pg
def Ep(j10:LI->Option (LI))(bX:Int->LI->Option (LI))(b:Int)(a:LI):Option (LI):=
if(Cq b (Ac a))then
(
(RD (Ac a) b (Ac a)).bind λ_=>
(RD (Ac a) 0 b).bind λ_=>
bX (Aa b (CP ((Ac a)-b) (Wp a 0 (b-(0:Int))).length)) (Hj a b ((Ac a)-b) (Wp a 0 (b-(0:Int)))))
else
j10 a
def Et:Nat->Int->LI->Option (LI)
|0,_,_=>none
|q+1,b,a=>Ep Gx (Et q) b a
def Ih:=Et Cx
def Ii(j8:Int->LI->Option (LI))(f:LI)(g:UInt64):Option (LI):=
(ZO (Am g:Int) (0:Int)).bind λk=>
(Dy (geq (Am g:Int) (Am g:Int))).bind λ_=>
j8 (CP (Ac k) f.length) (bL k f)
def Ib:=Ii Ih
def Hr(j7:LI->UInt64->Option (LI))(f:LI)(h:Int):Option (LI):=
(Kw (Am (Ac f):UInt64) (Am h:UInt64)).bind λ(m,g)=>
if((Fm m 0)||(Fm g 9223372036854775807))then
none
else
j7 f g
def Ij:=Hr Ib
def Ig(j6:LI->Int->Option (LI))(f:LI)(h:Int):Option (LI):=
if(Cq h 0)then
none
else
j6 f h
def Jw:=Ig Ij
def Ph(f:LI):Option (LI):=
some f
def Hg:=Ph
def Gy(j16:LI->Option (LI))(nI:Int->LI->Option (LI))(a:List LI)(g:Int)(f:LI):Option (LI):=
if(Cq g (Ac a))then
(Ah a g).bind λo=>
(Dp f o).bind λp=>
nI (Aa g 1) p
else
j16 f
def El(a:List LI):Nat->Int->LI->Option (LI)
|0,_,_=>none
|q+1,g,f=>Gy Hg (El a q) a g f
def He a:=El a Cx
def Gz(j14:(List LI)->Int->LI->Option (LI))(a:List LI)(k:LI):Option (LI):=
j14 a 0 k
def Hf:=Gz He
def Ha(j13:(List LI)->LI->Option (LI))(b:Int)(a:List LI):Option (LI):=
if(Fm (Af b (Af (0:Int) (0:Int))) 0)then
(RD 0 0 0).bind λ_=>
(ZO (Af b (Af (0:Int) (0:Int))) (0:Int)).bind λu=>
(Dp ([]:LI) u).bind λm=>
(RD (Ac m) 0 0).bind λ_=>
j13 a (Wp m 0 ((0:Int)-(0:Int)))
else
j13 a ([]:LI)
def Hb:=Ha Hf
def Hh(j12:Int-> (List LI)->Option (LI))(a:List LI)(b:Int):Option (LI):=
if(Cq b 0)then
none
else
j12 b a
def Gw:=Hh Hb
def Hv(j11:(List LI)->Int->Option (LI))(nJ:Int->Int->Option (LI))(a:List LI)(b h:Int):Option (LI):=
if(Cq h (Ac a))then
(Ah a h).bind λn=>
if(Cq (Aa b (Ac n)) 0)then
none
else
nJ (Aa b (Ac n)) (Aa h 1)
else
j11 a b
def Er(a:List LI):Nat->Int->Int->Option (LI)
|0,_,_=>none
|q+1,b,h=>Hv Gw (Er a q) a b h
def Hu a:=Er a Cx
def Ic(j9:(List LI)->Int->Int->Option (LI))(a:List LI):Option (LI):=
j9 a 0 0
def Jr:=Ic Hu
def Ym(a b:LI):Option (LI):=
(Jr ([a,b]:List LI)).bind λf=>
some f
def La(a b:Int):Option (LI×Int):=
(Hw a b).bind λ(f,g)=>
if(Bl g 0)then
some (([]:LI),g)
else
(Mi a).bind λ(h,n)=>
(Jw ([h]:LI) (Af f 1)).bind λk=>
(Ym k ([(Af b (Di (Af f 1) h))]:LI)).bind λm=>
some (m,0)
def BS(a f:Int)(b:LX):Option Int:=
(Ku a f).bind λg=>
if(Bl g 0)then
some g
else
(Lc f b).bind λh=>
if(Bl h 0)then
some h
else
if(geq (Ac b) 0)then
some 2
else
(Dy (Bl a 0)).bind λ_=>
if(Bl (Fv (Ac b) a) 0)then
some 2
else
some 0
def JA(a:Int)(b:LX):Option Int:=
if((Cq a 1)||(Fm a 6))then
some 2
else
if(Fm (Ac b) 4000)then
some 4
else
(Dy (Bl a 0)).bind λ_=>
if(Bl (Fv (Ac b) a) 0)then
some 2
else
some 0
def Cj(a:LX):Option (LX):=
(
(Dp ([]:LX) a).bind λb=>
some b)
abbrev Cz:=Option (LX×Int)
def WN(f:LX):Cz:=
some (f,0)
def JM:=WN
def VJ(Rh:Int->LX->Cz)(b a:Int)(k:LX):Cz:=
Rh (Aa a b) k
def KT Rh:=VJ Rh
def LD(j20:Int->LX->Cz)(b a:Int)(g:LX):Cz:=
if(Fm (Af ((Aa a b)-a) 1) 0)then
(Dy (decide (0<= (Af ((Aa a b)-a) 1)/\ (Af ((Aa a b)-a) 1)<((Aa a b)-a)))).bind λ_=>
Option.bind (Dy (decide (0<= (Af (Af ((Aa a b)-a) 1) 1)/\ (Af (Af ((Aa a b)-a) 1) 1)<((Aa a b)-a)))) λ_=>
(Ah g (a+(Af ((Aa a b)-a) 1))).bind λm=>
(Ah g (a+(Af (Af ((Aa a b)-a) 1) 1))).bind λn=>
(Dy (decide (0<= (Af ((Aa a b)-a) 1)/\ (Af ((Aa a b)-a) 1)<((Aa a b)-a)))).bind λ_=>
(Fa g (a+(Af ((Aa a b)-a) 1)) (Af m (Jp n 2))).bind λo=>
j20 a o
else
j20 a g
def JO Rh b:=LD (KT Rh b) b
def JK(j19:Int->LX->Cz)(rR:Int->LX->Cz)(b a h:Int)(g:LX):Cz:=
if(Cq h (Af ((Aa a b)-a) 1))then
(Dy (decide (0<= (Aa h 1)/\ (Aa h 1)<((Aa a b)-a)))).bind λ_=>
(Dy (decide (0<=h/\h<((Aa a b)-a)))).bind λ_=>
(Ah g (a+(Aa h 1))).bind λm=>
(Ah g (a+h)).bind λn=>
(Dy (decide (0<=h/\h<((Aa a b)-a)))).bind λ_=>
(Fa g (a+h) (Af m n)).bind λo=>
rR (Aa h 1) o
else
j19 a g
def Zb(Rh:Int->LX->Cz)(b a:Int):Nat->Int->LX->Cz
|0,_,_=>none
|q+1,h,g=>JK (JO Rh b) (Zb Rh b a q) b a h g
def JX Rh b a:=Zb Rh b a Cx
def JU(j17:Int->Int->LX->Cz)(j22:LX->Cz)(b a:Int)(f:LX):Cz:=
if(Cq a (Ac f))then
(RD (Ac f) a (Aa a b)).bind λ_=>
j17 a 0 f
else
j22 f
def AE(b:Int):Nat->Int->LX->Cz
|0,_,_=>none
|q+1,a,f=>JU (JX (AE b q) b) JM b a f
def JR b:=AE b Cx
def OO(j12:Int->Int->LX->Cz)(b:Int)(p:LX):Cz:=
(JA b p).bind λu=>
if(Bl u 0)then
some (([]:LX),u)
else
(Cj p).bind λv=>
j12 b 0 v
def bP:=OO JR
abbrev DP:=Option (Int×LX×LX×Int)
def XP(a:Int)(b:LX)(f:Bool):DP:=
if f then
some (10,b,(List.replicate 16 (0:Int32)),0)
else
if(geq a 16)then
some (9,b,(List.replicate 16 (0:Int32)),0)
else
some (0,(List.replicate 16 (0:Int32)),(List.replicate 16 (0:Int32)),2)
def KE:=XP
def KR(j2:Int->LX->Bool->DP)(a:Int)(b:LX):DP:=
if(geq a 8)then
j2 a b (geq a 8)
else
j2 a b (geq a 24)
def PW:=KR KE
def JG(a:Int)(f:LX):Option (Int×Int32×Int×LX×LX×Int):=
(PW a f).bind λ(g,h,k,b)=>
if(Bl b 0)then
some (0,0,0,(List.replicate 16 (0:Int32)),(List.replicate 16 (0:Int32)),b)
else
some (a,0,g,h,k,0)
def Lb(a:Int)(k:Int32)(b:Int)(f m:LX):Option Int:=
(PW a f).bind λ(g,n,o,h)=>
if((Bl h 0)||(Bl g b))then
some 8
else
some 0
def KI(a:Int):Option (Int×Int):=
if(geq a 8)then
some (4,0)
else
if(geq a 16)then
if(geq a 16)then
some (5,0)
else
some (0,2)
else
if(geq a 24)then
some (5,0)
else
some (0,2)
def JL(a:Int)(b:Int32):Option Int32:=
(Dy (Hc a 0)).bind λ_=>
(Dy (Hc a 0)).bind λ_=>
some (Am (ZD (Af (Ey (Am b:Int) (GI.toZ a).toNat) (Am b:Int)) (GI.toZ a).toNat):Int32)
def Ld(b:Int)(f:Int32):Option (Int32×Int):=
(KI b).bind λ(g,a)=>
if(Bl a 0)then
some (0,a)
else
(JL g f).bind λh=>
some (h,0)
def Oa(a:Int)(b f:LX):Option Int:=
if((Bl a 9)&&(Bl a 10))then
some 8
else
some 0
abbrev Fi:=Option (Int32×Int)
def RL(g:Int32)(a:Int)(b f:LX):Fi:=
(Dy (Hc a 0)).bind λ_=>
some ((Bp g (GI.toZ a).toNat),0)
def BZ:=RL
def CH(j6:Int32->Int->LX->LX->Fi)(BF:Int32->Int->Fi)(b:LX)(a:Int)(f:LX)(g:Int32)(h:Int):Fi:=
if(Cq h 16)then
(Ah b h).bind λm=>
(Ah f h).bind λ_=>
(Ah f h).bind λn=>
BF (Aa g (Di m n)) (Aa h 1)
else
j6 g a b f
def Qz(b:LX)(a:Int)(f:LX):Nat->Int32->Int->Fi
|0,_,_=>none
|q+1,g,h=>CH BZ (Qz b a f q) b a f g h
def CL b a f:=Qz b a f Cx
def BP(j4:LX->Int->LX->Int32->Int->Fi)(a:Int)(b f:LX):Fi:=
(Oa a b f).bind λk=>
if(Bl k 0)then
some (0,k)
else
(Dy (Hc (Af a 1) 0)).bind λ_=>
j4 b a f (Ey (1:Int32) (GI.toZ (Af a 1)).toNat) 0
def DV:=BP CL
def ID(a:Int):Option Int32:=
if(geq a 0)then
some 4
else
if(Cq a 4)then
some 2
else
some 1
abbrev Fc:=Option (Int×LX×LX×Int)
def RN(g:Int)(b f:LX):Fc:=
some (g,b,f,0)
def CM:=RN
def CI(j6:Int->LX->LX->Fc)(BF:Int->LX->Fc)(h:Int32)(f:LX)(g a:Int)(b:LX):Fc:=
if(Cq a 16)then
(Ah f a).bind λm=>
if(geq m 0)then
BF (Aa a 1) b
else
if((Cq m 0)==(Cq h 0))then
(Ah b a).bind λ_=>
(Ah b a).bind λo=>
(ID a).bind λp=>
(Ah b a).bind λ_=>
(Fa b a (Aa o p)).bind λu=>
BF (Aa a 1) u
else
(Ah b a).bind λ_=>
(Ah b a).bind λv=>
(ID a).bind λw=>
(Ah b a).bind λ_=>
(Fa b a (Af v w)).bind λy=>
BF (Aa a 1) y
else
j6 g b f
def Qp(h:Int32)(f:LX)(g:Int):Nat->Int->LX->Fc
|0,_,_=>none
|q+1,a,b=>CI CM (Qp h f g q) h f g a b
def CC h f g:=Qp h f g Cx
def CX(j4:Int32->LX->Int->Int->LX->Fc)(g:Int)(k f:LX)(h:Int32):Fc:=
(Oa g k f).bind λn=>
if(Bl n 0)then
some (0,(List.replicate 16 (0:Int32)),(List.replicate 16 (0:Int32)),n)
else
if(geq h 0)then
some (g,k,f,0)
else
j4 h f g 0 k
def QZ:=CX CC
abbrev Zt:=Option (Int×LX×LX×Int)
def TH(g:Int32)(b:Int)(f a:LX):Zt:=
(Ah (Hj a 1 ((16:Int)-(1:Int)) (Wp a 0 ((16:Int)-(0:Int)))) 0).bind λ_=>
(Fa (Hj a 1 ((16:Int)-(1:Int)) (Wp a 0 ((16:Int)-(0:Int)))) 0 g).bind λk=>
some (b,f,k,0)
def GQ:=TH
def Tp(j2:Int32->Int->LX->LX->Zt)(b:Int)(f a:LX)(g:Int32):Zt:=
(Oa b f a).bind λh=>
if(Bl h 0)then
some (0,(List.replicate 16 (0:Int32)),(List.replicate 16 (0:Int32)),h)
else
(
(RD 16 1 16).bind λ_=>
(RD 16 0 16).bind λ_=>
j2 g b f a)
def SV:=Tp GQ
def DL(a:Int)(b f:LX)(g h:Int32):Option (Int×LX×LX):=
(QZ a b f h).bind λ(k,m,n,v)=>
(SV k m n g).bind λ(o,p,u,w)=>
some (o,p,u)
def AL(b:Int)(f g:LX)(a:Int32):Option (Int32×Int×LX×LX×Int):=
(DV b f g).bind λ(h,k)=>
if(Bl k 0)then
some (0,0,(List.replicate 16 (0:Int32)),(List.replicate 16 (0:Int32)),k)
else
(DL b f g a (Af a h)).bind λ(m,n,o)=>
some ((Af a h),m,n,o,0)
def Ko(a:Int)(b:Int32)(f:Int)(g h:LX)(k:Int32):Option (Int32×Int×Int32×Int×LX×LX×Int):=
(Lb a b f g h).bind λm=>
if(Bl m 0)then
some (0,0,0,0,(List.replicate 16 (0:Int32)),(List.replicate 16 (0:Int32)),m)
else
(Ld a b).bind λ(n,y)=>
(AL f g h (Af k n)).bind λ(o,p,u,v,w)=>
(
some (o,a,k,p,u,v,w))
def RZ(a:Int32):Option UInt32:=
some (Sf (Ey (Am a:UInt32) (GI.toZ (1:UInt64)).toNat) (Am (Bp a (GI.toZ (31:UInt64)).toNat):UInt32))
abbrev Bf:=Option (LU×Int)
def EK(k:LU):Bf:=
some (k,0)
def Pc:=EK
def Oq(j12:LU->Bf)(nK:Int-> (List (Int×Int32×(Int×LX×LX×Unit)×Unit))->LU->Bf)(b:LX)(a f g:Int)(o:List (Int×Int32×(Int×LX×LX×Unit)×Unit))(k:LU):Bf:=
if(Cq g (Ac b))then
(Ah b g).bind λ_=>
(Ah b g).bind λac=>
(Dy (Bl a 0)).bind λ_=>
(Ah o (Fv g a)).bind λ_=>
(Ah o (Fv g a)).bind λp=>
(Ko p.1 p.2.1 p.2.2.1.1 p.2.2.1.2.1 p.2.2.1.2.2.1 ac).bind λ(u,ad,ae,v,af,ag,w)=>
if(Bl w 0)then
some (([]:LU),w)
else
(Fa o (Fv g a) (ad,ae,(v,af,ag,()),())).bind λah=>
(RZ u).bind λai=>
(Dp k ([ai]:LU)).bind λaj=>
nK (Aa g 1) ah aj
else
j12 k
def Iq(b:LX)(a f:Int):Nat->Int-> (List (Int×Int32×(Int×LX×LX×Unit)×Unit))->LU->Bf
|0,_,_,_=>none
|q+1,g,o,k=>Oq Pc (Iq b a f q) b a f g o k
def Nd b a f:=Iq b a f Cx
def Pk(j10:LX->Int->Int->Int-> (List (Int×Int32×(Int×LX×LX×Unit)×Unit))->LU->Bf)(a f:Int)(b:LX)(h:List (Int×Int32×(Int×LX×LX×Unit)×Unit)):Bf:=
j10 b a f 0 h ([]:LU)
def Pm:=Pk Nd
def Pp(j9:Int->Int->LX-> (List (Int×Int32×(Int×LX×LX×Unit)×Unit))->Bf)(tE:Int-> (List (Int×Int32×(Int×LX×LX×Unit)×Unit))->Bf)(a f:Int)(m b:LX)(n:Int)(h:List (Int×Int32×(Int×LX×LX×Unit)×Unit)):Bf:=
if(Cq n 6)then
(JG f m).bind λ(ak,al,u,am,an,v)=>
(Ah h n).bind λ_=>
(Fa h n (ak,al,(u,am,an,()),())).bind λao=>
tE (Aa n 1) ao
else
j9 a f b h
def Jj(a f:Int)(m b:LX):Nat->Int-> (List (Int×Int32×(Int×LX×LX×Unit)×Unit))->Bf
|0,_,_=>none
|q+1,n,h=>Pp Pm (Jj a f m b q) a f m b n h
def Qi a f m b:=Jj a f m b Cx
def Pw(j7:Int->Int->LX->LX->Int-> (List (Int×Int32×(Int×LX×LX×Unit)×Unit))->Bf)(a f:Int)(m y:LX):Bf:=
(BS a f y).bind λaa=>
if(Bl aa 0)then
some (([]:LU),aa)
else
(bP a y).bind λ(b,ab)=>
if(Bl ab 0)then
some (([]:LU),ab)
else
j7 a f m b 0 (List.replicate 6 ((0:Int),(0:Int32),((0:Int),(List.replicate 16 (0:Int32)),(List.replicate 16 (0:Int32)),()),()))
def Xo:=Pw Qi
def EV:Option (Int×Int×UInt64×UInt64):=
some (10,10,16384,16384)
abbrev Dg:=Option ((List (Int×Int×UInt64×UInt64×Unit)))
def HB(a:List (Int×Int×UInt64×UInt64×Unit)):Dg:=
some a
def Qe:=HB
def Qh(j6:(List (Int×Int×UInt64×UInt64×Unit))->Dg)(BF:Int-> (List (Int×Int×UInt64×UInt64×Unit))->Dg)(b:Int)(a:List (Int×Int×UInt64×UInt64×Unit)):Dg:=
if(Cq b 6)then
(EV).bind λ(f,g,h,k)=>
(Ah a b).bind λ_=>
(Fa a b (f,g,h,k,())).bind λm=>
BF (Aa b 1) m
else
j6 a
def Jg:Nat->Int-> (List (Int×Int×UInt64×UInt64×Unit))->Dg
|0,_,_=>none
|q+1,b,a=>Qh Qe (Jg q) b a
def Qc:=Jg Cx
def Pu(j4:Int-> (List (Int×Int×UInt64×UInt64×Unit))->Dg):Dg:=
j4 0 (List.replicate 6 ((0:Int),(0:Int),(0:UInt64),(0:UInt64),()))
def Yu:=Pu Qc
def Ei(b:LB)(a:Int):Option Int:=
if(((Cq a 0)||(Fm a 330000))||(Bl (Ac b) (ZD (Aa a 7) (GI.toZ (3:UInt64)).toNat)))then
some 8
else
if(Fm (Cp a 7) 0)then
(Ah b (Af (Ac b) 1)).bind λf=>
(Dy (Hc (Cp a 7) 0)).bind λ_=>
if(Bl (Bp f (GI.toZ (Cp a 7)).toNat) 0)then
some 8
else
some 0
else
some 0
def RH(a b:Int)(f g:UInt64):Option Int:=
if(!((geq (De (RJ a 0) 24) a)&&((geq (De (RJ b 0) 24) b)&&((geq (De f 68719476735) f)&&((geq (De g 68719476735) g)&&true)))))then
some 8
else
some 0
def BI:=RH
def Qo(j4:Int->Int->UInt64->UInt64->Option Int)(a b:Int)(f g:UInt64):Option Int:=
(
(
j4 a b f g))
def DF:=Qo BI
def Qt(j3:Int->Int->UInt64->UInt64->Option Int)(a b:Int)(f g:UInt64):Option Int:=
(
(
j3 a b f g))
def EH:=Qt DF
def Ts(a f:Int)(g h:UInt64)(b:UInt32):Option (Int×UInt32):=
(Dy (Hc a 0)).bind λ_=>
if(geq (Bp b (GI.toZ a).toNat) 0)then
some (0,b)
else
(Dy (Hc a 0)).bind λ_=>
some (1,(Af b (Ey (1:UInt32) (GI.toZ a).toNat)))
def Cy(a:LB):Option (LB):=
(
(Dp ([]:LB) a).bind λb=>
some b)
def IM(a:LB)(b:Int):Option (LB×Int):=
(Cy a).bind λf=>
some (f,b)
abbrev Bj:=Option (LB×Int×Int)
def TA(f:Int)(o:LB):Bj:=
some (o,f,0)
def FK:=TA
def UB(gX:UInt64->Int->Int->LB->Bj)(b:UInt64)(a:Int)(m:UInt64)(h f:Int)(w:LB):Bj:=
(Dy (Hc (De h (Af 8 (Cp f 7))) 0)).bind λ_=>
gX (Bp m (GI.toZ (De h (Af 8 (Cp f 7)))).toNat) (Af h (De h (Af 8 (Cp f 7)))) (Aa f (De h (Af 8 (Cp f 7)))) w
def HQ gX:=UB gX
def GR(j19:UInt64->Int->Int->LB->Bj)(b:UInt64)(a:Int)(m:UInt64)(h f:Int)(u:LB):Bj:=
(Ah u (Af (Ac u) 1)).bind λ_=>
(Dy (Hc (De h (Af 8 (Cp f 7))) 0)).bind λ_=>
(Dy (Hc (Cp f 7) 0)).bind λ_=>
(Ah u (Af (Ac u) 1)).bind λad=>
(Ah u (Af (Ac u) 1)).bind λ_=>
Option.bind (Fa u (Af (Ac u) 1) (fJ ad (Ey (Am (Cp m (Af (Ey (1:UInt64) (GI.toZ (De h (Af 8 (Cp f 7)))).toNat) 1)):UInt8) (GI.toZ (Cp f 7)).toNat))) λw=>
j19 m h f w
def FY gX b a:=GR (HQ gX b a) b a
def GB(j18:UInt64->Int->Int->LB->Bj)(j21:Int->LB->Bj)(b:UInt64)(a:Int)(m:UInt64)(h f:Int)(o:LB):Bj:=
if(Fm h 0)then
if(geq (Cp f 7) 0)then
(Dp o ([(0:UInt8)]:LB)).bind λab=>
j18 m h f ab
else
j18 m h f o
else
j21 f o
def Tf(b:UInt64)(a:Int):Nat->UInt64->Int->Int->LB->Bj
|0,_,_,_,_=>none
|q+1,m,h,f,o=>GB (FY (Tf b a q) b a) FK b a m h f o
def HL b a:=Tf b a Cx
def TI(g:Int)(p:LB):Bj:=
some (p,g,0)
def HK:=TI
def TU(BH:UInt64->Int->Int->LB->Bj)(b:UInt64)(a:Int)(n:UInt64)(k g:Int)(y:LB):Bj:=
(Dy (Hc (De k (Af 8 (Cp g 7))) 0)).bind λ_=>
BH (Bp n (GI.toZ (De k (Af 8 (Cp g 7)))).toNat) (Af k (De k (Af 8 (Cp g 7)))) (Aa g (De k (Af 8 (Cp g 7)))) y
def FX BH:=TU BH
def FJ(j26:UInt64->Int->Int->LB->Bj)(b:UInt64)(a:Int)(n:UInt64)(k g:Int)(v:LB):Bj:=
(Ah v (Af (Ac v) 1)).bind λ_=>
(Dy (Hc (De k (Af 8 (Cp g 7))) 0)).bind λ_=>
(Dy (Hc (Cp g 7) 0)).bind λ_=>
(Ah v (Af (Ac v) 1)).bind λae=>
(Ah v (Af (Ac v) 1)).bind λ_=>
Option.bind (Fa v (Af (Ac v) 1) (fJ ae (Ey (Am (Cp n (Af (Ey (1:UInt64) (GI.toZ (De k (Af 8 (Cp g 7)))).toNat) 1)):UInt8) (GI.toZ (Cp g 7)).toNat))) λy=>
j26 n k g y
def GN BH b a:=FJ (FX BH b a) b a
def EZ(j25:UInt64->Int->Int->LB->Bj)(j28:Int->LB->Bj)(b:UInt64)(a:Int)(n:UInt64)(k g:Int)(p:LB):Bj:=
if(Fm k 0)then
if(geq (Cp g 7) 0)then
(Dp p ([(0:UInt8)]:LB)).bind λw=>
j25 n k g w
else
j25 n k g p
else
j28 g p
def Tm(b:UInt64)(a:Int):Nat->UInt64->Int->Int->LB->Bj
|0,_,_,_,_=>none
|q+1,n,k,g,p=>EZ (GN (Tm b a q) b a) HK b a n k g p
def GH b a:=Tm b a Cx
def JW(j15:UInt64->Int->UInt64->Int->Int->LB->Bj)(j22:UInt64->Int->UInt64->Int->Int->LB->Bj)(ac:LB)(aa:Int)(b:UInt64)(a:Int):Bj:=
(Ei ac aa).bind λaf=>
if(Bl af 0)then
some (([]:LB),0,8)
else
if((Cq a 0)||(Fm a 64))then
some (([]:LB),0,2)
else
if(Cq a 64)then
(Dy (Hc a 0)).bind λ_=>
if(Bl (Bp b (GI.toZ a).toNat) 0)then
some (([]:LB),0,16)
else
if(Fm (Aa aa a) 330000)then
some (([]:LB),0,18)
else
(IM ac aa).bind λ(ag,ah)=>
j15 b a b a ah ag
else
if(Fm (Aa aa a) 330000)then
some (([]:LB),0,18)
else
(IM ac aa).bind λ(ab,ai)=>
j22 b a b a ai ab
def Zd:=JW HL GH
def Tz(b:UInt32)(a:Int):Option Bool:=
(Dy (Hc a 0)).bind λ_=>
some (Hc (Bp b (GI.toZ a).toNat) 48)
def HE(a:Int):Option (Int×Int):=
if((Cq a 0)||(Fm a 48))then
some (0,2)
else
some ((De (Aa a 1) 48),0)
def KV(b:LB)(f a:Int):Option (LB×Int×Int):=
(Ei b f).bind λg=>
if(Bl g 0)then
some (([]:LB),0,g)
else
(HE a).bind λ(k,h)=>
if(Bl h 0)then
some (([]:LB),0,h)
else
(Dy (Hc a 0)).bind λ_=>
(Zd b f (Af (Ey (1:UInt64) (GI.toZ a).toNat) 1) k).bind λ(m,n,o)=>
some (m,n,o)
abbrev Ta:=Option (LB×Int×Int)
def RM(b:LB)(f h:Int)(k:UInt32)(m:Int):Ta:=
(KV b f h).bind λ(p,u,n)=>
if(Bl n 0)then
some (([]:LB),0,n)
else
(Zd p u (Am k:UInt64) m).bind λ(v,w,y)=>
some (v,w,y)
def CV:=RM
def BL(j2:LB->Int->Int->UInt32->Int->Ta)(b:LB)(f:Int)(g:UInt32)(a:Int):Ta:=
(Ei b f).bind λo=>
if(Bl o 0)then
some (([]:LB),0,o)
else
if((Cq a 0)||(Fm a 24))then
some (([]:LB),0,2)
else
(Dy (Hc a 0)).bind λ_=>
(Dy (Hc a 0)).bind λ_=>
(Tz g a).bind λaa=>
if aa then
j2 b f 48 g 32
else
j2 b f (Am (Bp g (GI.toZ a).toNat):Int) (Cp g (Af (Ey (1:UInt32) (GI.toZ a).toNat) 1)) a
def OW:=BL CV
abbrev Cv:=Option (LB×Int×Int×Int×UInt64×UInt64×Int)
def Pd(k u n:Int)(a:UInt64)(b:UInt32)(o:UInt64)(m:LB):Cv:=
(
(
some (m,k,u,n,(Aa a (Af (Am b:UInt64) (Bp a (GI.toZ (4:UInt64)).toNat))),o,0)))
def AA:=Pd
def CQ(j10:Int->Int->Int->UInt64->UInt32->UInt64->LB->Cv)(b:UInt32)(k n:Int)(a o:UInt64)(m:LB)(u:Int):Cv:=
j10 k u n a b o m
def DA:=CQ AA
def BN(j9:UInt32->Int->Int->UInt64->UInt64->LB->Int->Cv)(b:UInt32)(f:Int)(a:UInt64)(k:Int)(m:LB)(n:Int)(o:UInt64):Cv:=
if(Fm f 0)then
(Dy (Hc f 0)).bind λ_=>
if(Cq (Aa a (Af (Am b:UInt64) (Bp a (GI.toZ (4:UInt64)).toNat))) (Ey (16:UInt64) (GI.toZ f).toNat))then
j9 b k n a o m (Af f 1)
else
if(Cq f 24)then
(Dy (Hc f 0)).bind λ_=>
if(Fm (Aa a (Af (Am b:UInt64) (Bp a (GI.toZ (4:UInt64)).toNat))) (Ey (32:UInt64) (GI.toZ f).toNat))then
j9 b k n a o m (Aa f 1)
else
j9 b k n a o m f
else
j9 b k n a o m f
else
if(Cq f 24)then
(Dy (Hc f 0)).bind λ_=>
if(Fm (Aa a (Af (Am b:UInt64) (Bp a (GI.toZ (4:UInt64)).toNat))) (Ey (32:UInt64) (GI.toZ f).toNat))then
j9 b k n a o m (Aa f 1)
else
j9 b k n a o m f
else
j9 b k n a o m f
def BQ:=BN DA
def BJ(j8:UInt32->Int->UInt64->Int->LB->Int->UInt64->Cv)(b:UInt32)(f h:Int)(a g:UInt64)(y k:Int)(m:LB):Cv:=
if(Bl y 0)then
some (([]:LB),0,0,0,0,0,y)
else
(Ts f h a g b).bind λ(ag,p)=>
if(geq ag 1)then
if(Fm h 0)then
(Dy (Hc h 0)).bind λ_=>
if(Cq (Aa g (Af (Am p:UInt64) (Bp g (GI.toZ (4:UInt64)).toNat))) (Ey (16:UInt64) (GI.toZ h).toNat))then
j8 b f a k m (Af h 1) (Aa g (Af (Am p:UInt64) (Bp g (GI.toZ (4:UInt64)).toNat)))
else
if(Cq h 24)then
(Dy (Hc h 0)).bind λ_=>
if(Fm (Aa g (Af (Am p:UInt64) (Bp g (GI.toZ (4:UInt64)).toNat))) (Ey (32:UInt64) (GI.toZ h).toNat))then
j8 b f a k m (Aa h 1) (Aa g (Af (Am p:UInt64) (Bp g (GI.toZ (4:UInt64)).toNat)))
else
j8 b f a k m h (Aa g (Af (Am p:UInt64) (Bp g (GI.toZ (4:UInt64)).toNat)))
else
j8 b f a k m h (Aa g (Af (Am p:UInt64) (Bp g (GI.toZ (4:UInt64)).toNat)))
else
if(Cq h 24)then
(Dy (Hc h 0)).bind λ_=>
if(Fm (Aa g (Af (Am p:UInt64) (Bp g (GI.toZ (4:UInt64)).toNat))) (Ey (32:UInt64) (GI.toZ h).toNat))then
j8 b f a k m (Aa h 1) (Aa g (Af (Am p:UInt64) (Bp g (GI.toZ (4:UInt64)).toNat)))
else
j8 b f a k m h (Aa g (Af (Am p:UInt64) (Bp g (GI.toZ (4:UInt64)).toNat)))
else
j8 b f a k m h (Aa g (Af (Am p:UInt64) (Bp g (GI.toZ (4:UInt64)).toNat)))
else
j8 b f a k m h g
def CT:=BJ BQ
def DD(j7:UInt32->Int->Int->UInt64->UInt64->Int->Int->LB->Cv)(b:UInt32)(v:LB)(w f h:Int)(a g:UInt64):Cv:=
(Ts f h a g b).bind λ(ad,ae)=>
(Zd v w (Am ad:UInt64) 1).bind λ(aa,ab,ac)=>
if((geq ac 0)&&(geq ad 0))then
(Zd aa ab (Am ae:UInt64) f).bind λ(ah,ai,aj)=>
j7 b f h a g aj ai ah
else
if(geq ac 0)then
(OW aa ab ae h).bind λ(ak,al,am)=>
j7 b f h a g am al ak
else
j7 b f h a g ac ab aa
def BO:=DD CT
def DH(j6:UInt32->LB->Int->Int->Int->UInt64->UInt64->Cv)(v:LB)(w f h:Int)(a g:UInt64)(b:UInt32):Cv:=
(Ei v w).bind λan=>
if(Bl an 0)then
some (([]:LB),0,0,0,0,0,8)
else
(EH f h a g).bind λao=>
if(Bl ao 0)then
some (([]:LB),0,0,0,0,0,8)
else
j6 b v w f h a g
def OI:=DH BO
abbrev Ax:=Option (UInt32×Int)
def NT(h:UInt32):Ax:=
some (h,0)
def Xn:=NT
def Zn(j30:UInt32->Ax)(rS:UInt32->Int->Ax)(a:LB)(b:LU)(h:UInt32)(m:Int):Ax:=
if(Cq m (Ac a))then
(Ah a m).bind λp=>
(Ah b (GI.toZ (Sf (Am h:UInt8) p))).bind λ_=>
(Ah b (GI.toZ (Sf (Am h:UInt8) p))).bind λu=>
rS (Sf (Bp h (GI.toZ (8:UInt64)).toNat) u) (Aa m 1)
else
j30 h
def Np(a:LB)(b:LU):Nat->UInt32->Int->Ax
|0,_,_=>none
|q+1,h,m=>Zn Xn (Np a b q) a b h m
def Yl a b:=Np a b Cx
def Xy(j28:LB->LU->UInt32->Int->Ax)(f:UInt32)(a:LB)(b:LU):Ax:=
j28 a b f 0
def Xv:=Xy Yl
def Xq(j27:UInt32->LB->LU->Ax)(f:UInt32)(a:LB)(b:LU):Ax:=
j27 f a b
def Yd:=Xq Xv
def NF(Fp:Int->LU->Ax)(f:UInt32)(a:LB)(g:Int)(o:LU):Ax:=
Fp (Aa g 1) o
def Zr Fp:=NF Fp
def Yj(j24:Int->LU->Ax)(f:UInt32)(a:LB)(g:Int)(k:UInt32)(b:LU):Ax:=
(Ah b g).bind λ_=>
(Fa b g k).bind λo=>
j24 g o
def Xx Fp f a:=Yj (Zr Fp f a) f a
def Xi(j23:Int->UInt32->LU->Ax)(nH:UInt32->Int->Ax)(f:UInt32)(a:LB)(g:Int)(b:LU)(k:UInt32)(n:Int):Ax:=
if(Cq n 8)then
nH (Sf (Bp k (GI.toZ (1:UInt64)).toNat) (Di 3988292384 (Cp k 1))) (Aa n 1)
else
j23 g k b
def Nb(Fp:Int->LU->Ax)(f:UInt32)(a:LB)(g:Int)(b:LU):Nat->UInt32->Int->Ax
|0,_,_=>none
|q+1,k,n=>Xi (Xx Fp f a) (Nb Fp f a g b q) f a g b k n
def Ww Fp f a g b:=Nb Fp f a g b Cx
def Zo(j21:Int->LU->UInt32->Int->Ax)(j26:UInt32->LB->LU->Ax)(f:UInt32)(a:LB)(g:Int)(b:LU):Ax:=
if(Cq g 256)then
j21 g b (Am g:UInt32) 0
else
j26 f a b
def Mz(f:UInt32)(a:LB):Nat->Int->LU->Ax
|0,_,_=>none
|q+1,g,b=>Zo (Ww (Mz f a q) f a) Yd f a g b
def Xk f a:=Mz f a Cx
def CE(j16:UInt32->LB->Int->LU->Ax)(f:UInt32)(a:LB):Ax:=
if(Fm (Ac a) 100000)then
some (0,4)
else
j16 f a 0 (List.replicate 256 (0:UInt32))
def QP:=CE Xk
def Ka(b:LB):Option (UInt32×Int):=
(QP 4294967295 b).bind λ(f,a)=>
if(Bl a 0)then
some (0,a)
else
some ((fQ f),0)
def bI(b:UInt64)(a:Int):Option Bool:=
if(geq a 8)then
some true
else
(Dy (Hc (Di 8 a) 0)).bind λ_=>
some (geq (Bp b (GI.toZ (Di 8 a)).toNat) 0)
abbrev Iu:=Option (LB×Int)
def WM(a:LB):Iu:=
some (a,0)
def JS:=WM
def KB(j6:LB->Iu)(BF:Int->LB->Iu)(f:UInt64)(g:LB)(b:Int)(a:LB):Iu:=
if(Cq b (Ac g))then
(Dy (Hc (Di 8 b) 0)).bind λ_=>
(Ah a b).bind λ_=>
(Fa a b (Am (Bp f (GI.toZ (Di 8 b)).toNat):UInt8)).bind λk=>
BF (Aa b 1) k
else
j6 a
def Yv(f:UInt64)(g:LB):Nat->Int->LB->Iu
|0,_,_=>none
|q+1,b,a=>KB JS (Yv f g q) f g b a
def KN f g:=Yv f g Cx
def KJ(j4:UInt64->LB->Int->LB->Iu)(f:UInt64)(h:Int):Iu:=
if((Cq h 1)||(Fm h 8))then
some (([]:LB),2)
else
(bI f h).bind λm=>
if(!m)then
some (([]:LB),16)
else
(ZO h (0:UInt8)).bind λg=>
(Dy (geq h h)).bind λ_=>
j4 f g 0 g
def Ky:=KJ KN
def Mo(f:LB):Option (LB):=
some f
def Fx:=Mo
def Fy(j16:LB->Option (LB))(nI:Int->LB->Option (LB))(a:List LB)(g:Int)(f:LB):Option (LB):=
if(Cq g (Ac a))then
(Ah a g).bind λo=>
(Dp f o).bind λp=>
nI (Aa g 1) p
else
j16 f
def Ea(a:List LB):Nat->Int->LB->Option (LB)
|0,_,_=>none
|q+1,g,f=>Fy Fx (Ea a q) a g f
def Fw a:=Ea a Cx
def Gb(j14:(List LB)->Int->LB->Option (LB))(a:List LB)(k:LB):Option (LB):=
j14 a 0 k
def Gd:=Gb Fw
def Ge(j13:(List LB)->LB->Option (LB))(b:Int)(a:List LB):Option (LB):=
if(Fm (Af b (Af (0:Int) (0:Int))) 0)then
(RD 0 0 0).bind λ_=>
(ZO (Af b (Af (0:Int) (0:Int))) (0:UInt8)).bind λu=>
(Dp ([]:LB) u).bind λm=>
(RD (Ac m) 0 0).bind λ_=>
j13 a (Wp m 0 ((0:Int)-(0:Int)))
else
j13 a ([]:LB)
def Gf:=Ge Gd
def Gc(j12:Int-> (List LB)->Option (LB))(a:List LB)(b:Int):Option (LB):=
if(Cq b 0)then
none
else
j12 b a
def Gg:=Gc Gf
def Gm(j11:(List LB)->Int->Option (LB))(nJ:Int->Int->Option (LB))(a:List LB)(b h:Int):Option (LB):=
if(Cq h (Ac a))then
(Ah a h).bind λn=>
if(Cq (Aa b (Ac n)) 0)then
none
else
nJ (Aa b (Ac n)) (Aa h 1)
else
j11 a b
def Eh(a:List LB):Nat->Int->Int->Option (LB)
|0,_,_=>none
|q+1,b,h=>Gm Gg (Eh a q) a b h
def Gj a:=Eh a Cx
def Gs(j9:(List LB)->Int->Int->Option (LB))(a:List LB):Option (LB):=
j9 a 0 0
def Jd:=Gs Gj
abbrev Aq:=Option (LB×Int)
def EC(u:Int)(p:LB):Aq:=
(Ka p).bind λ(af,ac)=>
if(Bl ac 0)then
some (([]:LB),ac)
else
(Ky (Am af:UInt64) 4).bind λ(m,h)=>
if(Bl h 0)then
some (([]:LB),h)
else
(Jd ([p,m]:List LB)).bind λag=>
some (ag,0)
def Ny:=EC
def DS(Ue:Int-> (List (Int×Int×UInt64×UInt64×Unit))->Int->LB->Aq)(a:LU)(b f g:Int)(k:List (Int×Int×UInt64×UInt64×Unit))(n:Int)(v:LB):Aq:=
Ue (Aa g 1) k n v
def Oz Ue:=DS Ue
def EO(RC:Int->Int->LB->Aq)(h:Int)(a:LU)(g b f:Int)(k:List (Int×Int×UInt64×UInt64×Unit))(m:LB)(o n:Int)(aa:LB):Aq:=
RC (Aa o 1) (Aa n 1) aa
def Nx RC:=EO RC
def Nh(j48:Int->Int->LB->Aq)(h:Int)(a:LU)(g b f:Int)(k:List (Int×Int×UInt64×UInt64×Unit))(m:LB)(o n:Int)(y:LB):Aq:=
(Ah m (Jp o 8)).bind λ_=>
(Ah m (Jp o 8)).bind λah=>
(Dy (Hc (Fv o 8) 0)).bind λ_=>
(Ah y (Jp n 8)).bind λ_=>
(Dy (Hc (Fv n 8) 0)).bind λ_=>
(Ah y (Jp n 8)).bind λai=>
(Ah y (Jp n 8)).bind λ_=>
Option.bind (Fa y (Jp n 8) (fJ ai (Ey (Cp (Bp ah (GI.toZ (Fv o 8)).toNat) 1) (GI.toZ (Fv n 8)).toNat))) λaa=>
j48 o n aa
def Nn RC h a g b f k m:=Nh (Nx RC h a g b f k m) h a g b f k m
def Ox(j47:Int->Int->LB->Aq)(j50:Int-> (List (Int×Int×UInt64×UInt64×Unit))->Int->LB->Aq)(a:LU)(b f h g:Int)(k:List (Int×Int×UInt64×UInt64×Unit))(m:LB)(o n:Int)(v:LB):Aq:=
if(Cq o h)then
if(geq (Fv n 8) 0)then
(Dp v ([(0:UInt8)]:LB)).bind λaj=>
j47 o n aj
else
j47 o n v
else
j50 g k n v
def Is(Ue:Int-> (List (Int×Int×UInt64×UInt64×Unit))->Int->LB->Aq)(a:LU)(b f h g:Int)(k:List (Int×Int×UInt64×UInt64×Unit))(m:LB):Nat->Int->Int->LB->Aq
|0,_,_,_=>none
|q+1,o,n,v=>Ox (Nn (Is Ue a b f h g k m q) h a g b f k m) (Oz Ue a b f) a b f h g k m o n v
def Nz Ue a b f h g k m:=Is Ue a b f h g k m Cx
def Od(j44:Int->Int-> (List (Int×Int×UInt64×UInt64×Unit))->LB->Int->Int->LB->Aq)(j52:Int->LB->Aq)(a:LU)(b f g:Int)(w:List (Int×Int×UInt64×UInt64×Unit))(u:Int)(p:LB):Aq:=
if(Cq g (Ac a))then
(Ah a g).bind λ_=>
(Ah a g).bind λak=>
(Dy (Bl b 0)).bind λ_=>
(Ah w (Fv g b)).bind λ_=>
(Ah w (Fv g b)).bind λab=>
(OI ([]:LB) 0 ab.1 ab.2.1 ab.2.2.1 ab.2.2.2.1 ak).bind λ(m,h,al,am,an,ao,ad)=>
if(Bl ad 0)then
some (([]:LB),ad)
else
(Dy (Bl b 0)).bind λ_=>
(Ah w (Fv g b)).bind λ_=>
(Fa w (Fv g b) (al,am,an,ao,())).bind λk=>
j44 h g k m 0 u p
else
j52 u p
def Ir(a:LU)(b f:Int):Nat->Int-> (List (Int×Int×UInt64×UInt64×Unit))->Int->LB->Aq
|0,_,_,_,_=>none
|q+1,g,w,u,p=>Od (Nz (Ir a b f q) a b f) Ny a b f g w u p
def Na a b f:=Ir a b f Cx
def Pq(j27:LU->Int->Int->Int-> (List (Int×Int×UInt64×UInt64×Unit))->Int->LB->Aq)(b f:Int)(ap aq:LX):Aq:=
(Xo b f ap aq).bind λ(a,ae)=>
if(Bl ae 0)then
some (([]:LB),ae)
else
(Yu).bind λar=>
j27 a b f 0 ar 0 ([]:LB)
def Jm:=Pq Na
def Gt(a:Int)(b:LX):LI->Int->Option (List LX)
  |[],_=>some []
  |n::l,x=>Option.bind (Dd b x (Aa x (Di n a))) λp=>Option.bind (Gt a b l (Aa x (Di n a))) λps=>some (p::ps)
def Kx(a f:Int)(t:LX):List LX->List LB->Option (List LB×Int)
  |[],o=>some (o,0)
  |x::xs,o=>Option.bind (Jm a f t x) λy=>
    if(Bl y.2 0)=true then some ([],y.2)
    else Option.bind (Dp o [y.1]) λo'=>Kx a f t xs o'
def Zk(a h:Int)(b:LX):Option (List LX):=
  Option.bind (Dy (Bl a 0)) λ_=>Option.bind (La h (Jp (Ac b) a)) λl=>Option.bind (Dy (decide (Ac l.1<=17179869184))) λ_=>Gt a b l.1 0
def Xu(a f h:Int)(b:LX)(p:LB):Option (List LB×Int):=
  Option.bind (Jy a f h b) λe=>
    if(Bl e 0)=true then some ([],e)
    else Option.bind (Mp p) λt=>
      if(Bl t.2 0)=true then some ([],t.2)
      else Option.bind (Zk a h b) λxs=>Kx a f t.1 xs []
def IJ(b f a g h:Int):Option Bool:=
some (((((((geq b 1)||(geq b 2))&&(Fm f 0))&&(lE f 6))&&(Fm g 0))&&(lE g 1048576))&&(Fm h 0))
def Rw:=IJ
def Rn(j2:Int->Int->Int->Int->Int->Option Bool)(b f a g h:Int):Option Bool:=
if(geq a 8)then
if(geq a 8)then
j2 b f a g h
else
some false
else
if(geq a 16)then
if(geq a 16)then
j2 b f a g h
else
some false
else
if(geq a 24)then
j2 b f a g h
else
some false
def Qj:=Rn Rw
def Zq(k a m f b:Int):Option Bool:=
(Dy (Bl a 0)).bind λ_=>
if(Fm b (Jp 4000 a))then
some false
else
(Hw f b).bind λ(g,h)=>
some ((geq h 0)&&(lE g 1000))
def Sy(a b f g h:Int):Option Int:=
(Qj a b f g h).bind λk=>
if(!k)then
some 8
else
(Zq a b f g h).bind λm=>
if(!m)then
some 8
else
some 0
abbrev Eg:=Option (LB×Int)
def LW(a:LB):Eg:=
(Ka a).bind λ(u,aa)=>
(Ky (Am u:UInt64) 4).bind λ(n,v)=>
(Dp a n).bind λo=>
some (o,0)
def Wd:=LW
def Wb(j6:LB->Eg)(BF:Int->LB->Eg)(b f g h k m:Int)(a:LB):Eg:=
if(Cq m 5)then
(Ah ([b,f,g,h,k]:LI) m).bind λw=>
(Ah ([(2:Int),(2:Int),(2:Int),(4:Int),(4:Int)]:LI) m).bind λy=>
(Ky (Am w:UInt64) y).bind λ(n,v)=>
(Dp a n).bind λo=>
BF (Aa m 1) o
else
j6 a
def Lm(b f g h k:Int):Nat->Int->LB->Eg
|0,_,_=>none
|q+1,m,a=>Wb Wd (Lm b f g h k q) b f g h k m a
def Vn b f g h k:=Lm b f g h k Cx
def Wk(j4:Int->Int->Int->Int->Int->Int->LB->Eg)(b f g h k:Int):Eg:=
(Sy b f g h k).bind λp=>
if(Bl p 0)then
some (([]:LB),p)
else
j4 b f g h k 0 ([(84:UInt8),(84:UInt8),(65:UInt8),(49:UInt8)]:LB)
def GJ:=Wk Vn
def SI(a:LB):Option (UInt64×Int):=
if(Fm (Ac a) 64)then
some (0,2)
else
(IN a).bind λ(b,f)=>
some (b,0)
def Tr(b:LB):Option (LB×Int):=
(SI b).bind λ(f,a)=>
if(Bl a 0)then
some (([]:LB),a)
else
(Ky f 8).bind λ(g,h)=>
some (g,h)
def PQ:Option Int:=
some 0
def AM:=PQ
def AH(j6:Option Int)(BF:Int->Int->Option Int)(a:LI)(f b:Int):Option Int:=
if(Cq b (Ac a))then
(Ah a b).bind λg=>
if((Cq g 5)||(Fm g f))then
some 8
else
BF (Af f g) (Aa b 1)
else
j6
def Nr(a:LI):Nat->Int->Int->Option Int
|0,_,_=>none
|q+1,f,b=>AH AM (Nr a q) a f b
def Yt a:=Nr a Cx
def Zf(j4:LI->Int->Int->Option Int)(a:LI):Option Int:=
if((geq (Ac a) 0)||(Fm (Ac a) 1000))then
some 8
else
j4 a 100000 0
def Qg:=Zf Yt
abbrev Ck:=Option (LB×Int)
def LR(g:LB):Ck:=
some (g,0)
def Vr:=LR
def Va(j14:LB->Ck)(b:LB):Ck:=
(Ka b).bind λ(m,u)=>
(Ky (Am m:UInt64) 4).bind λ(n,v)=>
(Dp b n).bind λg=>
j14 g
def Uv:=Va Vr
def MB(bX:Int->LB->Ck)(a:LI)(f:Int)(h:LB):Ck:=
bX (Aa f 1) h
def Vk bX:=MB bX
def AF(j11:Int->LB->Ck)(j13:LB->Ck)(a:LI)(f:Int)(b:LB):Ck:=
if(Cq f (Ac a))then
(Ah a f).bind λo=>
(Ky (Am o:UInt64) 4).bind λ(p,w)=>
(Dp b p).bind λh=>
j11 f h
else
j13 b
def Mw(a:LI):Nat->Int->LB->Ck
|0,_,_=>none
|q+1,f,b=>AF (Vk (Mw a q) a) Uv a f b
def Zx a:=Mw a Cx
def Xp(j8:LI->Int->LB->Ck)(a:LI):Ck:=
(Qg a).bind λk=>
if(Bl k 0)then
some (([]:LB),k)
else
j8 a 0 ([]:LB)
def KX:=Xp Zx
def BW(a:LB):Option Int:=
some (Ac a)
def OC(a:LB):Option (LB):=
some a
def Zs:=OC
def Yx(j6:LB->Option (LB))(BF:Int->LB->Option (LB))(b:List LB)(f:Int)(a:LB):Option (LB):=
if(Cq f (Ac b))then
(Ah b f).bind λg=>
(Dp a g).bind λh=>
BF (Aa f 1) h
else
j6 a
def Ot(b:List LB):Nat->Int->LB->Option (LB)
|0,_,_=>none
|q+1,f,a=>Yx Zs (Ot b q) b f a
def Yw b:=Ot b Cx
def Xr(j4:(List LB)->Int->LB->Option (LB))(b:List LB):Option (LB):=
j4 b 0 ([]:LB)
def KZ:=Xr Yw
abbrev Br:=Option (LB×Int)
def LN(k:Int)(a:List LB)(b f n:LB):Br:=
if(Bl k 0)then
some (([]:LB),k)
else
(Dp ([b,f,n]:List LB) a).bind λm=>
(KZ m).bind λad=>
some (ad,0)
def Vz:=LN
def Up(j14:Int-> (List LB)->LB->LB->LB->Br)(h:LI)(a:List LB)(b f:LB):Br:=
(KX h).bind λ(n,k)=>
j14 k a b f n
def Wf:=Up Vz
def LM(nJ:Int->LI->Br)(a:List LB)(b f:LB)(g:Int)(m:LI):Br:=
nJ (Aa g 1) m
def Vj nJ:=LM nJ
def Ys(j11:Int->LI->Br)(j13:LI-> (List LB)->LB->LB->Br)(a:List LB)(b f:LB)(g:Int)(h:LI):Br:=
if(Cq g (Ac a))then
(Ah a g).bind λ_=>
(Ah a g).bind λae=>
(BW ae).bind λk=>
(Ah h g).bind λ_=>
(Fa h g k).bind λm=>
j11 g m
else
j13 h a b f
def Oh(a:List LB)(b f:LB):Nat->Int->LI->Br
|0,_,_=>none
|q+1,g,h=>Ys (Vj (Oh a b f q) a b f) Wf a b f g h
def Zh a b f:=Oh a b f Cx
def Wx(j9:(List LB)->LB->LB->Int->LI->Br)(a:List LB)(b f:LB):Br:=
(ZO (Ac a) (0:Int)).bind λaf=>
(Dy (geq (Ac a) (Ac a))).bind λ_=>
j9 a b f 0 af
def Yb:=Wx Zh
def Xh(j8:(List LB)->LB->LB->Br)(p u v:Int)(w:LX)(o:LB):Br:=
(KS p u v w o).bind λ(y,ag,ah,ai,aj,aa)=>
if(Bl aa 0)then
some (([]:LB),aa)
else
(Xu p u v w o).bind λ(a,ab)=>
if(Bl ab 0)then
some (([]:LB),ab)
else
(GJ y ag ah ai aj).bind λ(b,ac)=>
if(Bl ac 0)then
some (([]:LB),ac)
else
if(geq y 2)then
(Tr o).bind λ(ak,al)=>
j8 a b ak
else
j8 a b ([]:LB)
def Qf:=Xh Yb
def Fh:Option (LB×Bool):=
(Qf 1 8 1 ([(1:Int32),(2:Int32)]:LX) ([]:LB)).bind λ(a,b)=>
some (a,((geq b 0)&&(geq (Ac a) 46)))
def Gq(a b:LB):Option Bool:=
some (a==b)
def Fo(b a:LB):Option Bool:=
if(Hc (Ac b) (Ac a))then
(Dd b 0 (Ac a)).bind λf=>
(Gq f a).bind λg=>
some g
else
some false
abbrev Dx:=Option (Int×Int)
def IL(b:Int):Dx:=
some (b,0)
def Se:=IL
def Rq(j6:Int->Dx)(BF:Int->Int->Dx)(a:LB)(b f:Int):Dx:=
if(Cq f (Ac a))then
(Ah a f).bind λg=>
if(Fm g 127)then
some (0,12)
else
BF (fJ (Ey b (GI.toZ (7:UInt64)).toNat) (Am g:Int)) (Aa f 1)
else
j6 b
def Jz(a:LB):Nat->Int->Int->Dx
|0,_,_=>none
|q+1,b,f=>Rq Se (Jz a q) a b f
def Rm a:=Jz a Cx
def Sd(j4:LB->Int->Int->Dx)(a:LB):Dx:=
if(Bl (Ac a) 4)then
some (0,2)
else
j4 a 0 0
def CG:=Sd Rm
abbrev Cu:=Option (Int×Int)
def LY(a:LB)(b:UInt8)(h:Int):Cu:=
if(Fm h 4000)then
some (0,4)
else
if(Cq (Ac a) h)then
some (0,24)
else
if(geq b 16)then
(Dd a (Af h 10) h).bind λk=>
(Dd k 0 3).bind λu=>
if(u !=([51,68,73]:LB))then
some (0,12)
else
(Dd k 3 (Ac k)).bind λv=>
(Dd a 3 10).bind λw=>
(Gq v w).bind λy=>
if(!y)then
some (0,12)
else
some (h,0)
else
some (h,0)
def Uz:=LY
def Vt(j8:LB->UInt8->Int->Cu)(a:LB)(g:Int)(b:UInt8):Cu:=
if(geq b 16)then
j8 a b (Aa (Aa g 10) 10)
else
j8 a b (Aa g 10)
def Wi:=Vt Uz
def Uj(j7:LB->Int->UInt8->Cu)(a:LB)(g:Int)(b:UInt8)(m:Bool):Cu:=
if m then
some (0,12)
else
j7 a g b
def Uk:=Uj Wi
def Wg(j6:LB->Int->UInt8->Bool->Cu)(a:LB)(f b:UInt8):Cu:=
(Dd a 6 10).bind λaa=>
(CG aa).bind λ(g,ab)=>
if(Bl ab 0)then
if true then
j6 a g b true
else
if(geq b 0)then
j6 a g b (!((Hc f 2)&&(lE f 4)))
else
if(geq b 16)then
j6 a g b (!(geq f 4))
else
j6 a g b (!false)
else
(Ah a 4).bind λac=>
if(Bl ac 0)then
j6 a g b true
else
if(geq b 0)then
j6 a g b (!((Hc f 2)&&(lE f 4)))
else
if(geq b 16)then
j6 a g b (!(geq f 4))
else
j6 a g b (!false)
def Vh:=Wg Uk
def Lo(j5:LB->UInt8->UInt8->Cu)(a:LB):Cu:=
(Fo a ([(73:UInt8),(68:UInt8),(51:UInt8)]:LB)).bind λn=>
if(!n)then
some (0,6)
else
if(Cq (Ac a) 10)then
some (0,24)
else
(Ah a 3).bind λf=>
(Ah a 5).bind λb=>
(
(
(
j5 a f b)))
def FC:=Lo Vh
abbrev Iv:=Option (UInt64×Int)
def VI(b:UInt64):Iv:=
some (b,0)
def JZ:=VI
def KH(j6:UInt64->Iv)(BF:UInt64->Int->Iv)(a:LB)(b:UInt64)(f:Int):Iv:=
if(Cq f (Ac a))then
(Ah a f).bind λg=>
(Dy (Hc (Di 8 f) 0)).bind λ_=>
BF (fJ b (Ey (Am g:UInt64) (GI.toZ (Di 8 f)).toNat)) (Aa f 1)
else
j6 b
def Wv(a:LB):Nat->UInt64->Int->Iv
|0,_,_=>none
|q+1,b,f=>KH JZ (Wv a q) a b f
def KQ a:=Wv a Cx
def LG(j4:LB->UInt64->Int->Iv)(a:LB):Iv:=
if((Cq (Ac a) 1)||(Fm (Ac a) 8))then
some (0,2)
else
j4 a 0 0
def NS:=LG KQ
def QA(f:LB)(a b:Int):Option (UInt64×Int):=
if(((Cq b 1)||(Fm b 8))||(Cq a 0))then
some (0,2)
else
if(Fm a (Af (Ac f) b))then
some (0,24)
else
(Dd f a (Aa a b)).bind λg=>
(NS g).bind λ(h,k)=>
some (h,k)
def ZA(g:LB):Option (LB):=
some g
def OM:=ZA
def OS(j6:LB->Option (LB))(BF:Int->LB->Option (LB))(a b:Int)(f:UInt64)(h:Int)(g:LB):Option (LB):=
if(Cq h (Ac ([(2000:UInt64),(Am (Aa a 32):UInt64),(Am b:UInt64),f,(0:UInt64),(0:UInt64)]:LQ)))then
(Ah ([(2000:UInt64),(Am (Aa a 32):UInt64),(Am b:UInt64),f,(0:UInt64),(0:UInt64)]:LQ) h).bind λ_=>
(Ah ([(2000:UInt64),(Am (Aa a 32):UInt64),(Am b:UInt64),f,(0:UInt64),(0:UInt64)]:LQ) h).bind λk=>
(Ky k 4).bind λ(m,o)=>
(Dp g m).bind λn=>
BF (Aa h 1) n
else
j6 g
def EU(a b:Int)(f:UInt64):Nat->Int->LB->Option (LB)
|0,_,_=>none
|q+1,h,g=>OS OM (EU a b f q) a b f h g
def NQ a b f:=EU a b f Cx
def QG(j4:Int->Int->UInt64->Int->LB->Option (LB))(a b:Int)(f:UInt64):Option (LB):=
j4 a b f 0 ([(65:UInt8),(80:UInt8),(69:UInt8),(84:UInt8),(65:UInt8),(71:UInt8),(69:UInt8),(88:UInt8)]:LB)
def MH:=QG NQ
def AR(b:LB)(g:UInt64):Option (Int×Int×Bool):=
(QA b 12 4).bind λ(a,m)=>
(QA b 16 4).bind λ(f,n)=>
if(((Cq a 32)||(Fm a 3032))||(Fm f 1000))then
some (0,0,false)
else
(MH (Af (Am a:Int) 32) (Am f:Int) g).bind λh=>
(Gq b h).bind λk=>
some ((Af (Am a:Int) 32),(Am f:Int),k)
def SH(a:LB):Option (Int×Int):=
(Fo a ([(65:UInt8),(80:UInt8),(69:UInt8),(84:UInt8),(65:UInt8),(71:UInt8),(69:UInt8),(88:UInt8)]:LB)).bind λf=>
if(!f)then
some (0,6)
else
if(Cq (Ac a) 32)then
some (0,24)
else
(Dd a 0 32).bind λg=>
(AR g 2684354560).bind λ(b,h,k)=>
if(!k)then
some (0,12)
else
if(Cq (Ac a) (Aa b 64))then
some (0,24)
else
(Dd a (Af (Aa b 64) 32) (Aa b 64)).bind λm=>
(MH b h 2147483648).bind λn=>
(Gq m n).bind λo=>
if(!o)then
some (0,12)
else
some ((Aa b 64),0)
def Kf(a:LB):Option (Int×Int):=
(FC a).bind λ(f,b)=>
if(Bl b 6)then
some (f,b)
else
(SH a).bind λ(g,h)=>
some (g,h)
def Kt(b:List UInt8):Nat->Int->Option (Int×Int)
  |0,_=>none
  |q+1,x=>Option.bind (Dd b x (Ac b)) λs=>Option.bind (Kf s) λr=>
    if geq r.2 (6:Int)=true then some (x,0)
    else if(geq r.2 (0:Int)&&Fm (Aa x r.1) (4000:Int))=true then some (0,4)
    else if Bl r.2 (0:Int)=true then some (0,r.2)
    else Kt b q (Aa x r.1)
def Lf(b:List UInt8):Option (Int×Int):=Kt b Cx 0
def Ex(b a:LB):Option Bool:=
if(Hc (Ac b) (Ac a))then
(Dd b 0 (Ac a)).bind λf=>
some (f==a)
else
some false
def Po(a b:LB):Option Bool:=
(Ex a b).bind λf=>
some f
abbrev Eu:=Option (Int×Int×Int×Int×Int×Int)
def QN(a:LI):Eu:=
(Ah a 0).bind λ_=>
(Ah a 0).bind λh=>
(Ah a 1).bind λ_=>
(Ah a 1).bind λk=>
(Ah a 2).bind λ_=>
(Ah a 2).bind λm=>
(Ah a 3).bind λ_=>
(Ah a 3).bind λn=>
(Ah a 4).bind λ_=>
(Ah a 4).bind λo=>
(Qj h k m n o).bind λp=>
if(!p)then
some (0,0,0,0,0,12)
else
(Zq h k m n o).bind λu=>
if(!u)then
some (0,0,0,0,0,4)
else
some (h,k,m,n,o,0)
def Xd:=QN
def Xe(j6:LI->Eu)(BF:Int->Int->LI->Eu)(b:LB)(g f:Int)(a:LI):Eu:=
if(Cq f 5)then
(Ah ([(2:Int),(2:Int),(2:Int),(4:Int),(4:Int)]:LI) f).bind λh=>
(QA b g h).bind λ(v,ae)=>
(Ah a f).bind λ_=>
(Fa a f (Am v:Int)).bind λw=>
BF (Aa g h) (Aa f 1) w
else
j6 a
def My(b:LB):Nat->Int->Int->LI->Eu
|0,_,_,_=>none
|q+1,g,f,a=>Xe Xd (My b q) b g f a
def Xw b:=My b Cx
def Zi(j4:LB->Int->Int->LI->Eu)(b:LB):Eu:=
(Dd b 0 (De 4 (Ac b))).bind λy=>
(Po ([84,84,65,49]:LB) y).bind λaa=>
if(!aa)then
some (0,0,0,0,0,12)
else
if(Cq (Ac b) 22)then
some (0,0,0,0,0,24)
else
(QA b 18 4).bind λ(ab,af)=>
(Dd b 0 18).bind λac=>
(Ka ac).bind λ(ad,ag)=>
if(Bl (Am ad:UInt64) ab)then
some (0,0,0,0,0,22)
else
j4 b 4 0 (List.replicate 5 (0:Int))
def KA:=Zi Xw
def HF(a f:LB):Option (Bool×Int):=
(Tr f).bind λ(b,g)=>
if((Bl g 0)||(Bl (Ac a) (Ac b)))then
some (false,2)
else
(Gq a b).bind λh=>
some (h,0)
def Kq(g h k a b:Int):Option (LI×Int):=
(Sy g h k a b).bind λf=>
if(Bl f 0)then
some (([]:LI),f)
else
(La a b).bind λ(m,n)=>
some (m,n)
abbrev Fg:=Option (LI×Int)
def RO(a:LI):Fg:=
(Qg a).bind λk=>
if(Bl k 0)then
some (([]:LI),12)
else
some (a,0)
def BM:=RO
def CF(j6:LI->Fg)(BF:Int->LI->Fg)(b:LB)(f:LI)(g:Int)(a:LI):Fg:=
if(Cq g (Ac f))then
(QA b (Di 4 g) 4).bind λ(k,u)=>
(Ah a g).bind λ_=>
(Fa a g (Am k:Int)).bind λm=>
BF (Aa g 1) m
else
j6 a
def Qs(b:LB)(f:LI):Nat->Int->LI->Fg
|0,_,_=>none
|q+1,g,a=>CF BM (Qs b f q) b f g a
def CK b f:=Qs b f Cx
def DG(j4:LB->LI->Int->LI->Fg)(b:LB)(h:Int):Fg:=
if((Cq h 1)||(Fm h 1000))then
some (([]:LI),2)
else
if(Cq (Ac b) (Aa (Di 4 h) 4))then
some (([]:LI),24)
else
(QA b (Di 4 h) 4).bind λ(n,v)=>
(Dd b 0 (Di 4 h)).bind λo=>
(Ka o).bind λ(p,w)=>
if(Bl (Am p:UInt64) n)then
some (([]:LI),22)
else
(ZO h (0:Int)).bind λf=>
(Dy (geq h h)).bind λ_=>
j4 b f 0 f
def OP:=DG CK
abbrev Qm:=Option (Int×Int×Int×Int×Int×Int×LI×Int)
def OE(a:LB)(b f g h k n:Int):Qm:=
(Kq b f g h k).bind λ(ab,p)=>
if(Bl p 0)then
some (0,0,0,0,0,0,([]:LI),p)
else
(Dd a n (Ac a)).bind λac=>
(OP ac (Ac ab)).bind λ(u,v)=>
if(Bl v 0)then
some (0,0,0,0,0,0,([]:LI),v)
else
some (b,f,g,h,k,(Aa (Aa n (Di 4 (Ac u))) 4),u,0)
def Yg:=OE
def Nk(j2:LB->Int->Int->Int->Int->Int->Int->Qm)(a o:LB):Qm:=
if(Fm (Ac o) 64)then
some (0,0,0,0,0,0,([]:LI),2)
else
if(Fm (Ac a) 100000)then
some (0,0,0,0,0,0,([]:LI),4)
else
(Lf a).bind λ(m,w)=>
if(Bl w 0)then
some (0,0,0,0,0,0,([]:LI),w)
else
(Dd a m (Ac a)).bind λad=>
(KA ad).bind λ(b,f,g,h,k,y)=>
if(Bl y 0)then
some (0,0,0,0,0,0,([]:LI),y)
else
if((o==([]:LB)) !=(geq b 1))then
some (0,0,0,0,0,0,([]:LI),26)
else
if(o !=([]:LB))then
if(Cq (Ac a) (Aa (Aa m 22) 8))then
some (0,0,0,0,0,0,([]:LI),24)
else
(Dd a (Aa m 22) (Aa (Aa m 22) 8)).bind λae=>
(HF ae o).bind λ(af,aa)=>
if(Bl aa 0)then
some (0,0,0,0,0,0,([]:LI),aa)
else
if(!af)then
some (0,0,0,0,0,0,([]:LI),26)
else
j2 a b f g h k (Aa (Aa m 22) 8)
else
j2 a b f g h k (Aa m 22)
def Ci:=Nk Yg
abbrev Cm:=Option (LI×Int)
def FB(f:LI):Cm:=
some (f,0)
def Pr:=FB
def IX(rT:Int->Int->LI->Cm)(a:LI)(b g h:Int)(k:LI):Cm:=
rT (Aa b 1) (Aa g h) k
def Ry rT:=IX rT
def Rs(j8:Int->Int->Int->LI->Cm)(j10:LI->Cm)(a:LI)(b g:Int)(f:LI):Cm:=
if(Cq b (Ac a))then
(Ah a b).bind λh=>
(Dp f ([(Aa g h)]:LI)).bind λk=>
j8 b g h k
else
j10 f
def Km(a:LI):Nat->Int->Int->LI->Cm
|0,_,_,_=>none
|q+1,b,g,f=>Rs (Ry (Km a q) a) Pr a b g f
def Sm a:=Km a Cx
def Rz(j6:LI->Int->Int->LI->Cm)(a:LI):Cm:=
(Qg a).bind λm=>
if(Bl m 0)then
some (([]:LI),m)
else
j6 a 0 0 ([(0:Int)]:LI)
def Rf:=Rz Sm
def Yn(a:LB):Option (LB×Int):=
if(Cq (Ac a) 5)then
some (([]:LB),24)
else
if(Fm (Ac a) 41254)then
some (([]:LB),4)
else
(Dd a 0 (Af (Ac a) 4)).bind λf=>
(Ka f).bind λ(g,b)=>
if(Bl b 0)then
some (([]:LB),b)
else
(Dd a (Af (Ac a) 4) (Ac a)).bind λh=>
(NS h).bind λ(k,m)=>
if((Bl m 0)||(Bl k (Am g:UInt64)))then
some (([]:LB),22)
else
(Dd a 0 (Af (Ac a) 4)).bind λn=>
some (n,0)
def bK(a:LB):Option (LB×Int×Int):=
if(Fm (Ac a) 41250)then
some (([]:LB),0,4)
else
(Cy a).bind λb=>
some (b,(Di 8 (Ac a)),0)
def XQ(g:UInt64):Option UInt64:=
some g
def KP:=XQ
def KL(j6:UInt64->Option UInt64)(BF:UInt64->Int->Option UInt64)(b f:Int)(h:LB)(k:Int)(g:UInt64)(a:Int):Option UInt64:=
if(Cq a f)then
(Ah h (ZD (Aa b a) (GI.toZ (3:UInt64)).toNat)).bind λm=>
(Dy (Hc (Cp (Aa b a) 7) 0)).bind λ_=>
(Dy (Hc (De (Af f a) (Af 8 (Cp (Aa b a) 7))) 0)).bind λ_=>
(Dy (Hc a 0)).bind λ_=>
BF (fJ g (Ey (Am (Cp (Bp m (GI.toZ (Cp (Aa b a) 7)).toNat) (Af (Ey (1:UInt8) (GI.toZ (De (Af f a) (Af 8 (Cp (Aa b a) 7)))).toNat) 1)):UInt64) (GI.toZ a).toNat)) (Aa a (De (Af f a) (Af 8 (Cp (Aa b a) 7))))
else
j6 g
def Yr(b f:Int)(h:LB)(k:Int):Nat->UInt64->Int->Option UInt64
|0,_,_=>none
|q+1,g,a=>KL KP (Yr b f h k q) b f h k g a
def KG b f h k:=Yr b f h k Cx
def JP(j4:Int->Int->LB->Int->UInt64->Int->Option UInt64)(h:LB)(k b f:Int):Option UInt64:=
j4 b f h k 0 0
def QD:=JP KG
abbrev Bu:=Option (LB×Int×Int)
def UJ(o:Int)(p:LB):Bu:=
some (p,o,0)
def FM:=UJ
def TO(Ue:Int->Int->LB->Bu)(a:Int)(g:LB)(f b h:Int)(u:LB):Bu:=
Ue (Aa b 64) h u
def EY Ue:=TO Ue
def TP(RC:UInt64->Int->Int->LB->Bu)(a b:Int)(g:LB)(f:Int)(k n:UInt64)(m h:Int)(w:LB):Bu:=
(Dy (Hc (De m (Af 8 (Cp h 7))) 0)).bind λ_=>
RC (Bp n (GI.toZ (De m (Af 8 (Cp h 7)))).toNat) (Af m (De m (Af 8 (Cp h 7)))) (Aa h (De m (Af 8 (Cp h 7)))) w
def GW RC:=TP RC
def HU(j48:UInt64->Int->Int->LB->Bu)(a b:Int)(g:LB)(f:Int)(k n:UInt64)(m h:Int)(v:LB):Bu:=
(Ah v (Af (Ac v) 1)).bind λ_=>
(Dy (Hc (De m (Af 8 (Cp h 7))) 0)).bind λ_=>
(Dy (Hc (Cp h 7) 0)).bind λ_=>
(Ah v (Af (Ac v) 1)).bind λaa=>
(Ah v (Af (Ac v) 1)).bind λ_=>
Option.bind (Fa v (Af (Ac v) 1) (fJ aa (Ey (Am (Cp n (Af (Ey (1:UInt64) (GI.toZ (De m (Af 8 (Cp h 7)))).toNat) 1)):UInt8) (GI.toZ (Cp h 7)).toNat))) λw=>
j48 n m h w
def GF RC a b g f k:=HU (GW RC a b g f k) a b g f k
def FT(j47:UInt64->Int->Int->LB->Bu)(j50:Int->Int->LB->Bu)(a:Int)(g:LB)(f b:Int)(k n:UInt64)(m h:Int)(u:LB):Bu:=
if(Fm m 0)then
if(geq (Cp h 7) 0)then
(Dp u ([(0:UInt8)]:LB)).bind λab=>
j47 n m h ab
else
j47 n m h u
else
j50 b h u
def Tg(Ue:Int->Int->LB->Bu)(a:Int)(g:LB)(f b:Int)(k:UInt64):Nat->UInt64->Int->Int->LB->Bu
|0,_,_,_,_=>none
|q+1,n,m,h,u=>FT (GF (Tg Ue a g f b k q) a b g f k) (EY Ue a g f) a g f b k n m h u
def HC Ue a g f b k:=Tg Ue a g f b k Cx
def GZ(j44:Int->UInt64->UInt64->Int->Int->LB->Bu)(j52:Int->LB->Bu)(a:Int)(g:LB)(f b o:Int)(p:LB):Bu:=
if(Cq b a)then
(QD g f b (De 64 (Af a b))).bind λk=>
j44 b k k (De 64 (Af a b)) o p
else
j52 o p
def Td(a:Int)(g:LB)(f:Int):Nat->Int->Int->LB->Bu
|0,_,_,_=>none
|q+1,b,o,p=>GZ (HC (Td a g f q) a g f) FM a g f b o p
def EW a g f:=Td a g f Cx
def KO(j27:Int->LB->Int->Int->Int->LB->Bu)(g:LB)(f y a:Int):Bu:=
(Ei g f).bind λac=>
if(Bl ac 0)then
some (([]:LB),0,8)
else
if(((Cq y 0)||(Fm y a))||(Fm a f))then
some (([]:LB),0,2)
else
j27 a g f y 0 ([]:LB)
def OY:=KO EW
def Oe(g:LB)(b f a:Int):Option (UInt64×Int):=
(Ei g b).bind λh=>
if(Bl h 0)then
some (0,8)
else
if(((Cq a 0)||(Fm a 64))||(Cq f 0))then
some (0,2)
else
if(Fm f (Af b a))then
some (0,24)
else
(QD g b f a).bind λk=>
some (k,0)
def Gv(a:UInt64):Option Int:=
if(geq a 0)then
some 64
else
(Ah ([(0:UInt8),(1:UInt8),(56:UInt8),(2:UInt8),(57:UInt8),(49:UInt8),(28:UInt8),(3:UInt8),(61:UInt8),(58:UInt8),(42:UInt8),(50:UInt8),(38:UInt8),(29:UInt8),(17:UInt8),(4:UInt8),(62:UInt8),(47:UInt8),(59:UInt8),(36:UInt8),(45:UInt8),(43:UInt8),(51:UInt8),(22:UInt8),(53:UInt8),(39:UInt8),(33:UInt8),(30:UInt8),(24:UInt8),(18:UInt8),(12:UInt8),(5:UInt8),(63:UInt8),(55:UInt8),(48:UInt8),(27:UInt8),(60:UInt8),(41:UInt8),(37:UInt8),(16:UInt8),(46:UInt8),(35:UInt8),(44:UInt8),(21:UInt8),(52:UInt8),(32:UInt8),(23:UInt8),(11:UInt8),(54:UInt8),(26:UInt8),(40:UInt8),(15:UInt8),(34:UInt8),(20:UInt8),(31:UInt8),(10:UInt8),(25:UInt8),(14:UInt8),(19:UInt8),(9:UInt8),(13:UInt8),(8:UInt8),(7:UInt8),(6:UInt8)]:LB) (GI.toZ (Bp (Di (Cp a (cJ a)) 285870213051353865) (GI.toZ (58:UInt64)).toNat))).bind λb=>
some (Am b:Int)
abbrev Ct:=Option (Int×Int×Int)
def OD:Ct:=
some (0,0,24)
def Yc:=OD
def DB(j10:Ct):Ct:=
j10
def BT:=DB Yc
def CA(j9:Ct)(f a:Int):Ct:=
if(geq f 48)then
some (f,(Aa 0 (Aa a f)),0)
else
j9
def CO:=CA BT
def CJ(j8:Int->Int->Ct)(f b a:Int):Ct:=
if(Cq f (De 48 (Af b a)))then
some (f,(Aa (Aa (0:Int) (1:Int)) (Aa a f)),0)
else
j8 f a
def CY:=CJ CO
def CR(j7:Int->Int->Int->Ct)(h:Int)(k:UInt64)(a:Int)(g:LB)(b:Int):Ct:=
if(Bl h 0)then
some (0,0,h)
else
(Gv (fQ k)).bind λf=>
j7 f b a
def BY:=CR CY
def Qy(j6:Int->UInt64->Int->LB->Int->Ct)(g:LB)(b a:Int):Ct:=
(Ei g b).bind λm=>
if(Bl m 0)then
some (0,0,m)
else
if(Cq a 0)then
some (0,0,2)
else
if(Hc a b)then
some (0,0,24)
else
(
(
(Oe g b a (De 48 (Af b a))).bind λ(k,h)=>
j6 h k a g b))
def PC:=Qy BY
abbrev Ze:=Option (UInt32×Int×Int)
def TS(a b f:Int)(g:LB)(h k:Int):Ze:=
(Oe g h b k).bind λ(m,n)=>
if(Bl n 0)then
some (0,0,n)
else
if(Cq f 48)then
(Dy (Hc a 0)).bind λ_=>
some ((fJ (Ey (Am f:UInt32) (GI.toZ a).toNat) (Am m:UInt32)),(Aa b k),0)
else
(Tz (Am m:UInt32) a).bind λu=>
if(!u)then
some (0,0,12)
else
some ((Am m:UInt32),(Aa b k),0)
def HI:=TS
def GP(j2:Int->Int->Int->LB->Int->Int->Ze)(g:LB)(h v a:Int):Ze:=
(Ei g h).bind λo=>
if(Bl o 0)then
some (0,0,o)
else
if((Cq a 0)||(Fm a 24))then
some (0,0,2)
else
(PC g h v).bind λ(f,b,p)=>
if(Bl p 0)then
some (0,0,p)
else
if(geq f 48)then
j2 a b f g h 32
else
j2 a b f g h a
def SM:=GP HI
abbrev Dr:=Option (UInt32×Int×Int×Int×UInt64×UInt64×Int)
def RG(f:UInt32)(k w m:Int)(a n:UInt64):Dr:=
some (f,k,w,m,(Aa a (Af (Am f:UInt64) (Bp a (GI.toZ (4:UInt64)).toNat))),n,0)
def CD:=RG
def HD(j10:UInt32->Int->Int->Int->UInt64->UInt64->Dr)(f:UInt32)(k m:Int)(a n:UInt64)(w:Int):Dr:=
j10 f k w m a n
def FA:=HD CD
def HO(j9:UInt32->Int->Int->UInt64->UInt64->Int->Dr)(f:UInt32)(k b:Int)(a:UInt64)(m:Int)(n:UInt64):Dr:=
if(Fm b 0)then
(Dy (Hc b 0)).bind λ_=>
if(Cq (Aa a (Af (Am f:UInt64) (Bp a (GI.toZ (4:UInt64)).toNat))) (Ey (16:UInt64) (GI.toZ b).toNat))then
j9 f k m a n (Af b 1)
else
if(Cq b 24)then
(Dy (Hc b 0)).bind λ_=>
if(Fm (Aa a (Af (Am f:UInt64) (Bp a (GI.toZ (4:UInt64)).toNat))) (Ey (32:UInt64) (GI.toZ b).toNat))then
j9 f k m a n (Aa b 1)
else
j9 f k m a n b
else
j9 f k m a n b
else
if(Cq b 24)then
(Dy (Hc b 0)).bind λ_=>
if(Fm (Aa a (Af (Am f:UInt64) (Bp a (GI.toZ (4:UInt64)).toNat))) (Ey (32:UInt64) (GI.toZ b).toNat))then
j9 f k m a n (Aa b 1)
else
j9 f k m a n b
else
j9 f k m a n b
def HG:=HO FA
def FN(j8:UInt32->Int->Int->UInt64->Int->UInt64->Dr)(b h:Int)(a g:UInt64)(f:UInt32)(k:Int):Dr:=
(Ts b h a g f).bind λ(ad,o)=>
if(geq ad 1)then
if(Fm h 0)then
(Dy (Hc h 0)).bind λ_=>
if(Cq (Aa g (Af (Am o:UInt64) (Bp g (GI.toZ (4:UInt64)).toNat))) (Ey (16:UInt64) (GI.toZ h).toNat))then
j8 f k b a (Af h 1) (Aa g (Af (Am o:UInt64) (Bp g (GI.toZ (4:UInt64)).toNat)))
else
if(Cq h 24)then
(Dy (Hc h 0)).bind λ_=>
if(Fm (Aa g (Af (Am o:UInt64) (Bp g (GI.toZ (4:UInt64)).toNat))) (Ey (32:UInt64) (GI.toZ h).toNat))then
j8 f k b a (Aa h 1) (Aa g (Af (Am o:UInt64) (Bp g (GI.toZ (4:UInt64)).toNat)))
else
j8 f k b a h (Aa g (Af (Am o:UInt64) (Bp g (GI.toZ (4:UInt64)).toNat)))
else
j8 f k b a h (Aa g (Af (Am o:UInt64) (Bp g (GI.toZ (4:UInt64)).toNat)))
else
if(Cq h 24)then
(Dy (Hc h 0)).bind λ_=>
if(Fm (Aa g (Af (Am o:UInt64) (Bp g (GI.toZ (4:UInt64)).toNat))) (Ey (32:UInt64) (GI.toZ h).toNat))then
j8 f k b a (Aa h 1) (Aa g (Af (Am o:UInt64) (Bp g (GI.toZ (4:UInt64)).toNat)))
else
j8 f k b a h (Aa g (Af (Am o:UInt64) (Bp g (GI.toZ (4:UInt64)).toNat)))
else
j8 f k b a h (Aa g (Af (Am o:UInt64) (Bp g (GI.toZ (4:UInt64)).toNat)))
else
j8 f k b a h g
def FQ:=FN HG
def GA(j7:Int->Int->UInt64->UInt64->UInt32->Int->Dr)(p:Int)(u:LB)(v b h:Int)(a g:UInt64):Dr:=
(Oe u v p 1).bind λ(ae,aa)=>
if(Bl aa 0)then
some (0,0,0,0,0,0,aa)
else
if(geq ae 0)then
(Oe u v (Aa p 1) b).bind λ(af,ab)=>
if(Bl ab 0)then
some (0,0,0,0,0,0,ab)
else
j7 b h a g (Am af:UInt32) (Aa (Aa p 1) b)
else
(SM u v (Aa p 1) h).bind λ(y,ag,ac)=>
if(Bl ac 0)then
some (0,0,0,0,0,0,ac)
else
(Dy (Hc b 0)).bind λ_=>
if(Cq (Aa y (Ey (1:UInt32) (GI.toZ b).toNat)) y)then
some (0,0,0,0,0,0,12)
else
j7 b h a g (Aa y (Ey (1:UInt32) (GI.toZ b).toNat)) ag
def HR:=GA FQ
def HV(j6:Int->LB->Int->Int->Int->UInt64->UInt64->Dr)(u:LB)(v p b h:Int)(a g:UInt64):Dr:=
(Ei u v).bind λah=>
if(Bl ah 0)then
some (0,0,0,0,0,0,8)
else
(EH b h a g).bind λai=>
if(Bl ai 0)then
some (0,0,0,0,0,0,8)
else
j6 p u v b h a g
def Rt:=HV HR
abbrev Au:=Option (LU×Int×Int)
def DX(k:Int)(m:LU):Au:=
some (m,k,0)
def Oi:=DX
def EF(Fp:Int->Int-> (List (Int×Int×UInt64×UInt64×Unit))->LU->Au)(a f:Int)(g:LB)(b k v:Int)(w:UInt32)(h:Int)(ag:List (Int×Int×UInt64×UInt64×Unit))(m:LU):Au:=
(Dp m ([w]:LU)).bind λak=>
Fp (Aa k v) (Aa h 1) ag ak
def Nc Fp:=EF Fp
def Nu(j22:Int->Int->UInt32->Int-> (List (Int×Int×UInt64×UInt64×Unit))->LU->Au)(a f:Int)(g:LB)(b k h y:Int)(w:UInt32)(v:Int)(n:List (Int×Int×UInt64×UInt64×Unit))(m:LU)(aa ab:Int)(ac ad:UInt64):Au:=
if(Bl y 0)then
some (([]:LU),0,y)
else
(Dy (Bl a 0)).bind λ_=>
(Ah n (Fv h a)).bind λ_=>
(Fa n (Fv h a) (aa,ab,ac,ad,())).bind λag=>
j22 k v w h ag m
def Nw Fp a f g b:=Nu (Nc Fp a f g b) a f g b
def It(j21:Int->Int->Int->UInt32->Int-> (List (Int×Int×UInt64×UInt64×Unit))->LU->Int->Int->UInt64->UInt64->Au)(j24:Int->LU->Au)(a f:Int)(g:LB)(b k h:Int)(n:List (Int×Int×UInt64×UInt64×Unit))(m:LU):Au:=
if(Cq h (Di f a))then
(OY g b k (De (Aa k 81) b)).bind λ(ah,ae,af)=>
if(Bl af 0)then
some (([]:LU),0,af)
else
(Dy (Bl a 0)).bind λ_=>
(Ah n (Fv h a)).bind λ_=>
(
(
(Ah n (Fv h a)).bind λp=>
(
(Rt ah ae 0 p.1 p.2.1 p.2.2.1 p.2.2.2.1).bind λ(w,v,aa,ab,ac,ad,y)=>
j21 k h y w v n m aa ab ac ad)))
else
j24 k m
def Im(a f:Int)(g:LB)(b:Int):Nat->Int->Int-> (List (Int×Int×UInt64×UInt64×Unit))->LU->Au
|0,_,_,_,_=>none
|q+1,k,h,n,m=>It (Nw (Im a f g b q) a f g b) Oi a f g b k h n m
def Oy a f g b:=Im a f g b Cx
def Mx(j16:Int->Int->LB->Int->Int->Int-> (List (Int×Int×UInt64×UInt64×Unit))->LU->Au)(a f:Int)(g:LB)(b:Int)(o:List (Int×Int×UInt64×UInt64×Unit)):Au:=
j16 a f g b 0 0 o ([]:LU)
def Mu:=Mx Oy
def Nf(j15:Int->Int->LB->Int-> (List (Int×Int×UInt64×UInt64×Unit))->Au)(gY:Int-> (List (Int×Int×UInt64×UInt64×Unit))->Au)(a f:Int)(g:LB)(b u:Int)(o:List (Int×Int×UInt64×UInt64×Unit)):Au:=
if(Cq u 6)then
(EV).bind λ(al,ae,af,am)=>
(Ah o u).bind λ_=>
(Fa o u (al,ae,af,am,())).bind λan=>
gY (Aa u 1) an
else
j15 a f g b o
def Io(a f:Int)(g:LB)(b:Int):Nat->Int-> (List (Int×Int×UInt64×UInt64×Unit))->Au
|0,_,_=>none
|q+1,u,o=>Nf Mu (Io a f g b q) a f g b u o
def Pb a f g b:=Io a f g b Cx
def Py(j13:Int->Int->LB->Int->Int-> (List (Int×Int×UInt64×UInt64×Unit))->Au)(a f:Int)(g:LB)(b:Int):Au:=
j13 a f g b 0 (List.replicate 6 ((0:Int),(0:Int),(0:UInt64),(0:UInt64),()))
def Yi:=Py Pb
def Kj(a:UInt32):Option Int32:=
some (Sf (Am (Bp a (GI.toZ (1:UInt64)).toNat):Int32) (cJ (Am (Cp a 1):Int32)))
def QO(b:Int)(f g:LX)(a:Int32):Option (Int32×Int×LX×LX×Int):=
(DV b f g).bind λ(h,k)=>
if(Bl k 0)then
some (0,0,(List.replicate 16 (0:Int32)),(List.replicate 16 (0:Int32)),k)
else
(DL b f g (Aa a h) a).bind λ(m,n,o)=>
some ((Aa a h),m,n,o,0)
def Es(a:Int)(b:Int32)(f:Int)(g h:LX)(o:Int32):Option (Int32×Int×Int32×Int×LX×LX×Int):=
(Lb a b f g h).bind λk=>
if(Bl k 0)then
some (0,0,0,0,(List.replicate 16 (0:Int32)),(List.replicate 16 (0:Int32)),k)
else
(Ld a b).bind λ(m,y)=>
(QO f g h o).bind λ(n,p,u,v,w)=>
(
some ((Aa n m),a,(Aa n m),p,u,v,w))
abbrev Ch:=Option (LX×Int)
def TL(f:LX):Ch:=
some (f,0)
def FO:=TL
def TX(Rh:Int->LX->Ch)(b a:Int)(h:LX):Ch:=
Rh (Aa a b) h
def GM Rh:=TX Rh
def FH(j20:Int->LX->Ch)(rU:Int->LX->Ch)(b a g:Int)(h:LX):Ch:=
if(Hc g 0)then
(Dy (decide (0<= (Aa g 1)/\ (Aa g 1)<((Aa a b)-a)))).bind λ_=>
(Dy (decide (0<=g/\g<((Aa a b)-a)))).bind λ_=>
(Ah h (a+(Aa g 1))).bind λo=>
(Ah h (a+g)).bind λp=>
(Dy (decide (0<=g/\g<((Aa a b)-a)))).bind λ_=>
(Fa h (a+g) (Af o p)).bind λu=>
rU (Af g 1) u
else
j20 a h
def Tu(Rh:Int->LX->Ch)(b a:Int):Nat->Int->LX->Ch
|0,_,_=>none
|q+1,g,h=>FH (GM Rh b) (Tu Rh b a q) b a g h
def FL Rh b a:=Tu Rh b a Cx
def EX(j18:Int->Int->LX->Ch)(b a:Int)(k:LX):Ch:=
j18 a (Af (Af ((Aa a b)-a) 1) 1) k
def HA Rh b:=EX (FL Rh b) b
def FI(j17:Int->LX->Ch)(j22:LX->Ch)(b a:Int)(f:LX):Ch:=
if(Cq a (Ac f))then
(RD (Ac f) a (Aa a b)).bind λ_=>
if(Fm (Af ((Aa a b)-a) 1) 0)then
(Dy (decide (0<= (Af ((Aa a b)-a) 1)/\ (Af ((Aa a b)-a) 1)<((Aa a b)-a)))).bind λ_=>
Option.bind (Dy (decide (0<= (Af (Af ((Aa a b)-a) 1) 1)/\ (Af (Af ((Aa a b)-a) 1) 1)<((Aa a b)-a)))) λ_=>
(Ah f (a+(Af ((Aa a b)-a) 1))).bind λv=>
(Ah f (a+(Af (Af ((Aa a b)-a) 1) 1))).bind λw=>
(Dy (decide (0<= (Af ((Aa a b)-a) 1)/\ (Af ((Aa a b)-a) 1)<((Aa a b)-a)))).bind λ_=>
(Fa f (a+(Af ((Aa a b)-a) 1)) (Aa v (Jp w 2))).bind λy=>
j17 a y
else
j17 a f
else
j22 f
def Tq(b:Int):Nat->Int->LX->Ch
|0,_,_=>none
|q+1,a,f=>FI (HA (Tq b q) b) FO b a f
def GU b:=Tq b Cx
def LC(j12:Int->Int->LX->Ch)(b:Int)(m:LX):Ch:=
(JA b m).bind λn=>
if(Bl n 0)then
some (([]:LX),n)
else
(Cj m).bind λaa=>
j12 b 0 aa
def VY:=LC GU
abbrev Az:=Option (LX×Int)
def AZ(a b:Int)(k:LX):Az:=
(VY a k).bind λ(ah,af)=>
if(Bl af 0)then
some (([]:LX),af)
else
(Lc b ah).bind λae=>
if(Bl ae 0)then
some (([]:LX),ae)
else
some (ah,0)
def Mb:=AZ
def BD(gY:Int-> (List (Int×Int32×(Int×LX×LX×Unit)×Unit))->LX->Az)(a:Int)(f:LU)(b g:Int)(w:Int32)(u:Int)(h:List (Int×Int32×(Int×LX×LX×Unit)×Unit))(k:LX)(y:Int)(v:Int32)(aa:Int)(ab ac:LX):Az:=
if(Bl u 0)then
some (([]:LX),u)
else
(Fa h (Fv g a) (y,v,(aa,ab,ac,()),())).bind λai=>
(Dp k ([w]:LX)).bind λaj=>
gY (Aa g 1) ai aj
def Mc gY:=BD gY
def Hi(j16:Int->Int32->Int-> (List (Int×Int32×(Int×LX×LX×Unit)×Unit))->LX->Int->Int32->Int->LX->LX->Az)(j18:Int->Int->LX->Az)(f:LU)(a b g:Int)(h:List (Int×Int32×(Int×LX×LX×Unit)×Unit))(k:LX):Az:=
if(Cq g (Ac f))then
(Ah f g).bind λag=>
(Dy (Bl a 0)).bind λ_=>
(Ah h (Fv g a)).bind λ_=>
(
(Ah h (Fv g a)).bind λm=>
(
(Kj ag).bind λae=>
(
(Es m.1 m.2.1 m.2.2.1.1 m.2.2.1.2.1 m.2.2.1.2.2.1 ae).bind λ(w,y,v,aa,ab,ac,u)=>
j16 g w u h k y v aa ab ac)))
else
j18 a b k
def Hk(f:LU)(a b:Int):Nat->Int-> (List (Int×Int32×(Int×LX×LX×Unit)×Unit))->LX->Az
|0,_,_,_=>none
|q+1,g,h,k=>Hi (Mc (Hk f a b q) a f b) Mb f a b g h k
def Mh f a b:=Hk f a b Cx
def Me(j13:LU->Int->Int->Int-> (List (Int×Int32×(Int×LX×LX×Unit)×Unit))->LX->Az)(f:LU)(a b:Int)(n:List (Int×Int32×(Int×LX×LX×Unit)×Unit)):Az:=
j13 f a b 0 n ([]:LX)
def Mg:=Me Mh
def Mf(j12:LU->Int->Int-> (List (Int×Int32×(Int×LX×LX×Unit)×Unit))->Az)(nK:Int-> (List (Int×Int32×(Int×LX×LX×Unit)×Unit))->Az)(f:LU)(a b:Int)(o:LX)(p:Int)(n:List (Int×Int32×(Int×LX×LX×Unit)×Unit)):Az:=
if(Cq p 6)then
(JG b o).bind λ(ak,af,ae,al,am,v)=>
(Ah n p).bind λ_=>
(Fa n p (ak,af,(ae,al,am,()),())).bind λan=>
nK (Aa p 1) an
else
j12 f a b n
def Hm(f:LU)(a b:Int)(o:LX):Nat->Int-> (List (Int×Int32×(Int×LX×LX×Unit)×Unit))->Az
|0,_,_=>none
|q+1,p,n=>Mf Mg (Hm f a b o q) f a b o p n
def Md f a b o:=Hm f a b o Cx
def Ou(j10:LU->Int->Int->LX->Int-> (List (Int×Int32×(Int×LX×LX×Unit)×Unit))->Az)(a b:Int)(o:LX)(f:LU):Az:=
j10 f a b o 0 (List.replicate 6 ((0:Int),(0:Int32),((0:Int),(List.replicate 16 (0:Int32)),(List.replicate 16 (0:Int32)),()),()))
def Vi:=Ou Md
def Ms(a h:Int)(u:LX)(f:Int)(v:LB):Option (LX×Int):=
(Ku a h).bind λk=>
if(Bl k 0)then
some (([]:LX),k)
else
if(Cq f 1)then
some (([]:LX),2)
else
(Dy (Bl a 0)).bind λ_=>
if(Fm f (Jp 4000 a))then
some (([]:LX),2)
else
(Yn v).bind λ(w,m)=>
if(Bl m 0)then
some (([]:LX),m)
else
(bK w).bind λ(n,b,o)=>
if(Bl o 0)then
some (([]:LX),o)
else
(Yi a f n b).bind λ(y,g,p)=>
if(Bl p 0)then
some (([]:LX),p)
else
if(Hc (Af b g) 8)then
some (([]:LX),12)
else
(Oe n b g (Af b g)).bind λ(aa,ab)=>
if((Bl ab 0)||(Bl aa 0))then
some (([]:LX),12)
else
(Vi a h u y).bind λ(ac,ad)=>
some (ac,ad)
abbrev Bg:=Option (LB×Int)
def LV(g:LB):Bg:=
some (g,0)
def Wj:=LV
def LZ(Fp:Int->LB->Bg)(b:Int)(a:LX)(f:Int)(h:LB):Bg:=
Fp (Aa f 1) h
def Vo Fp:=LZ Fp
def Uy(j28:Int->LB->Bg)(rV:Int->LB->Bg)(b:Int)(a:LX)(k:Int32)(f m:Int)(h:LB):Bg:=
if(Cq m (Jp b 8))then
(Dy (Hc (Di 8 m) 0)).bind λ_=>
(Dp h ([(Am (Bp k (GI.toZ (Di 8 m)).toNat):UInt8)]:LB)).bind λp=>
rV (Aa m 1) p
else
j28 f h
def Ly(Fp:Int->LB->Bg)(b:Int)(a:LX)(k:Int32)(f:Int):Nat->Int->LB->Bg
|0,_,_=>none
|q+1,m,h=>Uy (Vo Fp b a) (Ly Fp b a k f q) b a k f m h
def Wl Fp b a k f:=Ly Fp b a k f Cx
def Uf(j26:Int32->Int->Int->LB->Bg)(b:Int)(a:LX)(f:Int)(g:LB)(k:Int32):Bg:=
j26 k f 0 g
def Wn Fp b a:=Uf (Wl Fp b a) b a
def Vw(j25:Int->LB->Int32->Bg)(j30:LB->Bg)(b:Int)(a:LX)(f:Int)(g:LB):Bg:=
if(Cq f (Ac a))then
(Ah a f).bind λn=>
if(geq b 8)then
j25 f g (Aa n 128)
else
j25 f g n
else
j30 g
def Lz(b:Int)(a:LX):Nat->Int->LB->Bg
|0,_,_=>none
|q+1,f,g=>Vw (Wn (Lz b a q) b a) Wj b a f g
def Vq b a:=Lz b a Cx
def Za(j16:Int->LX->Int->LB->Bg)(b:Int)(a:LX):Bg:=
(Lc b a).bind λo=>
if(Bl o 0)then
some (([]:LB),o)
else
j16 b a 0 ([]:LB)
def Zv:=Za Vq
abbrev Bq:=Option (LB×Int)
def Uo(a ac:Int):Bq:=
if(Bl ac 0)then
some (([]:LB),ac)
else
if((Cq a 0)||(Hc a 0))then
some (([]:LB),2)
else
none
def Lt:=Uo
def IB(ad:Int)(ae:LB):Bq:=
some (ae,ad)
def Kb:=IB
def Wa(j10:Int->LB->Bq)(w a h b:Int)(aa:LX)(n o p k:Int)(m:LB)(u:LX)(v f g:LI):Bq:=
if(Bl w 0)then
j10 w ([]:LB)
else
(Zv b aa).bind λ(ak,al)=>
j10 al ak
def Uq:=Wa Kb
def Vy(j10:Int->LB->Bq)(j9:Int->Int->Int->Int->LX->Int->Int->Int->Int->LB->LX->LI->LI->LI->Bq)(a k ab y:Int)(m:LB)(h b:Int)(u:LX)(n o p:Int)(g v f:LI):Bq:=
if(Fm (Aa k y) (Ac m))then
j10 24 ([]:LB)
else
(Ah g a).bind λ_=>
(Dd m (Aa k ab) (Aa k y)).bind λam=>
(Ah g a).bind λan=>
(Ms h b u an am).bind λ(aa,w)=>
j9 w a h b aa n o p k m u v f g
def Vu:=Vy Kb Uq
def Us(j8:Int->Int->Int->Int->LB->Int->Int->LX->Int->Int->Int->LI->LI->LI->Bq)(a:Int)(g:LI)(n h b o p k:Int)(m:LB)(u:LX)(v f:LI):Bq:=
if(Bl (0:Int) (0:Int))then
some (([]:LB),0)
else
if((Cq a 0)||(Hc a (Ac g)))then
some (([]:LB),2)
else
(Ah f a).bind λ_=>
(Ah f (Aa a 1)).bind λ_=>
(Ah f a).bind λab=>
(Ah f (Aa a 1)).bind λy=>
j8 a k ab y m h b u n o p g v f
def Um:=Us Vu
def Lp(j6:Int->Int->Bq)(j7:Int->LI->Int->Int->Int->Int->Int->Int->LB->LX->LI->LI->Bq)(m af:LB)(a:Int):Bq:=
(Ci m af).bind λ(n,h,b,o,p,k,v,ag)=>
if(Bl ag 0)then
j6 a ag
else
(Kq n h b o p).bind λ(g,ah)=>
if(Bl ah 0)then
j6 a ah
else
(Rf v).bind λ(f,ai)=>
if(Bl ai 0)then
j6 a ai
else
(Mp af).bind λ(u,aj)=>
if(Bl aj 0)then
j6 a aj
else
(Ah f (Ac g)).bind λ_=>
(Ah f (Ac g)).bind λao=>
j7 a g n h b o p k m u v f
def Bw:=Lp Lt Um
abbrev EN:=Option (Int×Int)
def WW(a:LB):EN:=
(Dd a (Af (Ac a) 32) (Ac a)).bind λg=>
(AR g 0).bind λ(f,y,h)=>
if h then
if(Cq (Af (Ac a) 32) f)then
some (0,24)
else
some ((Aa f 32),0)
else
(Dd a (Af (Ac a) 32) (Ac a)).bind λk=>
(AR k 2147483648).bind λ(b,m,n)=>
if(!n)then
some (0,12)
else
if(Cq (Ac a) (Aa b 64))then
some (0,24)
else
(Dd a (Af (Ac a) (Aa b 64)) (Aa (Af (Ac a) (Aa b 64)) 32)).bind λo=>
(MH b m 2684354560).bind λp=>
(Gq o p).bind λu=>
if(!u)then
some (0,12)
else
some ((Aa b 64),0)
def JH:=WW
def KK(j2:LB->EN)(a:LB):EN:=
if(Cq (Af (Ac a) 32) 0)then
some (0,6)
else
(Dd a (Af (Ac a) 32) (Ac a)).bind λv=>
(Fo v ([(65:UInt8),(80:UInt8),(69:UInt8),(84:UInt8),(65:UInt8),(71:UInt8),(69:UInt8),(88:UInt8)]:LB)).bind λw=>
if(!w)then
some (0,6)
else
j2 a
def VT:=KK JH
abbrev Cc:=Option (Int×Int)
def IY(a:Int):Cc:=
some (a,0)
def Sk:=IY
def JC(bX:Int->LB->Cc)(a:Int)(g:LB):Cc:=
bX (Aa a 1) g
def Sp bX:=JC bX
def Sj(j12:Int->LB->Cc)(a f:Int)(b:LB):Cc:=
if(geq f 0)then
some (0,38)
else
(Dd b 0 (Af (Ac b) f)).bind λg=>
j12 a g
def Ru bX:=Sj (Sp bX)
def Wc(j11:Int->Int->LB->Cc)(j14:Int->Cc)(a:Int)(b:LB):Cc:=
if(Fm (Ac b) 0)then
(VT b).bind λ(f,k)=>
j11 a f b
else
j14 a
def Lk:Nat->Int->LB->Cc
|0,_,_=>none
|q+1,a,b=>Wc (Ru (Lk q)) Sk a b
def Vp:=Lk Cx
def Vv(j8:Int->LB->Cc)(h:LB):Cc:=
if(Fm (Ac h) 4000)then
some (0,38)
else
j8 0 h
def Th:=Vv Vp
abbrev Ap:=Option (LB×Int)
def LJ(a:LB):Ap:=
(Dd a 0 (Ac a)).bind λap=>
(Th ap).bind λ(ay,aj)=>
if(Bl aj 0)then
some (([]:LB),38)
else
some (([]:LB),0)
def Vm:=LJ
def Uh(j21:LB->Ap)(a:LB)(aa:Int):Ap:=
if(Cq aa 0)then
none
else
j21 a
def Ul(a:LB)(aa:Int):Nat->Ap
|0=>none
|q+1=>Uh Vm a aa
def We a aa:=Ul a aa Cx
def Ma(j19:LB->Int->Ap)(a:LB)(aa ag:Int):Ap:=
if(Bl ag 0)then
some (([]:LB),ag)
else
if((Cq aa 0)||(Hc aa 0))then
some (([]:LB),2)
else
j19 a aa
def Lu:=Ma We
def LK(a:LB)(b m:Int)(y:LB):Ap:=
(Dd a (Aa b m) (Ac a)).bind λaq=>
(Th aq).bind λ(aj,ar)=>
if(Bl ar 0)then
some (([]:LB),38)
else
some (y,0)
def Wm:=LK
def LO(BH:Int->LB->Ap)(a:LB)(f:LI)(b m n h g o p:Int)(u:LX)(v k:LI)(w:Int)(ad:LB):Ap:=
BH (Aa w 1) ad
def Un BH:=LO BH
def Ui(j30:Int->LB->Ap)(a:LB)(f:LI)(b m n h g o p:Int)(u:LX)(v k:LI)(w:Int)(y:LB)(ah:Int)(ai:LB):Ap:=
if(Bl ah 0)then
some (([]:LB),ah)
else
(Dp y ai).bind λad=>
j30 w ad
def Lr BH a f b m n h g o p u v k:=Ui (Un BH a f b m n h g o p u v k) a f b m n h g o p u v k
def Ur(j29:Int->LB->Int->LB->Ap)(a:LB)(f:LI)(b m h g n o p:Int)(u:LX)(v k:LI)(ab w:Int)(ae:LX)(y:LB):Ap:=
if(Bl ab 0)then
j29 w y ab ([]:LB)
else
(Zv g ae).bind λ(au,av)=>
j29 w y av au
def Ut BH a f b m h g n o p u v k:=Ur (Lr BH a f b m n h g o p u v k) a f b m h g n o p u v k
def Vf(j29:Int->LB->Int->LB->Ap)(j28:Int->Int->LX->LB->Ap)(b:Int)(a:LB)(f:LI)(m h g:Int)(u:LX)(n o p:Int)(v k:LI)(w af ac:Int)(y:LB):Ap:=
if(Fm (Aa b ac) (Ac a))then
j29 w y 24 ([]:LB)
else
(Ah f w).bind λ_=>
(Dd a (Aa b af) (Aa b ac)).bind λaw=>
(Ah f w).bind λax=>
(Ms h g u ax aw).bind λ(ae,ab)=>
j28 ab w ae y
def Vg BH b a f m h g u n o p v k:=Vf (Lr BH a f b m n h g o p u v k) (Ut BH a f b m h g n o p u v k) b a f m h g u n o p v k
def Ux(j27:Int->Int->Int->LB->Ap)(j32:LB->Int->Int->LB->Ap)(a:LB)(f:LI)(b m n h g o p:Int)(u:LX)(v k:LI)(w:Int)(y:LB):Ap:=
if(Cq w (Ac f))then
(Ah k w).bind λ_=>
(Ah k (Aa w 1)).bind λ_=>
(Ah k w).bind λaf=>
(Ah k (Aa w 1)).bind λac=>
j27 w af ac y
else
j32 a b m y
def Ln(a:LB)(f:LI)(b m n h g o p:Int)(u:LX)(v k:LI):Nat->Int->LB->Ap
|0,_,_=>none
|q+1,w,y=>Ux (Vg (Ln a f b m n h g o p u v k q) b a f m h g u n o p v k) Wm a f b m n h g o p u v k w y
def Ug a f b m n h g o p u v k:=Ln a f b m n h g o p u v k Cx
def Wh(j22:LB->LI->Int->Int->Int->Int->Int->Int->Int->LX->LI->LI->Int->LB->Ap)(a:LB)(aa:Int)(f:LI)(b m n h g o p:Int)(u:LX)(v k:LI):Ap:=
if(Bl (0:Int) (0:Int))then
some (([]:LB),0)
else
if((Cq aa 0)||(Hc aa (Ac f)))then
some (([]:LB),2)
else
j22 a f b m n h g o p u v k aa ([]:LB)
def Vx:=Wh Ug
def Nj(j17:LB->Int->Int->Ap)(j18:LB->Int->LI->Int->Int->Int->Int->Int->Int->Int->LX->LI->LI->Ap)(a ak:LB)(aa:Int):Ap:=
(Ci a ak).bind λ(n,h,g,o,p,b,v,al)=>
if(Bl al 0)then
j17 a aa al
else
(Kq n h g o p).bind λ(f,am)=>
if(Bl am 0)then
j17 a aa am
else
(Rf v).bind λ(k,an)=>
if(Bl an 0)then
j17 a aa an
else
(Mp ak).bind λ(u,ao)=>
if(Bl ao 0)then
j17 a aa ao
else
(Ah k (Ac f)).bind λ_=>
(Ah k (Ac f)).bind λm=>
j18 a aa f b m n h g o p u v k
def Bk:=Nj Lu Vx
def Qu(f g a:Int):Option (Int×Int×Int):=
(Hw f g).bind λ(k,h)=>
if(Bl h 0)then
some (0,0,h)
else
if((Cq a 0)||(Hc a g))then
some (0,0,2)
else
(Mi f).bind λ(b,m)=>
(Dy (Bl b 0)).bind λ_=>
(Dy (Bl b 0)).bind λ_=>
some ((Jp a b),(Fv a b),0)
def Jc(f g:LB)(b:Int):Option (LB×Int):=
(Ci f g).bind λ(aa,o,p,u,h,ab,ac,k)=>
if(Bl k 0)then
some (([]:LB),k)
else
if((Cq b 0)||(Hc b h))then
some (([]:LB),2)
else
(Qu u h b).bind λ(v,w,m)=>
if(Bl m 0)then
some (([]:LB),m)
else
(Bk f g v).bind λ(a,n)=>
if(Bl n 0)then
some (([]:LB),n)
else
(Dy (decide ((Ac a)<= (Ac a)/\ (Ac a)<=Ac a))).bind λ_=>
(Dd a (Jp (Di (Di w o) p) 8) (Ac a)).bind λy=>
some (y,0)
def Ad(a b:LB)(f:Int):Option Bool:=
(Ci a b).bind λ(n,o,p,u,v,w,y,g)=>
(Bw a b (-1:Int)).bind λ(aa,h)=>
(Bk a b (-1:Int)).bind λ(ab,k)=>
(Jc a b (-1:Int)).bind λ(ac,m)=>
some ((((geq g f)&&(geq h f))&&(geq k f))&&(geq m f))
def Rc:Option Bool:=
some true
def If:=Rc
def Hs(j6:Option Bool)(BF:Int->Option Bool)(a b:LI)(f:Int):Option Bool:=
if(Cq f (Ac a))then
(Ah a f).bind λg=>
(Ah b f).bind λh=>
if(Bl g h)then
some false
else
BF (Aa f 1)
else
j6
def Ev(a b:LI):Nat->Int->Option Bool
|0,_=>none
|q+1,f=>Hs If (Ev a b q) a b f
def Hp a b:=Ev a b Cx
def Hz(j4:LI->LI->Int->Option Bool)(a b:LI):Option Bool:=
if(Bl (Ac a) (Ac b))then
some false
else
j4 a b 0
def Jq:=Hz Hp
def Wq(m b f:Int)(a:LB)(p u v w g n:Int)(h k:LB)(o:LI)(aa:LB)(ab:Int):Option Bool:=
(Ah a 45).bind λ_=>
(Ah a 45).bind λak=>
(Ah a 45).bind λ_=>
(Fa a 45 (Sf ak 1)).bind λac=>
(Bw ac ([]:LB) 0).bind λ(ad,ae)=>
(Bk ac ([]:LB) 0).bind λ(av,af)=>
if((geq m 0)&&(geq n 34))then
(Jq o ([(6:Int),(6:Int)]:LI)).bind λal=>
some ((((((((((al&&(geq g 2))&&(geq b 0))&&(h==([130]:LB)))&&(geq f 0))&&(k==([130]:LB)))&&(geq ab 0))&&(aa==([130]:LB)))&&(geq ae 0))&&(ad==([129]:LB)))&&(geq af 22))
else
some ((((((((((false&&(geq g 2))&&(geq b 0))&&(h==([130]:LB)))&&(geq f 0))&&(k==([130]:LB)))&&(geq ab 0))&&(aa==([130]:LB)))&&(geq ae 0))&&(ad==([129]:LB)))&&(geq af 22))
def Jv:=Wq
def Jt(j2:Int->Int->Int->LB->Int->Int->Int->Int->Int->Int->LB->LB->LI->LB->Int->Option Bool):Option Bool:=
(Fh).bind λ(a,am)=>
if(!am)then
some false
else
(Ci a ([]:LB)).bind λ(p,u,v,w,g,n,o,m)=>
(Bw a ([]:LB) 1).bind λ(h,b)=>
(Bk a ([]:LB) 1).bind λ(k,f)=>
(Ci a ([]:LB)).bind λ(aw,an,ao,ap,ag,ax,ay,ah)=>
if(Bl ah 0)then
j2 m b f a p u v w g n h k o ([]:LB) ah
else
if((Cq (1:Int) (0:Int))||(Hc 1 ag))then
j2 m b f a p u v w g n h k o ([]:LB) 2
else
(Qu ap ag 1).bind λ(aq,ar,ai)=>
if(Bl ai 0)then
j2 m b f a p u v w g n h k o ([]:LB) ai
else
(Bk a ([]:LB) aq).bind λ(y,aj)=>
if(Bl aj 0)then
j2 m b f a p u v w g n h k o ([]:LB) aj
else
(Dy (decide ((Ac y)<= (Ac y)/\ (Ac y)<=Ac y))).bind λ_=>
(Dd y (Jp (Di (Di ar an) ao) 8) (Ac y)).bind λau=>
j2 m b f a p u v w g n h k o au 0
def Ff:=Jt Jv
noncomputable def Fz(a b:LB)(k:Bool):Option Bool:=
(Dd a 0 34).bind λn=>
(FV (λx:LB×LB=>Ci x.1 x.2) (n,([]:LB))).bind λ(bs,bt,bu,bv,bw,bx,bz,o)=>
(Dd a 0 39).bind λp=>
(FV (λx:LB×LB×Int=>Bw x.1 x.2.1 x.2.2) (p,([]:LB),(0:Int))).bind λ(da,u)=>
(Dd a 0 34).bind λv=>
(FV (λx:LB×LB×Int=>Bw x.1 x.2.1 x.2.2) (v,([]:LB),(2:Int))).bind λ(db,w)=>
(Dd a 0 40).bind λy=>
(FV (λx:LB×LB×Int=>Bw x.1 x.2.1 x.2.2) (y,([]:LB),(0:Int))).bind λ(aa,ab)=>
(Dd a 0 40).bind λac=>
(FV (λx:LB×LB×Int=>Bk x.1 x.2.1 x.2.2) (ac,([]:LB),(0:Int))).bind λ(dc,ad)=>
(FV (λx:LB×LB×Int=>Bk x.1 x.2.1 x.2.2) (a,([]:LB),(2:Int))).bind λ(dd,ae)=>
(FV (λx:LB×LB×Int=>Jc x.1 x.2.1 x.2.2) (a,([]:LB),(2:Int))).bind λ(de,af)=>
(Dp ([]:LB) a).bind λag=>
(Dp ag ([(0:UInt8)]:LB)).bind λah=>
(FV (λx:LB×LB×Int=>Bk x.1 x.2.1 x.2.2) (ah,([]:LB),(1:Int))).bind λ(df,ai)=>
(FV (λx:LB×LB×Int=>Jc x.1 x.2.1 x.2.2) (b,([120]:LB),(0:Int))).bind λ(aj,ak)=>
(Dp ([(73:UInt8),(68:UInt8),(51:UInt8),(4:UInt8),(0:UInt8),(0:UInt8),(0:UInt8),(0:UInt8),(0:UInt8),(1:UInt8),(116:UInt8)]:LB) a).bind λal=>
(FV (λx:LB×LB×Int=>Bk x.1 x.2.1 x.2.2) (al,([]:LB),(0:Int))).bind λ(am,an)=>
(Dp ([]:LB) a).bind λf=>
(Ah f 34).bind λ_=>
(Ah f 34).bind λao=>
(Ah f 34).bind λ_=>
(Fa f 34 (Sf ao 1)).bind λm=>
(FV (λx:LB×LB×Int=>Bw x.1 x.2.1 x.2.2) (m,([]:LB),(0:Int))).bind λ(dg,ap)=>
(FV (λx:LB×LB×Int=>Bk x.1 x.2.1 x.2.2) (m,([]:LB),(1:Int))).bind λ(aq,ar)=>
if(((((((((((((((((true&&k)&&(geq o 0))&&(geq u 24))&&(geq w 2))&&(geq ab 0))&&(aa==([129]:LB)))&&(geq ad 24))&&(geq ae 2))&&(geq af 2))&&(geq ai 38))&&(geq ak 0))&&(aj==([129,130]:LB)))&&(geq an 0))&&(am==([129,130]:LB)))&&(geq ap 22))&&(geq ar 0))&&(aq==([130]:LB)))then
(FV (λ_:Unit=>Ff) ()).bind λau=>
some au
else
some false
noncomputable def Eb:=Fz
noncomputable def Ec(j2:LB->LB->Bool->Option Bool):Option Bool:=
(FV (λ_:Unit=>Fh) ()).bind λ(a,av)=>
(FV (λx:Int×Int×Int×LX×LB=>Qf x.1 x.2.1 x.2.2.1 x.2.2.2.1 x.2.2.2.2) ((1:Int),(8:Int),(1:Int),([(1:Int32),(2:Int32)]:LX),([120]:LB))).bind λ(b,aw)=>
if(((!av)||(Bl aw 0))||(Bl (Ac b) 54))then
some false
else
(Dp ([]:LB) a).bind λg=>
(Ah g 20).bind λ_=>
(Ah g 20).bind λax=>
(Ah g 20).bind λ_=>
(Fa g 20 (Sf ax 1)).bind λay=>
(Dp ([]:LB) a).bind λh=>
(Ah h 22).bind λ_=>
(Ah h 22).bind λaz=>
(Ah h 22).bind λ_=>
(Fa h 22 (Sf az 1)).bind λba=>
(ZO (65:Int) (0:UInt8)).bind λbb=>
(Dy (geq (65:Int) (65:Int))).bind λ_=>
(FV (λx:LB×LB×Int=>Ad x.1 x.2.1 x.2.2) (a,bb,(2:Int))).bind λbc=>
if bc then
(ZO (100001:Int) (0:UInt8)).bind λbd=>
(Dy (geq (100001:Int) (100001:Int))).bind λ_=>
(FV (λx:LB×LB×Int=>Ad x.1 x.2.1 x.2.2) (bd,([]:LB),(4:Int))).bind λbe=>
if be then
(FV (λx:LB×LB×Int=>Ad x.1 x.2.1 x.2.2) (([]:LB),([]:LB),(24:Int))).bind λbf=>
if bf then
(FV (λx:LB×LB×Int=>Ad x.1 x.2.1 x.2.2) (([(73:UInt8),(68:UInt8),(51:UInt8)]:LB),([]:LB),(24:Int))).bind λbg=>
if bg then
(FV (λx:LB×LB×Int=>Ad x.1 x.2.1 x.2.2) (([(84:UInt8),(84:UInt8),(65:UInt8),(50:UInt8)]:LB),([]:LB),(12:Int))).bind λbh=>
if bh then
(FV (λx:LB×LB×Int=>Ad x.1 x.2.1 x.2.2) (ay,([]:LB),(22:Int))).bind λbi=>
if bi then
(FV (λx:LB×LB×Int=>Ad x.1 x.2.1 x.2.2) (a,([120]:LB),(26:Int))).bind λbj=>
if bj then
(FV (λx:LB×LB×Int=>Ad x.1 x.2.1 x.2.2) (b,([]:LB),(26:Int))).bind λbk=>
if bk then
(Dd b 0 29).bind λbl=>
(FV (λx:LB×LB×Int=>Ad x.1 x.2.1 x.2.2) (bl,([120]:LB),(24:Int))).bind λbm=>
if bm then
(FV (λx:LB×LB×Int=>Ad x.1 x.2.1 x.2.2) (b,([121]:LB),(26:Int))).bind λbn=>
if bn then
(Dd a 0 33).bind λbp=>
(FV (λx:LB×LB×Int=>Ad x.1 x.2.1 x.2.2) (bp,([]:LB),(24:Int))).bind λbq=>
if bq then
(FV (λx:LB×LB×Int=>Ad x.1 x.2.1 x.2.2) (ba,([]:LB),(22:Int))).bind λbr=>
j2 a b br
else
j2 a b false
else
j2 a b false
else
j2 a b false
else
j2 a b false
else
j2 a b false
else
j2 a b false
else
j2 a b false
else
j2 a b false
else
j2 a b false
else
j2 a b false
else
j2 a b false
noncomputable def Dn:=Ec Eb
end Go.Pl
