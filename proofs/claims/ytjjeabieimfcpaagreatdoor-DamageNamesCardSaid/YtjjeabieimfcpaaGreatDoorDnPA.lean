/- A part of a proof (see the text that ends in Proof). No conditions. -/
import Derived.Test.YtjjeabieimfcpaaGreatDoorDnBA
set_option linter.unusedVariables false
namespace Go.Pl
open Go Go.Lv
abbrev LB:=List UInt8
abbrev LI:=List Int
abbrev LX:=List Int32
abbrev LU:=List UInt32
abbrev LQ:=List UInt64
def FI(a b f:Int)(g:LX):Option (Int×Int):=
some (a,b)
abbrev Rl:=Option (Int32×Int32×Int)
def PL(a:Int)(b:Bool):Rl:=
if b then
(Ee (Hm (Ae a 1) 0)).bind λ_=>
some ((eC (Fa (1:Int32) (GI.toZ (Ae a 1)).toNat)),(Ae (Fa (1:Int32) (GI.toZ (Ae a 1)).toNat) 1),0)
else
some (0,0,2)
def BM:=PL
def Zp(j2:Int->Bool->Rl)(a:Int):Rl:=
if(geq a 8)then
j2 a (geq a 8)
else
if(geq a 16)then
j2 a (geq a 16)
else
j2 a (geq a 24)
def BW:=Zp BM
def La(a b:Int):Option Int:=
(BW b).bind λ(g,h,f)=>
if(((Bi f 0)||(Cd a 1))||(Fg a 6))then
some 2
else
some 0
def Tm(a:Int):Option (Int×Int):=
if((Cd a 1)||(Fg a 1048576))then
some (0,2)
else
some ((TH 1 (Jm (Cq 256 a) 245)),0)
def Kx(g b:Int):Option (Int×Int):=
(Tm g).bind λ(a,f)=>
if(Bi f 0)then
some (0,f)
else
if((Cd b 1)||(Fg b 4000))then
some (0,2)
else
(Ee (Bi a 0)).bind λ_=>
if(Fg (Jm (Ae (Aa b a) 1) a) 1000)then
some (0,4)
else
some ((Jm (Ae (Aa b a) 1) a),0)
def TS(a g f:Int)(h:LX)(b:Int):Option Int:=
(FI a g f h).bind λ(k,m)=>
(La k m).bind λn=>
if((Bi n 0)||(Cd b 1))then
some 8
else
(Ee (Bi a 0)).bind λ_=>
if(Fg b (Jm 4000 a))then
some 8
else
(Kx f b).bind λ(p,o)=>
if(Bi o 0)then
some 8
else
some 0
def SG:Option Int:=
some 0
def AN:=SG
def Xo(j6:Option Int)(CF:Int->Option Int)(b f:Int32)(a:LX)(g:Int):Option Int:=
if(Cd g (Ac a))then
(Af a g).bind λh=>
if((Cd h b)||(Fg h f))then
some 16
else
CF (Aa g 1)
else
j6
def Nn(b f:Int32)(a:LX):Nat->Int->Option Int
|0,_=>none
|q+1,g=>Xo AN (Nn b f a q) b f a g
def Xp b f a:=Nn b f a Cn
def AI(j4:Int32->Int32->LX->Int->Option Int)(m:Int)(a:LX):Option Int:=
(BW m).bind λ(b,f,k)=>
if(Bi k 0)then
some k
else
if(Fg (Ac a) 4000)then
some 4
else
j4 b f a 0
def Lj:=AI Xp
def Kh(a f h:Int)(b:LX):Option Int:=
if(Cd a 1)then
some 8
else
(Ee (Bi a 0)).bind λ_=>
if(Bi (Fs (Ac b) a) 0)then
some 8
else
(Ee (Bi a 0)).bind λ_=>
(TS a f h b (Jm (Ac b) a)).bind λg=>
if(Bi g 0)then
some g
else
(Lj f b).bind λk=>
if(Bi k 0)then
some 8
else
some 0
abbrev Rp:=Option (Int×Int×Int×Int×Int×Int)
def QL(h:LB)(a b f:Int)(g:LX):Rp:=
if(h !=([]:LB))then
some (2,a,b,f,(Jm (Ac g) a),0)
else
some (1,a,b,f,(Jm (Ac g) a),0)
def Zj:=QL
def Na(j2:LB->Int->Int->Int->LX->Rp)(a b f:Int)(g:LX)(h:LB):Rp:=
(Kh a b f g).bind λk=>
if(Bi k 0)then
some (0,0,0,0,0,k)
else
if(Fg (Ac h) 64)then
some (0,0,0,0,0,2)
else
(Ee (Bi a 0)).bind λ_=>
(
j2 h a b f g)
def MV:=Na Zj
abbrev Ax:=Option (UInt64×Int)
def QR(h:UInt64):Ax:=
some (h,0)
def Zo:=QR
def Xr(j30:UInt64->Ax)(h b:UInt64)(a:LB)(f:LQ):Ax:=
j30 h
def AH:=Xr Zo
def Yv(j29:UInt64->UInt64->LB->LQ->Ax)(Us:UInt64->Int->Ax)(a:LB)(b:UInt64)(f:LQ)(h:UInt64)(m:Int):Ax:=
if(Cd m (Ac a))then
(Af a m).bind λp=>
Option.bind (Af f (GI.toZ (CZ (Al (Bn h (GI.toZ (56:UInt64)).toNat):UInt8) p))) λ_=>
Option.bind (Af f (GI.toZ (CZ (Al (Bn h (GI.toZ (56:UInt64)).toNat):UInt8) p))) λu=>
Us (CZ (Fa h (GI.toZ (8:UInt64)).toNat) u) (Aa m 1)
else
j29 h b a f
def Ns(a:LB)(b:UInt64)(f:LQ):Nat->UInt64->Int->Ax
|0,_,_=>none
|q+1,h,m=>Yv AH (Ns a b f q) a b f h m
def Yf a b f:=Ns a b f Cn
def Xn(j27:LB->UInt64->LQ->UInt64->Int->Ax)(b:UInt64)(a:LB)(f:LQ):Ax:=
j27 a b f b 0
def Zr:=Xn Yf
def OP(Fu:Int->LQ->Ax)(b:UInt64)(a:LB)(g:Int)(o:LQ):Ax:=
Fu (Aa g 1) o
def Yl Fu:=OP Fu
def Xw(j24:Int->LQ->Ax)(b:UInt64)(a:LB)(g:Int)(k:UInt64)(f:LQ):Ax:=
(Af f g).bind λ_=>
(Hb f g k).bind λo=>
j24 g o
def Yb Fu b a:=Xw (Yl Fu b a) b a
def Xg(j23:Int->UInt64->LQ->Ax)(bR:UInt64->Int->Ax)(b:UInt64)(a:LB)(g:Int)(f:LQ)(k:UInt64)(n:Int):Ax:=
if(Cd n 8)then
bR (CZ (Fa k (GI.toZ (1:UInt64)).toNat) (Cq 4823603603198064275 (Bn k (GI.toZ (63:UInt64)).toNat))) (Aa n 1)
else
j23 g k f
def Om(Fu:Int->LQ->Ax)(b:UInt64)(a:LB)(g:Int)(f:LQ):Nat->UInt64->Int->Ax
|0,_,_=>none
|q+1,k,n=>Xg (Yb Fu b a) (Om Fu b a g f q) b a g f k n
def BO Fu b a g f:=Om Fu b a g f Cn
def Ze(j21:Int->LQ->UInt64->Int->Ax)(j26:UInt64->LB->LQ->Ax)(b:UInt64)(a:LB)(g:Int)(f:LQ):Ax:=
if(Cd g 256)then
j21 g f (Fa (Al g:UInt64) (GI.toZ (56:UInt64)).toNat) 0
else
j26 b a f
def Pe(b:UInt64)(a:LB):Nat->Int->LQ->Ax
|0,_,_=>none
|q+1,g,f=>Ze (BO (Pe b a q) b a) Zr b a g f
def Zd b a:=Pe b a Cn
def EO(j16:UInt64->LB->Int->LQ->Ax)(b:UInt64)(a:LB):Ax:=
if(Fg (Ac a) 100000)then
some (0,4)
else
j16 b a 0 (List.replicate 256 (0:UInt64))
def RW:=EO Zd
def KH(a:LB):Option (UInt64×Int):=
(RW 0 a).bind λ(b,f)=>
some (b,f)
def bN(a:LX):Option (LX):=
some a
def PM:=bN
def SW(j6:LX->Option (LX))(CF:Int->LX->Option (LX))(f:UInt64)(b:Int)(a:LX):Option (LX):=
if(Cd b 8)then
(Ee (Hm (Cq 8 b) 0)).bind λ_=>
(Af a b).bind λ_=>
(Hb a b (Al (Al (Bn f (GI.toZ (Cq 8 b)).toNat):Int8):Int32)).bind λg=>
CF (Aa b 1) g
else
j6 a
def FQ(f:UInt64):Nat->Int->LX->Option (LX)
|0,_,_=>none
|q+1,b,a=>SW PM (FQ f q) f b a
def SV f:=FQ f Cn
def RX(j4:UInt64->Int->LX->Option (LX))(f:UInt64):Option (LX):=
j4 f 0 (List.replicate 16 (0:Int32))
def bZ:=RX SV
def Mu(a:LB):Option (LX×Int):=
if(Fg (Ac a) 64)then
some (([(0:Int32),(0:Int32),(0:Int32),(0:Int32),(0:Int32),(0:Int32),(0:Int32),(0:Int32),(0:Int32),(0:Int32),(0:Int32),(0:Int32),(0:Int32),(0:Int32),(0:Int32),(0:Int32)]:LX),2)
else
(KH a).bind λ(f,b)=>
if(Bi b 0)then
some (([(0:Int32),(0:Int32),(0:Int32),(0:Int32),(0:Int32),(0:Int32),(0:Int32),(0:Int32),(0:Int32),(0:Int32),(0:Int32),(0:Int32),(0:Int32),(0:Int32),(0:Int32),(0:Int32)]:LX),b)
else
(bZ f).bind λg=>
some (g,0)
def Ma(a b:UInt64):Option (UInt64×UInt64):=
some ((Aa (Aa (Cq (Bn a (GI.toZ (32:UInt64)).toNat) (Bn b (GI.toZ (32:UInt64)).toNat)) (Bn (Aa (Cq (Bn a (GI.toZ (32:UInt64)).toNat) (Ck b 4294967295)) (Bn (Cq (Ck a 4294967295) (Ck b 4294967295)) (GI.toZ (32:UInt64)).toNat)) (GI.toZ (32:UInt64)).toNat)) (Bn (Aa (Ck (Aa (Cq (Bn a (GI.toZ (32:UInt64)).toNat) (Ck b 4294967295)) (Bn (Cq (Ck a 4294967295) (Ck b 4294967295)) (GI.toZ (32:UInt64)).toNat)) 4294967295) (Cq (Ck a 4294967295) (Bn b (GI.toZ (32:UInt64)).toNat))) (GI.toZ (32:UInt64)).toNat)),(Cq a b))
def Lb(a b:UInt64):Option (UInt64×UInt64):=
(Ma a b).bind λ(f,g)=>
some (f,g)
def Pv(a:LI):Option (LI):=
some a
def Hh:=Pv
def Ev(j10:LI->Option (LI))(WZ:Int->LI->Option (LI))(b:Int)(a:LI):Option (LI):=
if(Cd b (Ac a))then
(
(TB (Ac a) b (Ac a)).bind λ_=>
(TB (Ac a) 0 b).bind λ_=>
WZ (Aa b (EF ((Ac a)-b) (Xb a 0 (b-(0:Int))).length)) (Hs a b ((Ac a)-b) (Xb a 0 (b-(0:Int)))))
else
j10 a
def Ey:Nat->Int->LI->Option (LI)
|0,_,_=>none
|q+1,b,a=>Ev Hh (Ey q) b a
def Ij:=Ey Cn
def Ik(j8:Int->LI->Option (LI))(f:LI)(g:UInt64):Option (LI):=
(ZY (Al g:Int) (0:Int)).bind λk=>
(Ee (geq (Al g:Int) (Al g:Int))).bind λ_=>
j8 (EF (Ac k) f.length) (dJ k f)
def If:=Ik Ij
def Hz(j7:LI->UInt64->Option (LI))(f:LI)(h:Int):Option (LI):=
(Lb (Al (Ac f):UInt64) (Al h:UInt64)).bind λ(m,g)=>
if((Fg m 0)||(Fg g 9223372036854775807))then
none
else
j7 f g
def Il:=Hz If
def Ii(j6:LI->Int->Option (LI))(f:LI)(h:Int):Option (LI):=
if(Cd h 0)then
none
else
j6 f h
def Kg:=Ii Il
def Pw(f:LI):Option (LI):=
some f
def Hp:=Pw
def Hi(j16:LI->Option (LI))(oR:Int->LI->Option (LI))(a:List LI)(g:Int)(f:LI):Option (LI):=
if(Cd g (Ac a))then
(Af a g).bind λo=>
(Dh f o).bind λp=>
oR (Aa g 1) p
else
j16 f
def Ep(a:List LI):Nat->Int->LI->Option (LI)
|0,_,_=>none
|q+1,g,f=>Hi Hp (Ep a q) a g f
def Hn a:=Ep a Cn
def Hj(j14:(List LI)->Int->LI->Option (LI))(a:List LI)(k:LI):Option (LI):=
j14 a 0 k
def Ho:=Hj Hn
def Hk(j13:(List LI)->LI->Option (LI))(b:Int)(a:List LI):Option (LI):=
if(Fg (Ae b (Ae (0:Int) (0:Int))) 0)then
(TB 0 0 0).bind λ_=>
(ZY (Ae b (Ae (0:Int) (0:Int))) (0:Int)).bind λu=>
(Dh ([]:LI) u).bind λm=>
(TB (Ac m) 0 0).bind λ_=>
j13 a (Xb m 0 ((0:Int)-(0:Int)))
else
j13 a ([]:LI)
def Hl:=Hk Ho
def Hq(j12:Int-> (List LI)->Option (LI))(a:List LI)(b:Int):Option (LI):=
if(Cd b 0)then
none
else
j12 b a
def Hg:=Hq Hl
def Ic(j11:(List LI)->Int->Option (LI))(oS:Int->Int->Option (LI))(a:List LI)(b h:Int):Option (LI):=
if(Cd h (Ac a))then
(Af a h).bind λn=>
if(Cd (Aa b (Ac n)) 0)then
none
else
oS (Aa b (Ac n)) (Aa h 1)
else
j11 a b
def Ew(a:List LI):Nat->Int->Int->Option (LI)
|0,_,_=>none
|q+1,b,h=>Ic Hg (Ew a q) a b h
def Ib a:=Ew a Cn
def Ig(j9:(List LI)->Int->Int->Option (LI))(a:List LI):Option (LI):=
j9 a 0 0
def Kc:=Ig Ib
def Zl(a b:LI):Option (LI):=
(Kc ([a,b]:List LI)).bind λf=>
some f
def Lg(a b:Int):Option (LI×Int):=
(Kx a b).bind λ(f,g)=>
if(Bi g 0)then
some (([]:LI),g)
else
(Tm a).bind λ(h,n)=>
(Kg ([h]:LI) (Ae f 1)).bind λk=>
(Zl k ([(Ae b (Cq (Ae f 1) h))]:LI)).bind λm=>
some (m,0)
def DK(a f:Int)(b:LX):Option Int:=
(La a f).bind λg=>
if(Bi g 0)then
some g
else
(Lj f b).bind λh=>
if(Bi h 0)then
some h
else
if(geq (Ac b) 0)then
some 2
else
(Ee (Bi a 0)).bind λ_=>
if(Bi (Fs (Ac b) a) 0)then
some 2
else
some 0
def KR(a:Int)(b:LX):Option Int:=
if((Cd a 1)||(Fg a 6))then
some 2
else
if(Fg (Ac b) 4000)then
some 4
else
(Ee (Bi a 0)).bind λ_=>
if(Bi (Fs (Ac b) a) 0)then
some 2
else
some 0
def Ci(a:LX):Option (LX):=
(
(Dh ([]:LX) a).bind λb=>
some b)
abbrev Dc:=Option (LX×Int)
def YM(f:LX):Dc:=
some (f,0)
def LH:=YM
def XK(Rr:Int->LX->Dc)(b a:Int)(k:LX):Dc:=
Rr (Aa a b) k
def MW Rr:=XK Rr
def NI(j20:Int->LX->Dc)(b a:Int)(g:LX):Dc:=
if(Fg (Ae ((Aa a b)-a) 1) 0)then
(Ee (decide (0<= (Ae ((Aa a b)-a) 1)/\ (Ae ((Aa a b)-a) 1)<((Aa a b)-a)))).bind λ_=>
Option.bind (Ee (decide (0<= (Ae (Ae ((Aa a b)-a) 1) 1)/\ (Ae (Ae ((Aa a b)-a) 1) 1)<((Aa a b)-a)))) λ_=>
(Af g (a+(Ae ((Aa a b)-a) 1))).bind λm=>
(Af g (a+(Ae (Ae ((Aa a b)-a) 1) 1))).bind λn=>
(Ee (decide (0<= (Ae ((Aa a b)-a) 1)/\ (Ae ((Aa a b)-a) 1)<((Aa a b)-a)))).bind λ_=>
(Hb g (a+(Ae ((Aa a b)-a) 1)) (Ae m (Jm n 2))).bind λo=>
j20 a o
else
j20 a g
def LK Rr b:=NI (MW Rr b) b
def LD(j19:Int->LX->Dc)(oT:Int->LX->Dc)(b a h:Int)(g:LX):Dc:=
if(Cd h (Ae ((Aa a b)-a) 1))then
(Ee (decide (0<= (Aa h 1)/\ (Aa h 1)<((Aa a b)-a)))).bind λ_=>
(Ee (decide (0<=h/\h<((Aa a b)-a)))).bind λ_=>
(Af g (a+(Aa h 1))).bind λm=>
(Af g (a+h)).bind λn=>
(Ee (decide (0<=h/\h<((Aa a b)-a)))).bind λ_=>
(Hb g (a+h) (Ae m n)).bind λo=>
oT (Aa h 1) o
else
j19 a g
def AM(Rr:Int->LX->Dc)(b a:Int):Nat->Int->LX->Dc
|0,_,_=>none
|q+1,h,g=>LD (LK Rr b) (AM Rr b a q) b a h g
def MA Rr b a:=AM Rr b a Cn
def LW(j17:Int->Int->LX->Dc)(j22:LX->Dc)(b a:Int)(f:LX):Dc:=
if(Cd a (Ac f))then
(TB (Ac f) a (Aa a b)).bind λ_=>
j17 a 0 f
else
j22 f
def BT(b:Int):Nat->Int->LX->Dc
|0,_,_=>none
|q+1,a,f=>LW (MA (BT b q) b) LH b a f
def LO b:=BT b Cn
def QQ(j12:Int->Int->LX->Dc)(b:Int)(p:LX):Dc:=
(KR b p).bind λu=>
if(Bi u 0)then
some (([]:LX),u)
else
(Ci p).bind λv=>
j12 b 0 v
def dN:=QQ LO
abbrev FH:=Option (Int×LX×LX×Int)
def ZL(a:Int)(b:LX)(f:Bool):FH:=
if f then
some (10,b,(List.replicate 16 (0:Int32)),0)
else
if(geq a 16)then
some (9,b,(List.replicate 16 (0:Int32)),0)
else
some (0,(List.replicate 16 (0:Int32)),(List.replicate 16 (0:Int32)),2)
def MH:=ZL
def MU(j2:Int->LX->Bool->FH)(a:Int)(b:LX):FH:=
if(geq a 8)then
j2 a b (geq a 8)
else
j2 a b (geq a 24)
def RT:=MU MH
def KY(a:Int)(f:LX):Option (Int×Int32×Int×LX×LX×Int):=
(RT a f).bind λ(g,h,k,b)=>
if(Bi b 0)then
some (0,0,0,(List.replicate 16 (0:Int32)),(List.replicate 16 (0:Int32)),b)
else
some (a,0,g,h,k,0)
def Li(a:Int)(k:Int32)(b:Int)(f m:LX):Option Int:=
(RT a f).bind λ(g,n,o,h)=>
if((Bi h 0)||(Bi g b))then
some 8
else
some 0
def ML(a:Int):Option (Int×Int):=
if(geq a 8)then
some (4,0)
else
if(geq a 16)then
if(geq a 16)then
some (5,0)
else
some (0,2)
else
if(geq a 24)then
some (5,0)
else
some (0,2)
def LG(a:Int)(b:Int32):Option Int32:=
(Ee (Hm a 0)).bind λ_=>
(Ee (Hm a 0)).bind λ_=>
some (Al (aZ (Ae (Fa (Al b:Int) (GI.toZ a).toNat) (Al b:Int)) (GI.toZ a).toNat):Int32)
def Lk(b:Int)(f:Int32):Option (Int32×Int):=
(ML b).bind λ(g,a)=>
if(Bi a 0)then
some (0,a)
else
(LG g f).bind λh=>
some (h,0)
def Oj(a:Int)(b f:LX):Option Int:=
if((Bi a 9)&&(Bi a 10))then
some 8
else
some 0
abbrev Fl:=Option (Int32×Int)
def TJ(g:Int32)(a:Int)(b f:LX):Fl:=
(Ee (Hm a 0)).bind λ_=>
some ((Bn g (GI.toZ a).toNat),0)
def DP:=TJ
def DX(j6:Int32->Int->LX->LX->Fl)(CF:Int32->Int->Fl)(b:LX)(a:Int)(f:LX)(g:Int32)(h:Int):Fl:=
if(Cd h 16)then
(Af b h).bind λm=>
(Af f h).bind λ_=>
(Af f h).bind λn=>
CF (Aa g (Cq m n)) (Aa h 1)
else
j6 g a b f
def Rn(b:LX)(a:Int)(f:LX):Nat->Int32->Int->Fl
|0,_,_=>none
|q+1,g,h=>DX DP (Rn b a f q) b a f g h
def EB b a f:=Rn b a f Cn
def DH(j4:LX->Int->LX->Int32->Int->Fl)(a:Int)(b f:LX):Fl:=
(Oj a b f).bind λk=>
if(Bi k 0)then
some (0,k)
else
(Ee (Hm (Ae a 1) 0)).bind λ_=>
j4 b a f (Fa (1:Int32) (GI.toZ (Ae a 1)).toNat) 0
def FN:=DH EB
def JX(a:Int):Option Int32:=
if(geq a 0)then
some 4
else
if(Cd a 4)then
some 2
else
some 1
abbrev Fi:=Option (Int×LX×LX×Int)
def TL(g:Int)(b f:LX):Fi:=
some (g,b,f,0)
def EC:=TL
def DY(j6:Int->LX->LX->Fi)(CF:Int->LX->Fi)(h:Int32)(f:LX)(g a:Int)(b:LX):Fi:=
if(Cd a 16)then
(Af f a).bind λm=>
if(geq m 0)then
CF (Aa a 1) b
else
if((Cd m 0)==(Cd h 0))then
(Af b a).bind λ_=>
(Af b a).bind λo=>
(JX a).bind λp=>
(Af b a).bind λ_=>
(Hb b a (Aa o p)).bind λu=>
CF (Aa a 1) u
else
(Af b a).bind λ_=>
(Af b a).bind λv=>
(JX a).bind λw=>
(Af b a).bind λ_=>
(Hb b a (Ae v w)).bind λy=>
CF (Aa a 1) y
else
j6 g b f
def Rf(h:Int32)(f:LX)(g:Int):Nat->Int->LX->Fi
|0,_,_=>none
|q+1,a,b=>DY EC (Rf h f g q) h f g a b
def DS h f g:=Rf h f g Cn
def EM(j4:Int32->LX->Int->Int->LX->Fi)(g:Int)(k f:LX)(h:Int32):Fi:=
(Oj g k f).bind λn=>
if(Bi n 0)then
some (0,(List.replicate 16 (0:Int32)),(List.replicate 16 (0:Int32)),n)
else
if(geq h 0)then
some (g,k,f,0)
else
j4 h f g 0 k
def SX:=EM DS
abbrev BI:=Option (Int×LX×LX×Int)
def VE(g:Int32)(b:Int)(f a:LX):BI:=
(Af (Hs a 1 ((16:Int)-(1:Int)) (Xb a 0 ((16:Int)-(0:Int)))) 0).bind λ_=>
(Hb (Hs a 1 ((16:Int)-(1:Int)) (Xb a 0 ((16:Int)-(0:Int)))) 0 g).bind λk=>
some (b,f,k,0)
def IK:=VE
def Ub(j2:Int32->Int->LX->LX->BI)(b:Int)(f a:LX)(g:Int32):BI:=
(Oj b f a).bind λh=>
if(Bi h 0)then
some (0,(List.replicate 16 (0:Int32)),(List.replicate 16 (0:Int32)),h)
else
(
(TB 16 1 16).bind λ_=>
(TB 16 0 16).bind λ_=>
j2 g b f a)
def US:=Ub IK
def FD(a:Int)(b f:LX)(g h:Int32):Option (Int×LX×LX):=
(SX a b f h).bind λ(k,m,n,v)=>
(US k m n g).bind λ(o,p,u,w)=>
some (o,p,u)
def CD(b:Int)(f g:LX)(a:Int32):Option (Int32×Int×LX×LX×Int):=
(FN b f g).bind λ(h,k)=>
if(Bi k 0)then
some (0,0,(List.replicate 16 (0:Int32)),(List.replicate 16 (0:Int32)),k)
else
(FD b f g a (Ae a h)).bind λ(m,n,o)=>
some ((Ae a h),m,n,o,0)
def Kw(a:Int)(b:Int32)(f:Int)(g h:LX)(k:Int32):Option (Int32×Int×Int32×Int×LX×LX×Int):=
(Li a b f g h).bind λm=>
if(Bi m 0)then
some (0,0,0,0,(List.replicate 16 (0:Int32)),(List.replicate 16 (0:Int32)),m)
else
(Lk a b).bind λ(n,y)=>
(CD f g h (Ae k n)).bind λ(o,p,u,v,w)=>
(
some (o,a,k,p,u,v,w))
def TX(a:Int32):Option UInt32:=
some (CZ (Fa (Al a:UInt32) (GI.toZ (1:UInt64)).toNat) (Al (Bn a (GI.toZ (31:UInt64)).toNat):UInt32))
abbrev Be:=Option (LU×Int)
def GD(k:LU):Be:=
some (k,0)
def Pq:=GD
def Pf(j12:LU->Be)(oU:Int-> (List (Int×Int32×(Int×LX×LX×Unit)×Unit))->LU->Be)(b:LX)(a f g:Int)(o:List (Int×Int32×(Int×LX×LX×Unit)×Unit))(k:LU):Be:=
if(Cd g (Ac b))then
(Af b g).bind λ_=>
(Af b g).bind λac=>
(Ee (Bi a 0)).bind λ_=>
(Af o (Fs g a)).bind λ_=>
(Af o (Fs g a)).bind λp=>
(Kw p.1 p.2.1 p.2.2.1.1 p.2.2.1.2.1 p.2.2.1.2.2.1 ac).bind λ(u,ad,ae,v,af,ag,w)=>
if(Bi w 0)then
some (([]:LU),w)
else
(Hb o (Fs g a) (ad,ae,(v,af,ag,()),())).bind λah=>
(TX u).bind λai=>
(Dh k ([ai]:LU)).bind λaj=>
oU (Aa g 1) ah aj
else
j12 k
def Iv(b:LX)(a f:Int):Nat->Int-> (List (Int×Int32×(Int×LX×LX×Unit)×Unit))->LU->Be
|0,_,_,_=>none
|q+1,g,o,k=>Pf Pq (Iv b a f q) b a f g o k
def Nl b a f:=Iv b a f Cn
def Py(j10:LX->Int->Int->Int-> (List (Int×Int32×(Int×LX×LX×Unit)×Unit))->LU->Be)(a f:Int)(b:LX)(h:List (Int×Int32×(Int×LX×LX×Unit)×Unit)):Be:=
j10 b a f 0 h ([]:LU)
def Pz:=Py Nl
def Qd(j9:Int->Int->LX-> (List (Int×Int32×(Int×LX×LX×Unit)×Unit))->Be)(tT:Int-> (List (Int×Int32×(Int×LX×LX×Unit)×Unit))->Be)(a f:Int)(m b:LX)(n:Int)(h:List (Int×Int32×(Int×LX×LX×Unit)×Unit)):Be:=
if(Cd n 6)then
(KY f m).bind λ(ak,al,u,am,an,v)=>
(Af h n).bind λ_=>
(Hb h n (ak,al,(u,am,an,()),())).bind λao=>
tT (Aa n 1) ao
else
j9 a f b h
def Jt(a f:Int)(m b:LX):Nat->Int-> (List (Int×Int32×(Int×LX×LX×Unit)×Unit))->Be
|0,_,_=>none
|q+1,n,h=>Qd Pz (Jt a f m b q) a f m b n h
def Qw a f m b:=Jt a f m b Cn
def Qj(j7:Int->Int->LX->LX->Int-> (List (Int×Int32×(Int×LX×LX×Unit)×Unit))->Be)(a f:Int)(m y:LX):Be:=
(DK a f y).bind λaa=>
if(Bi aa 0)then
some (([]:LU),aa)
else
(dN a y).bind λ(b,ab)=>
if(Bi ab 0)then
some (([]:LU),ab)
else
j7 a f m b 0 (List.replicate 6 ((0:Int),(0:Int32),((0:Int),(List.replicate 16 (0:Int32)),(List.replicate 16 (0:Int32)),()),()))
def Yh:=Qj Qw
def GP:Option (Int×Int×UInt64×UInt64):=
some (10,10,16384,16384)
abbrev Dk:=Option ((List (Int×Int×UInt64×UInt64×Unit)))
def IW(a:List (Int×Int×UInt64×UInt64×Unit)):Dk:=
some a
def Qs:=IW
def Qv(j6:(List (Int×Int×UInt64×UInt64×Unit))->Dk)(CF:Int-> (List (Int×Int×UInt64×UInt64×Unit))->Dk)(b:Int)(a:List (Int×Int×UInt64×UInt64×Unit)):Dk:=
if(Cd b 6)then
(GP).bind λ(f,g,h,k)=>
(Af a b).bind λ_=>
(Hb a b (f,g,h,k,())).bind λm=>
CF (Aa b 1) m
else
j6 a
def Jn:Nat->Int-> (List (Int×Int×UInt64×UInt64×Unit))->Dk
|0,_,_=>none
|q+1,b,a=>Qv Qs (Jn q) b a
def Qq:=Jn Cn
def Qh(j4:Int-> (List (Int×Int×UInt64×UInt64×Unit))->Dk):Dk:=
j4 0 (List.replicate 6 ((0:Int),(0:Int),(0:UInt64),(0:UInt64),()))
def AD:=Qh Qq
def Em(b:LB)(a:Int):Option Int:=
if(((Cd a 0)||(Fg a 330000))||(Bi (Ac b) (aZ (Aa a 7) (GI.toZ (3:UInt64)).toNat)))then
some 8
else
if(Fg (Ck a 7) 0)then
(Af b (Ae (Ac b) 1)).bind λf=>
(Ee (Hm (Ck a 7) 0)).bind λ_=>
if(Bi (Bn f (GI.toZ (Ck a 7)).toNat) 0)then
some 8
else
some 0
else
some 0
def TF(a b:Int)(f g:UInt64):Option Int:=
if(!((geq (Di (TH a 0) 24) a)&&((geq (Di (TH b 0) 24) b)&&((geq (Di f 68719476735) f)&&((geq (Di g 68719476735) g)&&true)))))then
some 8
else
some 0
def DA:=TF
def Re(j4:Int->Int->UInt64->UInt64->Option Int)(a b:Int)(f g:UInt64):Option Int:=
(
(
j4 a b f g))
def EW:=Re DA
def Ri(j3:Int->Int->UInt64->UInt64->Option Int)(a b:Int)(f g:UInt64):Option Int:=
(
(
j3 a b f g))
def GA:=Ri EW
def Ue(a f:Int)(g h:UInt64)(b:UInt32):Option (Int×UInt32):=
(Ee (Hm a 0)).bind λ_=>
if(geq (Bn b (GI.toZ a).toNat) 0)then
some (0,b)
else
(Ee (Hm a 0)).bind λ_=>
some (1,(Ae b (Fa (1:UInt32) (GI.toZ a).toNat)))
def Db(a:LB):Option (LB):=
(
(Dh ([]:LB) a).bind λb=>
some b)
def KG(a:LB)(b:Int):Option (LB×Int):=
(Db a).bind λf=>
some (f,b)
abbrev Bl:=Option (LB×Int×Int)
def UY(f:Int)(o:LB):Bl:=
some (o,f,0)
def HG:=UY
def VY(jG:UInt64->Int->Int->LB->Bl)(b:UInt64)(a:Int)(m:UInt64)(h f:Int)(w:LB):Bl:=
(Ee (Hm (Di h (Ae 8 (Ck f 7))) 0)).bind λ_=>
jG (Bn m (GI.toZ (Di h (Ae 8 (Ck f 7)))).toNat) (Ae h (Di h (Ae 8 (Ck f 7)))) (Aa f (Di h (Ae 8 (Ck f 7)))) w
def JK jG:=VY jG
def IL(j19:UInt64->Int->Int->LB->Bl)(b:UInt64)(a:Int)(m:UInt64)(h f:Int)(u:LB):Bl:=
(Af u (Ae (Ac u) 1)).bind λ_=>
(Ee (Hm (Di h (Ae 8 (Ck f 7))) 0)).bind λ_=>
(Ee (Hm (Ck f 7) 0)).bind λ_=>
(Af u (Ae (Ac u) 1)).bind λad=>
(Af u (Ae (Ac u) 1)).bind λ_=>
Option.bind (Hb u (Ae (Ac u) 1) (gX ad (Fa (Al (Ck m (Ae (Fa (1:UInt64) (GI.toZ (Di h (Ae 8 (Ck f 7)))).toNat) 1)):UInt8) (GI.toZ (Ck f 7)).toNat))) λw=>
j19 m h f w
def HT jG b a:=IL (JK jG b a) b a
def HW(j18:UInt64->Int->Int->LB->Bl)(j21:Int->LB->Bl)(b:UInt64)(a:Int)(m:UInt64)(h f:Int)(o:LB):Bl:=
if(Fg h 0)then
if(geq (Ck f 7) 0)then
(Dh o ([(0:UInt8)]:LB)).bind λab=>
j18 m h f ab
else
j18 m h f o
else
j21 f o
def Tr(b:UInt64)(a:Int):Nat->UInt64->Int->Int->LB->Bl
|0,_,_,_,_=>none
|q+1,m,h,f,o=>HW (HT (Tr b a q) b a) HG b a m h f o
def JF b a:=Tr b a Cn
def VF(g:Int)(p:LB):Bl:=
some (p,g,0)
def JE:=VF
def VR(jH:UInt64->Int->Int->LB->Bl)(b:UInt64)(a:Int)(n:UInt64)(k g:Int)(y:LB):Bl:=
(Ee (Hm (Di k (Ae 8 (Ck g 7))) 0)).bind λ_=>
jH (Bn n (GI.toZ (Di k (Ae 8 (Ck g 7)))).toNat) (Ae k (Di k (Ae 8 (Ck g 7)))) (Aa g (Di k (Ae 8 (Ck g 7)))) y
def HS jH:=VR jH
def HF(j26:UInt64->Int->Int->LB->Bl)(b:UInt64)(a:Int)(n:UInt64)(k g:Int)(v:LB):Bl:=
(Af v (Ae (Ac v) 1)).bind λ_=>
(Ee (Hm (Di k (Ae 8 (Ck g 7))) 0)).bind λ_=>
(Ee (Hm (Ck g 7) 0)).bind λ_=>
(Af v (Ae (Ac v) 1)).bind λae=>
(Af v (Ae (Ac v) 1)).bind λ_=>
Option.bind (Hb v (Ae (Ac v) 1) (gX ae (Fa (Al (Ck n (Ae (Fa (1:UInt64) (GI.toZ (Di k (Ae 8 (Ck g 7)))).toNat) 1)):UInt8) (GI.toZ (Ck g 7)).toNat))) λy=>
j26 n k g y
def IH jH b a:=HF (HS jH b a) b a
def GV(j25:UInt64->Int->Int->LB->Bl)(j28:Int->LB->Bl)(b:UInt64)(a:Int)(n:UInt64)(k g:Int)(p:LB):Bl:=
if(Fg k 0)then
if(geq (Ck g 7) 0)then
(Dh p ([(0:UInt8)]:LB)).bind λw=>
j25 n k g w
else
j25 n k g p
else
j28 g p
def Tx(b:UInt64)(a:Int):Nat->UInt64->Int->Int->LB->Bl
|0,_,_,_,_=>none
|q+1,n,k,g,p=>GV (IH (Tx b a q) b a) JE b a n k g p
def IB b a:=Tx b a Cn
def LZ(j15:UInt64->Int->UInt64->Int->Int->LB->Bl)(j22:UInt64->Int->UInt64->Int->Int->LB->Bl)(ac:LB)(aa:Int)(b:UInt64)(a:Int):Bl:=
(Em ac aa).bind λaf=>
if(Bi af 0)then
some (([]:LB),0,8)
else
if((Cd a 0)||(Fg a 64))then
some (([]:LB),0,2)
else
if(Cd a 64)then
(Ee (Hm a 0)).bind λ_=>
if(Bi (Bn b (GI.toZ a).toNat) 0)then
some (([]:LB),0,16)
else
if(Fg (Aa aa a) 330000)then
some (([]:LB),0,18)
else
(KG ac aa).bind λ(ag,ah)=>
j15 b a b a ah ag
else
if(Fg (Aa aa a) 330000)then
some (([]:LB),0,18)
else
(KG ac aa).bind λ(ab,ai)=>
j22 b a b a ai ab
def AP:=LZ JF IB
def Un(b:UInt32)(a:Int):Option Bool:=
(Ee (Hm a 0)).bind λ_=>
some (Hm (Bn b (GI.toZ a).toNat) 48)
def IZ(a:Int):Option (Int×Int):=
if((Cd a 0)||(Fg a 48))then
some (0,2)
else
some ((Di (Aa a 1) 48),0)
def MY(b:LB)(f a:Int):Option (LB×Int×Int):=
(Em b f).bind λg=>
if(Bi g 0)then
some (([]:LB),0,g)
else
(IZ a).bind λ(k,h)=>
if(Bi h 0)then
some (([]:LB),0,h)
else
(Ee (Hm a 0)).bind λ_=>
(AP b f (Ae (Fa (1:UInt64) (GI.toZ a).toNat) 1) k).bind λ(m,n,o)=>
some (m,n,o)
abbrev Tn:=Option (LB×Int×Int)
def TK(b:LB)(f h:Int)(k:UInt32)(m:Int):Tn:=
(MY b f h).bind λ(p,u,n)=>
if(Bi n 0)then
some (([]:LB),0,n)
else
(AP p u (Al k:UInt64) m).bind λ(v,w,y)=>
some (v,w,y)
def EK:=TK
def DD(j2:LB->Int->Int->UInt32->Int->Tn)(b:LB)(f:Int)(g:UInt32)(a:Int):Tn:=
(Em b f).bind λo=>
if(Bi o 0)then
some (([]:LB),0,o)
else
if((Cd a 0)||(Fg a 24))then
some (([]:LB),0,2)
else
(Ee (Hm a 0)).bind λ_=>
(Ee (Hm a 0)).bind λ_=>
(Un g a).bind λaa=>
if aa then
j2 b f 48 g 32
else
j2 b f (Al (Bn g (GI.toZ a).toNat):Int) (Ck g (Ae (Fa (1:UInt32) (GI.toZ a).toNat) 1)) a
def QX:=DD EK
abbrev Cz:=Option (LB×Int×Int×Int×UInt64×UInt64×Int)
def Pr(k u n:Int)(a:UInt64)(b:UInt32)(o:UInt64)(m:LB):Cz:=
(
(
some (m,k,u,n,(Aa a (Ae (Al b:UInt64) (Bn a (GI.toZ (4:UInt64)).toNat))),o,0)))
def BP:=Pr
def EG(j10:Int->Int->Int->UInt64->UInt32->UInt64->LB->Cz)(b:UInt32)(k n:Int)(a o:UInt64)(m:LB)(u:Int):Cz:=
j10 k u n a b o m
def EP:=EG BP
def DF(j9:UInt32->Int->Int->UInt64->UInt64->LB->Int->Cz)(b:UInt32)(f:Int)(a:UInt64)(k:Int)(m:LB)(n:Int)(o:UInt64):Cz:=
if(Fg f 0)then
(Ee (Hm f 0)).bind λ_=>
if(Cd (Aa a (Ae (Al b:UInt64) (Bn a (GI.toZ (4:UInt64)).toNat))) (Fa (16:UInt64) (GI.toZ f).toNat))then
j9 b k n a o m (Ae f 1)
else
if(Cd f 24)then
(Ee (Hm f 0)).bind λ_=>
if(Fg (Aa a (Ae (Al b:UInt64) (Bn a (GI.toZ (4:UInt64)).toNat))) (Fa (32:UInt64) (GI.toZ f).toNat))then
j9 b k n a o m (Aa f 1)
else
j9 b k n a o m f
else
j9 b k n a o m f
else
if(Cd f 24)then
(Ee (Hm f 0)).bind λ_=>
if(Fg (Aa a (Ae (Al b:UInt64) (Bn a (GI.toZ (4:UInt64)).toNat))) (Fa (32:UInt64) (GI.toZ f).toNat))then
j9 b k n a o m (Aa f 1)
else
j9 b k n a o m f
else
j9 b k n a o m f
def DI:=DF EP
def DB(j8:UInt32->Int->UInt64->Int->LB->Int->UInt64->Cz)(b:UInt32)(f h:Int)(a g:UInt64)(y k:Int)(m:LB):Cz:=
if(Bi y 0)then
some (([]:LB),0,0,0,0,0,y)
else
(Ue f h a g b).bind λ(ag,p)=>
if(geq ag 1)then
if(Fg h 0)then
(Ee (Hm h 0)).bind λ_=>
if(Cd (Aa g (Ae (Al p:UInt64) (Bn g (GI.toZ (4:UInt64)).toNat))) (Fa (16:UInt64) (GI.toZ h).toNat))then
j8 b f a k m (Ae h 1) (Aa g (Ae (Al p:UInt64) (Bn g (GI.toZ (4:UInt64)).toNat)))
else
if(Cd h 24)then
(Ee (Hm h 0)).bind λ_=>
if(Fg (Aa g (Ae (Al p:UInt64) (Bn g (GI.toZ (4:UInt64)).toNat))) (Fa (32:UInt64) (GI.toZ h).toNat))then
j8 b f a k m (Aa h 1) (Aa g (Ae (Al p:UInt64) (Bn g (GI.toZ (4:UInt64)).toNat)))
else
j8 b f a k m h (Aa g (Ae (Al p:UInt64) (Bn g (GI.toZ (4:UInt64)).toNat)))
else
j8 b f a k m h (Aa g (Ae (Al p:UInt64) (Bn g (GI.toZ (4:UInt64)).toNat)))
else
if(Cd h 24)then
(Ee (Hm h 0)).bind λ_=>
if(Fg (Aa g (Ae (Al p:UInt64) (Bn g (GI.toZ (4:UInt64)).toNat))) (Fa (32:UInt64) (GI.toZ h).toNat))then
j8 b f a k m (Aa h 1) (Aa g (Ae (Al p:UInt64) (Bn g (GI.toZ (4:UInt64)).toNat)))
else
j8 b f a k m h (Aa g (Ae (Al p:UInt64) (Bn g (GI.toZ (4:UInt64)).toNat)))
else
j8 b f a k m h (Aa g (Ae (Al p:UInt64) (Bn g (GI.toZ (4:UInt64)).toNat)))
else
j8 b f a k m h g
def EI:=DB DI
def EU(j7:UInt32->Int->Int->UInt64->UInt64->Int->Int->LB->Cz)(b:UInt32)(v:LB)(w f h:Int)(a g:UInt64):Cz:=
(Ue f h a g b).bind λ(ad,ae)=>
(AP v w (Al ad:UInt64) 1).bind λ(aa,ab,ac)=>
if((geq ac 0)&&(geq ad 0))then
(AP aa ab (Al ae:UInt64) f).bind λ(ah,ai,aj)=>
j7 b f h a g aj ai ah
else
if(geq ac 0)then
(QX aa ab ae h).bind λ(ak,al,am)=>
j7 b f h a g am al ak
else
j7 b f h a g ac ab aa
def DG:=EU EI
def EZ(j6:UInt32->LB->Int->Int->Int->UInt64->UInt64->Cz)(v:LB)(w f h:Int)(a g:UInt64)(b:UInt32):Cz:=
(Em v w).bind λan=>
if(Bi an 0)then
some (([]:LB),0,0,0,0,0,8)
else
(GA f h a g).bind λao=>
if(Bi ao 0)then
some (([]:LB),0,0,0,0,0,8)
else
j6 b v w f h a g
def QJ:=EZ DG
abbrev Au:=Option (UInt32×Int)
def PR(h:UInt32):Au:=
some (h,0)
def Yg:=PR
def AZ(j30:UInt32->Au)(sJ:UInt32->Int->Au)(a:LB)(b:LU)(h:UInt32)(m:Int):Au:=
if(Cd m (Ac a))then
(Af a m).bind λp=>
(Af b (GI.toZ (CZ (Al h:UInt8) p))).bind λ_=>
(Af b (GI.toZ (CZ (Al h:UInt8) p))).bind λu=>
sJ (CZ (Bn h (GI.toZ (8:UInt64)).toNat) u) (Aa m 1)
else
j30 h
def Nx(a:LB)(b:LU):Nat->UInt32->Int->Au
|0,_,_=>none
|q+1,h,m=>AZ Yg (Nx a b q) a b h m
def Zk a b:=Nx a b Cn
def Yt(j28:LB->LU->UInt32->Int->Au)(f:UInt32)(a:LB)(b:LU):Au:=
j28 a b f 0
def Yp:=Yt Zk
def Yj(j27:UInt32->LB->LU->Au)(f:UInt32)(a:LB)(b:LU):Au:=
j27 f a b
def Zc:=Yj Yp
def PA(Fu:Int->LU->Au)(f:UInt32)(a:LB)(g:Int)(o:LU):Au:=
Fu (Aa g 1) o
def BE Fu:=PA Fu
def Zi(j24:Int->LU->Au)(f:UInt32)(a:LB)(g:Int)(k:UInt32)(b:LU):Au:=
(Af b g).bind λ_=>
(Hb b g k).bind λo=>
j24 g o
def Ys Fu f a:=Zi (BE Fu f a) f a
def Xz(j23:Int->UInt32->LU->Au)(bR:UInt32->Int->Au)(f:UInt32)(a:LB)(g:Int)(b:LU)(k:UInt32)(n:Int):Au:=
if(Cd n 8)then
bR (CZ (Bn k (GI.toZ (1:UInt64)).toNat) (Cq 3988292384 (Ck k 1))) (Aa n 1)
else
j23 g k b
def Nj(Fu:Int->LU->Au)(f:UInt32)(a:LB)(g:Int)(b:LU):Nat->UInt32->Int->Au
|0,_,_=>none
|q+1,k,n=>Xz (Ys Fu f a) (Nj Fu f a g b q) f a g b k n
def Xk Fu f a g b:=Nj Fu f a g b Cn
def BA(j21:Int->LU->UInt32->Int->Au)(j26:UInt32->LB->LU->Au)(f:UInt32)(a:LB)(g:Int)(b:LU):Au:=
if(Cd g 256)then
j21 g b (Al g:UInt32) 0
else
j26 f a b
def Nf(f:UInt32)(a:LB):Nat->Int->LU->Au
|0,_,_=>none
|q+1,g,b=>BA (Xk (Nf f a q) f a) Zc f a g b
def Yd f a:=Nf f a Cn
def DU(j16:UInt32->LB->Int->LU->Au)(f:UInt32)(a:LB):Au:=
if(Fg (Ac a) 100000)then
some (0,4)
else
j16 f a 0 (List.replicate 256 (0:UInt32))
def SM:=DU Yd
def Kj(b:LB):Option (UInt32×Int):=
(SM 4294967295 b).bind λ(f,a)=>
if(Bi a 0)then
some (0,a)
else
some ((iC f),0)
def dG(b:UInt64)(a:Int):Option Bool:=
if(geq a 8)then
some true
else
(Ee (Hm (Cq 8 a) 0)).bind λ_=>
some (geq (Bn b (GI.toZ (Cq 8 a)).toNat) 0)
abbrev Jb:=Option (LB×Int)
def YL(a:LB):Jb:=
some (a,0)
def LR:=YL
def ME(j6:LB->Jb)(CF:Int->LB->Jb)(f:UInt64)(g:LB)(b:Int)(a:LB):Jb:=
if(Cd b (Ac g))then
(Ee (Hm (Cq 8 b) 0)).bind λ_=>
(Af a b).bind λ_=>
(Hb a b (Al (Bn f (GI.toZ (Cq 8 b)).toNat):UInt8)).bind λk=>
CF (Aa b 1) k
else
j6 a
def AE(f:UInt64)(g:LB):Nat->Int->LB->Jb
|0,_,_=>none
|q+1,b,a=>ME LR (AE f g q) f g b a
def MQ f g:=AE f g Cn
def MM(j4:UInt64->LB->Int->LB->Jb)(f:UInt64)(h:Int):Jb:=
if((Cd h 1)||(Fg h 8))then
some (([]:LB),2)
else
(dG f h).bind λm=>
if(!m)then
some (([]:LB),16)
else
(ZY h (0:UInt8)).bind λg=>
(Ee (geq h h)).bind λ_=>
j4 f g 0 g
def Ld:=MM MQ
def Ms(f:LB):Option (LB):=
some f
def Ga:=Ms
def Gc(j16:LB->Option (LB))(oR:Int->LB->Option (LB))(a:List LB)(g:Int)(f:LB):Option (LB):=
if(Cd g (Ac a))then
(Af a g).bind λo=>
(Dh f o).bind λp=>
oR (Aa g 1) p
else
j16 f
def Dz(a:List LB):Nat->Int->LB->Option (LB)
|0,_,_=>none
|q+1,g,f=>Gc Ga (Dz a q) a g f
def Fz a:=Dz a Cn
def Ge(j14:(List LB)->Int->LB->Option (LB))(a:List LB)(k:LB):Option (LB):=
j14 a 0 k
def Gh:=Ge Fz
def Gi(j13:(List LB)->LB->Option (LB))(b:Int)(a:List LB):Option (LB):=
if(Fg (Ae b (Ae (0:Int) (0:Int))) 0)then
(TB 0 0 0).bind λ_=>
(ZY (Ae b (Ae (0:Int) (0:Int))) (0:UInt8)).bind λu=>
(Dh ([]:LB) u).bind λm=>
(TB (Ac m) 0 0).bind λ_=>
j13 a (Xb m 0 ((0:Int)-(0:Int)))
else
j13 a ([]:LB)
def Gj:=Gi Gh
def Gf(j12:Int-> (List LB)->Option (LB))(a:List LB)(b:Int):Option (LB):=
if(Cd b 0)then
none
else
j12 b a
def Gk:=Gf Gj
def Gt(j11:(List LB)->Int->Option (LB))(oS:Int->Int->Option (LB))(a:List LB)(b h:Int):Option (LB):=
if(Cd h (Ac a))then
(Af a h).bind λn=>
if(Cd (Aa b (Ac n)) 0)then
none
else
oS (Aa b (Ac n)) (Aa h 1)
else
j11 a b
def El(a:List LB):Nat->Int->Int->Option (LB)
|0,_,_=>none
|q+1,b,h=>Gt Gk (El a q) a b h
def Gp a:=El a Cn
def Ha(j9:(List LB)->Int->Int->Option (LB))(a:List LB):Option (LB):=
j9 a 0 0
def Jj:=Ha Gp
abbrev Ap:=Option (LB×Int)
def FV(u:Int)(p:LB):Ap:=
(Kj p).bind λ(af,ac)=>
if(Bi ac 0)then
some (([]:LB),ac)
else
(Ld (Al af:UInt64) 4).bind λ(m,h)=>
if(Bi h 0)then
some (([]:LB),h)
else
(Jj ([p,m]:List LB)).bind λag=>
some (ag,0)
def Oh:=FV
def FK(Us:Int-> (List (Int×Int×UInt64×UInt64×Unit))->Int->LB->Ap)(a:LU)(b f g:Int)(k:List (Int×Int×UInt64×UInt64×Unit))(n:Int)(v:LB):Ap:=
Us (Aa g 1) k n v
def Pm Us:=FK Us
def GK(TA:Int->Int->LB->Ap)(h:Int)(a:LU)(g b f:Int)(k:List (Int×Int×UInt64×UInt64×Unit))(m:LB)(o n:Int)(aa:LB):Ap:=
TA (Aa o 1) (Aa n 1) aa
def Og TA:=GK TA
def Np(j48:Int->Int->LB->Ap)(h:Int)(a:LU)(g b f:Int)(k:List (Int×Int×UInt64×UInt64×Unit))(m:LB)(o n:Int)(y:LB):Ap:=
(Af m (Jm o 8)).bind λ_=>
(Af m (Jm o 8)).bind λah=>
(Ee (Hm (Fs o 8) 0)).bind λ_=>
(Af y (Jm n 8)).bind λ_=>
(Ee (Hm (Fs n 8) 0)).bind λ_=>
(Af y (Jm n 8)).bind λai=>
(Af y (Jm n 8)).bind λ_=>
Option.bind (Hb y (Jm n 8) (gX ai (Fa (Ck (Bn ah (GI.toZ (Fs o 8)).toNat) 1) (GI.toZ (Fs n 8)).toNat))) λaa=>
j48 o n aa
def Nv TA h a g b f k m:=Np (Og TA h a g b f k m) h a g b f k m
def Pj(j47:Int->Int->LB->Ap)(j50:Int-> (List (Int×Int×UInt64×UInt64×Unit))->Int->LB->Ap)(a:LU)(b f h g:Int)(k:List (Int×Int×UInt64×UInt64×Unit))(m:LB)(o n:Int)(v:LB):Ap:=
if(Cd o h)then
if(geq (Fs n 8) 0)then
(Dh v ([(0:UInt8)]:LB)).bind λaj=>
j47 o n aj
else
j47 o n v
else
j50 g k n v
def Iz(Us:Int-> (List (Int×Int×UInt64×UInt64×Unit))->Int->LB->Ap)(a:LU)(b f h g:Int)(k:List (Int×Int×UInt64×UInt64×Unit))(m:LB):Nat->Int->Int->LB->Ap
|0,_,_,_=>none
|q+1,o,n,v=>Pj (Nv (Iz Us a b f h g k m q) h a g b f k m) (Pm Us a b f) a b f h g k m o n v
def Oi Us a b f h g k m:=Iz Us a b f h g k m Cn
def On(j44:Int->Int-> (List (Int×Int×UInt64×UInt64×Unit))->LB->Int->Int->LB->Ap)(j52:Int->LB->Ap)(a:LU)(b f g:Int)(w:List (Int×Int×UInt64×UInt64×Unit))(u:Int)(p:LB):Ap:=
if(Cd g (Ac a))then
(Af a g).bind λ_=>
(Af a g).bind λak=>
(Ee (Bi b 0)).bind λ_=>
(Af w (Fs g b)).bind λ_=>
(Af w (Fs g b)).bind λab=>
(QJ ([]:LB) 0 ab.1 ab.2.1 ab.2.2.1 ab.2.2.2.1 ak).bind λ(m,h,al,am,an,ao,ad)=>
if(Bi ad 0)then
some (([]:LB),ad)
else
(Ee (Bi b 0)).bind λ_=>
(Af w (Fs g b)).bind λ_=>
(Hb w (Fs g b) (al,am,an,ao,())).bind λk=>
j44 h g k m 0 u p
else
j52 u p
def Iw(a:LU)(b f:Int):Nat->Int-> (List (Int×Int×UInt64×UInt64×Unit))->Int->LB->Ap
|0,_,_,_,_=>none
|q+1,g,w,u,p=>On (Oi (Iw a b f q) a b f) Oh a b f g w u p
def Nh a b f:=Iw a b f Cn
def Qe(j27:LU->Int->Int->Int-> (List (Int×Int×UInt64×UInt64×Unit))->Int->LB->Ap)(b f:Int)(ap aq:LX):Ap:=
(Yh b f ap aq).bind λ(a,ae)=>
if(Bi ae 0)then
some (([]:LB),ae)
else
(AD).bind λar=>
j27 a b f 0 ar 0 ([]:LB)
def Jy:=Qe Nh
def Hc(a:Int)(b:LX):LI->Int->Option (List LX)
  |[],_=>some []
  |n::l,x=>Option.bind (Dt b x (Aa x (Cq n a))) λp=>Option.bind (Hc a b l (Aa x (Cq n a))) λps=>some (p::ps)
def Lc(a f:Int)(t:LX):List LX->List LB->Option (List LB×Int)
  |[],o=>some (o,0)
  |x::xs,o=>Option.bind (Jy a f t x) λy=>
    if(Bi y.2 0)=true then some ([],y.2)
    else Option.bind (Dh o [y.1]) λo'=>Lc a f t xs o'
def AW(a h:Int)(b:LX):Option (List LX):=
  Option.bind (Ee (Bi a 0)) λ_=>Option.bind (Lg h (Jm (Ac b) a)) λl=>Option.bind (Ee (decide (Ac l.1<=17179869184))) λ_=>Hc a b l.1 0
def Yo(a f h:Int)(b:LX)(p:LB):Option (List LB×Int):=
  Option.bind (Kh a f h b) λe=>
    if(Bi e 0)=true then some ([],e)
    else Option.bind (Mu p) λt=>
      if(Bi t.2 0)=true then some ([],t.2)
      else Option.bind (AW a h b) λxs=>Lc a f t.1 xs []
def KD(b f a g h:Int):Option Bool:=
some (((((((geq b 1)||(geq b 2))&&(Fg f 0))&&(mT f 6))&&(Fg g 0))&&(mT g 1048576))&&(Fg h 0))
def Sm:=KD
def Ry(j2:Int->Int->Int->Int->Int->Option Bool)(b f a g h:Int):Option Bool:=
if(geq a 8)then
if(geq a 8)then
j2 b f a g h
else
some false
else
if(geq a 16)then
if(geq a 16)then
j2 b f a g h
else
some false
else
if(geq a 24)then
j2 b f a g h
else
some false
def Qx:=Ry Sm
def BD(k a m f b:Int):Option Bool:=
(Ee (Bi a 0)).bind λ_=>
if(Fg b (Jm 4000 a))then
some false
else
(Kx f b).bind λ(g,h)=>
some ((geq h 0)&&(mT g 1000))
def Tl(a b f g h:Int):Option Int:=
(Qx a b f g h).bind λk=>
if(!k)then
some 8
else
(BD a b f g h).bind λm=>
if(!m)then
some 8
else
some 0
abbrev Ek:=Option (LB×Int)
def NS(a:LB):Ek:=
(Kj a).bind λ(u,aa)=>
(Ld (Al u:UInt64) 4).bind λ(n,v)=>
(Dh a n).bind λo=>
some (o,0)
def Ws:=NS
def Wq(j6:LB->Ek)(CF:Int->LB->Ek)(b f g h k m:Int)(a:LB):Ek:=
if(Cd m 5)then
(Af ([b,f,g,h,k]:LI) m).bind λw=>
(Af ([(2:Int),(2:Int),(2:Int),(4:Int),(4:Int)]:LI) m).bind λy=>
(Ld (Al w:UInt64) y).bind λ(n,v)=>
(Dh a n).bind λo=>
CF (Aa m 1) o
else
j6 a
def Lu(b f g h k:Int):Nat->Int->LB->Ek
|0,_,_=>none
|q+1,m,a=>Wq Ws (Lu b f g h k q) b f g h k m a
def Vy b f g h k:=Lu b f g h k Cn
def Wx(j4:Int->Int->Int->Int->Int->Int->LB->Ek)(b f g h k:Int):Ek:=
(Tl b f g h k).bind λp=>
if(Bi p 0)then
some (([]:LB),p)
else
j4 b f g h k 0 ([(84:UInt8),(84:UInt8),(65:UInt8),(49:UInt8)]:LB)
def ID:=Wx Vy
def UG(a:LB):Option (UInt64×Int):=
if(Fg (Ac a) 64)then
some (0,2)
else
(KH a).bind λ(b,f)=>
some (b,0)
def Ud(b:LB):Option (LB×Int):=
(UG b).bind λ(f,a)=>
if(Bi a 0)then
some (([]:LB),a)
else
(Ld f 8).bind λ(g,h)=>
some (g,h)
def RO:Option Int:=
some 0
def CE:=RO
def BY(j6:Option Int)(CF:Int->Int->Option Int)(a:LI)(f b:Int):Option Int:=
if(Cd b (Ac a))then
(Af a b).bind λg=>
if((Cd g 5)||(Fg g f))then
some 8
else
CF (Ae f g) (Aa b 1)
else
j6
def Nz(a:LI):Nat->Int->Int->Option Int
|0,_,_=>none
|q+1,f,b=>BY CE (Nz a q) a f b
def Zw a:=Nz a Cn
def AR(j4:LI->Int->Int->Option Int)(a:LI):Option Int:=
if((geq (Ac a) 0)||(Fg (Ac a) 1000))then
some 8
else
j4 a 100000 0
def Qt:=AR Zw
abbrev Cj:=Option (LB×Int)
def NP(g:LB):Cj:=
some (g,0)
def Wc:=NP
def Vp(j14:LB->Cj)(b:LB):Cj:=
(Kj b).bind λ(m,u)=>
(Ld (Al m:UInt64) 4).bind λ(n,v)=>
(Dh b n).bind λg=>
j14 g
def Vj:=Vp Wc
def NW(WZ:Int->LB->Cj)(a:LI)(f:Int)(h:LB):Cj:=
WZ (Aa f 1) h
def Vw WZ:=NW WZ
def BU(j11:Int->LB->Cj)(j13:LB->Cj)(a:LI)(f:Int)(b:LB):Cj:=
if(Cd f (Ac a))then
(Af a f).bind λo=>
(Ld (Al o:UInt64) 4).bind λ(p,w)=>
(Dh b p).bind λh=>
j11 f h
else
j13 b
def Nb(a:LI):Nat->Int->LB->Cj
|0,_,_=>none
|q+1,f,b=>BU (Vw (Nb a q) a) Vj a f b
def BL a:=Nb a Cn
def Yi(j8:LI->Int->LB->Cj)(a:LI):Cj:=
(Qt a).bind λk=>
if(Bi k 0)then
some (([]:LB),k)
else
j8 a 0 ([]:LB)
def NB:=Yi BL
def DN(a:LB):Option Int:=
some (Ac a)
def QD(a:LB):Option (LB):=
some a
def BH:=QD
def AG(j6:LB->Option (LB))(CF:Int->LB->Option (LB))(b:List LB)(f:Int)(a:LB):Option (LB):=
if(Cd f (Ac b))then
(Af b f).bind λg=>
(Dh a g).bind λh=>
CF (Aa f 1) h
else
j6 a
def Pg(b:List LB):Nat->Int->LB->Option (LB)
|0,_,_=>none
|q+1,f,a=>AG BH (Pg b q) b f a
def AF b:=Pg b Cn
def Yk(j4:(List LB)->Int->LB->Option (LB))(b:List LB):Option (LB):=
j4 b 0 ([]:LB)
def ND:=Yk AF
abbrev Br:=Option (LB×Int)
def NN(k:Int)(a:List LB)(b f n:LB):Br:=
if(Bi k 0)then
some (([]:LB),k)
else
(Dh ([b,f,n]:List LB) a).bind λm=>
(ND m).bind λad=>
some (ad,0)
def Wo:=NN
def Va(j14:Int-> (List LB)->LB->LB->LB->Br)(h:LI)(a:List LB)(b f:LB):Br:=
(NB h).bind λ(n,k)=>
j14 k a b f n
def Wt:=Va Wo
def NL(oS:Int->LI->Br)(a:List LB)(b f:LB)(g:Int)(m:LI):Br:=
oS (Aa g 1) m
def Vv oS:=NL oS
def Zu(j11:Int->LI->Br)(j13:LI-> (List LB)->LB->LB->Br)(a:List LB)(b f:LB)(g:Int)(h:LI):Br:=
if(Cd g (Ac a))then
(Af a g).bind λ_=>
(Af a g).bind λae=>
(DN ae).bind λk=>
(Af h g).bind λ_=>
(Hb h g k).bind λm=>
j11 g m
else
j13 h a b f
def Ou(a:List LB)(b f:LB):Nat->Int->LI->Br
|0,_,_=>none
|q+1,g,h=>Zu (Vv (Ou a b f q) a b f) Wt a b f g h
def AT a b f:=Ou a b f Cn
def Xm(j9:(List LB)->LB->LB->Int->LI->Br)(a:List LB)(b f:LB):Br:=
(ZY (Ac a) (0:Int)).bind λaf=>
(Ee (geq (Ac a) (Ac a))).bind λ_=>
j9 a b f 0 af
def Yx:=Xm AT
def Xy(j8:(List LB)->LB->LB->Br)(p u v:Int)(w:LX)(o:LB):Br:=
(MV p u v w o).bind λ(y,ag,ah,ai,aj,aa)=>
if(Bi aa 0)then
some (([]:LB),aa)
else
(Yo p u v w o).bind λ(a,ab)=>
if(Bi ab 0)then
some (([]:LB),ab)
else
(ID y ag ah ai aj).bind λ(b,ac)=>
if(Bi ac 0)then
some (([]:LB),ac)
else
if(geq y 2)then
(Ud o).bind λ(ak,al)=>
j8 a b ak
else
j8 a b ([]:LB)
def BF:=Xy Yx
def Iu:Option (LB×Bool):=
(BF 1 8 1 ([(1:Int32),(2:Int32)]:LX) ([]:LB)).bind λ(a,b)=>
some (a,((geq b 0)&&(geq (Ac a) 46)))
def Lm(a:LB):Option (LB):=
(
(Dh ([]:LB) a).bind λb=>
some b)
def Lh(f:LB)(a:Int)(g:UInt8):Option (LB×Int):=
if(((Cd a 0)||(Hm a (Ac f)))||(geq g 0))then
some (([]:LB),2)
else
(Lm f).bind λb=>
(Af b a).bind λ_=>
(Af b a).bind λh=>
(Af b a).bind λ_=>
(Hb b a (CZ h g)).bind λk=>
some (k,0)
abbrev Cv:=Option (LB×Int)
def KS(h:Bool)(f:LB):Cv:=
if(!h)then
some (([]:LB),2)
else
some (f,0)
def Tf:=KS
def NM(mH:Int->Bool->LB->Cv)(a:Int)(g:UInt32)(b:Int)(k:Bool)(m:LB):Cv:=
mH (Aa b 1) k m
def Ux mH:=NM mH
def Wg(j8:Int->Bool->LB->Cv)(j10:Bool->LB->Cv)(a:Int)(g:UInt32)(b:Int)(h:Bool)(f:LB):Cv:=
if(Cd b 32)then
(Ee (Hm b 0)).bind λ_=>
if(geq (Ck (Bn g (GI.toZ b).toNat) 1) 1)then
if(Cd (Aa a b) (Cq 8 (Ac f)))then
(Af f (Jm (Aa a b) 8)).bind λ_=>
(Ee (Hm (Fs (Aa a b) 8) 0)).bind λ_=>
(Af f (Jm (Aa a b) 8)).bind λo=>
(Af f (Jm (Aa a b) 8)).bind λ_=>
(Hb f (Jm (Aa a b) 8) (CZ o (Fa (1:UInt8) (GI.toZ (Fs (Aa a b) 8)).toNat))).bind λp=>
j8 b true p
else
j8 b h f
else
j8 b h f
else
j10 h f
def Lr(a:Int)(g:UInt32):Nat->Int->Bool->LB->Cv
|0,_,_,_=>none
|q+1,b,h,f=>Wg (Ux (Lr a g q) a g) Tf a g b h f
def Wk a g:=Lr a g Cn
def Uu(j6:Int->UInt32->Int->Bool->LB->Cv)(n:LB)(a:Int)(g:UInt32):Cv:=
if((Cd a 0)||(Hm a (Cq 8 (Ac n))))then
some (([]:LB),2)
else
(Lm n).bind λu=>
j6 a g 0 false u
def He:=Uu Wk
def Gz(a b:LB):Option Bool:=
some (a==b)
def Ft(b a:LB):Option Bool:=
if(Hm (Ac b) (Ac a))then
(Dt b 0 (Ac a)).bind λf=>
(Gz f a).bind λg=>
some g
else
some false
abbrev Dx:=Option (Int×Int)
def KF(b:Int):Dx:=
some (b,0)
def Ta:=KF
def Sd(j6:Int->Dx)(CF:Int->Int->Dx)(a:LB)(b f:Int):Dx:=
if(Cd f (Ac a))then
(Af a f).bind λg=>
if(Fg g 127)then
some (0,12)
else
CF (gX (Fa b (GI.toZ (7:UInt64)).toNat) (Al g:Int)) (Aa f 1)
else
j6 b
def Ki(a:LB):Nat->Int->Int->Dx
|0,_,_=>none
|q+1,b,f=>Sd Ta (Ki a q) a b f
def Rw a:=Ki a Cn
def Sy(j4:LB->Int->Int->Dx)(a:LB):Dx:=
if(Bi (Ac a) 4)then
some (0,2)
else
j4 a 0 0
def DW:=Sy Rw
abbrev Cy:=Option (Int×Int)
def NT(a:LB)(b:UInt8)(h:Int):Cy:=
if(Fg h 4000)then
some (0,4)
else
if(Cd (Ac a) h)then
some (0,24)
else
if(geq b 16)then
(Dt a (Ae h 10) h).bind λk=>
(Dt k 0 3).bind λu=>
if(u !=([51,68,73]:LB))then
some (0,12)
else
(Dt k 3 (Ac k)).bind λv=>
(Dt a 3 10).bind λw=>
(Gz v w).bind λy=>
if(!y)then
some (0,12)
else
some (h,0)
else
some (h,0)
def Vn:=NT
def We(j8:LB->UInt8->Int->Cy)(a:LB)(g:Int)(b:UInt8):Cy:=
if(geq b 16)then
j8 a b (Aa (Aa g 10) 10)
else
j8 a b (Aa g 10)
def Wv:=We Vn
def Uv(j7:LB->Int->UInt8->Cy)(a:LB)(g:Int)(b:UInt8)(m:Bool):Cy:=
if m then
some (0,12)
else
j7 a g b
def Uw:=Uv Wv
def Wu(j6:LB->Int->UInt8->Bool->Cy)(a:LB)(f b:UInt8):Cy:=
(Dt a 6 10).bind λaa=>
(DW aa).bind λ(g,ab)=>
if(Bi ab 0)then
if true then
j6 a g b true
else
if(geq b 0)then
j6 a g b (!((Hm f 2)&&(mT f 4)))
else
if(geq b 16)then
j6 a g b (!(geq f 4))
else
j6 a g b (!false)
else
(Af a 4).bind λac=>
if(Bi ac 0)then
j6 a g b true
else
if(geq b 0)then
j6 a g b (!((Hm f 2)&&(mT f 4)))
else
if(geq b 16)then
j6 a g b (!(geq f 4))
else
j6 a g b (!false)
def Vs:=Wu Uw
def Ly(j5:LB->UInt8->UInt8->Cy)(a:LB):Cy:=
(Ft a ([(73:UInt8),(68:UInt8),(51:UInt8)]:LB)).bind λn=>
if(!n)then
some (0,6)
else
if(Cd (Ac a) 10)then
some (0,24)
else
(Af a 3).bind λf=>
(Af a 5).bind λb=>
(
(
(
j5 a f b)))
def GY:=Ly Vs
abbrev Jc:=Option (UInt64×Int)
def XJ(b:UInt64):Jc:=
some (b,0)
def MC:=XJ
def MK(j6:UInt64->Jc)(CF:UInt64->Int->Jc)(a:LB)(b:UInt64)(f:Int):Jc:=
if(Cd f (Ac a))then
(Af a f).bind λg=>
(Ee (Hm (Cq 8 f) 0)).bind λ_=>
CF (gX b (Fa (Al g:UInt64) (GI.toZ (Cq 8 f)).toNat)) (Aa f 1)
else
j6 b
def Xj(a:LB):Nat->UInt64->Int->Jc
|0,_,_=>none
|q+1,b,f=>MK MC (Xj a q) a b f
def MT a:=Xj a Cn
def NJ(j4:LB->UInt64->Int->Jc)(a:LB):Jc:=
if((Cd (Ac a) 1)||(Fg (Ac a) 8))then
some (0,2)
else
j4 a 0 0
def PQ:=NJ MT
def RY(f:LB)(a b:Int):Option (UInt64×Int):=
if(((Cd b 1)||(Fg b 8))||(Cd a 0))then
some (0,2)
else
if(Fg a (Ae (Ac f) b))then
some (0,24)
else
(Dt f a (Aa a b)).bind λg=>
(PQ g).bind λ(h,k)=>
some (h,k)
def aX(g:LB):Option (LB):=
some g
def QO:=aX
def QT(j6:LB->Option (LB))(CF:Int->LB->Option (LB))(a b:Int)(f:UInt64)(h:Int)(g:LB):Option (LB):=
if(Cd h (Ac ([(2000:UInt64),(Al (Aa a 32):UInt64),(Al b:UInt64),f,(0:UInt64),(0:UInt64)]:LQ)))then
(Af ([(2000:UInt64),(Al (Aa a 32):UInt64),(Al b:UInt64),f,(0:UInt64),(0:UInt64)]:LQ) h).bind λ_=>
(Af ([(2000:UInt64),(Al (Aa a 32):UInt64),(Al b:UInt64),f,(0:UInt64),(0:UInt64)]:LQ) h).bind λk=>
(Ld k 4).bind λ(m,o)=>
(Dh g m).bind λn=>
CF (Aa h 1) n
else
j6 g
def GO(a b:Int)(f:UInt64):Nat->Int->LB->Option (LB)
|0,_,_=>none
|q+1,h,g=>QT QO (GO a b f q) a b f h g
def PN a b f:=GO a b f Cn
def SF(j4:Int->Int->UInt64->Int->LB->Option (LB))(a b:Int)(f:UInt64):Option (LB):=
j4 a b f 0 ([(65:UInt8),(80:UInt8),(69:UInt8),(84:UInt8),(65:UInt8),(71:UInt8),(69:UInt8),(88:UInt8)]:LB)
def OC:=SF PN
def CK(b:LB)(g:UInt64):Option (Int×Int×Bool):=
(RY b 12 4).bind λ(a,m)=>
(RY b 16 4).bind λ(f,n)=>
if(((Cd a 32)||(Fg a 3032))||(Fg f 1000))then
some (0,0,false)
else
(OC (Ae (Al a:Int) 32) (Al f:Int) g).bind λh=>
(Gz b h).bind λk=>
some ((Ae (Al a:Int) 32),(Al f:Int),k)
def UF(a:LB):Option (Int×Int):=
(Ft a ([(65:UInt8),(80:UInt8),(69:UInt8),(84:UInt8),(65:UInt8),(71:UInt8),(69:UInt8),(88:UInt8)]:LB)).bind λf=>
if(!f)then
some (0,6)
else
if(Cd (Ac a) 32)then
some (0,24)
else
(Dt a 0 32).bind λg=>
(CK g 2684354560).bind λ(b,h,k)=>
if(!k)then
some (0,12)
else
if(Cd (Ac a) (Aa b 64))then
some (0,24)
else
(Dt a (Ae (Aa b 64) 32) (Aa b 64)).bind λm=>
(OC b h 2147483648).bind λn=>
(Gz m n).bind λo=>
if(!o)then
some (0,12)
else
some ((Aa b 64),0)
def Kn(a:LB):Option (Int×Int):=
(GY a).bind λ(f,b)=>
if(Bi b 6)then
some (f,b)
else
(UF a).bind λ(g,h)=>
some (g,h)
def Kz(b:List UInt8):Nat->Int->Option (Int×Int)
  |0,_=>none
  |q+1,x=>Option.bind (Dt b x (Ac b)) λs=>Option.bind (Kn s) λr=>
    if geq r.2 (6:Int)=true then some (x,0)
    else if(geq r.2 (0:Int)&&Fg (Aa x r.1) (4000:Int))=true then some (0,4)
    else if Bi r.2 (0:Int)=true then some (0,r.2)
    else Kz b q (Aa x r.1)
def Gw(b:List UInt8):Option (Int×Int):=Kz b Cn 0
def Fc(b a:LB):Option Bool:=
if(Hm (Ac b) (Ac a))then
(Dt b 0 (Ac a)).bind λf=>
some (f==a)
else
some false
def Qc(a b:LB):Option Bool:=
(Fc a b).bind λf=>
some f
abbrev Ez:=Option (Int×Int×Int×Int×Int×Int)
def SK(a:LI):Ez:=
(Af a 0).bind λ_=>
(Af a 0).bind λh=>
(Af a 1).bind λ_=>
(Af a 1).bind λk=>
(Af a 2).bind λ_=>
(Af a 2).bind λm=>
(Af a 3).bind λ_=>
(Af a 3).bind λn=>
(Af a 4).bind λ_=>
(Af a 4).bind λo=>
(Qx h k m n o).bind λp=>
if(!p)then
some (0,0,0,0,0,12)
else
(BD h k m n o).bind λu=>
if(!u)then
some (0,0,0,0,0,4)
else
some (h,k,m,n,o,0)
def Xs:=SK
def Xu(j6:LI->Ez)(CF:Int->Int->LI->Ez)(b:LB)(g f:Int)(a:LI):Ez:=
if(Cd f 5)then
(Af ([(2:Int),(2:Int),(2:Int),(4:Int),(4:Int)]:LI) f).bind λh=>
(RY b g h).bind λ(v,ae)=>
(Af a f).bind λ_=>
(Hb a f (Al v:Int)).bind λw=>
CF (Aa g h) (Aa f 1) w
else
j6 a
def Nd(b:LB):Nat->Int->Int->LI->Ez
|0,_,_,_=>none
|q+1,g,f,a=>Xu Xs (Nd b q) b g f a
def Yr b:=Nd b Cn
def AU(j4:LB->Int->Int->LI->Ez)(b:LB):Ez:=
(Dt b 0 (Di 4 (Ac b))).bind λy=>
(Qc ([84,84,65,49]:LB) y).bind λaa=>
if(!aa)then
some (0,0,0,0,0,12)
else
if(Cd (Ac b) 22)then
some (0,0,0,0,0,24)
else
(RY b 18 4).bind λ(ab,af)=>
(Dt b 0 18).bind λac=>
(Kj ac).bind λ(ad,ag)=>
if(Bi (Al ad:UInt64) ab)then
some (0,0,0,0,0,22)
else
j4 b 4 0 (List.replicate 5 (0:Int))
def Qk:=AU Yr
def Hx(g h k a b:Int):Option (LI×Int):=
(Tl g h k a b).bind λf=>
if(Bi f 0)then
some (([]:LI),f)
else
(Lg a b).bind λ(m,n)=>
some (m,n)
def Qb(f:LB):Option (Int×Int×Int×Int×Int×Int×Int×Int×Int×Int×LI×Int):=
if(Fg (Ac f) 100000)then
some (0,0,0,0,0,0,0,0,0,0,([]:LI),4)
else
(Gw f).bind λ(a,n)=>
if(Bi n 0)then
some (0,0,0,0,0,0,0,0,0,0,([]:LI),n)
else
(Dt f a (Ac f)).bind λu=>
(Qk u).bind λ(b,g,h,k,m,o)=>
if(Bi o 0)then
some (b,g,h,k,m,0,0,0,0,0,([]:LI),o)
else
(Hx b g h k m).bind λ(p,v)=>
if(geq b 2)then
some (b,g,h,k,m,a,(Aa a 22),(Aa (Aa a 22) 8),0,0,p,0)
else
some (b,g,h,k,m,a,(Aa a 22),(Aa a 22),0,0,p,0)
def Uk(a f:LB):Option (Bool×Int):=
(Ud f).bind λ(b,g)=>
if((Bi g 0)||(Bi (Ac a) (Ac b)))then
some (false,2)
else
(Gz a b).bind λh=>
some (h,0)
abbrev Fk:=Option (LI×Int)
def TM(a:LI):Fk:=
(Qt a).bind λk=>
if(Bi k 0)then
some (([]:LI),12)
else
some (a,0)
def DE:=TM
def DV(j6:LI->Fk)(CF:Int->LI->Fk)(b:LB)(f:LI)(g:Int)(a:LI):Fk:=
if(Cd g (Ac f))then
(RY b (Cq 4 g) 4).bind λ(k,u)=>
(Af a g).bind λ_=>
(Hb a g (Al k:Int)).bind λm=>
CF (Aa g 1) m
else
j6 a
def Rh(b:LB)(f:LI):Nat->Int->LI->Fk
|0,_,_=>none
|q+1,g,a=>DV DE (Rh b f q) b f g a
def EA b f:=Rh b f Cn
def EX(j4:LB->LI->Int->LI->Fk)(b:LB)(h:Int):Fk:=
if((Cd h 1)||(Fg h 1000))then
some (([]:LI),2)
else
if(Cd (Ac b) (Aa (Cq 4 h) 4))then
some (([]:LI),24)
else
(RY b (Cq 4 h) 4).bind λ(n,v)=>
(Dt b 0 (Cq 4 h)).bind λo=>
(Kj o).bind λ(p,w)=>
if(Bi (Al p:UInt64) n)then
some (([]:LI),22)
else
(ZY h (0:Int)).bind λf=>
(Ee (geq h h)).bind λ_=>
j4 b f 0 f
def Ty:=EX EA
def Zm(a:LB):Option (LB×Int):=
if(Cd (Ac a) 5)then
some (([]:LB),24)
else
if(Fg (Ac a) 41254)then
some (([]:LB),4)
else
(Dt a 0 (Ae (Ac a) 4)).bind λf=>
(Kj f).bind λ(g,b)=>
if(Bi b 0)then
some (([]:LB),b)
else
(Dt a (Ae (Ac a) 4) (Ac a)).bind λh=>
(PQ h).bind λ(k,m)=>
if((Bi m 0)||(Bi k (Al g:UInt64)))then
some (([]:LB),22)
else
(Dt a 0 (Ae (Ac a) 4)).bind λn=>
some (n,0)
def dI(a:LB):Option (LB×Int×Int):=
if(Fg (Ac a) 41250)then
some (([]:LB),0,4)
else
(Db a).bind λb=>
some (b,(Cq 8 (Ac a)),0)
def ZM(g:UInt64):Option UInt64:=
some g
def MS:=ZM
def MO(j6:UInt64->Option UInt64)(CF:UInt64->Int->Option UInt64)(b f:Int)(h:LB)(k:Int)(g:UInt64)(a:Int):Option UInt64:=
if(Cd a f)then
(Af h (aZ (Aa b a) (GI.toZ (3:UInt64)).toNat)).bind λm=>
(Ee (Hm (Ck (Aa b a) 7) 0)).bind λ_=>
(Ee (Hm (Di (Ae f a) (Ae 8 (Ck (Aa b a) 7))) 0)).bind λ_=>
(Ee (Hm a 0)).bind λ_=>
CF (gX g (Fa (Al (Ck (Bn m (GI.toZ (Ck (Aa b a) 7)).toNat) (Ae (Fa (1:UInt8) (GI.toZ (Di (Ae f a) (Ae 8 (Ck (Aa b a) 7)))).toNat) 1)):UInt64) (GI.toZ a).toNat)) (Aa a (Di (Ae f a) (Ae 8 (Ck (Aa b a) 7))))
else
j6 g
def Zs(b f:Int)(h:LB)(k:Int):Nat->UInt64->Int->Option UInt64
|0,_,_=>none
|q+1,g,a=>MO MS (Zs b f h k q) b f h k g a
def MJ b f h k:=Zs b f h k Cn
def LM(j4:Int->Int->LB->Int->UInt64->Int->Option UInt64)(h:LB)(k b f:Int):Option UInt64:=
j4 b f h k 0 0
def SB:=LM MJ
abbrev Bu:=Option (LB×Int×Int)
def WI(o:Int)(p:LB):Bu:=
some (p,o,0)
def HI:=WI
def VL(Us:Int->Int->LB->Bu)(a:Int)(g:LB)(f b h:Int)(u:LB):Bu:=
Us (Aa b 64) h u
def GU Us:=VL Us
def VM(TA:UInt64->Int->Int->LB->Bu)(a b:Int)(g:LB)(f:Int)(k n:UInt64)(m h:Int)(w:LB):Bu:=
(Ee (Hm (Di m (Ae 8 (Ck h 7))) 0)).bind λ_=>
TA (Bn n (GI.toZ (Di m (Ae 8 (Ck h 7)))).toNat) (Ae m (Di m (Ae 8 (Ck h 7)))) (Aa h (Di m (Ae 8 (Ck h 7)))) w
def IP TA:=VM TA
def JO(j48:UInt64->Int->Int->LB->Bu)(a b:Int)(g:LB)(f:Int)(k n:UInt64)(m h:Int)(v:LB):Bu:=
(Af v (Ae (Ac v) 1)).bind λ_=>
(Ee (Hm (Di m (Ae 8 (Ck h 7))) 0)).bind λ_=>
(Ee (Hm (Ck h 7) 0)).bind λ_=>
(Af v (Ae (Ac v) 1)).bind λaa=>
(Af v (Ae (Ac v) 1)).bind λ_=>
Option.bind (Hb v (Ae (Ac v) 1) (gX aa (Fa (Al (Ck n (Ae (Fa (1:UInt64) (GI.toZ (Di m (Ae 8 (Ck h 7)))).toNat) 1)):UInt8) (GI.toZ (Ck h 7)).toNat))) λw=>
j48 n m h w
def HZ TA a b g f k:=JO (IP TA a b g f k) a b g f k
def HP(j47:UInt64->Int->Int->LB->Bu)(j50:Int->Int->LB->Bu)(a:Int)(g:LB)(f b:Int)(k n:UInt64)(m h:Int)(u:LB):Bu:=
if(Fg m 0)then
if(geq (Ck h 7) 0)then
(Dh u ([(0:UInt8)]:LB)).bind λab=>
j47 n m h ab
else
j47 n m h u
else
j50 b h u
def Ts(Us:Int->Int->LB->Bu)(a:Int)(g:LB)(f b:Int)(k:UInt64):Nat->UInt64->Int->Int->LB->Bu
|0,_,_,_,_=>none
|q+1,n,m,h,u=>HP (HZ (Ts Us a g f b k q) a b g f k) (GU Us a g f) a g f b k n m h u
def IX Us a g f b k:=Ts Us a g f b k Cn
def IU(j44:Int->UInt64->UInt64->Int->Int->LB->Bu)(j52:Int->LB->Bu)(a:Int)(g:LB)(f b o:Int)(p:LB):Bu:=
if(Cd b a)then
(SB g f b (Di 64 (Ae a b))).bind λk=>
j44 b k k (Di 64 (Ae a b)) o p
else
j52 o p
def Tp(a:Int)(g:LB)(f:Int):Nat->Int->Int->LB->Bu
|0,_,_,_=>none
|q+1,b,o,p=>IU (IX (Tp a g f q) a g f) HI a g f b o p
def GQ a g f:=Tp a g f Cn
def MR(j27:Int->LB->Int->Int->Int->LB->Bu)(g:LB)(f y a:Int):Bu:=
(Em g f).bind λac=>
if(Bi ac 0)then
some (([]:LB),0,8)
else
if(((Cd y 0)||(Fg y a))||(Fg a f))then
some (([]:LB),0,2)
else
j27 a g f y 0 ([]:LB)
def QZ:=MR GQ
def Oo(g:LB)(b f a:Int):Option (UInt64×Int):=
(Em g b).bind λh=>
if(Bi h 0)then
some (0,8)
else
if(((Cd a 0)||(Fg a 64))||(Cd f 0))then
some (0,2)
else
if(Fg f (Ae b a))then
some (0,24)
else
(SB g b f a).bind λk=>
some (k,0)
def Hf(a:UInt64):Option Int:=
if(geq a 0)then
some 64
else
(Af ([(0:UInt8),(1:UInt8),(56:UInt8),(2:UInt8),(57:UInt8),(49:UInt8),(28:UInt8),(3:UInt8),(61:UInt8),(58:UInt8),(42:UInt8),(50:UInt8),(38:UInt8),(29:UInt8),(17:UInt8),(4:UInt8),(62:UInt8),(47:UInt8),(59:UInt8),(36:UInt8),(45:UInt8),(43:UInt8),(51:UInt8),(22:UInt8),(53:UInt8),(39:UInt8),(33:UInt8),(30:UInt8),(24:UInt8),(18:UInt8),(12:UInt8),(5:UInt8),(63:UInt8),(55:UInt8),(48:UInt8),(27:UInt8),(60:UInt8),(41:UInt8),(37:UInt8),(16:UInt8),(46:UInt8),(35:UInt8),(44:UInt8),(21:UInt8),(52:UInt8),(32:UInt8),(23:UInt8),(11:UInt8),(54:UInt8),(26:UInt8),(40:UInt8),(15:UInt8),(34:UInt8),(20:UInt8),(31:UInt8),(10:UInt8),(25:UInt8),(14:UInt8),(19:UInt8),(9:UInt8),(13:UInt8),(8:UInt8),(7:UInt8),(6:UInt8)]:LB) (GI.toZ (Bn (Cq (Ck a (eC a)) 285870213051353865) (GI.toZ (58:UInt64)).toNat))).bind λb=>
some (Al b:Int)
abbrev Cw:=Option (Int×Int×Int)
def QE:Cw:=
some (0,0,24)
def Yz:=QE
def ER(j10:Cw):Cw:=
j10
def DL:=ER Yz
def DQ(j9:Cw)(f a:Int):Cw:=
if(geq f 48)then
some (f,(Aa 0 (Aa a f)),0)
else
j9
def EE:=DQ DL
def DZ(j8:Int->Int->Cw)(f b a:Int):Cw:=
if(Cd f (Di 48 (Ae b a)))then
some (f,(Aa (Aa (0:Int) (1:Int)) (Aa a f)),0)
else
j8 f a
def EN:=DZ EE
def EH(j7:Int->Int->Int->Cw)(h:Int)(k:UInt64)(a:Int)(g:LB)(b:Int):Cw:=
if(Bi h 0)then
some (0,0,h)
else
(Hf (iC k)).bind λf=>
j7 f b a
def DO:=EH EN
def Rm(j6:Int->UInt64->Int->LB->Int->Cw)(g:LB)(b a:Int):Cw:=
(Em g b).bind λm=>
if(Bi m 0)then
some (0,0,m)
else
if(Cd a 0)then
some (0,0,2)
else
if(Hm a b)then
some (0,0,24)
else
(
(
(Oo g b a (Di 48 (Ae b a))).bind λ(k,h)=>
j6 h k a g b))
def RD:=Rm DO
abbrev AQ:=Option (UInt32×Int×Int)
def VP(a b f:Int)(g:LB)(h k:Int):AQ:=
(Oo g h b k).bind λ(m,n)=>
if(Bi n 0)then
some (0,0,n)
else
if(Cd f 48)then
(Ee (Hm a 0)).bind λ_=>
some ((gX (Fa (Al f:UInt32) (GI.toZ a).toNat) (Al m:UInt32)),(Aa b k),0)
else
(Un (Al m:UInt32) a).bind λu=>
if(!u)then
some (0,0,12)
else
some ((Al m:UInt32),(Aa b k),0)
def JC:=VP
def IJ(j2:Int->Int->Int->LB->Int->Int->AQ)(g:LB)(h v a:Int):AQ:=
(Em g h).bind λo=>
if(Bi o 0)then
some (0,0,o)
else
if((Cd a 0)||(Fg a 24))then
some (0,0,2)
else
(RD g h v).bind λ(f,b,p)=>
if(Bi p 0)then
some (0,0,p)
else
if(geq f 48)then
j2 a b f g h 32
else
j2 a b f g h a
def UK:=IJ JC
abbrev Ds:=Option (UInt32×Int×Int×Int×UInt64×UInt64×Int)
def TE(f:UInt32)(k w m:Int)(a n:UInt64):Ds:=
some (f,k,w,m,(Aa a (Ae (Al f:UInt64) (Bn a (GI.toZ (4:UInt64)).toNat))),n,0)
def DT:=TE
def IY(j10:UInt32->Int->Int->Int->UInt64->UInt64->Ds)(f:UInt32)(k m:Int)(a n:UInt64)(w:Int):Ds:=
j10 f k w m a n
def GW:=IY DT
def JI(j9:UInt32->Int->Int->UInt64->UInt64->Int->Ds)(f:UInt32)(k b:Int)(a:UInt64)(m:Int)(n:UInt64):Ds:=
if(Fg b 0)then
(Ee (Hm b 0)).bind λ_=>
if(Cd (Aa a (Ae (Al f:UInt64) (Bn a (GI.toZ (4:UInt64)).toNat))) (Fa (16:UInt64) (GI.toZ b).toNat))then
j9 f k m a n (Ae b 1)
else
if(Cd b 24)then
(Ee (Hm b 0)).bind λ_=>
if(Fg (Aa a (Ae (Al f:UInt64) (Bn a (GI.toZ (4:UInt64)).toNat))) (Fa (32:UInt64) (GI.toZ b).toNat))then
j9 f k m a n (Aa b 1)
else
j9 f k m a n b
else
j9 f k m a n b
else
if(Cd b 24)then
(Ee (Hm b 0)).bind λ_=>
if(Fg (Aa a (Ae (Al f:UInt64) (Bn a (GI.toZ (4:UInt64)).toNat))) (Fa (32:UInt64) (GI.toZ b).toNat))then
j9 f k m a n (Aa b 1)
else
j9 f k m a n b
else
j9 f k m a n b
def JA:=JI GW
def HJ(j8:UInt32->Int->Int->UInt64->Int->UInt64->Ds)(b h:Int)(a g:UInt64)(f:UInt32)(k:Int):Ds:=
(Ue b h a g f).bind λ(ad,o)=>
if(geq ad 1)then
if(Fg h 0)then
(Ee (Hm h 0)).bind λ_=>
if(Cd (Aa g (Ae (Al o:UInt64) (Bn g (GI.toZ (4:UInt64)).toNat))) (Fa (16:UInt64) (GI.toZ h).toNat))then
j8 f k b a (Ae h 1) (Aa g (Ae (Al o:UInt64) (Bn g (GI.toZ (4:UInt64)).toNat)))
else
if(Cd h 24)then
(Ee (Hm h 0)).bind λ_=>
if(Fg (Aa g (Ae (Al o:UInt64) (Bn g (GI.toZ (4:UInt64)).toNat))) (Fa (32:UInt64) (GI.toZ h).toNat))then
j8 f k b a (Aa h 1) (Aa g (Ae (Al o:UInt64) (Bn g (GI.toZ (4:UInt64)).toNat)))
else
j8 f k b a h (Aa g (Ae (Al o:UInt64) (Bn g (GI.toZ (4:UInt64)).toNat)))
else
j8 f k b a h (Aa g (Ae (Al o:UInt64) (Bn g (GI.toZ (4:UInt64)).toNat)))
else
if(Cd h 24)then
(Ee (Hm h 0)).bind λ_=>
if(Fg (Aa g (Ae (Al o:UInt64) (Bn g (GI.toZ (4:UInt64)).toNat))) (Fa (32:UInt64) (GI.toZ h).toNat))then
j8 f k b a (Aa h 1) (Aa g (Ae (Al o:UInt64) (Bn g (GI.toZ (4:UInt64)).toNat)))
else
j8 f k b a h (Aa g (Ae (Al o:UInt64) (Bn g (GI.toZ (4:UInt64)).toNat)))
else
j8 f k b a h (Aa g (Ae (Al o:UInt64) (Bn g (GI.toZ (4:UInt64)).toNat)))
else
j8 f k b a h g
def HN:=HJ JA
def HV(j7:Int->Int->UInt64->UInt64->UInt32->Int->Ds)(p:Int)(u:LB)(v b h:Int)(a g:UInt64):Ds:=
(Oo u v p 1).bind λ(ae,aa)=>
if(Bi aa 0)then
some (0,0,0,0,0,0,aa)
else
if(geq ae 0)then
(Oo u v (Aa p 1) b).bind λ(af,ab)=>
if(Bi ab 0)then
some (0,0,0,0,0,0,ab)
else
j7 b h a g (Al af:UInt32) (Aa (Aa p 1) b)
else
(UK u v (Aa p 1) h).bind λ(y,ag,ac)=>
if(Bi ac 0)then
some (0,0,0,0,0,0,ac)
else
(Ee (Hm b 0)).bind λ_=>
if(Cd (Aa y (Fa (1:UInt32) (GI.toZ b).toNat)) y)then
some (0,0,0,0,0,0,12)
else
j7 b h a g (Aa y (Fa (1:UInt32) (GI.toZ b).toNat)) ag
def JL:=HV HN
def JP(j6:Int->LB->Int->Int->Int->UInt64->UInt64->Ds)(u:LB)(v p b h:Int)(a g:UInt64):Ds:=
(Em u v).bind λah=>
if(Bi ah 0)then
some (0,0,0,0,0,0,8)
else
(GA b h a g).bind λai=>
if(Bi ai 0)then
some (0,0,0,0,0,0,8)
else
j6 p u v b h a g
def Sg:=JP JL
abbrev As:=Option (LU×Int×Int)
def FP(k:Int)(m:LU):As:=
some (m,k,0)
def Ox:=FP
def FY(Fu:Int->Int-> (List (Int×Int×UInt64×UInt64×Unit))->LU->As)(a f:Int)(g:LB)(b k v:Int)(w:UInt32)(h:Int)(ag:List (Int×Int×UInt64×UInt64×Unit))(m:LU):As:=
(Dh m ([w]:LU)).bind λak=>
Fu (Aa k v) (Aa h 1) ag ak
def Nk Fu:=FY Fu
def Od(j22:Int->Int->UInt32->Int-> (List (Int×Int×UInt64×UInt64×Unit))->LU->As)(a f:Int)(g:LB)(b k h y:Int)(w:UInt32)(v:Int)(n:List (Int×Int×UInt64×UInt64×Unit))(m:LU)(aa ab:Int)(ac ad:UInt64):As:=
if(Bi y 0)then
some (([]:LU),0,y)
else
(Ee (Bi a 0)).bind λ_=>
(Af n (Fs h a)).bind λ_=>
(Hb n (Fs h a) (aa,ab,ac,ad,())).bind λag=>
j22 k v w h ag m
def Of Fu a f g b:=Od (Nk Fu a f g b) a f g b
def Ja(j21:Int->Int->Int->UInt32->Int-> (List (Int×Int×UInt64×UInt64×Unit))->LU->Int->Int->UInt64->UInt64->As)(j24:Int->LU->As)(a f:Int)(g:LB)(b k h:Int)(n:List (Int×Int×UInt64×UInt64×Unit))(m:LU):As:=
if(Cd h (Cq f a))then
(QZ g b k (Di (Aa k 81) b)).bind λ(ah,ae,af)=>
if(Bi af 0)then
some (([]:LU),0,af)
else
(Ee (Bi a 0)).bind λ_=>
(Af n (Fs h a)).bind λ_=>
(
(
(Af n (Fs h a)).bind λp=>
(
(Sg ah ae 0 p.1 p.2.1 p.2.2.1 p.2.2.2.1).bind λ(w,v,aa,ab,ac,ad,y)=>
j21 k h y w v n m aa ab ac ad)))
else
j24 k m
def Ir(a f:Int)(g:LB)(b:Int):Nat->Int->Int-> (List (Int×Int×UInt64×UInt64×Unit))->LU->As
|0,_,_,_,_=>none
|q+1,k,h,n,m=>Ja (Of (Ir a f g b q) a f g b) Ox a f g b k h n m
def Pk a f g b:=Ir a f g b Cn
def Nc(j16:Int->Int->LB->Int->Int->Int-> (List (Int×Int×UInt64×UInt64×Unit))->LU->As)(a f:Int)(g:LB)(b:Int)(o:List (Int×Int×UInt64×UInt64×Unit)):As:=
j16 a f g b 0 0 o ([]:LU)
def Mz:=Nc Pk
def Nm(j15:Int->Int->LB->Int-> (List (Int×Int×UInt64×UInt64×Unit))->As)(jI:Int-> (List (Int×Int×UInt64×UInt64×Unit))->As)(a f:Int)(g:LB)(b u:Int)(o:List (Int×Int×UInt64×UInt64×Unit)):As:=
if(Cd u 6)then
(GP).bind λ(al,ae,af,am)=>
(Af o u).bind λ_=>
(Hb o u (al,ae,af,am,())).bind λan=>
jI (Aa u 1) an
else
j15 a f g b o
def Is(a f:Int)(g:LB)(b:Int):Nat->Int-> (List (Int×Int×UInt64×UInt64×Unit))->As
|0,_,_=>none
|q+1,u,o=>Nm Mz (Is a f g b q) a f g b u o
def Po a f g b:=Is a f g b Cn
def Qm(j13:Int->Int->LB->Int->Int-> (List (Int×Int×UInt64×UInt64×Unit))->As)(a f:Int)(g:LB)(b:Int):As:=
j13 a f g b 0 (List.replicate 6 ((0:Int),(0:Int),(0:UInt64),(0:UInt64),()))
def Zh:=Qm Po
def Ks(a:UInt32):Option Int32:=
some (CZ (Al (Bn a (GI.toZ (1:UInt64)).toNat):Int32) (eC (Al (Ck a 1):Int32)))
def SL(b:Int)(f g:LX)(a:Int32):Option (Int32×Int×LX×LX×Int):=
(FN b f g).bind λ(h,k)=>
if(Bi k 0)then
some (0,0,(List.replicate 16 (0:Int32)),(List.replicate 16 (0:Int32)),k)
else
(FD b f g (Aa a h) a).bind λ(m,n,o)=>
some ((Aa a h),m,n,o,0)
def Ex(a:Int)(b:Int32)(f:Int)(g h:LX)(o:Int32):Option (Int32×Int×Int32×Int×LX×LX×Int):=
(Li a b f g h).bind λk=>
if(Bi k 0)then
some (0,0,0,0,(List.replicate 16 (0:Int32)),(List.replicate 16 (0:Int32)),k)
else
(Lk a b).bind λ(m,y)=>
(SL f g h o).bind λ(n,p,u,v,w)=>
(
some ((Aa n m),a,(Aa n m),p,u,v,w))
abbrev Ch:=Option (LX×Int)
def VI(f:LX):Ch:=
some (f,0)
def HK:=VI
def VU(Rr:Int->LX->Ch)(b a:Int)(h:LX):Ch:=
Rr (Aa a b) h
def IG Rr:=VU Rr
def HD(j20:Int->LX->Ch)(sK:Int->LX->Ch)(b a g:Int)(h:LX):Ch:=
if(Hm g 0)then
(Ee (decide (0<= (Aa g 1)/\ (Aa g 1)<((Aa a b)-a)))).bind λ_=>
(Ee (decide (0<=g/\g<((Aa a b)-a)))).bind λ_=>
(Af h (a+(Aa g 1))).bind λo=>
(Af h (a+g)).bind λp=>
(Ee (decide (0<=g/\g<((Aa a b)-a)))).bind λ_=>
(Hb h (a+g) (Ae o p)).bind λu=>
sK (Ae g 1) u
else
j20 a h
def Ug(Rr:Int->LX->Ch)(b a:Int):Nat->Int->LX->Ch
|0,_,_=>none
|q+1,g,h=>HD (IG Rr b) (Ug Rr b a q) b a g h
def HH Rr b a:=Ug Rr b a Cn
def GR(j18:Int->Int->LX->Ch)(b a:Int)(k:LX):Ch:=
j18 a (Ae (Ae ((Aa a b)-a) 1) 1) k
def IV Rr b:=GR (HH Rr b) b
def HE(j17:Int->LX->Ch)(j22:LX->Ch)(b a:Int)(f:LX):Ch:=
if(Cd a (Ac f))then
(TB (Ac f) a (Aa a b)).bind λ_=>
if(Fg (Ae ((Aa a b)-a) 1) 0)then
(Ee (decide (0<= (Ae ((Aa a b)-a) 1)/\ (Ae ((Aa a b)-a) 1)<((Aa a b)-a)))).bind λ_=>
Option.bind (Ee (decide (0<= (Ae (Ae ((Aa a b)-a) 1) 1)/\ (Ae (Ae ((Aa a b)-a) 1) 1)<((Aa a b)-a)))) λ_=>
(Af f (a+(Ae ((Aa a b)-a) 1))).bind λv=>
(Af f (a+(Ae (Ae ((Aa a b)-a) 1) 1))).bind λw=>
(Ee (decide (0<= (Ae ((Aa a b)-a) 1)/\ (Ae ((Aa a b)-a) 1)<((Aa a b)-a)))).bind λ_=>
(Hb f (a+(Ae ((Aa a b)-a) 1)) (Aa v (Jm w 2))).bind λy=>
j17 a y
else
j17 a f
else
j22 f
def Uc(b:Int):Nat->Int->LX->Ch
|0,_,_=>none
|q+1,a,f=>HE (IV (Uc b q) b) HK b a f
def IM b:=Uc b Cn
def NG(j12:Int->Int->LX->Ch)(b:Int)(m:LX):Ch:=
(KR b m).bind λn=>
if(Bi n 0)then
some (([]:LX),n)
else
(Ci m).bind λaa=>
j12 b 0 aa
def YB:=NG IM
abbrev Ay:=Option (LX×Int)
def CT(a b:Int)(k:LX):Ay:=
(YB a k).bind λ(ah,af)=>
if(Bi af 0)then
some (([]:LX),af)
else
(Lj b ah).bind λae=>
if(Bi ae 0)then
some (([]:LX),ae)
else
some (ah,0)
def Mg:=CT
def CX(jI:Int-> (List (Int×Int32×(Int×LX×LX×Unit)×Unit))->LX->Ay)(a:Int)(f:LU)(b g:Int)(w:Int32)(u:Int)(h:List (Int×Int32×(Int×LX×LX×Unit)×Unit))(k:LX)(y:Int)(v:Int32)(aa:Int)(ab ac:LX):Ay:=
if(Bi u 0)then
some (([]:LX),u)
else
(Hb h (Fs g a) (y,v,(aa,ab,ac,()),())).bind λai=>
(Dh k ([w]:LX)).bind λaj=>
jI (Aa g 1) ai aj
def Mh jI:=CX jI
def Hr(j16:Int->Int32->Int-> (List (Int×Int32×(Int×LX×LX×Unit)×Unit))->LX->Int->Int32->Int->LX->LX->Ay)(j18:Int->Int->LX->Ay)(f:LU)(a b g:Int)(h:List (Int×Int32×(Int×LX×LX×Unit)×Unit))(k:LX):Ay:=
if(Cd g (Ac f))then
(Af f g).bind λag=>
(Ee (Bi a 0)).bind λ_=>
(Af h (Fs g a)).bind λ_=>
(
(Af h (Fs g a)).bind λm=>
(
(Ks ag).bind λae=>
(
(Ex m.1 m.2.1 m.2.2.1.1 m.2.2.1.2.1 m.2.2.1.2.2.1 ae).bind λ(w,y,v,aa,ab,ac,u)=>
j16 g w u h k y v aa ab ac)))
else
j18 a b k
def Ht(f:LU)(a b:Int):Nat->Int-> (List (Int×Int32×(Int×LX×LX×Unit)×Unit))->LX->Ay
|0,_,_,_=>none
|q+1,g,h,k=>Hr (Mh (Ht f a b q) a f b) Mg f a b g h k
def Mm f a b:=Ht f a b Cn
def Mj(j13:LU->Int->Int->Int-> (List (Int×Int32×(Int×LX×LX×Unit)×Unit))->LX->Ay)(f:LU)(a b:Int)(n:List (Int×Int32×(Int×LX×LX×Unit)×Unit)):Ay:=
j13 f a b 0 n ([]:LX)
def Ml:=Mj Mm
def Mk(j12:LU->Int->Int-> (List (Int×Int32×(Int×LX×LX×Unit)×Unit))->Ay)(oU:Int-> (List (Int×Int32×(Int×LX×LX×Unit)×Unit))->Ay)(f:LU)(a b:Int)(o:LX)(p:Int)(n:List (Int×Int32×(Int×LX×LX×Unit)×Unit)):Ay:=
if(Cd p 6)then
(KY b o).bind λ(ak,af,ae,al,am,v)=>
(Af n p).bind λ_=>
(Hb n p (ak,af,(ae,al,am,()),())).bind λan=>
oU (Aa p 1) an
else
j12 f a b n
def Hv(f:LU)(a b:Int)(o:LX):Nat->Int-> (List (Int×Int32×(Int×LX×LX×Unit)×Unit))->Ay
|0,_,_=>none
|q+1,p,n=>Mk Ml (Hv f a b o q) f a b o p n
def Mi f a b o:=Hv f a b o Cn
def Ph(j10:LU->Int->Int->LX->Int-> (List (Int×Int32×(Int×LX×LX×Unit)×Unit))->Ay)(a b:Int)(o:LX)(f:LU):Ay:=
j10 f a b o 0 (List.replicate 6 ((0:Int),(0:Int32),((0:Int),(List.replicate 16 (0:Int32)),(List.replicate 16 (0:Int32)),()),()))
def Vt:=Ph Mi
def Mx(a h:Int)(u:LX)(f:Int)(v:LB):Option (LX×Int):=
(La a h).bind λk=>
if(Bi k 0)then
some (([]:LX),k)
else
if(Cd f 1)then
some (([]:LX),2)
else
(Ee (Bi a 0)).bind λ_=>
if(Fg f (Jm 4000 a))then
some (([]:LX),2)
else
(Zm v).bind λ(w,m)=>
if(Bi m 0)then
some (([]:LX),m)
else
(dI w).bind λ(n,b,o)=>
if(Bi o 0)then
some (([]:LX),o)
else
(Zh a f n b).bind λ(y,g,p)=>
if(Bi p 0)then
some (([]:LX),p)
else
if(Hm (Ae b g) 8)then
some (([]:LX),12)
else
(Oo n b g (Ae b g)).bind λ(aa,ab)=>
if((Bi ab 0)||(Bi aa 0))then
some (([]:LX),12)
else
(Vt a h u y).bind λ(ac,ad)=>
some (ac,ad)
abbrev GJ:=Option (Int×Int)
def YU(a:LB):GJ:=
(Dt a (Ae (Ac a) 32) (Ac a)).bind λg=>
(CK g 0).bind λ(f,y,h)=>
if h then
if(Cd (Ae (Ac a) 32) f)then
some (0,24)
else
some ((Aa f 32),0)
else
(Dt a (Ae (Ac a) 32) (Ac a)).bind λk=>
(CK k 2147483648).bind λ(b,m,n)=>
if(!n)then
some (0,12)
else
if(Cd (Ac a) (Aa b 64))then
some (0,24)
else
(Dt a (Ae (Ac a) (Aa b 64)) (Aa (Ae (Ac a) (Aa b 64)) 32)).bind λo=>
(OC b m 2684354560).bind λp=>
(Gz o p).bind λu=>
if(!u)then
some (0,12)
else
some ((Aa b 64),0)
def KZ:=YU
def MN(j2:LB->GJ)(a:LB):GJ:=
if(Cd (Ae (Ac a) 32) 0)then
some (0,6)
else
(Dt a (Ae (Ac a) 32) (Ac a)).bind λv=>
(Ft v ([(65:UInt8),(80:UInt8),(69:UInt8),(84:UInt8),(65:UInt8),(71:UInt8),(69:UInt8),(88:UInt8)]:LB)).bind λw=>
if(!w)then
some (0,6)
else
j2 a
def XV:=MN KZ
abbrev Cb:=Option (Int×Int)
def KP(a:Int):Cb:=
some (a,0)
def Te:=KP
def KU(WZ:Int->LB->Cb)(a:Int)(g:LB):Cb:=
WZ (Aa a 1) g
def Tj WZ:=KU WZ
def Td(j12:Int->LB->Cb)(a f:Int)(b:LB):Cb:=
if(geq f 0)then
some (0,38)
else
(Dt b 0 (Ae (Ac b) f)).bind λg=>
j12 a g
def Sj WZ:=Td (Tj WZ)
def Wr(j11:Int->Int->LB->Cb)(j14:Int->Cb)(a:Int)(b:LB):Cb:=
if(Fg (Ac b) 0)then
(XV b).bind λ(f,k)=>
j11 a f b
else
j14 a
def Ls:Nat->Int->LB->Cb
|0,_,_=>none
|q+1,a,b=>Wr (Sj (Ls q)) Te a b
def Wa:=Ls Cn
def Wi(j8:Int->LB->Cb)(h:LB):Cb:=
if(Fg (Ac h) 4000)then
some (0,38)
else
j8 0 h
def HL:=Wi Wa
abbrev Ar:=Option (Int×Int×Int×LX×Int)
def OM(a:LB)(aa b f h:Int)(ad:LX):Ar:=
(Dt a aa (Ac a)).bind λaq=>
(HL aq).bind λ(bb,ar)=>
if(Bi ar 0)then
some (0,0,0,([]:LX),38)
else
some (b,f,h,ad,0)
def Zb:=OM
def QB(bR:Int->Int->LX->Ar)(a:LB)(w:LI)(m b f h o p n g y ab:Int)(ac:LX)(k:LI)(aa aj ak ae:Int)(am ad:LX):Ar:=
if(Bi ak 0)then
some (0,0,0,([]:LX),ak)
else
(Dh ad am).bind λau=>
bR (Aa aa aj) (Aa ae 1) au
def Yu bR:=QB bR
def AK(j24:Int->Int->Int->Int->LX->LX->Ar)(j26:LB->Int->Int->Int->Int->LX->Ar)(a:LB)(w:LI)(m b f h o p n g y ab:Int)(ac:LX)(k:LI)(aa ae:Int)(ad:LX):Ar:=
if(Cd ae (Ac w))then
(Af w ae).bind λ_=>
(Af w ae).bind λaj=>
if(Cd (Ac a) (Aa aa aj))then
some (0,0,0,([]:LX),24)
else
(Af k ae).bind λ_=>
(Dt a aa (Aa aa aj)).bind λav=>
(Af k ae).bind λaw=>
(Mx b f ac aw av).bind λ(am,ak)=>
j24 aa aj ak ae am ad
else
j26 a aa b f h ad
def Nt(a:LB)(w:LI)(m b f h o p n g y ab:Int)(ac:LX)(k:LI):Nat->Int->Int->LX->Ar
|0,_,_,_=>none
|q+1,aa,ae,ad=>AK (Yu (Nt a w m b f h o p n g y ab ac k q) a w m b f h o p n g y ab ac k) Zb a w m b f h o p n g y ab ac k aa ae ad
def Yy a w m b f h o p n g y ab ac k:=Nt a w m b f h o p n g y ab ac k Cn
def Zq(j21:LB->LI->Int->Int->Int->Int->Int->Int->Int->Int->Int->Int->LX->LI->Int->Int->LX->Ar)(a u:LB)(m b f h o p n g:Int)(k:LI)(an y ab:Int)(w:LI):Ar:=
if(Bi an 0)then
some (0,0,0,([]:LX),an)
else
(Mu u).bind λ(ac,bc)=>
j21 a w m b f h o p n g y ab ac k y 0 ([]:LX)
def Js:=Zq Yy
def Xv(j20:LB->LB->Int->Int->Int->Int->Int->Int->Int->Int->LI->Int->Int->Int->LI->Ar)(a u:LB)(v:LI)(m b f h o p n g af:Int)(k:LI):Ar:=
j20 a u m b f h o p n g k 0 (Aa (Aa g (Cq 4 (Ac v))) 4) af v
def Yq:=Xv Js
def Za(j19:LB->LB->LI->Int->Int->Int->Int->Int->Int->Int->Int->Int->LI->Ar)(oT:Int->Int->Ar)(v:LI)(a u:LB)(m b f h o p n g:Int)(k:LI)(ag af:Int):Ar:=
if(Cd ag (Ac v))then
(Af v ag).bind λ_=>
(Af v ag).bind λax=>
oT (Aa ag 1) (Aa af ax)
else
j19 a u v m b f h o p n g af k
def Ng(v:LI)(a u:LB)(m b f h o p n g:Int)(k:LI):Nat->Int->Int->Ar
|0,_,_=>none
|q+1,ag,af=>Za Yq (Ng v a u m b f h o p n g k q) v a u m b f h o p n g k ag af
def Xf v a u m b f h o p n g k:=Ng v a u m b f h o p n g k Cn
def Xt(j20:LB->LB->Int->Int->Int->Int->Int->Int->Int->Int->LI->Int->Int->Int->LI->Ar)(j17:LI->LB->LB->Int->Int->Int->Int->Int->Int->Int->Int->LI->Int->Int->Ar)(al:Int)(a u:LB)(m b f h o p n g ah ai:Int)(v k:LI):Ar:=
if(Bi al 0)then
j20 a u m b f h o p n g k al ah ai ([]:LI)
else
j17 v a u m b f h o p n g k 0 (Aa (Aa g (Cq 4 (Ac v))) 4)
def Xc:=Xt Js Xf
def Zv(j20:LB->LB->Int->Int->Int->Int->Int->Int->Int->Int->LI->Int->Int->Int->LI->Ar)(j16:Int->LB->LB->Int->Int->Int->Int->Int->Int->Int->Int->Int->Int->LI->LI->Ar)(a u:LB)(m b f h o p n g ah ai:Int)(k:LI):Ar:=
if(Cd (Ac a) g)then
j20 a u m b f h o p n g k 24 ah ai ([]:LI)
else
(Dt a g (Ac a)).bind λay=>
(Ty ay (Ac k)).bind λ(v,al)=>
j16 al a u m b f h o p n g ah ai v k
def Zz:=Zv Js Xc
def Zx(j15:LB->LB->Int->Int->Int->Int->Int->Int->Int->Int->Int->Int->LI->Ar)(a u:LB)(m b f h o p n g ah ai:Int)(k:LI)(ao:Int):Ar:=
if(Bi ao 0)then
some (0,0,0,([]:LX),ao)
else
j15 a u m b f h o p n g ah ai k
def Ya:=Zx Zz
def Rb(j14:LB->LB->Int->Int->Int->Int->Int->Int->Int->Int->Int->Int->LI->Int->Ar)(a u:LB):Ar:=
if(Fg (Ac u) 64)then
some (0,0,0,([]:LX),2)
else
(Qb a).bind λ(m,b,f,h,o,p,n,g,ah,ai,k,ap)=>
if(Bi ap 0)then
some (0,0,0,([]:LX),ap)
else
if((u==([]:LB)) !=(geq m 1))then
j14 a u m b f h o p n g ah ai k 26
else
if(geq m 1)then
j14 a u m b f h o p n g ah ai k 0
else
if(Cd (Ac a) g)then
j14 a u m b f h o p n g ah ai k 24
else
(Dt a n g).bind λaz=>
(Uk az u).bind λ(ba,bd)=>
if(!ba)then
j14 a u m b f h o p n g ah ai k 26
else
j14 a u m b f h o p n g ah ai k 0
def Ui:=Rb Ya
def Qu(a b:LB):Option Int:=
(Ui a b).bind λ(g,h,k,m,f)=>
some f
abbrev Ra:=Option (Int×Int×Int×Int×Int×Int×LI×Int)
def QF(a:LB)(b f g h k n:Int):Ra:=
(Hx b f g h k).bind λ(ab,p)=>
if(Bi p 0)then
some (0,0,0,0,0,0,([]:LI),p)
else
(Dt a n (Ac a)).bind λac=>
(Ty ac (Ac ab)).bind λ(u,v)=>
if(Bi v 0)then
some (0,0,0,0,0,0,([]:LI),v)
else
some (b,f,g,h,k,(Aa (Aa n (Cq 4 (Ac u))) 4),u,0)
def Zf:=QF
def Nr(j2:LB->Int->Int->Int->Int->Int->Int->Ra)(a o:LB):Ra:=
if(Fg (Ac o) 64)then
some (0,0,0,0,0,0,([]:LI),2)
else
if(Fg (Ac a) 100000)then
some (0,0,0,0,0,0,([]:LI),4)
else
(Gw a).bind λ(m,w)=>
if(Bi w 0)then
some (0,0,0,0,0,0,([]:LI),w)
else
(Dt a m (Ac a)).bind λad=>
(Qk ad).bind λ(b,f,g,h,k,y)=>
if(Bi y 0)then
some (0,0,0,0,0,0,([]:LI),y)
else
if((o==([]:LB)) !=(geq b 1))then
some (0,0,0,0,0,0,([]:LI),26)
else
if(o !=([]:LB))then
if(Cd (Ac a) (Aa (Aa m 22) 8))then
some (0,0,0,0,0,0,([]:LI),24)
else
(Dt a (Aa m 22) (Aa (Aa m 22) 8)).bind λae=>
(Uk ae o).bind λ(af,aa)=>
if(Bi aa 0)then
some (0,0,0,0,0,0,([]:LI),aa)
else
if(!af)then
some (0,0,0,0,0,0,([]:LI),26)
else
j2 a b f g h k (Aa (Aa m 22) 8)
else
j2 a b f g h k (Aa m 22)
def Ji:=Nr Zf
def Mt(a n:LB)(b:Int):Option UInt8:=
if(Fg (Ac a) 100000)then
some 0
else
(Gw a).bind λ(f,g)=>
if(Bi g 0)then
some 1
else
(Dt a f (Ac a)).bind λh=>
(Qk h).bind λ(k,o,p,u,v,m)=>
if(Bi m 0)then
some 2
else
if(geq b 26)then
if(geq b 26)then
some 3
else
some 4
else
if((geq k 2)&&(Cd (Ae (Ac a) f) 30))then
some 3
else
some 4
abbrev Cm:=Option (LI×Int)
def GX(f:LI):Cm:=
some (f,0)
def Qf:=GX
def KO(mH:Int->Int->LI->Cm)(a:LI)(b g h:Int)(k:LI):Cm:=
mH (Aa b 1) (Aa g h) k
def Sn mH:=KO mH
def Sf(j8:Int->Int->Int->LI->Cm)(j10:LI->Cm)(a:LI)(b g:Int)(f:LI):Cm:=
if(Cd b (Ac a))then
(Af a b).bind λh=>
(Dh f ([(Aa g h)]:LI)).bind λk=>
j8 b g h k
else
j10 f
def Kv(a:LI):Nat->Int->Int->LI->Cm
|0,_,_,_=>none
|q+1,b,g,f=>Sf (Sn (Kv a q) a) Qf a b g f
def Tg a:=Kv a Cn
def So(j6:LI->Int->Int->LI->Cm)(a:LI):Cm:=
(Qt a).bind λm=>
if(Bi m 0)then
some (([]:LI),m)
else
j6 a 0 0 ([(0:Int)]:LI)
def EY:=So Tg
abbrev Bf:=Option (LB×Int)
def NQ(g:LB):Bf:=
some (g,0)
def Ww:=NQ
def NU(Fu:Int->LB->Bf)(b:Int)(a:LX)(f:Int)(h:LB):Bf:=
Fu (Aa f 1) h
def Vz Fu:=NU Fu
def Vm(j28:Int->LB->Bf)(sL:Int->LB->Bf)(b:Int)(a:LX)(k:Int32)(f m:Int)(h:LB):Bf:=
if(Cd m (Jm b 8))then
(Ee (Hm (Cq 8 m) 0)).bind λ_=>
(Dh h ([(Al (Bn k (GI.toZ (Cq 8 m)).toNat):UInt8)]:LB)).bind λp=>
sL (Aa m 1) p
else
j28 f h
def Md(Fu:Int->LB->Bf)(b:Int)(a:LX)(k:Int32)(f:Int):Nat->Int->LB->Bf
|0,_,_=>none
|q+1,m,h=>Vm (Vz Fu b a) (Md Fu b a k f q) b a k f m h
def Wy Fu b a k f:=Md Fu b a k f Cn
def Ut(j26:Int32->Int->Int->LB->Bf)(b:Int)(a:LX)(f:Int)(g:LB)(k:Int32):Bf:=
j26 k f 0 g
def Wz Fu b a:=Ut (Wy Fu b a) b a
def Wj(j25:Int->LB->Int32->Bf)(j30:LB->Bf)(b:Int)(a:LX)(f:Int)(g:LB):Bf:=
if(Cd f (Ac a))then
(Af a f).bind λn=>
if(geq b 8)then
j25 f g (Aa n 128)
else
j25 f g n
else
j30 g
def Me(b:Int)(a:LX):Nat->Int->LB->Bf
|0,_,_=>none
|q+1,f,g=>Wj (Wz (Me b a q) b a) Ww b a f g
def Wb b a:=Me b a Cn
def AL(j16:Int->LX->Int->LB->Bf)(b:Int)(a:LX):Bf:=
(Lj b a).bind λo=>
if(Bi o 0)then
some (([]:LB),o)
else
j16 b a 0 ([]:LB)
def NA:=AL Wb
abbrev Bq:=Option (LB×Int)
def NO(a ac:Int):Bq:=
if(Bi ac 0)then
some (([]:LB),ac)
else
if((Cd a 0)||(Hm a 0))then
some (([]:LB),2)
else
none
def Wf:=NO
def JV(ad:Int)(ae:LB):Bq:=
some (ae,ad)
def Kk:=JV
def Wp(j10:Int->LB->Bq)(w a h b:Int)(aa:LX)(n o p k:Int)(m:LB)(u:LX)(v f g:LI):Bq:=
if(Bi w 0)then
j10 w ([]:LB)
else
(NA b aa).bind λ(ak,al)=>
j10 al ak
def Vf:=Wp Kk
def Wl(j10:Int->LB->Bq)(j9:Int->Int->Int->Int->LX->Int->Int->Int->Int->LB->LX->LI->LI->LI->Bq)(a k ab y:Int)(m:LB)(h b:Int)(u:LX)(n o p:Int)(g v f:LI):Bq:=
if(Fg (Aa k y) (Ac m))then
j10 24 ([]:LB)
else
(Af g a).bind λ_=>
(Dt m (Aa k ab) (Aa k y)).bind λam=>
(Af g a).bind λan=>
(Mx h b u an am).bind λ(aa,w)=>
j9 w a h b aa n o p k m u v f g
def Wh:=Wl Kk Vf
def Vh(j8:Int->Int->Int->Int->LB->Int->Int->LX->Int->Int->Int->LI->LI->LI->Bq)(a:Int)(g:LI)(n h b o p k:Int)(m:LB)(u:LX)(v f:LI):Bq:=
if(Bi (0:Int) (0:Int))then
some (([]:LB),0)
else
if((Cd a 0)||(Hm a (Ac g)))then
some (([]:LB),2)
else
(Af f a).bind λ_=>
(Af f (Aa a 1)).bind λ_=>
(Af f a).bind λab=>
(Af f (Aa a 1)).bind λy=>
j8 a k ab y m h b u n o p g v f
def Uy:=Vh Wh
def Vu(j6:Int->Int->Bq)(j7:Int->LI->Int->Int->Int->Int->Int->Int->LB->LX->LI->LI->Bq)(m af:LB)(a:Int):Bq:=
(Ji m af).bind λ(n,h,b,o,p,k,v,ag)=>
if(Bi ag 0)then
j6 a ag
else
(Hx n h b o p).bind λ(g,ah)=>
if(Bi ah 0)then
j6 a ah
else
(EY v).bind λ(f,ai)=>
if(Bi ai 0)then
j6 a ai
else
(Mu af).bind λ(u,aj)=>
if(Bi aj 0)then
j6 a aj
else
(Af f (Ac g)).bind λ_=>
(Af f (Ac g)).bind λao=>
j7 a g n h b o p k m u v f
def IC:=Vu Wf Uy
abbrev Eu:=Option (Int×Int)
def SD(k f a b g h:Int):Eu:=
some ((Jm (Cq (Cq k a) b) 8),0)
def AB:=SD
def Zy(j6:Int->Int->Int->Int->Int->Int->Eu)(CF:Int->Int->Eu)(n f a b g h:Int)(m:LI)(k o:Int):Eu:=
if(Cd o n)then
(Af m o).bind λ_=>
(Af m o).bind λp=>
CF (Aa k p) (Aa o 1)
else
j6 k f a b g h
def Ok(n f a b g h:Int)(m:LI):Nat->Int->Int->Eu
|0,_,_=>none
|q+1,k,o=>Zy AB (Ok n f a b g h m q) n f a b g h m k o
def Xe n f a b g h m:=Ok n f a b g h m Cn
def AA(j4:Int->Int->Int->Int->Int->Int->LI->Int->Int->Eu)(f a b g h n:Int):Eu:=
(Hx f a b g h).bind λ(m,u)=>
if((Bi u 0)||(Fg n (Ac m)))then
some (0,8)
else
j4 n f a b g h m 0 0
def BQ:=AA Xe
abbrev Dq:=Option (Int×UInt8×Int×Int×Int)
def RV(b f g h k m n:Int)(a:LI)(w:Int)(y:UInt8)(aa:Int):Dq:=
(BQ f g h k m w).bind λ(ac,ad)=>
some (b,y,aa,ac,ad)
def AO:=RV
def Ym(j8:Int->Int->Int->Int->Int->Int->Int->LI->Int->UInt8->Int->Dq)(mH:Int->Dq)(p o:LB)(a:LI)(b:Int)(u:UInt8)(f g h k m n v:Int):Dq:=
if(Cd v (Ac a))then
if(geq b 0)then
j8 b f g h k m n a (Ac a) u 0
else
(IC p o v).bind λ(ag,ae)=>
if(Bi ae 0)then
j8 b f g h k m n a v 5 v
else
mH (Aa v 1)
else
j8 b f g h k m n a (Ac a) u 0
def Pp(p o:LB)(a:LI)(b:Int)(u:UInt8)(f g h k m n:Int):Nat->Int->Dq
|0,_=>none
|q+1,v=>Ym AO (Pp p o a b u f g h k m n q) p o a b u f g h k m n v
def BN p o a b u f g h k m n:=Pp p o a b u f g h k m n Cn
def Zn(j6:LB->LB->LI->Int->UInt8->Int->Int->Int->Int->Int->Int->Int->Dq)(p o:LB)(b f g h k m n:Int)(a:LI)(u:UInt8):Dq:=
j6 p o a b u f g h k m n 0
def AJ:=Zn BN
def Pa(j5:LB->LB->Int->Int->Int->Int->Int->Int->Int->LI->UInt8->Dq)(p o:LB):Dq:=
if(Fg (Ac o) 64)then
some (0,0,0,0,2)
else
(Qu p o).bind λb=>
(Ji p o).bind λ(f,g,h,k,m,n,a,ab)=>
if(Bi ab 0)then
(Mt p o ab).bind λaf=>
some (b,af,0,0,0)
else
if(Bi b 0)then
j5 p o b f g h k m n a 6
else
j5 p o b f g h k m n a 0
def Le:=Pa AJ
abbrev Bk:=Option (Int×Int×Int×Int×Int×Int)
def NX(a:LB)(k m n o p f g b aa y:Int)(h:LI):Bk:=
if(Cd (Ac a) y)then
some (0,0,0,0,0,24)
else
some (f,g,b,aa,y,0)
def Vq:=NX
def Vg(j12:LB->Int->Int->Int->Int->Int->Int->Int->Int->Int->Int->LI->Bk)(a:LB)(k m n o p f g b:Int)(h:LI)(ae aa y:Int):Bk:=
if(Bi ae 0)then
some (0,0,0,0,0,ae)
else
j12 a k m n o p f g b aa y h
def Ip:=Vg Vq
def Uz(j11:LB->Int->Int->Int->Int->Int->Int->Int->Int->LI->Int->Int->Int->Bk)(a:LB)(u:LI)(k m n o p f g b v:Int)(h:LI):Bk:=
j11 a k m n o p f g b h 0 (Aa (Aa b (Cq 4 (Ac u))) 4) v
def Wm:=Uz Ip
def Xl(j10:LB->LI->Int->Int->Int->Int->Int->Int->Int->Int->Int->LI->Bk)(WZ:Int->Int->Bk)(u:LI)(a:LB)(k m n o p f g b:Int)(h:LI)(w v:Int):Bk:=
if(Cd w (Ac u))then
(Af u w).bind λ_=>
(Af u w).bind λag=>
WZ (Aa w 1) (Aa v ag)
else
j10 a u k m n o p f g b v h
def Ni(u:LI)(a:LB)(k m n o p f g b:Int)(h:LI):Nat->Int->Int->Bk
|0,_,_=>none
|q+1,w,v=>Xl Wm (Ni u a k m n o p f g b h q) u a k m n o p f g b h w v
def Zt u a k m n o p f g b h:=Ni u a k m n o p f g b h Cn
def BC(j11:LB->Int->Int->Int->Int->Int->Int->Int->Int->LI->Int->Int->Int->Bk)(j8:LI->LB->Int->Int->Int->Int->Int->Int->Int->Int->LI->Int->Int->Bk)(ab:Int)(a:LB)(k m n o p f g b ac ad:Int)(u h:LI):Bk:=
if(Bi ab 0)then
j11 a k m n o p f g b h ab ac ad
else
j8 u a k m n o p f g b h 0 (Aa (Aa b (Cq 4 (Ac u))) 4)
def CB:=BC Ip Zt
def Yc(j11:LB->Int->Int->Int->Int->Int->Int->Int->Int->LI->Int->Int->Int->Bk)(j7:Int->LB->Int->Int->Int->Int->Int->Int->Int->Int->Int->Int->LI->LI->Bk)(a:LB):Bk:=
(Qb a).bind λ(k,m,n,o,p,f,g,b,ac,ad,h,af)=>
if(Bi af 0)then
some (0,0,0,0,0,af)
else
if(Cd (Ac a) b)then
j11 a k m n o p f g b h 24 ac ad
else
(Dt a b (Ac a)).bind λah=>
(Ty ah (Ac h)).bind λ(u,ab)=>
j7 ab a k m n o p f g b ac ad u h
def NH:=Yc Ip CB
abbrev Eh:=Option (Int×UInt8×Int×Int×Int)
def NR:Eh:=
some (0,6,0,0,0)
def Wn:=NR
def Vr(j6:Eh)(CF:Int->Int->Eh)(a:Int)(b:LI)(g h k m n o p f:Int):Eh:=
if(Cd f (Ac b))then
(Af b f).bind λ_=>
(Af b f).bind λv=>
if(Cd a (Aa p v))then
(BQ g h k m n f).bind λ(ad,ae)=>
some (0,5,f,ad,ae)
else
CF (Aa p v) (Aa f 1)
else
j6
def Mf(a:Int)(b:LI)(g h k m n o:Int):Nat->Int->Int->Eh
|0,_,_=>none
|q+1,p,f=>Vr Wn (Mf a b g h k m n o q) a b g h k m n o p f
def Vl a b g h k m n o:=Mf a b g h k m n o Cn
def Vo(j4:Int->LI->Int->Int->Int->Int->Int->Int->Int->Int->Eh)(u w:LB)(a:Int):Eh:=
(Qu u w).bind λy=>
if(Bi y 0)then
some (0,0,0,0,y)
else
if((Cd a 0)||(Hm a (Ac u)))then
some (0,0,0,0,2)
else
(NH u).bind λ(af,ag,ah,aa,ai,ab)=>
if(Bi ab 0)then
some (0,0,0,0,ab)
else
(Ji u w).bind λ(g,h,k,m,n,o,b,ac)=>
if(Bi ac 0)then
some (0,0,0,0,ac)
else
if(Cd a af)then
some (0,1,0,0,0)
else
if(Cd a ag)then
some (0,2,0,0,0)
else
if(Cd a ah)then
some (0,3,0,0,0)
else
if(Cd a aa)then
some (0,4,0,0,0)
else
j4 a b g h k m n o aa 0
def Ec:=Vo Vl
def Ao(a b:LB)(f:Int)(g:UInt8)(h k:Int):Option Bool:=
(Le a b).bind λ(m,n,o,p,u)=>
some ((geq u 0)&&((geq m f)&&((geq n g)&&((geq o h)&&((geq p k)&&true)))))
def Bt(a:LB)(b k:Int)(f:UInt8)(g h m:Int):Option Bool:=
(Ec a ([]:LB) b).bind λ(n,o,p,u,v)=>
(Lh a b 64).bind λ(w,y)=>
(Le w ([]:LB)).bind λ(aa,ab,ac,ad,ae)=>
if((((Bi v 0)||(Bi y 0))||(Bi ae 0))||(!((geq n k)&&((geq o f)&&((geq p g)&&((geq u h)&&true))))))then
some false
else
some ((geq aa m)&&((geq ab f)&&((geq ac g)&&((geq ad h)&&true))))
def Iy:Option Bool:=
(Iu).bind λ(a,b)=>
if b then
(Bt a 5 0 2 0 0 22).bind λf=>
if f then
(Bt a 25 0 4 0 0 22).bind λg=>
if g then
(Bt a 41 0 5 1 1 22).bind λh=>
some h
else
some false
else
if false then
(Bt a 41 0 5 1 1 22).bind λk=>
some k
else
some false
else
if false then
(Bt a 25 0 4 0 0 22).bind λm=>
if m then
(Bt a 41 0 5 1 1 22).bind λn=>
some n
else
some false
else
if false then
(Bt a 41 0 5 1 1 22).bind λo=>
some o
else
some false
noncomputable def Mb(a:LB)(b f g h k m n o p u v w:Int)(ad:Bool)(y:LB):Option Bool:=
(Ec a ([120]:LB) 29).bind λ(ap,ae,ah,af,aj)=>
(Ec y ([]:LB) 46).bind λ(ag,ak,al,am,an)=>
if((((((((((((((true&&(geq b 2))&&(geq f 2))&&(geq g 2))&&(geq h 2))&&(geq k 2))&&(geq m 2))&&(geq n 2))&&(geq o 2))&&(geq p 2))&&(geq u 2))&&(geq v 2))&&(geq w 24))&&ad)&&(geq aj 0))then
if(((geq ap 0)&&((geq ae 3)&&((geq ah 0)&&((geq af 0)&&true))))&&(geq an 0))then
if((geq ag 0)&&((geq ak 6)&&((geq al 0)&&((geq am 0)&&true))))then
(Iy).bind λaq=>
some aq
else
some false
else
some false
else
if(false&&(geq an 0))then
if((geq ag 0)&&((geq ak 6)&&((geq al 0)&&((geq am 0)&&true))))then
(Iy).bind λar=>
some ar
else
some false
else
some false
noncomputable def Fq:=Mb
noncomputable def Gb(j10:LB->Int->Int->Int->Int->Int->Int->Int->Int->Int->Int->Int->Int->Bool->LB->Option Bool)(WZ:Int->Option Bool)(a:LB)(b f g h k m n o p u v w:Int)(ad:Bool)(aa y:LB)(ab:Int):Option Bool:=
if(Cd ab 10)then
(Af ([(0:Int),(10:Int),(11:Int),(32:Int),(33:Int),(44:Int),(45:Int),(50:Int),(51:Int),(56:Int)]:LI) ab).bind λ_=>
(Af ([(0:Int),(10:Int),(11:Int),(32:Int),(33:Int),(44:Int),(45:Int),(50:Int),(51:Int),(56:Int)]:LI) ab).bind λau=>
(Ec aa ([]:LB) au).bind λ(ae,ah,af,aj,ag)=>
if(Bi ag 0)then
if(true||(Bi ae 0))then
some false
else
(Af ([(0:Int),(0:Int),(0:Int),(0:Int),(0:Int),(0:Int),(0:Int),(0:Int),(1:Int),(1:Int)]:LI) ab).bind λ_=>
(Af ([(0:Int),(0:Int),(0:Int),(0:Int),(0:Int),(0:Int),(0:Int),(0:Int),(1:Int),(1:Int)]:LI) ab).bind λav=>
if(Bi af av)then
some false
else
WZ (Aa ab 1)
else
(Af ([(1:UInt8),(1:UInt8),(2:UInt8),(2:UInt8),(4:UInt8),(4:UInt8),(5:UInt8),(5:UInt8),(5:UInt8),(5:UInt8)]:LB) ab).bind λ_=>
(Af ([(1:UInt8),(1:UInt8),(2:UInt8),(2:UInt8),(4:UInt8),(4:UInt8),(5:UInt8),(5:UInt8),(5:UInt8),(5:UInt8)]:LB) ab).bind λaw=>
if((Bi ah aw)||(Bi ae 0))then
some false
else
(Af ([(0:Int),(0:Int),(0:Int),(0:Int),(0:Int),(0:Int),(0:Int),(0:Int),(1:Int),(1:Int)]:LI) ab).bind λ_=>
(Af ([(0:Int),(0:Int),(0:Int),(0:Int),(0:Int),(0:Int),(0:Int),(0:Int),(1:Int),(1:Int)]:LI) ab).bind λax=>
if(Bi af ax)then
some false
else
WZ (Aa ab 1)
else
j10 a b f g h k m n o p u v w ad y
noncomputable def Ea(a:LB)(b f g h k m n o p u v w:Int)(ad:Bool)(aa y:LB):Nat->Int->Option Bool
|0,_=>none
|q+1,ab=>Gb Fq (Ea a b f g h k m n o p u v w ad aa y q) a b f g h k m n o p u v w ad aa y ab
noncomputable def Fy a b f g h k m n o p u v w ad aa y:=Ea a b f g h k m n o p u v w ad aa y Cn
noncomputable def Gg(j8:LB->Int->Int->Int->Int->Int->Int->Int->Int->Int->Int->Int->Int->Bool->LB->LB->Int->Option Bool)(a:LB)(b f g h k m n o p u v w:Int)(aa y:LB)(ad:Bool):Option Bool:=
j8 a b f g h k m n o p u v w ad aa y 0
noncomputable def Eb:=Gg Fy
noncomputable def Ct(j7:LB->Int->Int->Int->Int->Int->Int->Int->Int->Int->Int->Int->Int->LB->LB->Bool->Option Bool)(ac:LB)(b f g h k m n o p u v w:Int)(a:LB):Option Bool:=
(Dh ([(73:UInt8),(68:UInt8),(51:UInt8),(4:UInt8),(0:UInt8),(0:UInt8),(0:UInt8),(0:UInt8),(0:UInt8),(1:UInt8),(116:UInt8)]:LB) ac).bind λaa=>
(ZY (8:Int) (0:UInt8)).bind λay=>
(Dh ([(65:UInt8),(80:UInt8),(69:UInt8),(84:UInt8),(65:UInt8),(71:UInt8),(69:UInt8),(88:UInt8),(208:UInt8),(7:UInt8),(0:UInt8),(0:UInt8),(32:UInt8),(0:UInt8),(0:UInt8),(0:UInt8),(0:UInt8),(0:UInt8),(0:UInt8),(0:UInt8),(0:UInt8),(0:UInt8),(0:UInt8),(0:UInt8)]:LB) ay).bind λaz=>
(Dh ([]:LB) ac).bind λba=>
(Dh ba az).bind λy=>
(XW (λx:LB×LB×Int×UInt8×Int×Int=>Ao x.1 x.2.1 x.2.2.1 x.2.2.2.1 x.2.2.2.2.1 x.2.2.2.2.2) (ac,([]:LB),(0:Int),(0:UInt8),(0:Int),(2:Int))).bind λbb=>
if bb then
(ZY (100001:Int) (0:UInt8)).bind λbc=>
(Ee (geq (100001:Int) (100001:Int))).bind λ_=>
(XW (λx:LB×LB×Int×UInt8×Int×Int=>Ao x.1 x.2.1 x.2.2.1 x.2.2.2.1 x.2.2.2.2.1 x.2.2.2.2.2) (bc,([]:LB),(4:Int),(0:UInt8),(0:Int),(0:Int))).bind λbd=>
if bd then
(XW (λx:LB×LB×Int×UInt8×Int×Int=>Ao x.1 x.2.1 x.2.2.1 x.2.2.2.1 x.2.2.2.2.1 x.2.2.2.2.2) (([(73:UInt8),(68:UInt8),(51:UInt8)]:LB),([]:LB),(24:Int),(1:UInt8),(0:Int),(0:Int))).bind λbe=>
if be then
(XW (λx:LB×LB×Int×UInt8×Int×Int=>Ao x.1 x.2.1 x.2.2.1 x.2.2.2.1 x.2.2.2.2.1 x.2.2.2.2.2) (([]:LB),([]:LB),(24:Int),(2:UInt8),(0:Int),(0:Int))).bind λbf=>
if bf then
(XW (λx:LB×LB×Int×UInt8×Int×Int=>Ao x.1 x.2.1 x.2.2.1 x.2.2.2.1 x.2.2.2.2.1 x.2.2.2.2.2) (ac,([120]:LB),(26:Int),(3:UInt8),(0:Int),(0:Int))).bind λbg=>
if bg then
(Dt a 0 25).bind λbh=>
(XW (λx:LB×LB×Int×UInt8×Int×Int=>Ao x.1 x.2.1 x.2.2.1 x.2.2.2.1 x.2.2.2.2.1 x.2.2.2.2.2) (bh,([120]:LB),(24:Int),(3:UInt8),(0:Int),(0:Int))).bind λbi=>
if bi then
(XW (λx:LB×LB×Int×UInt8×Int×Int=>Ao x.1 x.2.1 x.2.2.1 x.2.2.2.1 x.2.2.2.2.1 x.2.2.2.2.2) (a,([121]:LB),(26:Int),(3:UInt8),(0:Int),(0:Int))).bind λbj=>
if bj then
(Dt a 0 30).bind λbk=>
(XW (λx:LB×LB×Int×UInt8×Int×Int=>Ao x.1 x.2.1 x.2.2.1 x.2.2.2.1 x.2.2.2.2.1 x.2.2.2.2.2) (bk,([120]:LB),(24:Int),(4:UInt8),(0:Int),(0:Int))).bind λbl=>
if bl then
(Dt ac 0 33).bind λbm=>
(XW (λx:LB×LB×Int×UInt8×Int×Int=>Ao x.1 x.2.1 x.2.2.1 x.2.2.2.1 x.2.2.2.2.1 x.2.2.2.2.2) (bm,([]:LB),(24:Int),(4:UInt8),(0:Int),(0:Int))).bind λbn=>
if bn then
(Dt ac 0 34).bind λbp=>
(XW (λx:LB×LB×Int×UInt8×Int×Int=>Ao x.1 x.2.1 x.2.2.1 x.2.2.2.1 x.2.2.2.2.1 x.2.2.2.2.2) (bp,([]:LB),(24:Int),(5:UInt8),(0:Int),(0:Int))).bind λbq=>
if bq then
(Dt ac 0 45).bind λbr=>
(XW (λx:LB×LB×Int×UInt8×Int×Int=>Ao x.1 x.2.1 x.2.2.1 x.2.2.2.1 x.2.2.2.2.1 x.2.2.2.2.2) (br,([]:LB),(24:Int),(5:UInt8),(1:Int),(1:Int))).bind λbs=>
if bs then
(Dh ([]:LB) ac).bind λbt=>
(Dh bt ([(7:UInt8)]:LB)).bind λbu=>
(XW (λx:LB×LB×Int×UInt8×Int×Int=>Ao x.1 x.2.1 x.2.2.1 x.2.2.2.1 x.2.2.2.2.1 x.2.2.2.2.2) (bu,([]:LB),(38:Int),(6:UInt8),(0:Int),(2:Int))).bind λbv=>
if bv then
(XW (λx:LB×LB×Int×UInt8×Int×Int=>Ao x.1 x.2.1 x.2.2.1 x.2.2.2.1 x.2.2.2.2.1 x.2.2.2.2.2) (y,([]:LB),(0:Int),(0:UInt8),(0:Int),(2:Int))).bind λbw=>
j7 a b f g h k m n o p u v w aa y bw
else
j7 a b f g h k m n o p u v w aa y false
else
j7 a b f g h k m n o p u v w aa y false
else
j7 a b f g h k m n o p u v w aa y false
else
j7 a b f g h k m n o p u v w aa y false
else
j7 a b f g h k m n o p u v w aa y false
else
j7 a b f g h k m n o p u v w aa y false
else
j7 a b f g h k m n o p u v w aa y false
else
j7 a b f g h k m n o p u v w aa y false
else
j7 a b f g h k m n o p u v w aa y false
else
j7 a b f g h k m n o p u v w aa y false
else
j7 a b f g h k m n o p u v w aa y false
else
j7 a b f g h k m n o p u v w aa y false
noncomputable def Ed:=Ct Eb
noncomputable def Cs(j6:LB->Int->Int->Int->Int->Int->Int->Int->Int->Int->Int->Int->Int->LB->Option Bool):Option Bool:=
(XW (λ_:Unit=>Iu) ()).bind λ(ac,bx)=>
(XW (λx:Int×Int×Int×LX×LB=>BF x.1 x.2.1 x.2.2.1 x.2.2.2.1 x.2.2.2.2) ((1:Int),(8:Int),(1:Int),([(1:Int32),(2:Int32)]:LX),([120]:LB))).bind λ(a,bz)=>
if(((!bx)||(Bi bz 0))||(Bi (Ac a) 54))then
some false
else
(ZY (65:Int) (0:UInt8)).bind λao=>
(Ee (geq (65:Int) (65:Int))).bind λ_=>
(Lh ac (-1:Int) 1).bind λ(de,b)=>
(Lh ac 46 1).bind λ(df,f)=>
(Lh ac 0 0).bind λ(dg,g)=>
(He ac (-1:Int) 1).bind λ(dh,h)=>
(He ac 368 1).bind λ(di,k)=>
(He ac 0 0).bind λ(dj,m)=>
(He ac 367 2).bind λ(dk,n)=>
(He ac 367 3).bind λ(ai,da)=>
(Le ac ao).bind λ(dl,dm,dn,dp,o)=>
(Ec ac ao 0).bind λ(dq,dr,ds,dt,p)=>
(Ec ac ([]:LB) (-1:Int)).bind λ(du,dv,dw,dx,u)=>
(Ec ac ([]:LB) 46).bind λ(dy,dz,fa,fb,v)=>
(Dt ac 0 45).bind λdb=>
(Ec db ([]:LB) (-1:Int)).bind λ(fc,fd,fe,ff,w)=>
if((Bi da 0)||(Bi (Ac ai) 46))then
some false
else
(Af ai 45).bind λ_=>
(Af ac 45).bind λdc=>
(Af ai 45).bind λdd=>
if(Bi dd (CZ dc 128))then
some false
else
j6 ac b f g h k m n o p u v w a
noncomputable def Et:=Cs Ed
end Go.Pl
