/- A part of a proof (see the text that ends in Proof). No conditions. -/
import Derived.Test.YtjjeabieimfcpaaGreatDoorOdBA
set_option linter.unusedVariables false
namespace Go.Pl
open Go Go.Lv
abbrev LB:=List UInt8
abbrev LI:=List Int
abbrev LX:=List Int32
abbrev LU:=List UInt32
abbrev LQ:=List UInt64
def MA(a:LB):Option Bool:=
some (((Fb (Ac a) 5000)&&(Dg (Ac a) 12000))||(Fb (Ac a) 12100))
def RR(a:LB):Option (LB×LB×Int×Int×Int×Int×Int×LI×Int×LB×Bool×Int×Int):=
if(Fb (Ac a) 64)then
some (([]:LB),([]:LB),0,0,0,0,0,([]:LI),0,([]:LB),false,0,2)
else
some (a,([]:LB),0,0,0,0,0,([]:LI),0,([]:LB),false,0,0)
def Nn(a:LB):Option (LB):=
(
(Cz ([]:LB) a).bind λb=>
some b)
def Hl(a:LI):Option (LI):=
(
(Cz ([]:LI) a).bind λb=>
some b)
def El(a b:LB)(f g h k m:Int)(n:LI)(o:Int)(p:LB)(u:Bool)(v:Int):Option (LB×LB×Int×Int×Int×Int×Int×LI×Int×LB×Bool×Int):=
(Nn b).bind λw=>
(Nn p).bind λy=>
(Hl n).bind λaa=>
some (a,w,f,g,h,k,m,aa,o,y,u,v)
def OV(b f a g h:Int):Option Bool:=
some (((((((geq b 1)||(geq b 2))&&(Fb f 0))&&(G4 f 6))&&(Fb g 0))&&(G4 g 1048576))&&(Fb h 0))
def Qf:=OV
def EE(j2:Int->Int->Int->Int->Int->Option Bool)(b f a g h:Int):Option Bool:=
if(geq a 8)then
if(geq a 8)then
j2 b f a g h
else
some false
else
if(geq a 16)then
if(geq a 16)then
j2 b f a g h
else
some false
else
if(geq a 24)then
j2 b f a g h
else
some false
def Ud:=EE Qf
def Xe(a:Int):Option (Int×Int):=
if((Dg a 1)||(Fb a 1048576))then
some (0,2)
else
some ((mM 1 (By (Bm 256 a) 245)),0)
def Kt(g b:Int):Option (Int×Int):=
(Xe g).bind λ(a,f)=>
if(Bq f 0)then
some (0,f)
else
if((Dg b 1)||(Fb b 4000))then
some (0,2)
else
(Ue (Bq a 0)).bind λ_=>
if(Fb (By (Au (Af b a) 1) a) 1000)then
some (0,4)
else
some ((By (Au (Af b a) 1) a),0)
def RX(k a m f b:Int):Option Bool:=
(Ue (Bq a 0)).bind λ_=>
if(Fb b (By 4000 a))then
some false
else
(Kt f b).bind λ(g,h)=>
some ((geq h 0)&&(G4 g 1000))
def DY(a b f g h:Int):Option Int:=
(Ud a b f g h).bind λk=>
if(!k)then
some 8
else
(RX a b f g h).bind λm=>
if(!m)then
some 8
else
some 0
def SX(a b:UInt64):Option (UInt64×UInt64):=
some ((Af (Af (Bm (Ea a (GI.toZ (32:UInt64)).toNat) (Ea b (GI.toZ (32:UInt64)).toNat)) (Ea (Af (Bm (Ea a (GI.toZ (32:UInt64)).toNat) (Kr b 4294967295)) (Ea (Bm (Kr a 4294967295) (Kr b 4294967295)) (GI.toZ (32:UInt64)).toNat)) (GI.toZ (32:UInt64)).toNat)) (Ea (Af (Kr (Af (Bm (Ea a (GI.toZ (32:UInt64)).toNat) (Kr b 4294967295)) (Ea (Bm (Kr a 4294967295) (Kr b 4294967295)) (GI.toZ (32:UInt64)).toNat)) 4294967295) (Bm (Kr a 4294967295) (Ea b (GI.toZ (32:UInt64)).toNat))) (GI.toZ (32:UInt64)).toNat)),(Bm a b))
def QN(a b:UInt64):Option (UInt64×UInt64):=
(SX a b).bind λ(f,g)=>
some (f,g)
def Rv(a:LI):Option (LI):=
some a
def Mf:=Rv
def Jc(j10:LI->Option (LI))(bk8:Int->LI->Option (LI))(b:Int)(a:LI):Option (LI):=
if(Dg b (Ac a))then
(
(pB (Ac a) b (Ac a)).bind λ_=>
(pB (Ac a) 0 b).bind λ_=>
bk8 (Af b (XP ((Ac a)-b) (cC a 0 (b-(0:Int))).length)) (Zf a b ((Ac a)-b) (cC a 0 (b-(0:Int)))))
else
j10 a
def Ga:Nat->Int->LI->Option (LI)
|0,_,_=>none
|q+1,b,a=>Jc Mf (Ga q) b a
def Ur:=Ga Ba
def Us(j8:Int->LI->Option (LI))(f:LI)(g:UInt64):Option (LI):=
(mkI (Ad g:Int) (0:Int)).bind λk=>
(Ue (geq (Ad g:Int) (Ad g:Int))).bind λ_=>
j8 (XP (Ac k) f.length) (D4 k f)
def Um:=Us Ur
def Ug(j7:LI->UInt64->Option (LI))(f:LI)(h:Int):Option (LI):=
(QN (Ad (Ac f):UInt64) (Ad h:UInt64)).bind λ(m,g)=>
if((Fb m 0)||(Fb g 9223372036854775807))then
none
else
j7 f g
def Ut:=Ug Um
def Up(j6:LI->Int->Option (LI))(f:LI)(h:Int):Option (LI):=
if(Dg h 0)then
none
else
j6 f h
def Rr:=Up Ut
def YS(f:LI):Option (LI):=
some f
def FF:=YS
def Hy(j16:LI->Option (LI))(Awz:Int->LI->Option (LI))(a:List LI)(g:Int)(f:LI):Option (LI):=
if(Dg g (Ac a))then
(Ao a g).bind λo=>
(Cz f o).bind λp=>
Awz (Af g 1) p
else
j16 f
def Fq(a:List LI):Nat->Int->LI->Option (LI)
|0,_,_=>none
|q+1,g,f=>Hy FF (Fq a q) a g f
def Sd a:=Fq a Ba
def Rw(j14:(List LI)->Int->LI->Option (LI))(a:List LI)(k:LI):Option (LI):=
j14 a 0 k
def Mh:=Rw Sd
def Ry(j13:(List LI)->LI->Option (LI))(b:Int)(a:List LI):Option (LI):=
if(Fb (Au b (Au (0:Int) (0:Int))) 0)then
(pB 0 0 0).bind λ_=>
(mkI (Au b (Au (0:Int) (0:Int))) (0:Int)).bind λu=>
(Cz ([]:LI) u).bind λm=>
(pB (Ac m) 0 0).bind λ_=>
j13 a (cC m 0 ((0:Int)-(0:Int)))
else
j13 a ([]:LI)
def Sa:=Ry Mh
def Se(j12:Int-> (List LI)->Option (LI))(a:List LI)(b:Int):Option (LI):=
if(Dg b 0)then
none
else
j12 b a
def Rt:=Se Sa
def Jb(j11:(List LI)->Int->Option (LI))(bk9:Int->Int->Option (LI))(a:List LI)(b h:Int):Option (LI):=
if(Dg h (Ac a))then
(Ao a h).bind λn=>
if(Dg (Af b (Ac n)) 0)then
none
else
bk9 (Af b (Ac n)) (Af h 1)
else
j11 a b
def Fz(a:List LI):Nat->Int->Int->Option (LI)
|0,_,_=>none
|q+1,b,h=>Jb Rt (Fz a q) a b h
def Uh a:=Fz a Ba
def Uo(j9:(List LI)->Int->Int->Option (LI))(a:List LI):Option (LI):=
j9 a 0 0
def Rc:=Uo Uh
def WV(a b:LI):Option (LI):=
(Rc ([a,b]:List LI)).bind λf=>
some f
def YX(a b:Int):Option (LI×Int):=
(Kt a b).bind λ(f,g)=>
if(Bq g 0)then
some (([]:LI),g)
else
(Xe a).bind λ(h,n)=>
(Rr ([h]:LI) (Au f 1)).bind λk=>
(WV k ([(Au b (Bm (Au f 1) h))]:LI)).bind λm=>
some (m,0)
def Dy(g h k a b:Int):Option (LI×Int):=
(DY g h k a b).bind λf=>
if(Bq f 0)then
some (([]:LI),f)
else
(YX a b).bind λ(m,n)=>
some (m,n)
def Qq(a f g h k:Int)(b:LB):Option Int:=
if((b==([]:LB)) !=(geq a 1))then
some 26
else
some 0
def A3:Option Int:=
some 0
def lG:=A3
def MQ(j6:Option Int)(Qy:Int->Int->Option Int)(a:LI)(f b:Int):Option Int:=
if(Dg b (Ac a))then
(Ao a b).bind λg=>
if((Dg g 5)||(Fb g f))then
some 8
else
Qy (Au f g) (Af b 1)
else
j6
def Wi(a:LI):Nat->Int->Int->Option Int
|0,_,_=>none
|q+1,f,b=>MQ lG (Wi a q) a f b
def XB a:=Wi a Ba
def LW(j4:LI->Int->Int->Option Int)(a:LI):Option Int:=
if((geq (Ac a) 0)||(Fb (Ac a) 1000))then
some 8
else
j4 a 100000 0
def Xc:=LW XB
def fU(w:Int)(o p:LB)(h b f k m:Int)(g:LI)(a:Int)(n:LB)(u:Bool)(v:Int):Option Bool:=
some (G4 (Ac n) w)
def TA:=fU
def GW(j8:Int->LB->LB->Int->Int->Int->Int->Int->LI->Int->LB->Bool->Int->Option Bool)(I0:Int->Int->Option Bool)(y:LI)(o p:LB)(h b f k m:Int)(g:LI)(a:Int)(n:LB)(u:Bool)(v w aa:Int):Option Bool:=
if(Dg aa (Ac y))then
(Ao y aa).bind λac=>
I0 (Af w (By (Bm (Bm ac b) f) 8)) (Af aa 1)
else
j8 w o p h b f k m g a n u v
def Sj(y:LI)(o p:LB)(h b f k m:Int)(g:LI)(a:Int)(n:LB)(u:Bool)(v:Int):Nat->Int->Int->Option Bool
|0,_,_=>none
|q+1,w,aa=>GW TA (Sj y o p h b f k m g a n u v q) y o p h b f k m g a n u v w aa
def TF y o p h b f k m g a n u v:=Sj y o p h b f k m g a n u v Ba
def SZ(j6:LI->LB->LB->Int->Int->Int->Int->Int->LI->Int->LB->Bool->Int->Int->Int->Option Bool)(o p:LB)(h b f k m:Int)(g:LI)(a:Int)(n:LB)(u:Bool)(v:Int)(ab:LI):Option Bool:=
if(geq (Ac g) 0)then
some ((geq a 0)&&(geq (Ac n) 0))
else
(Xc g).bind λad=>
if((((Bq ad 0)||(Bq (Ac g) (Ac ab)))||(Dg a 0))||(Fb a (Ac ab)))then
some false
else
(Bp ab 0 a).bind λy=>
j6 y o p h b f k m g a n u v 0 0
def SY:=SZ TF
def TG(j5:LB->LB->Int->Int->Int->Int->Int->LI->Int->LB->Bool->Int->LI->Option Bool)(o p:LB)(h b f k m:Int)(g:LI)(a:Int)(n:LB)(u:Bool)(v:Int):Option Bool:=
if((geq h 0)&&((geq b 0)&&((geq f 0)&&((geq k 0)&&((geq m 0)&&true)))))then
some (((geq (Ac g) 0)&&(geq a 0))&&(geq (Ac n) 0))
else
(Dy h b f k m).bind λ(ab,ae)=>
if(Bq ae 0)then
some false
else
(Qq h b f k m o).bind λaf=>
if(Bq af 0)then
some false
else
j5 o p h b f k m g a n u v ab
def ED:=TG SY
def Il(a b:LB):Option Bool:=
some (a==b)
def On(b a:LB):Option Bool:=
if(Tp (Ac b) (Ac a))then
(Bp b 0 (Ac a)).bind λf=>
(Il f a).bind λg=>
some g
else
some false
abbrev Oq:=Option (Int×Int)
def sE(b:Int):Oq:=
some (b,0)
def cK:=sE
def EH(j6:Int->Oq)(Qy:Int->Int->Oq)(a:LB)(b f:Int):Oq:=
if(Dg f (Ac a))then
(Ao a f).bind λg=>
if(Fb g 127)then
some (0,12)
else
Qy (uN (Fe b (GI.toZ (7:UInt64)).toNat) (Ad g:Int)) (Af f 1)
else
j6 b
def Qd(a:LB):Nat->Int->Int->Oq
|0,_,_=>none
|q+1,b,f=>EH cK (Qd a q) a b f
def OJ a:=Qd a Ba
def PN(j4:LB->Int->Int->Oq)(a:LB):Oq:=
if(Bq (Ac a) 4)then
some (0,2)
else
j4 a 0 0
def QE:=PN OJ
abbrev Lg:=Option (Int×Int)
def fZ(a:LB)(b:UInt8)(h:Int):Lg:=
if(Fb h 4000)then
some (0,4)
else
if(Dg (Ac a) h)then
some (0,24)
else
if(geq b 16)then
(Bp a (Au h 10) h).bind λk=>
(Bp k 0 3).bind λu=>
if(u !=([51,68,73]:LB))then
some (0,12)
else
(Bp k 3 (Ac k)).bind λv=>
(Bp a 3 10).bind λw=>
(Il v w).bind λy=>
if(!y)then
some (0,12)
else
some (h,0)
else
some (h,0)
def GZ:=fZ
def SW(j8:LB->UInt8->Int->Lg)(a:LB)(g:Int)(b:UInt8):Lg:=
if(geq b 16)then
j8 a b (Af (Af g 10) 10)
else
j8 a b (Af g 10)
def HF:=SW GZ
def SL(j7:LB->Int->UInt8->Lg)(a:LB)(g:Int)(b:UInt8)(m:Bool):Lg:=
if m then
some (0,12)
else
j7 a g b
def SM:=SL HF
def TI(j6:LB->Int->UInt8->Bool->Lg)(a:LB)(f b:UInt8):Lg:=
(Bp a 6 10).bind λaa=>
(QE aa).bind λ(g,ab)=>
if(Bq ab 0)then
if true then
j6 a g b true
else
if(geq b 0)then
j6 a g b (!((Tp f 2)&&(G4 f 4)))
else
if(geq b 16)then
j6 a g b (!(geq f 4))
else
j6 a g b (!false)
else
(Ao a 4).bind λac=>
if(Bq ac 0)then
j6 a g b true
else
if(geq b 0)then
j6 a g b (!((Tp f 2)&&(G4 f 4)))
else
if(geq b 16)then
j6 a g b (!(geq f 4))
else
j6 a g b (!false)
def SR:=TI SM
def HA(j5:LB->UInt8->UInt8->Lg)(a:LB):Lg:=
(On a ([(73:UInt8),(68:UInt8),(51:UInt8)]:LB)).bind λn=>
if(!n)then
some (0,6)
else
if(Dg (Ac a) 10)then
some (0,24)
else
(Ao a 3).bind λf=>
(Ao a 5).bind λb=>
(
(
(
j5 a f b)))
def UE:=HA SR
abbrev HZ:=Option (UInt64×Int)
def jg(b:UInt64):HZ:=
some (b,0)
def uA:=jg
def ZG(j6:UInt64->HZ)(Qy:UInt64->Int->HZ)(a:LB)(b:UInt64)(f:Int):HZ:=
if(Dg f (Ac a))then
(Ao a f).bind λg=>
(Ue (Tp (Bm 8 f) 0)).bind λ_=>
Qy (uN b (Fe (Ad g:UInt64) (GI.toZ (Bm 8 f)).toNat)) (Af f 1)
else
j6 b
def IE(a:LB):Nat->UInt64->Int->HZ
|0,_,_=>none
|q+1,b,f=>ZG uA (IE a q) a b f
def kB a:=IE a Ba
def lC(j4:LB->UInt64->Int->HZ)(a:LB):HZ:=
if((Dg (Ac a) 1)||(Fb (Ac a) 8))then
some (0,2)
else
j4 a 0 0
def iR:=lC kB
def cI(f:LB)(a b:Int):Option (UInt64×Int):=
if(((Dg b 1)||(Fb b 8))||(Dg a 0))then
some (0,2)
else
if(Fb a (Au (Ac f) b))then
some (0,24)
else
(Bp f a (Af a b)).bind λg=>
(iR g).bind λ(h,k)=>
some (h,k)
def wF(b:UInt64)(a:Int):Option Bool:=
if(geq a 8)then
some true
else
(Ue (Tp (Bm 8 a) 0)).bind λ_=>
some (geq (Ea b (GI.toZ (Bm 8 a)).toNat) 0)
abbrev HY:=Option (LB×Int)
def uO(a:LB):HY:=
some (a,0)
def iD:=uO
def ZD(j6:LB->HY)(Qy:Int->LB->HY)(f:UInt64)(g:LB)(b:Int)(a:LB):HY:=
if(Dg b (Ac g))then
(Ue (Tp (Bm 8 b) 0)).bind λ_=>
(Ao a b).bind λ_=>
(Ux a b (Ad (Ea f (GI.toZ (Bm 8 b)).toNat):UInt8)).bind λk=>
Qy (Af b 1) k
else
j6 a
def IZ(f:UInt64)(g:LB):Nat->Int->LB->HY
|0,_,_=>none
|q+1,b,a=>ZD iD (IZ f g q) f g b a
def jW f g:=IZ f g Ba
def jO(j4:UInt64->LB->Int->LB->HY)(f:UInt64)(h:Int):HY:=
if((Dg h 1)||(Fb h 8))then
some (([]:LB),2)
else
(wF f h).bind λm=>
if(!m)then
some (([]:LB),16)
else
(mkI h (0:UInt8)).bind λg=>
(Ue (geq h h)).bind λ_=>
j4 f g 0 g
def Yo:=jO jW
def B3(g:LB):Option (LB):=
some g
def oD:=B3
def dX(j6:LB->Option (LB))(Qy:Int->LB->Option (LB))(a b:Int)(f:UInt64)(h:Int)(g:LB):Option (LB):=
if(Dg h (Ac ([(2000:UInt64),(Ad (Af a 32):UInt64),(Ad b:UInt64),f,(0:UInt64),(0:UInt64)]:LQ)))then
(Ao ([(2000:UInt64),(Ad (Af a 32):UInt64),(Ad b:UInt64),f,(0:UInt64),(0:UInt64)]:LQ) h).bind λ_=>
(Ao ([(2000:UInt64),(Ad (Af a 32):UInt64),(Ad b:UInt64),f,(0:UInt64),(0:UInt64)]:LQ) h).bind λk=>
(Yo k 4).bind λ(m,o)=>
(Cz g m).bind λn=>
Qy (Af h 1) n
else
j6 g
def IC(a b:Int)(f:UInt64):Nat->Int->LB->Option (LB)
|0,_,_=>none
|q+1,h,g=>dX oD (IC a b f q) a b f h g
def nY a b f:=IC a b f Ba
def oP(j4:Int->Int->UInt64->Int->LB->Option (LB))(a b:Int)(f:UInt64):Option (LB):=
j4 a b f 0 ([(65:UInt8),(80:UInt8),(69:UInt8),(84:UInt8),(65:UInt8),(71:UInt8),(69:UInt8),(88:UInt8)]:LB)
def lP:=oP nY
def UY(b:LB)(g:UInt64):Option (Int×Int×Bool):=
(cI b 12 4).bind λ(a,m)=>
(cI b 16 4).bind λ(f,n)=>
if(((Dg a 32)||(Fb a 3032))||(Fb f 1000))then
some (0,0,false)
else
(lP (Au (Ad a:Int) 32) (Ad f:Int) g).bind λh=>
(Il b h).bind λk=>
some ((Au (Ad a:Int) 32),(Ad f:Int),k)
def lS(a:LB):Option (Int×Int):=
(On a ([(65:UInt8),(80:UInt8),(69:UInt8),(84:UInt8),(65:UInt8),(71:UInt8),(69:UInt8),(88:UInt8)]:LB)).bind λf=>
if(!f)then
some (0,6)
else
if(Dg (Ac a) 32)then
some (0,24)
else
(Bp a 0 32).bind λg=>
(UY g 2684354560).bind λ(b,h,k)=>
if(!k)then
some (0,12)
else
if(Dg (Ac a) (Af b 64))then
some (0,24)
else
(Bp a (Au (Af b 64) 32) (Af b 64)).bind λm=>
(lP b h 2147483648).bind λn=>
(Il m n).bind λo=>
if(!o)then
some (0,12)
else
some ((Af b 64),0)
def CU(a:LB):Option (Int×Int):=
(UE a).bind λ(f,b)=>
if(Bq b 6)then
some (f,b)
else
(lS a).bind λ(g,h)=>
some (g,h)
def Yy(b:List UInt8):Nat->Int->Option (Int×Int)
  |0,_=>none
  |q+1,x=>Option.bind (Bp b x (Ac b)) λs=>Option.bind (CU s) λr=>
    if geq r.2 (6:Int)=true then some (x,0)
    else if(geq r.2 (0:Int)&&Fb (Af x r.1) (4000:Int))=true then some (0,4)
    else if Bq r.2 (0:Int)=true then some (0,r.2)
    else Yy b q (Af x r.1)
def Kg(b:List UInt8):Option (Int×Int):=Yy b Ba 0
def Al(a:Int):Option (Bool×Int):=
some (false,a)
def Ht(b a:LB):Option Bool:=
if(Tp (Ac b) (Ac a))then
(Bp b 0 (Ac a)).bind λf=>
some (f==a)
else
some false
def Ku(a b:LB):Option Bool:=
(Ht a b).bind λf=>
some f
def vE:Option Bool:=
some false
def fY:=vE
def Yq(j6:Option Bool)(Qy:Int->Option Bool)(a:LB)(b:Int):Option Bool:=
if(Dg b 2)then
(Ao ([([73,68,51]:LB),([65,80,69,84,65,71,69,88]:LB)]:List LB) b).bind λf=>
if(Dg (Ac a) (Ac f))then
(Ku f a).bind λg=>
if g then
some true
else
Qy (Af b 1)
else
Qy (Af b 1)
else
j6
def Lw(a:LB):Nat->Int->Option Bool
|0,_=>none
|q+1,b=>Yq fY (Lw a q) a b
def SS a:=Lw a Ba
def TE(j4:LB->Int->Option Bool)(a:LB):Option Bool:=
j4 a 0
def Ub:=TE SS
abbrev Cs:=Option (UInt32×Int)
def iS(h:UInt32):Cs:=
some (h,0)
def VV:=iS
def MC(j30:UInt32->Cs)(Aw0:UInt32->Int->Cs)(a:LB)(b:LU)(h:UInt32)(m:Int):Cs:=
if(Dg m (Ac a))then
(Ao a m).bind λp=>
(Ao b (GI.toZ (GQ (Ad h:UInt8) p))).bind λ_=>
(Ao b (GI.toZ (GQ (Ad h:UInt8) p))).bind λu=>
Aw0 (GQ (Ea h (GI.toZ (8:UInt64)).toNat) u) (Af m 1)
else
j30 h
def Wh(a:LB)(b:LU):Nat->UInt32->Int->Cs
|0,_,_=>none
|q+1,h,m=>MC VV (Wh a b q) a b h m
def WU a b:=Wh a b Ba
def WI(j28:LB->LU->UInt32->Int->Cs)(f:UInt32)(a:LB)(b:LU):Cs:=
j28 a b f 0
def VZ:=WI WU
def VX(j27:UInt32->LB->LU->Cs)(f:UInt32)(a:LB)(b:LU):Cs:=
j27 f a b
def KQ:=VX VZ
def iH(Hp:Int->LU->Cs)(f:UInt32)(a:LB)(g:Int)(o:LU):Cs:=
Hp (Af g 1) o
def XY Hp:=iH Hp
def WR(j24:Int->LU->Cs)(f:UInt32)(a:LB)(g:Int)(k:UInt32)(b:LU):Cs:=
(Ao b g).bind λ_=>
(Ux b g k).bind λo=>
j24 g o
def KO Hp f a:=WR (XY Hp f a) f a
def KE(j23:Int->UInt32->LU->Cs)(Aco:UInt32->Int->Cs)(f:UInt32)(a:LB)(g:Int)(b:LU)(k:UInt32)(n:Int):Cs:=
if(Dg n 8)then
Aco (GQ (Ea k (GI.toZ (1:UInt64)).toNat) (Bm 3988292384 (Kr k 1))) (Af n 1)
else
j23 g k b
def Vy(Hp:Int->LU->Cs)(f:UInt32)(a:LB)(g:Int)(b:LU):Nat->UInt32->Int->Cs
|0,_,_=>none
|q+1,k,n=>KE (KO Hp f a) (Vy Hp f a g b q) f a g b k n
def VJ Hp f a g b:=Vy Hp f a g b Ba
def ME(j21:Int->LU->UInt32->Int->Cs)(j26:UInt32->LB->LU->Cs)(f:UInt32)(a:LB)(g:Int)(b:LU):Cs:=
if(Dg g 256)then
j21 g b (Ad g:UInt32) 0
else
j26 f a b
def Qm(f:UInt32)(a:LB):Nat->Int->LU->Cs
|0,_,_=>none
|q+1,g,b=>ME (VJ (Qm f a q) f a) KQ f a g b
def VR f a:=Qm f a Ba
def aH(j16:UInt32->LB->Int->LU->Cs)(f:UInt32)(a:LB):Cs:=
if(Fb (Ac a) 100000)then
some (0,4)
else
j16 f a 0 (List.replicate 256 (0:UInt32))
def fJ:=aH VR
def OR(b:LB):Option (UInt32×Int):=
(fJ 4294967295 b).bind λ(f,a)=>
if(Bq a 0)then
some (0,a)
else
some ((zZ f),0)
abbrev Uu:=Option (Int×Int×Int×Int×Int×Int)
def kQ(a:LI):Uu:=
(Ao a 0).bind λ_=>
(Ao a 0).bind λh=>
(Ao a 1).bind λ_=>
(Ao a 1).bind λk=>
(Ao a 2).bind λ_=>
(Ao a 2).bind λm=>
(Ao a 3).bind λ_=>
(Ao a 3).bind λn=>
(Ao a 4).bind λ_=>
(Ao a 4).bind λo=>
(Ud h k m n o).bind λp=>
if(!p)then
some (0,0,0,0,0,12)
else
(RX h k m n o).bind λu=>
if(!u)then
some (0,0,0,0,0,4)
else
some (h,k,m,n,o,0)
def JY:=kQ
def JZ(j6:LI->Uu)(Qy:Int->Int->LI->Uu)(b:LB)(g f:Int)(a:LI):Uu:=
if(Dg f 5)then
(Ao ([(2:Int),(2:Int),(2:Int),(4:Int),(4:Int)]:LI) f).bind λh=>
(cI b g h).bind λ(v,ae)=>
(Ao a f).bind λ_=>
(Ux a f (Ad v:Int)).bind λw=>
Qy (Af g h) (Af f 1) w
else
j6 a
def Ql(b:LB):Nat->Int->Int->LI->Uu
|0,_,_,_=>none
|q+1,g,f,a=>JZ JY (Ql b q) b g f a
def KN b:=Ql b Ba
def XQ(j4:LB->Int->Int->LI->Uu)(b:LB):Uu:=
(Bp b 0 (Jr 4 (Ac b))).bind λy=>
(Ku ([84,84,65,49]:LB) y).bind λaa=>
if(!aa)then
some (0,0,0,0,0,12)
else
if(Dg (Ac b) 22)then
some (0,0,0,0,0,24)
else
(cI b 18 4).bind λ(ab,af)=>
(Bp b 0 18).bind λac=>
(OR ac).bind λ(ad,ag)=>
if(Bq (Ad ad:UInt64) ab)then
some (0,0,0,0,0,22)
else
j4 b 4 0 (List.replicate 5 (0:Int))
def Ni:=XQ KN
abbrev Ct:=Option (UInt64×Int)
def jN(h:UInt64):Ct:=
some (h,0)
def WW:=jN
def VN(j30:UInt64->Ct)(h b:UInt64)(a:LB)(f:LQ):Ct:=
j30 h
def XH:=VN WW
def KP(j29:UInt64->UInt64->LB->LQ->Ct)(mP:UInt64->Int->Ct)(a:LB)(b:UInt64)(f:LQ)(h:UInt64)(m:Int):Ct:=
if(Dg m (Ac a))then
(Ao a m).bind λp=>
Option.bind (Ao f (GI.toZ (GQ (Ad (Ea h (GI.toZ (56:UInt64)).toNat):UInt8) p))) λ_=>
Option.bind (Ao f (GI.toZ (GQ (Ad (Ea h (GI.toZ (56:UInt64)).toNat):UInt8) p))) λu=>
mP (GQ (Fe h (GI.toZ (8:UInt64)).toNat) u) (Af m 1)
else
j29 h b a f
def Wd(a:LB)(b:UInt64)(f:LQ):Nat->UInt64->Int->Ct
|0,_,_=>none
|q+1,h,m=>KP XH (Wd a b f q) a b f h m
def VS a b f:=Wd a b f Ba
def VK(j27:LB->UInt64->LQ->UInt64->Int->Ct)(b:UInt64)(a:LB)(f:LQ):Ct:=
j27 a b f b 0
def LA:=VK VS
def iA(Hp:Int->LQ->Ct)(b:UInt64)(a:LB)(g:Int)(o:LQ):Ct:=
Hp (Af g 1) o
def VY Hp:=iA Hp
def VQ(j24:Int->LQ->Ct)(b:UInt64)(a:LB)(g:Int)(k:UInt64)(f:LQ):Ct:=
(Ao f g).bind λ_=>
(Ux f g k).bind λo=>
j24 g o
def KF Hp b a:=VQ (VY Hp b a) b a
def JP(j23:Int->UInt64->LQ->Ct)(Aco:UInt64->Int->Ct)(b:UInt64)(a:LB)(g:Int)(f:LQ)(k:UInt64)(n:Int):Ct:=
if(Dg n 8)then
Aco (GQ (Fe k (GI.toZ (1:UInt64)).toNat) (Bm 4823603603198064275 (Ea k (GI.toZ (63:UInt64)).toNat))) (Af n 1)
else
j23 g k f
def Wr(Hp:Int->LQ->Ct)(b:UInt64)(a:LB)(g:Int)(f:LQ):Nat->UInt64->Int->Ct
|0,_,_=>none
|q+1,k,n=>JP (KF Hp b a) (Wr Hp b a g f q) b a g f k n
def YG Hp b a g f:=Wr Hp b a g f Ba
def KR(j21:Int->LQ->UInt64->Int->Ct)(j26:UInt64->LB->LQ->Ct)(b:UInt64)(a:LB)(g:Int)(f:LQ):Ct:=
if(Dg g 256)then
j21 g f (Fe (Ad g:UInt64) (GI.toZ (56:UInt64)).toNat) 0
else
j26 b a f
def Qw(b:UInt64)(a:LB):Nat->Int->LQ->Ct
|0,_,_=>none
|q+1,g,f=>KR (YG (Qw b a q) b a) LA b a g f
def WM b a:=Qw b a Ba
def aU(j16:UInt64->LB->Int->LQ->Ct)(b:UInt64)(a:LB):Ct:=
if(Fb (Ac a) 100000)then
some (0,4)
else
j16 b a 0 (List.replicate 256 (0:UInt64))
def eZ:=aU WM
def bV(a:LB):Option (UInt64×Int):=
(eZ 0 a).bind λ(b,f)=>
some (b,f)
def sT(a:LB):Option (UInt64×Int):=
if(Fb (Ac a) 64)then
some (0,2)
else
(bV a).bind λ(b,f)=>
some (b,0)
def UM(b:LB):Option (LB×Int):=
(sT b).bind λ(f,a)=>
if(Bq a 0)then
some (([]:LB),a)
else
(Yo f 8).bind λ(g,h)=>
some (g,h)
def Pw(a f:LB):Option (Bool×Int):=
(UM f).bind λ(b,g)=>
if((Bq g 0)||(Bq (Ac a) (Ac b)))then
some (false,2)
else
(Il a b).bind λh=>
some (h,0)
abbrev Xz:=Option (LI×Int)
def nM(a:LI):Xz:=
(Xc a).bind λk=>
if(Bq k 0)then
some (([]:LI),12)
else
some (a,0)
def QB:=nM
def QD(j6:LI->Xz)(Qy:Int->LI->Xz)(b:LB)(f:LI)(g:Int)(a:LI):Xz:=
if(Dg g (Ac f))then
(cI b (Bm 4 g) 4).bind λ(k,u)=>
(Ao a g).bind λ_=>
(Ux a g (Ad k:Int)).bind λm=>
Qy (Af g 1) m
else
j6 a
def Yw(b:LB)(f:LI):Nat->Int->LI->Xz
|0,_,_=>none
|q+1,g,a=>QD QB (Yw b f q) b f g a
def aK b f:=Yw b f Ba
def bC(j4:LB->LI->Int->LI->Xz)(b:LB)(h:Int):Xz:=
if((Dg h 1)||(Fb h 1000))then
some (([]:LI),2)
else
if(Dg (Ac b) (Af (Bm 4 h) 4))then
some (([]:LI),24)
else
(cI b (Bm 4 h) 4).bind λ(n,v)=>
(Bp b 0 (Bm 4 h)).bind λo=>
(OR o).bind λ(p,w)=>
if(Bq (Ad p:UInt64) n)then
some (([]:LI),22)
else
(mkI h (0:Int)).bind λf=>
(Ue (geq h h)).bind λ_=>
j4 b f 0 f
def HP:=bC aK
def Ack(a:LX):Option (LX):=
some a
def xT:=Ack
def fR(j6:LX->Option (LX))(Qy:Int->LX->Option (LX))(f:UInt64)(b:Int)(a:LX):Option (LX):=
if(Dg b 8)then
(Ue (Tp (Bm 8 b) 0)).bind λ_=>
(Ao a b).bind λ_=>
(Ux a b (Ad (Ad (Ea f (GI.toZ (Bm 8 b)).toNat):Int8):Int32)).bind λg=>
Qy (Af b 1) g
else
j6 a
def PJ(f:UInt64):Nat->Int->LX->Option (LX)
|0,_,_=>none
|q+1,b,a=>fR xT (PJ f q) f b a
def G0 f:=PJ f Ba
def B6(j4:UInt64->Int->LX->Option (LX))(f:UInt64):Option (LX):=
j4 f 0 (List.replicate 16 (0:Int32))
def R2:=B6 G0
def FA(a:LB):Option (LX×Int):=
if(Fb (Ac a) 64)then
some (([(0:Int32),(0:Int32),(0:Int32),(0:Int32),(0:Int32),(0:Int32),(0:Int32),(0:Int32),(0:Int32),(0:Int32),(0:Int32),(0:Int32),(0:Int32),(0:Int32),(0:Int32),(0:Int32)]:LX),2)
else
(bV a).bind λ(f,b)=>
if(Bq b 0)then
some (([(0:Int32),(0:Int32),(0:Int32),(0:Int32),(0:Int32),(0:Int32),(0:Int32),(0:Int32),(0:Int32),(0:Int32),(0:Int32),(0:Int32),(0:Int32),(0:Int32),(0:Int32),(0:Int32)]:LX),b)
else
(R2 f).bind λg=>
some (g,0)
def GD(f a b g h:Int):Option (Int×Int):=
some (a,b)
abbrev aT:=Option (Int32×Int32×Int)
def iN(a:Int)(b:Bool):aT:=
if b then
(Ue (Tp (Au a 1) 0)).bind λ_=>
some ((pN (Fe (1:Int32) (GI.toZ (Au a 1)).toNat)),(Au (Fe (1:Int32) (GI.toZ (Au a 1)).toNat) 1),0)
else
some (0,0,2)
def YF:=iN
def WX(j2:Int->Bool->aT)(a:Int):aT:=
if(geq a 8)then
j2 a (geq a 8)
else
if(geq a 16)then
j2 a (geq a 16)
else
j2 a (geq a 24)
def Ua:=WX YF
def Jg(a b:Int):Option Int:=
(Ua b).bind λ(g,h,f)=>
if(((Bq f 0)||(Dg a 1))||(Fb a 6))then
some 2
else
some 0
def KZ(a:LB):Option (LB×Int):=
if(Dg (Ac a) 5)then
some (([]:LB),24)
else
if(Fb (Ac a) 41254)then
some (([]:LB),4)
else
(Bp a 0 (Au (Ac a) 4)).bind λf=>
(OR f).bind λ(g,b)=>
if(Bq b 0)then
some (([]:LB),b)
else
(Bp a (Au (Ac a) 4) (Ac a)).bind λh=>
(iR h).bind λ(k,m)=>
if((Bq m 0)||(Bq k (Ad g:UInt64)))then
some (([]:LB),22)
else
(Bp a 0 (Au (Ac a) 4)).bind λn=>
some (n,0)
def Lm(a:LB):Option (LB):=
(
(Cz ([]:LB) a).bind λb=>
some b)
def V7(a:LB):Option (LB×Int×Int):=
if(Fb (Ac a) 41250)then
some (([]:LB),0,4)
else
(Lm a).bind λb=>
some (b,(Bm 8 (Ac a)),0)
def G1:Option (Int×Int×UInt64×UInt64):=
some (10,10,16384,16384)
def Yg(b:LB)(a:Int):Option Int:=
if(((Dg a 0)||(Fb a 330000))||(Bq (Ac b) (U5 (Af a 7) (GI.toZ (3:UInt64)).toNat)))then
some 8
else
if(Fb (Kr a 7) 0)then
(Ao b (Au (Ac b) 1)).bind λf=>
(Ue (Tp (Kr a 7) 0)).bind λ_=>
if(Bq (Ea f (GI.toZ (Kr a 7)).toNat) 0)then
some 8
else
some 0
else
some 0
def zh(g:UInt64):Option UInt64:=
some g
def uP:=zh
def jU(j6:UInt64->Option UInt64)(Qy:UInt64->Int->Option UInt64)(b f:Int)(h:LB)(k:Int)(g:UInt64)(a:Int):Option UInt64:=
if(Dg a f)then
(Ao h (U5 (Af b a) (GI.toZ (3:UInt64)).toNat)).bind λm=>
(Ue (Tp (Kr (Af b a) 7) 0)).bind λ_=>
(Ue (Tp (Jr (Au f a) (Au 8 (Kr (Af b a) 7))) 0)).bind λ_=>
(Ue (Tp a 0)).bind λ_=>
Qy (uN g (Fe (Ad (Kr (Ea m (GI.toZ (Kr (Af b a) 7)).toNat) (Au (Fe (1:UInt8) (GI.toZ (Jr (Au f a) (Au 8 (Kr (Af b a) 7)))).toNat) 1)):UInt64) (GI.toZ a).toNat)) (Af a (Jr (Au f a) (Au 8 (Kr (Af b a) 7))))
else
j6 g
def RG(b f:Int)(h:LB)(k:Int):Nat->UInt64->Int->Option UInt64
|0,_,_=>none
|q+1,g,a=>jU uP (RG b f h k q) b f h k g a
def uF b f h k:=RG b f h k Ba
def tO(j4:Int->Int->LB->Int->UInt64->Int->Option UInt64)(h:LB)(k b f:Int):Option UInt64:=
j4 b f h k 0 0
def qV:=tO uF
abbrev Gg:=Option (LB×Int×Int)
def qX(o:Int)(p:LB):Gg:=
some (p,o,0)
def dJ:=qX
def qA(mP:Int->Int->LB->Gg)(a:Int)(g:LB)(f b h:Int)(u:LB):Gg:=
mP (Af b 64) h u
def UD mP:=qA mP
def qC(Aly:UInt64->Int->Int->LB->Gg)(a b:Int)(g:LB)(f:Int)(k n:UInt64)(m h:Int)(w:LB):Gg:=
(Ue (Tp (Jr m (Au 8 (Kr h 7))) 0)).bind λ_=>
Aly (Ea n (GI.toZ (Jr m (Au 8 (Kr h 7)))).toNat) (Au m (Jr m (Au 8 (Kr h 7)))) (Af h (Jr m (Au 8 (Kr h 7)))) w
def eU Aly:=qC Aly
def fO(j48:UInt64->Int->Int->LB->Gg)(a b:Int)(g:LB)(f:Int)(k n:UInt64)(m h:Int)(v:LB):Gg:=
(Ao v (Au (Ac v) 1)).bind λ_=>
(Ue (Tp (Jr m (Au 8 (Kr h 7))) 0)).bind λ_=>
(Ue (Tp (Kr h 7) 0)).bind λ_=>
(Ao v (Au (Ac v) 1)).bind λaa=>
(Ao v (Au (Ac v) 1)).bind λ_=>
Option.bind (Ux v (Au (Ac v) 1) (uN aa (Fe (Ad (Kr n (Au (Fe (1:UInt64) (GI.toZ (Jr m (Au 8 (Kr h 7)))).toNat) 1)):UInt8) (GI.toZ (Kr h 7)).toNat))) λw=>
j48 n m h w
def UK Aly a b g f k:=fO (eU Aly a b g f k) a b g f k
def UJ(j47:UInt64->Int->Int->LB->Gg)(j50:Int->Int->LB->Gg)(a:Int)(g:LB)(f b:Int)(k n:UInt64)(m h:Int)(u:LB):Gg:=
if(Fb m 0)then
if(geq (Kr h 7) 0)then
(Cz u ([(0:UInt8)]:LB)).bind λab=>
j47 n m h ab
else
j47 n m h u
else
j50 b h u
def Tf(mP:Int->Int->LB->Gg)(a:Int)(g:LB)(f b:Int)(k:UInt64):Nat->UInt64->Int->Int->LB->Gg
|0,_,_,_,_=>none
|q+1,n,m,h,u=>UJ (UK (Tf mP a g f b k q) a b g f k) (UD mP a g f) a g f b k n m h u
def fC mP a g f b k:=Tf mP a g f b k Ba
def eW(j44:Int->UInt64->UInt64->Int->Int->LB->Gg)(j52:Int->LB->Gg)(a:Int)(g:LB)(f b o:Int)(p:LB):Gg:=
if(Dg b a)then
(qV g f b (Jr 64 (Au a b))).bind λk=>
j44 b k k (Jr 64 (Au a b)) o p
else
j52 o p
def EC(a:Int)(g:LB)(f:Int):Nat->Int->Int->LB->Gg
|0,_,_,_=>none
|q+1,b,o,p=>eW (fC (EC a g f q) a g f) dJ a g f b o p
def cZ a g f:=EC a g f Ba
def jY(j27:Int->LB->Int->Int->Int->LB->Gg)(g:LB)(f y a:Int):Gg:=
(Yg g f).bind λac=>
if(Bq ac 0)then
some (([]:LB),0,8)
else
if(((Dg y 0)||(Fb y a))||(Fb a f))then
some (([]:LB),0,2)
else
j27 a g f y 0 ([]:LB)
def jP:=jY cZ
def mT(a b:Int)(f g:UInt64):Option Int:=
if(!((geq (Jr (mM a 0) 24) a)&&((geq (Jr (mM b 0) 24) b)&&((geq (Jr f 68719476735) f)&&((geq (Jr g 68719476735) g)&&true)))))then
some 8
else
some 0
def ZU:=mT
def QC(j4:Int->Int->UInt64->UInt64->Option Int)(a b:Int)(f g:UInt64):Option Int:=
(
(
j4 a b f g))
def bA:=QC ZU
def QH(j3:Int->Int->UInt64->UInt64->Option Int)(a b:Int)(f g:UInt64):Option Int:=
(
(
j3 a b f g))
def fA:=QH bA
def LV(g:LB)(b f a:Int):Option (UInt64×Int):=
(Yg g b).bind λh=>
if(Bq h 0)then
some (0,8)
else
if(((Dg a 0)||(Fb a 64))||(Dg f 0))then
some (0,2)
else
if(Fb f (Au b a))then
some (0,24)
else
(qV g b f a).bind λk=>
some (k,0)
def Hx(a:UInt64):Option Int:=
if(geq a 0)then
some 64
else
(Ao ([(0:UInt8),(1:UInt8),(56:UInt8),(2:UInt8),(57:UInt8),(49:UInt8),(28:UInt8),(3:UInt8),(61:UInt8),(58:UInt8),(42:UInt8),(50:UInt8),(38:UInt8),(29:UInt8),(17:UInt8),(4:UInt8),(62:UInt8),(47:UInt8),(59:UInt8),(36:UInt8),(45:UInt8),(43:UInt8),(51:UInt8),(22:UInt8),(53:UInt8),(39:UInt8),(33:UInt8),(30:UInt8),(24:UInt8),(18:UInt8),(12:UInt8),(5:UInt8),(63:UInt8),(55:UInt8),(48:UInt8),(27:UInt8),(60:UInt8),(41:UInt8),(37:UInt8),(16:UInt8),(46:UInt8),(35:UInt8),(44:UInt8),(21:UInt8),(52:UInt8),(32:UInt8),(23:UInt8),(11:UInt8),(54:UInt8),(26:UInt8),(40:UInt8),(15:UInt8),(34:UInt8),(20:UInt8),(31:UInt8),(10:UInt8),(25:UInt8),(14:UInt8),(19:UInt8),(9:UInt8),(13:UInt8),(8:UInt8),(7:UInt8),(6:UInt8)]:LB) (GI.toZ (Ea (Bm (Kr a (pN a)) 285870213051353865) (GI.toZ (58:UInt64)).toNat))).bind λb=>
some (Ad b:Int)
abbrev Ky:=Option (Int×Int×Int)
def yM:Ky:=
some (0,0,24)
def jA:=yM
def nH(j10:Ky):Ky:=
j10
def mU:=nH jA
def aD(j9:Ky)(f a:Int):Ky:=
if(geq f 48)then
some (f,(Af 0 (Af a f)),0)
else
j9
def aM:=aD mU
def aJ(j8:Int->Int->Ky)(f b a:Int):Ky:=
if(Dg f (Jr 48 (Au b a)))then
some (f,(Af (Af (0:Int) (1:Int)) (Af a f)),0)
else
j8 f a
def aS:=aJ aM
def aO(j7:Int->Int->Int->Ky)(h:Int)(k:UInt64)(a:Int)(g:LB)(b:Int):Ky:=
if(Bq h 0)then
some (0,0,h)
else
(Hx (zZ k)).bind λf=>
j7 f b a
def aB:=aO aS
def GP(j6:Int->UInt64->Int->LB->Int->Ky)(g:LB)(b a:Int):Ky:=
(Yg g b).bind λm=>
if(Bq m 0)then
some (0,0,m)
else
if(Dg a 0)then
some (0,0,2)
else
if(Tp a b)then
some (0,0,24)
else
(
(
(LV g b a (Jr 48 (Au b a))).bind λ(k,h)=>
j6 h k a g b))
def PF:=GP aB
def fI(b:UInt32)(a:Int):Option Bool:=
(Ue (Tp a 0)).bind λ_=>
some (Tp (Ea b (GI.toZ a).toNat) 48)
abbrev kA:=Option (UInt32×Int×Int)
def eB(a b f:Int)(g:LB)(h k:Int):kA:=
(LV g h b k).bind λ(m,n)=>
if(Bq n 0)then
some (0,0,n)
else
if(Dg f 48)then
(Ue (Tp a 0)).bind λ_=>
some ((uN (Fe (Ad f:UInt32) (GI.toZ a).toNat) (Ad m:UInt32)),(Af b k),0)
else
(fI (Ad m:UInt32) a).bind λu=>
if(!u)then
some (0,0,12)
else
some ((Ad m:UInt32),(Af b k),0)
def UR:=eB
def eO(j2:Int->Int->Int->LB->Int->Int->kA)(g:LB)(h v a:Int):kA:=
(Yg g h).bind λo=>
if(Bq o 0)then
some (0,0,o)
else
if((Dg a 0)||(Fb a 24))then
some (0,0,2)
else
(PF g h v).bind λ(f,b,p)=>
if(Bq p 0)then
some (0,0,p)
else
if(geq f 48)then
j2 a b f g h 32
else
j2 a b f g h a
def lX:=eO UR
def eL(a f:Int)(g h:UInt64)(b:UInt32):Option (Int×UInt32):=
(Ue (Tp a 0)).bind λ_=>
if(geq (Ea b (GI.toZ a).toNat) 0)then
some (0,b)
else
(Ue (Tp a 0)).bind λ_=>
some (1,(Au b (Fe (1:UInt32) (GI.toZ a).toNat)))
abbrev Ns:=Option (UInt32×Int×Int×Int×UInt64×UInt64×Int)
def mS(f:UInt32)(k w m:Int)(a n:UInt64):Ns:=
some (f,k,w,m,(Af a (Au (Ad f:UInt64) (Ea a (GI.toZ (4:UInt64)).toNat))),n,0)
def aG:=mS
def fE(j10:UInt32->Int->Int->Int->UInt64->UInt64->Ns)(f:UInt32)(k m:Int)(a n:UInt64)(w:Int):Ns:=
j10 f k w m a n
def dB:=fE aG
def fL(j9:UInt32->Int->Int->UInt64->UInt64->Int->Ns)(f:UInt32)(k b:Int)(a:UInt64)(m:Int)(n:UInt64):Ns:=
if(Fb b 0)then
(Ue (Tp b 0)).bind λ_=>
if(Dg (Af a (Au (Ad f:UInt64) (Ea a (GI.toZ (4:UInt64)).toNat))) (Fe (16:UInt64) (GI.toZ b).toNat))then
j9 f k m a n (Au b 1)
else
if(Dg b 24)then
(Ue (Tp b 0)).bind λ_=>
if(Fb (Af a (Au (Ad f:UInt64) (Ea a (GI.toZ (4:UInt64)).toNat))) (Fe (32:UInt64) (GI.toZ b).toNat))then
j9 f k m a n (Af b 1)
else
j9 f k m a n b
else
j9 f k m a n b
else
if(Dg b 24)then
(Ue (Tp b 0)).bind λ_=>
if(Fb (Af a (Au (Ad f:UInt64) (Ea a (GI.toZ (4:UInt64)).toNat))) (Fe (32:UInt64) (GI.toZ b).toNat))then
j9 f k m a n (Af b 1)
else
j9 f k m a n b
else
j9 f k m a n b
def MK:=fL dB
def dK(j8:UInt32->Int->Int->UInt64->Int->UInt64->Ns)(b h:Int)(a g:UInt64)(f:UInt32)(k:Int):Ns:=
(eL b h a g f).bind λ(ad,o)=>
if(geq ad 1)then
if(Fb h 0)then
(Ue (Tp h 0)).bind λ_=>
if(Dg (Af g (Au (Ad o:UInt64) (Ea g (GI.toZ (4:UInt64)).toNat))) (Fe (16:UInt64) (GI.toZ h).toNat))then
j8 f k b a (Au h 1) (Af g (Au (Ad o:UInt64) (Ea g (GI.toZ (4:UInt64)).toNat)))
else
if(Dg h 24)then
(Ue (Tp h 0)).bind λ_=>
if(Fb (Af g (Au (Ad o:UInt64) (Ea g (GI.toZ (4:UInt64)).toNat))) (Fe (32:UInt64) (GI.toZ h).toNat))then
j8 f k b a (Af h 1) (Af g (Au (Ad o:UInt64) (Ea g (GI.toZ (4:UInt64)).toNat)))
else
j8 f k b a h (Af g (Au (Ad o:UInt64) (Ea g (GI.toZ (4:UInt64)).toNat)))
else
j8 f k b a h (Af g (Au (Ad o:UInt64) (Ea g (GI.toZ (4:UInt64)).toNat)))
else
if(Dg h 24)then
(Ue (Tp h 0)).bind λ_=>
if(Fb (Af g (Au (Ad o:UInt64) (Ea g (GI.toZ (4:UInt64)).toNat))) (Fe (32:UInt64) (GI.toZ h).toNat))then
j8 f k b a (Af h 1) (Af g (Au (Ad o:UInt64) (Ea g (GI.toZ (4:UInt64)).toNat)))
else
j8 f k b a h (Af g (Au (Ad o:UInt64) (Ea g (GI.toZ (4:UInt64)).toNat)))
else
j8 f k b a h (Af g (Au (Ad o:UInt64) (Ea g (GI.toZ (4:UInt64)).toNat)))
else
j8 f k b a h g
def UI:=dK MK
def dP(j7:Int->Int->UInt64->UInt64->UInt32->Int->Ns)(p:Int)(u:LB)(v b h:Int)(a g:UInt64):Ns:=
(LV u v p 1).bind λ(ae,aa)=>
if(Bq aa 0)then
some (0,0,0,0,0,0,aa)
else
if(geq ae 0)then
(LV u v (Af p 1) b).bind λ(af,ab)=>
if(Bq ab 0)then
some (0,0,0,0,0,0,ab)
else
j7 b h a g (Ad af:UInt32) (Af (Af p 1) b)
else
(lX u v (Af p 1) h).bind λ(y,ag,ac)=>
if(Bq ac 0)then
some (0,0,0,0,0,0,ac)
else
(Ue (Tp b 0)).bind λ_=>
if(Dg (Af y (Fe (1:UInt32) (GI.toZ b).toNat)) y)then
some (0,0,0,0,0,0,12)
else
j7 b h a g (Af y (Fe (1:UInt32) (GI.toZ b).toNat)) ag
def fN:=dP UI
def fP(j6:Int->LB->Int->Int->Int->UInt64->UInt64->Ns)(u:LB)(v p b h:Int)(a g:UInt64):Ns:=
(Yg u v).bind λah=>
if(Bq ah 0)then
some (0,0,0,0,0,0,8)
else
(fA b h a g).bind λai=>
if(Bq ai 0)then
some (0,0,0,0,0,0,8)
else
j6 p u v b h a g
def OX:=fP fN
abbrev Cq:=Option (LU×Int×Int)
def oG(k:Int)(m:LU):Cq:=
some (m,k,0)
def XT:=oG
def XR(Hp:Int->Int-> (List (Int×Int×UInt64×UInt64×Unit))->LU->Cq)(a f:Int)(g:LB)(b k v:Int)(w:UInt32)(h:Int)(ag:List (Int×Int×UInt64×UInt64×Unit))(m:LU):Cq:=
(Cz m ([w]:LU)).bind λak=>
Hp (Af k v) (Af h 1) ag ak
def HI Hp:=XR Hp
def Xo(j22:Int->Int->UInt32->Int-> (List (Int×Int×UInt64×UInt64×Unit))->LU->Cq)(a f:Int)(g:LB)(b k h y:Int)(w:UInt32)(v:Int)(n:List (Int×Int×UInt64×UInt64×Unit))(m:LU)(aa ab:Int)(ac ad:UInt64):Cq:=
if(Bq y 0)then
some (([]:LU),0,y)
else
(Ue (Bq a 0)).bind λ_=>
(Ao n (Ko h a)).bind λ_=>
(Ux n (Ko h a) (aa,ab,ac,ad,())).bind λag=>
j22 k v w h ag m
def Xq Hp a f g b:=Xo (HI Hp a f g b) a f g b
def Yh(j21:Int->Int->Int->UInt32->Int-> (List (Int×Int×UInt64×UInt64×Unit))->LU->Int->Int->UInt64->UInt64->Cq)(j24:Int->LU->Cq)(a f:Int)(g:LB)(b k h:Int)(n:List (Int×Int×UInt64×UInt64×Unit))(m:LU):Cq:=
if(Dg h (Bm f a))then
(jP g b k (Jr (Af k 81) b)).bind λ(ah,ae,af)=>
if(Bq af 0)then
some (([]:LU),0,af)
else
(Ue (Bq a 0)).bind λ_=>
(Ao n (Ko h a)).bind λ_=>
(
(
(Ao n (Ko h a)).bind λp=>
(
(OX ah ae 0 p.1 p.2.1 p.2.2.1 p.2.2.2.1).bind λ(w,v,aa,ab,ac,ad,y)=>
j21 k h y w v n m aa ab ac ad)))
else
j24 k m
def Qk(a f:Int)(g:LB)(b:Int):Nat->Int->Int-> (List (Int×Int×UInt64×UInt64×Unit))->LU->Cq
|0,_,_,_,_=>none
|q+1,k,h,n,m=>Yh (Xq (Qk a f g b q) a f g b) XT a f g b k h n m
def YI a f g b:=Qk a f g b Ba
def VI(j16:Int->Int->LB->Int->Int->Int-> (List (Int×Int×UInt64×UInt64×Unit))->LU->Cq)(a f:Int)(g:LB)(b:Int)(o:List (Int×Int×UInt64×UInt64×Unit)):Cq:=
j16 a f g b 0 0 o ([]:LU)
def HH:=VI YI
def VO(j15:Int->Int->LB->Int-> (List (Int×Int×UInt64×UInt64×Unit))->Cq)(Alz:Int-> (List (Int×Int×UInt64×UInt64×Unit))->Cq)(a f:Int)(g:LB)(b u:Int)(o:List (Int×Int×UInt64×UInt64×Unit)):Cq:=
if(Dg u 6)then
(G1).bind λ(al,ae,af,am)=>
(Ao o u).bind λ_=>
(Ux o u (al,ae,af,am,())).bind λan=>
Alz (Af u 1) an
else
j15 a f g b o
def HK(a f:Int)(g:LB)(b:Int):Nat->Int-> (List (Int×Int×UInt64×UInt64×Unit))->Cq
|0,_,_=>none
|q+1,u,o=>VO HH (HK a f g b q) a f g b u o
def Yi a f g b:=HK a f g b Ba
def KV(j13:Int->Int->LB->Int->Int-> (List (Int×Int×UInt64×UInt64×Unit))->Cq)(a f:Int)(g:LB)(b:Int):Cq:=
j13 a f g b 0 (List.replicate 6 ((0:Int),(0:Int),(0:UInt64),(0:UInt64),()))
def KW:=KV Yi
abbrev nX:=Option (Int×LX×LX×Int)
def ze(a:Int)(b:LX)(f:Bool):nX:=
if f then
some (10,b,(List.replicate 16 (0:Int32)),0)
else
if(geq a 16)then
some (9,b,(List.replicate 16 (0:Int32)),0)
else
some (0,(List.replicate 16 (0:Int32)),(List.replicate 16 (0:Int32)),2)
def uC:=ze
def uQ(j2:Int->LX->Bool->nX)(a:Int)(b:LX):nX:=
if(geq a 8)then
j2 a b (geq a 8)
else
j2 a b (geq a 24)
def qM:=uQ uC
def P8(a:Int)(f:LX):Option (Int×Int32×Int×LX×LX×Int):=
(qM a f).bind λ(g,h,k,b)=>
if(Bq b 0)then
some (0,0,0,(List.replicate 16 (0:Int32)),(List.replicate 16 (0:Int32)),b)
else
some (a,0,g,h,k,0)
def ES(a:UInt32):Option Int32:=
some (GQ (Ad (Ea a (GI.toZ (1:UInt64)).toNat):Int32) (pN (Ad (Kr a 1):Int32)))
def RC(a:Int)(k:Int32)(b:Int)(f m:LX):Option Int:=
(qM a f).bind λ(g,n,o,h)=>
if((Bq h 0)||(Bq g b))then
some 8
else
some 0
def jH(a:Int):Option (Int×Int):=
if(geq a 8)then
some (4,0)
else
if(geq a 16)then
if(geq a 16)then
some (5,0)
else
some (0,2)
else
if(geq a 24)then
some (5,0)
else
some (0,2)
def YT(a:Int)(b:Int32):Option Int32:=
(Ue (Tp a 0)).bind λ_=>
(Ue (Tp a 0)).bind λ_=>
some (Ad (U5 (Au (Fe (Ad b:Int) (GI.toZ a).toNat) (Ad b:Int)) (GI.toZ a).toNat):Int32)
def RE(b:Int)(f:Int32):Option (Int32×Int):=
(jH b).bind λ(g,a)=>
if(Bq a 0)then
some (0,a)
else
(YT g f).bind λh=>
some (h,0)
def PB(a:Int)(b f:LX):Option Int:=
if((Bq a 9)&&(Bq a 10))then
some 8
else
some 0
abbrev Ye:=Option (Int32×Int)
def nI(g:Int32)(a:Int)(b f:LX):Ye:=
(Ue (Tp a 0)).bind λ_=>
some ((Ea g (GI.toZ a).toNat),0)
def aC:=nI
def QF(j6:Int32->Int->LX->LX->Ye)(Qy:Int32->Int->Ye)(b:LX)(a:Int)(f:LX)(g:Int32)(h:Int):Ye:=
if(Dg h 16)then
(Ao b h).bind λm=>
(Ao f h).bind λ_=>
(Ao f h).bind λn=>
Qy (Af g (Bm m n)) (Af h 1)
else
j6 g a b f
def Yz(b:LX)(a:Int)(f:LX):Nat->Int32->Int->Ye
|0,_,_=>none
|q+1,g,h=>QF aC (Yz b a f q) b a f g h
def aL b a f:=Yz b a f Ba
def ZZ(j4:LX->Int->LX->Int32->Int->Ye)(a:Int)(b f:LX):Ye:=
(PB a b f).bind λk=>
if(Bq k 0)then
some (0,k)
else
(Ue (Tp (Au a 1) 0)).bind λ_=>
j4 b a f (Fe (1:Int32) (GI.toZ (Au a 1)).toNat) 0
def eD:=ZZ aL
def bQ(a:Int):Option Int32:=
if(geq a 0)then
some 4
else
if(Dg a 4)then
some 2
else
some 1
abbrev Xd:=Option (Int×LX×LX×Int)
def H8(g:Int)(b f:LX):Xd:=
some (g,b,f,0)
def nA:=H8
def QG(j6:Int->LX->LX->Xd)(Qy:Int->LX->Xd)(h:Int32)(f:LX)(g a:Int)(b:LX):Xd:=
if(Dg a 16)then
(Ao f a).bind λm=>
if(geq m 0)then
Qy (Af a 1) b
else
if((Dg m 0)==(Dg h 0))then
(Ao b a).bind λ_=>
(Ao b a).bind λo=>
(bQ a).bind λp=>
(Ao b a).bind λ_=>
(Ux b a (Af o p)).bind λu=>
Qy (Af a 1) u
else
(Ao b a).bind λ_=>
(Ao b a).bind λv=>
(bQ a).bind λw=>
(Ao b a).bind λ_=>
(Ux b a (Au v w)).bind λy=>
Qy (Af a 1) y
else
j6 g b f
def Yv(h:Int32)(f:LX)(g:Int):Nat->Int->LX->Xd
|0,_,_=>none
|q+1,a,b=>QG nA (Yv h f g q) h f g a b
def mX h f g:=Yv h f g Ba
def aR(j4:Int32->LX->Int->Int->LX->Xd)(g:Int)(k f:LX)(h:Int32):Xd:=
(PB g k f).bind λn=>
if(Bq n 0)then
some (0,(List.replicate 16 (0:Int32)),(List.replicate 16 (0:Int32)),n)
else
if(geq h 0)then
some (g,k,f,0)
else
j4 h f g 0 k
def fS:=aR mX
abbrev kN:=Option (Int×LX×LX×Int)
def pM(g:Int32)(b:Int)(f a:LX):kN:=
(Ao (Zf a 1 ((16:Int)-(1:Int)) (cC a 0 ((16:Int)-(0:Int)))) 0).bind λ_=>
(Ux (Zf a 1 ((16:Int)-(1:Int)) (cC a 0 ((16:Int)-(0:Int)))) 0 g).bind λk=>
some (b,f,k,0)
def eP:=pM
def UL(j2:Int32->Int->LX->LX->kN)(b:Int)(f a:LX)(g:Int32):kN:=
(PB b f a).bind λh=>
if(Bq h 0)then
some (0,(List.replicate 16 (0:Int32)),(List.replicate 16 (0:Int32)),h)
else
(
(pB 16 1 16).bind λ_=>
(pB 16 0 16).bind λ_=>
j2 g b f a)
def mF:=UL eP
def nU(a:Int)(b f:LX)(g h:Int32):Option (Int×LX×LX):=
(fS a b f h).bind λ(k,m,n,v)=>
(mF k m n g).bind λ(o,p,u,w)=>
some (o,p,u)
def kU(b:Int)(f g:LX)(a:Int32):Option (Int32×Int×LX×LX×Int):=
(eD b f g).bind λ(h,k)=>
if(Bq k 0)then
some (0,0,(List.replicate 16 (0:Int32)),(List.replicate 16 (0:Int32)),k)
else
(nU b f g (Af a h) a).bind λ(m,n,o)=>
some ((Af a h),m,n,o,0)
def Oo(a:Int)(b:Int32)(f:Int)(g h:LX)(o:Int32):Option (Int32×Int×Int32×Int×LX×LX×Int):=
(RC a b f g h).bind λk=>
if(Bq k 0)then
some (0,0,0,0,(List.replicate 16 (0:Int32)),(List.replicate 16 (0:Int32)),k)
else
(RE a b).bind λ(m,y)=>
(kU f g h o).bind λ(n,p,u,v,w)=>
(
some ((Af n m),a,(Af n m),p,u,v,w))
def lZ(a:Int)(b:LX):Option Int:=
if((Dg a 1)||(Fb a 6))then
some 2
else
if(Fb (Ac b) 4000)then
some 4
else
(Ue (Bq a 0)).bind λ_=>
if(Bq (Ko (Ac b) a) 0)then
some 2
else
some 0
def Iz(a:LX):Option (LX):=
(
(Cz ([]:LX) a).bind λb=>
some b)
abbrev Ib:=Option (LX×Int)
def S4(f:LX):Ib:=
some (f,0)
def pP:=S4
def qJ(I1:Int->LX->Ib)(b a:Int)(h:LX):Ib:=
I1 (Af a b) h
def eK I1:=qJ I1
def UG(j20:Int->LX->Ib)(I2:Int->LX->Ib)(b a g:Int)(h:LX):Ib:=
if(Tp g 0)then
(Ue (decide (0<= (Af g 1)/\ (Af g 1)<((Af a b)-a)))).bind λ_=>
(Ue (decide (0<=g/\g<((Af a b)-a)))).bind λ_=>
(Ao h (a+(Af g 1))).bind λo=>
(Ao h (a+g)).bind λp=>
(Ue (decide (0<=g/\g<((Af a b)-a)))).bind λ_=>
(Ux h (a+g) (Au o p)).bind λu=>
I2 (Au g 1) u
else
j20 a h
def EO(I1:Int->LX->Ib)(b a:Int):Nat->Int->LX->Ib
|0,_,_=>none
|q+1,g,h=>UG (eK I1 b) (EO I1 b a q) b a g h
def dI I1 b a:=EO I1 b a Ba
def dA(j18:Int->Int->LX->Ib)(b a:Int)(k:LX):Ib:=
j18 a (Au (Au ((Af a b)-a) 1) 1) k
def UQ I1 b:=dA (dI I1 b) b
def dF(j17:Int->LX->Ib)(j22:LX->Ib)(b a:Int)(f:LX):Ib:=
if(Dg a (Ac f))then
(pB (Ac f) a (Af a b)).bind λ_=>
if(Fb (Au ((Af a b)-a) 1) 0)then
(Ue (decide (0<= (Au ((Af a b)-a) 1)/\ (Au ((Af a b)-a) 1)<((Af a b)-a)))).bind λ_=>
Option.bind (Ue (decide (0<= (Au (Au ((Af a b)-a) 1) 1)/\ (Au (Au ((Af a b)-a) 1) 1)<((Af a b)-a)))) λ_=>
(Ao f (a+(Au ((Af a b)-a) 1))).bind λv=>
(Ao f (a+(Au (Au ((Af a b)-a) 1) 1))).bind λw=>
(Ue (decide (0<= (Au ((Af a b)-a) 1)/\ (Au ((Af a b)-a) 1)<((Af a b)-a)))).bind λ_=>
(Ux f (a+(Au ((Af a b)-a) 1)) (Af v (By w 2))).bind λy=>
j17 a y
else
j17 a f
else
j22 f
def Xt(b:Int):Nat->Int->LX->Ib
|0,_,_=>none
|q+1,a,f=>dF (UQ (Xt b q) b) pP b a f
def eQ b:=Xt b Ba
def kY(j12:Int->Int->LX->Ib)(b:Int)(m:LX):Ib:=
(lZ b m).bind λn=>
if(Bq n 0)then
some (([]:LX),n)
else
(Iz m).bind λaa=>
j12 b 0 aa
def pY:=kY eQ
def C4:Option Int:=
some 0
def jZ:=C4
def JV(j6:Option Int)(Qy:Int->Option Int)(b f:Int32)(a:LX)(g:Int):Option Int:=
if(Dg g (Ac a))then
(Ao a g).bind λh=>
if((Dg h b)||(Fb h f))then
some 16
else
Qy (Af g 1)
else
j6
def Wb(b f:Int32)(a:LX):Nat->Int->Option Int
|0,_=>none
|q+1,g=>JV jZ (Wb b f a q) b f a g
def iC b f a:=Wb b f a Ba
def XI(j4:Int32->Int32->LX->Int->Option Int)(m:Int)(a:LX):Option Int:=
(Ua m).bind λ(b,f,k)=>
if(Bq k 0)then
some k
else
if(Fb (Ac a) 4000)then
some 4
else
j4 b f a 0
def IQ:=XI iC
abbrev Da:=Option (LX×Int)
def TL(a b:Int)(k:LX):Da:=
(pY a k).bind λ(ah,af)=>
if(Bq af 0)then
some (([]:LX),af)
else
(IQ b ah).bind λae=>
if(Bq ae 0)then
some (([]:LX),ae)
else
some (ah,0)
def Oy:=TL
def TR(Alz:Int-> (List (Int×Int32×(Int×LX×LX×Unit)×Unit))->LX->Da)(a:Int)(f:LU)(b g:Int)(w:Int32)(u:Int)(h:List (Int×Int32×(Int×LX×LX×Unit)×Unit))(k:LX)(y:Int)(v:Int32)(aa:Int)(ab ac:LX):Da:=
if(Bq u 0)then
some (([]:LX),u)
else
(Ux h (Ko g a) (y,v,(aa,ab,ac,()),())).bind λai=>
(Cz k ([w]:LX)).bind λaj=>
Alz (Af g 1) ai aj
def FR Alz:=TR Alz
def Ox(j16:Int->Int32->Int-> (List (Int×Int32×(Int×LX×LX×Unit)×Unit))->LX->Int->Int32->Int->LX->LX->Da)(j18:Int->Int->LX->Da)(f:LU)(a b g:Int)(h:List (Int×Int32×(Int×LX×LX×Unit)×Unit))(k:LX):Da:=
if(Dg g (Ac f))then
(Ao f g).bind λag=>
(Ue (Bq a 0)).bind λ_=>
(Ao h (Ko g a)).bind λ_=>
(
(Ao h (Ko g a)).bind λm=>
(
(ES ag).bind λae=>
(
(Oo m.1 m.2.1 m.2.2.1.1 m.2.2.1.2.1 m.2.2.1.2.2.1 ae).bind λ(w,y,v,aa,ab,ac,u)=>
j16 g w u h k y v aa ab ac)))
else
j18 a b k
def Lo(f:LU)(a b:Int):Nat->Int-> (List (Int×Int32×(Int×LX×LX×Unit)×Unit))->LX->Da
|0,_,_,_=>none
|q+1,g,h,k=>Ox (FR (Lo f a b q) a f b) Oy f a b g h k
def UC f a b:=Lo f a b Ba
def TW(j13:LU->Int->Int->Int-> (List (Int×Int32×(Int×LX×LX×Unit)×Unit))->LX->Da)(f:LU)(a b:Int)(n:List (Int×Int32×(Int×LX×LX×Unit)×Unit)):Da:=
j13 f a b 0 n ([]:LX)
def GB:=TW UC
def UA(j12:LU->Int->Int-> (List (Int×Int32×(Int×LX×LX×Unit)×Unit))->Da)(Al0:Int-> (List (Int×Int32×(Int×LX×LX×Unit)×Unit))->Da)(f:LU)(a b:Int)(o:LX)(p:Int)(n:List (Int×Int32×(Int×LX×LX×Unit)×Unit)):Da:=
if(Dg p 6)then
(P8 b o).bind λ(ak,af,ae,al,am,v)=>
(Ao n p).bind λ_=>
(Ux n p (ak,af,(ae,al,am,()),())).bind λan=>
Al0 (Af p 1) an
else
j12 f a b n
def FZ(f:LU)(a b:Int)(o:LX):Nat->Int-> (List (Int×Int32×(Int×LX×LX×Unit)×Unit))->Da
|0,_,_=>none
|q+1,p,n=>UA GB (FZ f a b o q) f a b o p n
def Vg f a b o:=FZ f a b o Ba
def HW(j10:LU->Int->Int->LX->Int-> (List (Int×Int32×(Int×LX×LX×Unit)×Unit))->Da)(a b:Int)(o:LX)(f:LU):Da:=
j10 f a b o 0 (List.replicate 6 ((0:Int),(0:Int32),((0:Int),(List.replicate 16 (0:Int32)),(List.replicate 16 (0:Int32)),()),()))
def Yr:=HW Vg
def Qj(a h:Int)(u:LX)(f:Int)(v:LB):Option (LX×Int):=
(Jg a h).bind λk=>
if(Bq k 0)then
some (([]:LX),k)
else
if(Dg f 1)then
some (([]:LX),2)
else
(Ue (Bq a 0)).bind λ_=>
if(Fb f (By 4000 a))then
some (([]:LX),2)
else
(KZ v).bind λ(w,m)=>
if(Bq m 0)then
some (([]:LX),m)
else
(V7 w).bind λ(n,b,o)=>
if(Bq o 0)then
some (([]:LX),o)
else
(KW a f n b).bind λ(y,g,p)=>
if(Bq p 0)then
some (([]:LX),p)
else
if(Tp (Au b g) 8)then
some (([]:LX),12)
else
(LV n b g (Au b g)).bind λ(aa,ab)=>
if((Bq ab 0)||(Bq aa 0))then
some (([]:LX),12)
else
(Yr a h u y).bind λ(ac,ad)=>
some (ac,ad)
abbrev Eh:=Option (LB×Int)
def vC(g:LB):Eh:=
some (g,0)
def gJ:=vC
def gH(Hp:Int->LB->Eh)(b:Int)(a:LX)(f:Int)(h:LB):Eh:=
Hp (Af f 1) h
def SV Hp:=gH Hp
def GY(j28:Int->LB->Eh)(Acp:Int->LB->Eh)(b:Int)(a:LX)(k:Int32)(f m:Int)(h:LB):Eh:=
if(Dg m (By b 8))then
(Ue (Tp (Bm 8 m) 0)).bind λ_=>
(Cz h ([(Ad (Ea k (GI.toZ (Bm 8 m)).toNat):UInt8)]:LB)).bind λp=>
Acp (Af m 1) p
else
j28 f h
def Mb(Hp:Int->LB->Eh)(b:Int)(a:LX)(k:Int32)(f:Int):Nat->Int->LB->Eh
|0,_,_=>none
|q+1,m,h=>GY (SV Hp b a) (Mb Hp b a k f q) b a k f m h
def TJ Hp b a k f:=Mb Hp b a k f Ba
def SK(j26:Int32->Int->Int->LB->Eh)(b:Int)(a:LX)(f:Int)(g:LB)(k:Int32):Eh:=
j26 k f 0 g
def Ot Hp b a:=SK (TJ Hp b a) b a
def HD(j25:Int->LB->Int32->Eh)(j30:LB->Eh)(b:Int)(a:LX)(f:Int)(g:LB):Eh:=
if(Dg f (Ac a))then
(Ao a f).bind λn=>
if(geq b 8)then
j25 f g (Af n 128)
else
j25 f g n
else
j30 g
def Ho(b:Int)(a:LX):Nat->Int->LB->Eh
|0,_,_=>none
|q+1,f,g=>HD (Ot (Ho b a q) b a) gJ b a f g
def gE b a:=Ho b a Ba
def XJ(j16:Int->LX->Int->LB->Eh)(b:Int)(a:LX):Eh:=
(IQ b a).bind λo=>
if(Bq o 0)then
some (([]:LB),o)
else
j16 b a 0 ([]:LB)
def Ma:=XJ gE
def GO:Option Int:=
some (-1:Int)
def Qa:=GO
def Fj(j6:Option Int)(Qy:Int->Option Int)(a:LI)(b f:Int):Option Int:=
if(Dg f (Ac a))then
(Ao a f).bind λg=>
if(geq b g)then
some f
else
Qy (Af f 1)
else
j6
def Ci(a:LI)(b:Int):Nat->Int->Option Int
|0,_=>none
|q+1,f=>Fj Qa (Ci a b q) a b f
def Ji a b:=Ci a b Ba
def Je(j4:LI->Int->Int->Option Int)(a:LI)(b:Int):Option Int:=
j4 a b 0
def La:=Je Ji
def Ja(a:LI)(b:Int):Option Bool:=
(La a b).bind λf=>
some (Tp f 0)
def Un(a:Int):Option Bool:=
(Ja ([(4:Int),(12:Int),(16:Int),(22:Int),(24:Int),(26:Int),(38:Int)]:LI) a).bind λb=>
some b
def ZN(bi:Bool):Option Int:=
if(!bi)then
some 8
else
some 0
def Bv:=ZN
def LZ(j22:Bool->Option Int):Option Int:=
j22 ((true==true)&&((geq (0:Int) (0:Int))&&true))
def BF:=LZ Bv
def JK(j22:Bool->Option Int)(bj:Bool)(bk:Int):Option Int:=
j22 ((bj==true)&&((geq bk 0)&&true))
def Fh:=JK Bv
def MP(j13:Bool->Int->Option Int)(g ak:LB)(ae af aa ag ab b:Int)(m:Bool)(n:Int)(f:LI)(h:LB):Option Int:=
(Qq ae af aa ag ab g).bind λdm=>
(Al dm).bind λ(dn,am)=>
j13 dn am
def AV:=MP Fh
def KJ(j22:Bool->Option Int)(bl:Bool)(bm:Int):Option Int:=
j22 ((bl==true)&&((geq bm 0)&&true))
def Lb:=KJ Bv
def JX(j25:Bool->Int->Option Int)(g a:LB)(k p o u v b:Int)(m:Bool)(n:Int)(f:LI)(h:LB)(bg:Int):Option Int:=
(Dy k p o u v).bind λ(dp,bh)=>
if(Bq bh 0)then
(Al bh).bind λ(an,bn)=>
j25 an bn
else
(Bp a bg (Ac a)).bind λdq=>
(HP dq (Ac dp)).bind λ(dr,aa)=>
if(geq aa 24)then
j25 true 0
else
if(Bq aa 0)then
(Al aa).bind λ(ds,ab)=>
j25 ds ab
else
(Bp a (Af (Af bg (Bm 4 (Ac dr))) 4) (Ac a)).bind λfc=>
j25 false 0
def Ll:=JX Lb
def KC(j25:Bool->Int->Option Int)(j24:LB->LB->Int->Int->Int->Int->Int->Int->Bool->Int->LI->LB->Int->Option Int)(bd:Bool)(bc:Int)(g a:LB)(k p o u v b:Int)(m:Bool)(n:Int)(f:LI)(h:LB):Option Int:=
if(Bq bc 0)then
(Al bc).bind λ(dt,bh)=>
j25 dt bh
else
if(!bd)then
(Al 26).bind λ(an,bn)=>
j25 an bn
else
j24 g a k p o u v b m n f h 8
def MF:=KC Lb Ll
def MM(j15:Bool->Int->LB->LB->Int->Int->Int->Int->Int->Int->Bool->Int->LI->LB->Option Int)(g a:LB)(k p o u v b:Int)(m:Bool)(n:Int)(f:LI)(h:LB):Option Int:=
(Bp a 0 8).bind λdu=>
(Pw du g).bind λ(bd,bc)=>
j15 bd bc g a k p o u v b m n f h
def AU:=MM MF
def JW(j22:Bool->Option Int)(bp:Bool)(bq:Int):Option Int:=
j22 ((bp==true)&&((geq bq 0)&&true))
def Ii:=JW Bv
def BM(j28:Bool->Int->Option Int)(w ah:Int)(g a:LB)(k p o u v b:Int)(m:Bool)(n:Int)(ao:LX)(f:LI)(h:LB):Option Int:=
if(Bq ah 0)then
(Al ah).bind λ(br,bs)=>
j28 br bs
else
(Ma o ao).bind λ(bt,be)=>
if(Bq be 0)then
(Al be).bind λ(bu,bv)=>
j28 bu bv
else
(Cz h bt).bind λdv=>
(
(Bp a w (Ac a)).bind λdw=>
j28 false 0)
def MW:=BM Ii
def LD(j27:Int->Int->LB->LB->Int->Int->Int->Int->Int->Int->Bool->Int->LX->LI->LB->Option Int)(w:Int)(g a:LB)(k p o u v b:Int)(m:Bool)(n:Int)(ap:LX)(ad f:LI)(h:LB):Option Int:=
(Ao ad b).bind λ_=>
(Bp a 0 w).bind λdx=>
(Ao ad b).bind λdy=>
(GD k p o u v).bind λ(dz,bf)=>
(Qj dz bf ap dy dx).bind λ(ao,ah)=>
j27 w ah g a k p o u v b m n ao f h
def AR:=LD MW
def EN(j13:Bool->Int->Option Int)(j12:LB->LB->Int->Int->Int->Int->Int->Int->Bool->Int->LI->LB->Option Int)(j25:Bool->Int->Option Int)(j23:LB->LB->Int->Int->Int->Int->Int->Int->Bool->Int->LI->LB->Option Int)(j24:LB->LB->Int->Int->Int->Int->Int->Int->Bool->Int->LI->LB->Int->Option Int)(j28:Bool->Int->Option Int)(j26:Int->LB->LB->Int->Int->Int->Int->Int->Int->Bool->Int->LX->LI->LI->LB->Option Int)(j22:Bool->Option Int)(j21:Option Int)(aq ar:LB)(au av aw ax ay:Int)(az:LI)(ai:Int)(aj:LB)(ac:Bool)(y:Int):Option Int:=
if(Fb (Ac aq) 64)then
some 8
else
if((geq y 0)&&(!ac))then
(El aq ar au av aw ax ay az ai aj ac y).bind λ(g,a,k,p,o,u,v,f,b,h,m,n)=>
(ED aq ar au av aw ax ay az ai aj ac y).bind λbw=>
if bw then
if(geq k 0)then
(Kg a).bind λ(al,ba)=>
if(geq ba 24)then
j13 true 0
else
if(Bq ba 0)then
(Al ba).bind λ(bx,bz)=>
j13 bx bz
else
(Bp a al (Ac a)).bind λda=>
(Ub da).bind λan=>
if an then
j13 true 0
else
(Bp a al (Ac a)).bind λdb=>
(Ni db).bind λ(ae,af,aa,ag,ab,bb)=>
if(geq bb 24)then
j13 true 0
else
if(Bq bb 0)then
(Al bb).bind λ(dc,dd)=>
j13 dc dd
else
(
(Bp a (Af al 22) (Ac a)).bind λak=>
(
j12 g ak ae af aa ag ab b m n f h))
else
if(geq (Ac f) 0)then
if(geq k 2)then
if(Dg (Ac a) 8)then
j25 true 0
else
j23 g a k p o u v b m n f h
else
j24 g a k p o u v b m n f h 0
else
if(Dg b (Ac f))then
(Ao f b).bind λ_=>
(Ao f b).bind λw=>
if(Dg (Ac a) w)then
j28 true 0
else
(FA g).bind λ(ap,am)=>
if(Bq am 0)then
(Al am).bind λ(de,df)=>
j28 de df
else
(Dy k p o u v).bind λ(ad,dg)=>
if((Bq dg 0)||(Tp b (Ac ad)))then
(Al 8).bind λ(dh,di)=>
j28 dh di
else
j26 w g a k p o u v b m n ap ad f h
else
if(Fb (Ac a) 4000)then
(Al 38).bind λ(dj,bf)=>
j22 ((dj==true)&&((geq bf 0)&&true))
else
j21
else
j22 false
else
if((geq (Ac ar) 0)&&(geq (Ac az) 0))then
if((((geq au 0)&&((geq av 0)&&((geq aw 0)&&((geq ax 0)&&((geq ay 0)&&true)))))&&(geq ai 0))&&(G4 (Ac aj) 12000))then
if(geq y 0)then
j22 true
else
if(!ac)then
(Un y).bind λdk=>
j22 dk
else
j22 false
else
j22 false
else
if((false&&(geq ai 0))&&(G4 (Ac aj) 12000))then
if(geq y 0)then
j22 true
else
if(!ac)then
(Un y).bind λdl=>
j22 dl
else
j22 false
else
j22 false
def Qb:=EN Fh AV Lb AU Ll Ii AR Bv BF
def Uv(f g:LB)(h k m n o:Int)(p:LI)(u:Int)(v:LB)(b:Bool)(a:Int):Option (LB×LB×Int×Int×Int×Int×Int×LI×Int×LB×Bool×Int×Int):=
(Qb f g h k m n o p u v b a).bind λw=>
if(Bq w 0)then
some (([]:LB),([]:LB),0,0,0,0,0,([]:LI),0,([]:LB),false,0,w)
else
if(Bq a 0)then
(
(
(El f g h k m n o p u v b a).bind λ(y,aa,ab,ac,ad,ae,af,ag,ah,ai,aj,ak)=>
(
some (y,aa,ab,ac,ad,ae,af,ag,ah,ai,aj,ak,a))))
else
if b then
(El f g h k m n o p u v b a).bind λ(al,am,an,ao,ap,aq,ar,au,av,aw,ax,ay)=>
some (al,am,an,ao,ap,aq,ar,au,av,aw,ax,ay,36)
else
(El f g h k m n o p u v b a).bind λ(az,ba,bb,bc,bd,be,bf,bg,bh,bi,bj,bk)=>
some (az,ba,bb,bc,bd,be,bf,bg,bh,bi,bj,bk,0)
def US(b g:LB)(h k m n o:Int)(p:LI)(u:Int)(f:LB)(v:Bool)(w a:Int):Option (LB×LB×Int×Int×Int×Int×Int×LI×Int×LB×Bool×Int×Int):=
some (b,([]:LB),0,0,0,0,0,([]:LI),0,f,false,a,a)
abbrev As:=Option (LB×LB×Int×Int×Int×Int×Int×LI×Int×LB×Bool×Int×Int)
def OG(UU:LB->Int->Int->Int->Int->Int->Int->LI->LB->As)(a:LB)(b:Bool)(f:Int)(ar:LB)(au av aw ax ay az:Int)(bh:Bool)(be:Int)(ba:LI)(bb:LB):As:=
if bh then
(El a ar au av aw ax ay ba az bb b f).bind λ(fh,fi,fj,bc,bi,ai,fk,fl,fm,fn,fo,aj)=>
some (fh,fi,fj,bc,bi,ai,fk,fl,fm,fn,fo,aj,0)
else
if(Bq be 0)then
(US a ar au av aw ax ay ba az bb b f be).bind λ(fp,fq,fs,ft,fu,fv,fw,fx,fy,fz,ga,gb,gc)=>
some (fp,fq,fs,ft,fu,fv,fw,fx,fy,fz,ga,gb,gc)
else
UU ar au av aw ax ay az ba bb
def Cr UU:=OG UU
def cT(j71:LB->Int->Int->Int->Int->Int->Int->Bool->Int->LI->LB->As)(a:LB)(b:Bool)(f:Int)(g:LB)(m p o u v h:Int)(k:LI)(n:LB):As:=
j71 g m p o u v h true 0 k n
def ER UU a b f:=cT (Cr UU a b f) a b f
def cG(j71:LB->Int->Int->Int->Int->Int->Int->Bool->Int->LI->LB->As)(a:LB)(b:Bool)(f h:Int)(k:LI)(n:LB)(bj:Bool)(bk:Int)(bl:LB)(bm bn bp bq br:Int):As:=
j71 bl bm bn bp bq br h bj bk k n
def Qh UU a b f:=cG (Cr UU a b f) a b f
def PT(j62:Int->LI->LB->Bool->Int->LB->Int->Int->Int->Int->Int->As)(a:LB)(b:Bool)(f:Int)(af:LB)(ab ac y ad aa h:Int)(k:LI)(n:LB):As:=
(Qq ab ac y ad aa a).bind λgd=>
(Al gd).bind λ(ge,ak)=>
j62 h k n ge ak af ab ac y ad aa
def Wa UU a b f:=PT (Qh UU a b f) a b f
def cD(j71:LB->Int->Int->Int->Int->Int->Int->Bool->Int->LI->LB->As)(a:LB)(b:Bool)(f m p o u v h:Int)(n:LB)(bs:Bool)(bt:Int)(bu:LB)(bv:LI):As:=
j71 bu m p o u v h bs bt bv n
def Mv UU a b f:=cD (Cr UU a b f) a b f
def PY(j75:Int->Int->Int->Int->Int->Int->LB->Bool->Int->LB->LI->As)(a:LB)(b:Bool)(f:Int)(g:LB)(m p o u v h:Int)(k:LI)(n:LB)(bf:Int):As:=
(Dy m p o u v).bind λ(gf,bg)=>
if(Bq bg 0)then
(Al bg).bind λ(al,bw)=>
j75 m p o u v h n al bw g k
else
(Bp g bf (Ac g)).bind λgg=>
(HP gg (Ac gf)).bind λ(dw,y)=>
if(geq y 24)then
j75 m p o u v h n true 0 g k
else
if(Bq y 0)then
(Al y).bind λ(gh,aa)=>
j75 m p o u v h n gh aa g k
else
(Bp g (Af (Af bf (Bm 4 (Ac dw))) 4) (Ac g)).bind λgi=>
j75 m p o u v h n false 0 gi dw
def Mx UU a b f:=PY (Mv UU a b f) a b f
def PR(j75:Int->Int->Int->Int->Int->Int->LB->Bool->Int->LB->LI->As)(j74:LB->Int->Int->Int->Int->Int->Int->LI->LB->Int->As)(a:LB)(b:Bool)(f:Int)(bd:Bool)(aq:Int)(g:LB)(m p o u v h:Int)(k:LI)(n:LB):As:=
if(Bq aq 0)then
(Al aq).bind λ(gj,bg)=>
j75 m p o u v h n gj bg g k
else
if(!bd)then
(Al 26).bind λ(al,bw)=>
j75 m p o u v h n al bw g k
else
j74 g m p o u v h k n 8
def OE UU a b f:=PR (Mv UU a b f) (Mx UU a b f) a b f
def ON(j64:Bool->Int->LB->Int->Int->Int->Int->Int->Int->LI->LB->As)(a:LB)(b:Bool)(f:Int)(g:LB)(m p o u v h:Int)(k:LI)(n:LB):As:=
(Bp g 0 8).bind λgk=>
(Pw gk a).bind λ(bd,aq)=>
j64 bd aq g m p o u v h k n
def Wc UU a b f:=ON (OE UU a b f) a b f
def bX(j71:LB->Int->Int->Int->Int->Int->Int->Bool->Int->LI->LB->As)(a:LB)(b:Bool)(f m p o u v:Int)(k:LI)(bx:Bool)(bz:Int)(da:LB)(db:Int)(dc:LB):As:=
j71 da m p o u v db bx bz k dc
def Qg UU a b f:=bX (Cr UU a b f) a b f
def EL(j78:Int->Int->Int->Int->Int->LI->Bool->Int->LB->Int->LB->As)(a:LB)(b:Bool)(f w ag:Int)(g:LB)(m p o u v h:Int)(am:LX)(k:LI)(n:LB):As:=
if(Bq ag 0)then
(Al ag).bind λ(dd,de)=>
j78 m p o u v k dd de g h n
else
(Ma o am).bind λ(df,aj)=>
if(Bq aj 0)then
(Al aj).bind λ(dg,dh)=>
j78 m p o u v k dg dh g h n
else
(Cz n df).bind λdi=>
(
(Bp g w (Ac g)).bind λdj=>
j78 m p o u v k false 0 dj (Af h 1) di)
def OZ UU a b f:=EL (Qg UU a b f) a b f
def OM(j77:Int->Int->LB->Int->Int->Int->Int->Int->Int->LX->LI->LB->As)(a:LB)(b:Bool)(f w:Int)(g:LB)(m p o u v h:Int)(an:LX)(ae k:LI)(n:LB):As:=
(Ao ae h).bind λ_=>
(Bp g 0 w).bind λgl=>
(Ao ae h).bind λgm=>
(GD m p o u v).bind λ(bi,ai)=>
(Qj bi ai an gm gl).bind λ(am,ag)=>
j77 w ag g m p o u v h am k n
def Wz UU a b f:=OM (OZ UU a b f) a b f
def Jw(j62:Int->LI->LB->Bool->Int->LB->Int->Int->Int->Int->Int->As)(j61:LB->Int->Int->Int->Int->Int->Int->LI->LB->As)(j75:Int->Int->Int->Int->Int->Int->LB->Bool->Int->LB->LI->As)(j73:LB->Int->Int->Int->Int->Int->Int->LI->LB->As)(j74:LB->Int->Int->Int->Int->Int->Int->LI->LB->Int->As)(j78:Int->Int->Int->Int->Int->LI->Bool->Int->LB->Int->LB->As)(j76:Int->LB->Int->Int->Int->Int->Int->Int->LX->LI->LI->LB->As)(j71:LB->Int->Int->Int->Int->Int->Int->Bool->Int->LI->LB->As)(j70:LB->Int->Int->Int->Int->Int->Int->LI->LB->As)(a:LB)(b:Bool)(f:Int)(g:LB)(m p o u v h:Int)(k:LI)(n:LB):As:=
if(geq m 0)then
(Kg g).bind λ(ah,ao)=>
if(geq ao 24)then
j62 h k n true 0 g m p o u v
else
if(Bq ao 0)then
(Al ao).bind λ(dk,dl)=>
j62 h k n dk dl g m p o u v
else
(Bp g ah (Ac g)).bind λdm=>
(Ub dm).bind λal=>
if al then
j62 h k n true 0 g m p o u v
else
(Bp g ah (Ac g)).bind λdn=>
(Ni dn).bind λ(ab,ac,y,ad,aa,ap)=>
if(geq ap 24)then
j62 h k n true 0 g m p o u v
else
if(Bq ap 0)then
(Al ap).bind λ(dp,dq)=>
j62 h k n dp dq g m p o u v
else
(
(Bp g (Af ah 22) (Ac g)).bind λaf=>
(
j61 af ab ac y ad aa h k n))
else
if(geq (Ac k) 0)then
if(geq m 2)then
if(Dg (Ac g) 8)then
j75 m p o u v h n true 0 g k
else
j73 g m p o u v h k n
else
j74 g m p o u v h k n 0
else
if(Dg h (Ac k))then
(Ao k h).bind λ_=>
(Ao k h).bind λw=>
if(Dg (Ac g) w)then
j78 m p o u v k true 0 g h n
else
(FA a).bind λ(an,ak)=>
if(Bq ak 0)then
(Al ak).bind λ(dr,ds)=>
j78 m p o u v k dr ds g h n
else
(Dy m p o u v).bind λ(ae,dt)=>
if((Bq dt 0)||(Tp h (Ac ae)))then
(Al 8).bind λ(du,bc)=>
j78 m p o u v k du bc g h n
else
j76 w g m p o u v h an ae k n
else
if(Fb (Ac g) 4000)then
(Al 38).bind λ(dv,ai)=>
j71 g m p o u v h dv ai k n
else
j70 g m p o u v h k n
def Bf(a:LB)(b:Bool)(f:Int):Nat->LB->Int->Int->Int->Int->Int->Int->LI->LB->As
|0,_,_,_,_,_,_,_,_,_=>none
|q+1,g,m,p,o,u,v,h,k,n=>Jw (Qh (Bf a b f q) a b f) (Wa (Bf a b f q) a b f) (Mv (Bf a b f q) a b f) (Wc (Bf a b f q) a b f) (Mx (Bf a b f q) a b f) (Qg (Bf a b f q) a b f) (Wz (Bf a b f q) a b f) (Cr (Bf a b f q) a b f) (ER (Bf a b f q) a b f) a b f g m p o u v h k n
def bY a b f:=Bf a b f Ba
def Yt(j37:LB->Bool->Int->LB->Int->Int->Int->Int->Int->Int->LI->LB->As)(gn go:LB)(gp gq gr gs gt:Int)(gu:LI)(gv:Int)(gw:LB)(gx:Bool)(gy:Int)(gz:LB):As:=
(Uv gn go gp gq gr gs gt gu gv gw gx gy).bind λ(a,dx,dy,dz,fa,fb,fc,fd,fe,ff,b,f,fg)=>
if(Bq fg 0)then
some (a,dx,dy,dz,fa,fb,fc,fd,fe,ff,b,f,fg)
else
(Cz dx gz).bind λha=>
j37 a b f ha dy dz fa fb fc fe fd ff
def Kz:=Yt bY
abbrev oV:=Option (Int×Int)
def uR(a:LB):oV:=
(Bp a (Au (Ac a) 32) (Ac a)).bind λg=>
(UY g 0).bind λ(f,y,h)=>
if h then
if(Dg (Au (Ac a) 32) f)then
some (0,24)
else
some ((Af f 32),0)
else
(Bp a (Au (Ac a) 32) (Ac a)).bind λk=>
(UY k 2147483648).bind λ(b,m,n)=>
if(!n)then
some (0,12)
else
if(Dg (Ac a) (Af b 64))then
some (0,24)
else
(Bp a (Au (Ac a) (Af b 64)) (Af (Au (Ac a) (Af b 64)) 32)).bind λo=>
(lP b m 2684354560).bind λp=>
(Il o p).bind λu=>
if(!u)then
some (0,12)
else
some ((Af b 64),0)
def gW:=uR
def jQ(j2:LB->oV)(a:LB):oV:=
if(Dg (Au (Ac a) 32) 0)then
some (0,6)
else
(Bp a (Au (Ac a) 32) (Ac a)).bind λv=>
(On v ([(65:UInt8),(80:UInt8),(69:UInt8),(84:UInt8),(65:UInt8),(71:UInt8),(69:UInt8),(88:UInt8)]:LB)).bind λw=>
if(!w)then
some (0,6)
else
j2 a
def pS:=jQ gW
abbrev Hc:=Option (Int×Int)
def sV(a:Int):Hc:=
some (a,0)
def cN:=sV
def cS(bk8:Int->LB->Hc)(a:Int)(g:LB):Hc:=
bk8 (Af a 1) g
def PW bk8:=cS bk8
def PU(j12:Int->LB->Hc)(a f:Int)(b:LB):Hc:=
if(geq f 0)then
some (0,38)
else
(Bp b 0 (Au (Ac b) f)).bind λg=>
j12 a g
def OY bk8:=PU (PW bk8)
def TH(j11:Int->Int->LB->Hc)(j14:Int->Hc)(a:Int)(b:LB):Hc:=
if(Fb (Ac b) 0)then
(pS b).bind λ(f,k)=>
j11 a f b
else
j14 a
def Yp:Nat->Int->LB->Hc
|0,_,_=>none
|q+1,a,b=>TH (OY (Yp q)) cN a b
def gD:=Yp Ba
def TC(j8:Int->LB->Hc)(h:LB):Hc:=
if(Fb (Ac h) 4000)then
some (0,38)
else
j8 0 h
def KM:=TC gD
def KH(p a:LB)(g u v w y:Int)(b:LI)(h:Int)(aa:LB)(ab:Bool)(ac:Int):Option Int:=
if(geq g 0)then
(Kg a).bind λ(k,f)=>
if(Bq f 0)then
some f
else
(Bp a k (Ac a)).bind λm=>
(Ni m).bind λ(ad,ae,af,ag,ah,n)=>
some n
else
if((Dg h (Ac b))||(geq (Ac b) 0))then
some 24
else
(KM a).bind λ(ai,o)=>
some o
def Fg(aa ab:LB)(ac ad ae af ag:Int)(ah:LI)(ai:Int)(aj:LB)(ak:Bool)(al:Int):Option (LB×LB×Int×Int×Int×Int×Int×LI×Int×LB×Bool×Int×Int):=
(Uv aa ab ac ad ae af ag ah ai aj ak al).bind λ(a,f,g,h,k,m,n,o,p,b,u,v,w)=>
if(Bq w 0)then
some (a,f,g,h,k,m,n,o,p,b,u,v,w)
else
(KH a f g h k m n o p b u v).bind λy=>
if(Bq y 0)then
(US a f g h k m n o p b u v y).bind λ(am,an,ao,ap,aq,ar,au,av,aw,ax,ay,az,ba)=>
some (am,an,ao,ap,aq,ar,au,av,aw,ax,ay,az,ba)
else
some (a,([]:LB),0,0,0,0,0,([]:LI),0,b,true,0,0)
abbrev Dc:=Option (LX×Int)
def qQ(g:LX):Dc:=
some (g,0)
def ZJ:=qQ
def AX(Hp:Int->LX->Dc)(a:Int)(b:LB)(f:Int)(m:LX):Dc:=
Hp (Af f (By a 8)) m
def Kx Hp:=AX Hp
def AQ(j28:Int->LX->Dc)(a:Int)(b:LB)(f:Int)(h:Int32)(g:LX):Dc:=
(Ue (Tp (Au 32 a) 0)).bind λ_=>
(Ue (Tp (Au 32 a) 0)).bind λ_=>
(Cz g ([(Ea (Fe h (GI.toZ (Au 32 a)).toNat) (GI.toZ (Au 32 a)).toNat)]:LX)).bind λp=>
j28 f p
def BE Hp a b:=AQ (Kx Hp a b) a b
def Gk(j27:Int->Int32->LX->Dc)(Asy:Int32->Int->Dc)(a:Int)(b:LB)(f:Int)(g:LX)(h:Int32)(k:Int):Dc:=
if(Dg k (By a 8))then
(Ao b (Af f k)).bind λn=>
(Ue (Tp (Bm 8 k) 0)).bind λ_=>
Asy (uN h (Fe (Ad n:Int32) (GI.toZ (Bm 8 k)).toNat)) (Af k 1)
else
j27 f h g
def Fi(Hp:Int->LX->Dc)(a:Int)(b:LB)(f:Int)(g:LX):Nat->Int32->Int->Dc
|0,_,_=>none
|q+1,h,k=>Gk (BE Hp a b) (Fi Hp a b f g q) a b f g h k
def Oj Hp a b f g:=Fi Hp a b f g Ba
def Gq(j28:Int->LX->Dc)(j25:Int->LX->Int32->Int->Dc)(j30:LX->Dc)(a:Int)(b:LB)(f:Int)(g:LX):Dc:=
if(Dg f (Ac b))then
if(geq a 8)then
(Ao b f).bind λn=>
(Cz g ([(Au (Ad n:Int32) 128)]:LX)).bind λu=>
j28 f u
else
j25 f g 0 0
else
j30 g
def En(a:Int)(b:LB):Nat->Int->LX->Dc
|0,_,_=>none
|q+1,f,g=>Gq (Kx (En a b q) a b) (Oj (En a b q) a b) ZJ a b f g
def ML a b:=En a b Ba
def PG(j16:Int->LB->Int->LX->Dc)(a:Int)(b:LB):Dc:=
(Ua a).bind λ(v,w,o)=>
if(Bq o 0)then
some (([]:LX),o)
else
(Ue (Bq (By a 8) 0)).bind λ_=>
if(Bq (Ko (Ac b) (By a 8)) 0)then
some (([]:LX),12)
else
(Ue (Bq (By a 8) 0)).bind λ_=>
if(Fb (By (Ac b) (By a 8)) 4000)then
some (([]:LX),4)
else
j16 a b 0 ([]:LX)
def GG:=PG ML
def Jf(p u:LB):Option (Int×Int×Int×LX×Int):=
(RR u).bind λ(v,w,y,aa,ab,ac,ad,ae,af,ag,ah,ai,g)=>
if(Bq g 0)then
some (0,0,0,([]:LX),g)
else
(Kz v w y aa ab ac ad ae af ag ah ai p).bind λ(aj,ak,h,b,a,f,k,al,am,an,ao,ap,m)=>
if(Bq m 0)then
some (0,0,0,([]:LX),m)
else
(Fg aj ak h b a f k al am an ao ap).bind λ(au,av,aw,ax,ay,az,ba,bb,bc,aq,bd,be,n)=>
if(Bq n 0)then
some (0,0,0,([]:LX),n)
else
if((geq h 0)&&((geq b 0)&&((geq a 0)&&((geq f 0)&&((geq k 0)&&true)))))then
some (0,0,0,([]:LX),24)
else
(GG a aq).bind λ(ar,o)=>
if(Bq o 0)then
some (0,0,0,([]:LX),o)
else
some (b,a,f,ar,0)
def Wo(a:LB):Option (LB×LB×Int×Int×Int×Int×Int×LI×Int×LB×Bool×Int×Int):=
if(Fb (Ac a) 64)then
some (([]:LB),([]:LB),0,0,0,0,0,([]:LI),0,([]:LB),false,0,2)
else
some (a,([]:LB),0,0,0,0,0,([]:LI),0,([]:LB),false,0,0)
def Ig(f g b a h:Int):Option Bool:=
if((((geq f 1)||(geq f 2))&&(Tp g 1))&&(G4 g 6))then
some ((((((geq b 8)||(geq b 16))||(geq b 24))&&(Tp a 1))&&(G4 a 1048576))&&(Tp h 1))
else
some (((false&&(Tp a 1))&&(G4 a 1048576))&&(Tp h 1))
def Tk(a:Int):Option Int:=
some (mM 1 (By (Bm 256 a) 245))
def Rh(a:LI):Option (LI):=
some a
def Mq:=Rh
def Iu(j6:LI->Option (LI))(Qy:Int->LI->Option (LI))(b f:Int)(a:LI):Option (LI):=
if(Fb f 0)then
(Tk b).bind λg=>
(Cz a ([(Jr f g)]:LI)).bind λh=>
(Tk b).bind λk=>
Qy (Au f k) h
else
j6 a
def Ev(b:Int):Nat->Int->LI->Option (LI)
|0,_,_=>none
|q+1,f,a=>Iu Mq (Ev b q) b f a
def Zh b:=Ev b Ba
def Zy(j4:Int->Int->LI->Option (LI))(b m:Int):Option (LI):=
j4 b m ([]:LI)
def Ec:=Zy Zh
def Lh(h a k f b:Int):Option Bool:=
(
(Ue (Bq a 0)).bind λ_=>
(
if(Fb b (By 4000 a))then
some true
else
(Ec f b).bind λg=>
some (Fb (Ac g) 1000)))
def Jt(a b f g h:Int):Option Int:=
(Ig a b f g h).bind λk=>
if(!k)then
some 8
else
(Lh a b f g h).bind λm=>
if m then
some 8
else
some 0
def Eb(a f g h k:Int)(b:LB):Option Int:=
if((b==([]:LB)) !=(geq a 1))then
some 26
else
some 0
def MI(b:Int):Option Int:=
if(Fb b 100000)then
some 8
else
some 0
def Yb:=MI
def NR(I0:Int->Int->Option Int)(a:LI)(b f:Int):Option Int:=
(Ao a f).bind λg=>
I0 (Af b g) (Af f 1)
def AB I0:=NR I0
def Rn(j8:Int->Int->Option Int)(j10:Int->Option Int)(a:LI)(b f:Int):Option Int:=
if(Dg f (Ac a))then
(Ao a f).bind λh=>
if(Dg h 5)then
some 8
else
(Ao a f).bind λk=>
if(Fb k 100000)then
some 8
else
j8 b f
else
j10 b
def Ix(a:LI):Nat->Int->Int->Option Int
|0,_,_=>none
|q+1,b,f=>Rn (AB (Ix a q) a) Yb a b f
def AI a:=Ix a Ba
def Ra(j6:LI->Int->Int->Option Int)(a:LI):Option Int:=
if((Dg (Ac a) 1)||(Fb (Ac a) 1000))then
some 8
else
j6 a 0 0
def Ha:=Ra AI
def Fo(g h k a b:Int):Option (LI):=
(Ec a b).bind λf=>
some f
def Es(f a b g h:Int):Option (Int×Int):=
some (a,b)
def FV(a b:Int):Option Int:=
some (By (Bm a b) 8)
def RP(k a b f g h:Int):Option Int:=
(Es a b f g h).bind λ(p,u)=>
(FV p u).bind λv=>
some (Bm k v)
def BU:=RP
def Te(j6:Int->Int->Int->Int->Int->Int->Option Int)(Qy:Int->Int->Option Int)(n a b f g h:Int)(m:LI)(k o:Int):Option Int:=
if(Dg o n)then
(Ao m o).bind λ_=>
(Ao m o).bind λw=>
Qy (Af k w) (Af o 1)
else
j6 k a b f g h
def Ke(n a b f g h:Int)(m:LI):Nat->Int->Int->Option Int
|0,_,_=>none
|q+1,k,o=>Te BU (Ke n a b f g h m q) n a b f g h m k o
def QP n a b f g h m:=Ke n a b f g h m Ba
def DC(j4:Int->Int->Int->Int->Int->Int->LI->Int->Int->Option Int)(a b f g h n:Int):Option Int:=
(Fo a b f g h).bind λm=>
j4 n a b f g h m 0 0
def Tq:=DC QP
abbrev Hb:=Option (Int×Int)
def gM(a:Int):Hb:=
some (a,0)
def NY:=gM
def Rm(j6:Int->Hb)(Qy:Int->Int->Hb)(b:LB)(a f:Int):Hb:=
if(Dg f 4)then
(Ao b f).bind λg=>
if(Tp g 128)then
some (0,12)
else
(Ao b f).bind λh=>
Qy (Af (Bm 128 a) (Ad h:Int)) (Af f 1)
else
j6 a
def Iw(b:LB):Nat->Int->Int->Hb
|0,_,_=>none
|q+1,a,f=>Rm NY (Iw b q) b a f
def Zq b:=Iw b Ba
def AF(j4:LB->Int->Int->Hb)(b:LB):Hb:=
if(Bq (Ac b) 4)then
some (0,2)
else
j4 b 0 0
def Yd:=AF Zq
abbrev Ih:=Option (Int×Int)
def RM(a:LB)(g:Int):Ih:=
if(Fb g 4000)then
some (0,4)
else
if(Dg (Ac a) g)then
some (0,24)
else
(Ao a 5).bind λh=>
if(geq h 16)then
(Bp a (Au g 10) g).bind λk=>
(Bp a 3 10).bind λm=>
(Cz ([51,68,73]:LB) m).bind λn=>
if(k !=n)then
some (0,12)
else
some (g,0)
else
some (g,0)
def So:=RM
def CD(j6:LB->Int->Ih)(a:LB)(b:Int):Ih:=
(Ao a 5).bind λo=>
if(geq o 16)then
j6 a (Af (Af 10 b) 10)
else
j6 a (Af 10 b)
def Tc:=CD So
def CX(j5:LB->Int->Ih)(a:LB):Ih:=
if(Dg (Ac a) 10)then
some (0,24)
else
(Bp a 6 10).bind λp=>
(Yd p).bind λ(b,f)=>
(Ao a 3).bind λu=>
if(Dg u 2)then
if true then
if true then
if(true||(Bq f 0))then
some (0,12)
else
j5 a b
else
(Ao a 5).bind λv=>
if(Bq v 0)then
(Ao a 5).bind λw=>
if(Bq w 16)then
if(true||(Bq f 0))then
some (0,12)
else
j5 a b
else
(Ao a 3).bind λy=>
if((Bq y 4)||(Bq f 0))then
some (0,12)
else
j5 a b
else
if(false||(Bq f 0))then
some (0,12)
else
j5 a b
else
(Ao a 4).bind λaa=>
if(Bq aa 0)then
if(true||(Bq f 0))then
some (0,12)
else
j5 a b
else
(Ao a 5).bind λab=>
if(Bq ab 0)then
(Ao a 5).bind λac=>
if(Bq ac 16)then
if(true||(Bq f 0))then
some (0,12)
else
j5 a b
else
(Ao a 3).bind λad=>
if((Bq ad 4)||(Bq f 0))then
some (0,12)
else
j5 a b
else
if(false||(Bq f 0))then
some (0,12)
else
j5 a b
else
(Ao a 3).bind λae=>
if(Fb ae 4)then
if true then
if(true||(Bq f 0))then
some (0,12)
else
j5 a b
else
(Ao a 5).bind λaf=>
if(Bq af 0)then
(Ao a 5).bind λag=>
if(Bq ag 16)then
if(true||(Bq f 0))then
some (0,12)
else
j5 a b
else
(Ao a 3).bind λah=>
if((Bq ah 4)||(Bq f 0))then
some (0,12)
else
j5 a b
else
if(false||(Bq f 0))then
some (0,12)
else
j5 a b
else
(Ao a 4).bind λai=>
if(Bq ai 0)then
if(true||(Bq f 0))then
some (0,12)
else
j5 a b
else
(Ao a 5).bind λaj=>
if(Bq aj 0)then
(Ao a 5).bind λak=>
if(Bq ak 16)then
if(true||(Bq f 0))then
some (0,12)
else
j5 a b
else
(Ao a 3).bind λal=>
if((Bq al 4)||(Bq f 0))then
some (0,12)
else
j5 a b
else
if(false||(Bq f 0))then
some (0,12)
else
j5 a b
def DW:=CX Tc
def CK(j4:LB->Ih)(a:LB):Ih:=
if(Dg (Ac a) 3)then
some (0,6)
else
(Bp a 0 3).bind λam=>
if(am !=([73,68,51]:LB))then
some (0,6)
else
j4 a
def AY:=CK DW
def VL(a:UInt64):Option UInt64:=
some a
def HQ:=VL
def Yj(j6:UInt64->Option UInt64)(Qy:UInt64->Int->Option UInt64)(b:LB)(a:UInt64)(f:Int):Option UInt64:=
if(Tp f 0)then
(Ao b f).bind λg=>
Qy (Af (Bm 256 a) (Ad g:UInt64)) (Au f 1)
else
j6 a
def Mw(b:LB):Nat->UInt64->Int->Option UInt64
|0,_,_=>none
|q+1,a,f=>Yj HQ (Mw b q) b a f
def HM b:=Mw b Ba
def HL(j4:LB->UInt64->Int->Option UInt64)(b:LB):Option UInt64:=
j4 b 0 (Au (Ac b) 1)
def Az:=HL HM
def Nt(b:LB):Option (Int×Int×Bool):=
(Bp b 12 16).bind λg=>
(Az g).bind λa=>
(Bp b 16 20).bind λh=>
(Az h).bind λf=>
if(((Dg a 32)||(Fb a 3032))||(Fb f 1000))then
some (0,0,false)
else
some ((Au (Ad a:Int) 32),(Ad f:Int),true)
def IU(a:LB):Option (LB):=
some a
def Vr:=IU
def Oh(j6:LB->Option (LB))(Qy:UInt64->Int->LB->Option (LB))(b:Int)(f:UInt64)(g:Int)(a:LB):Option (LB):=
if(Dg g b)then
(Cz a ([(Ad (JJ f 256):UInt8)]:LB)).bind λh=>
Qy (By f 256) (Af g 1) h
else
j6 a
def Gt(b:Int):Nat->UInt64->Int->LB->Option (LB)
|0,_,_,_=>none
|q+1,f,g,a=>Oh Vr (Gt b q) b f g a
def Wg b:=Gt b Ba
def Ws(j4:Int->UInt64->Int->LB->Option (LB))(k:UInt64)(b:Int):Option (LB):=
j4 b k 0 ([]:LB)
def Bd:=Ws Wg
def Qe(a b:Int)(f:UInt64):Option (LB):=
(Bd 2000 4).bind λg=>
(Cz ([(65:UInt8),(80:UInt8),(69:UInt8),(84:UInt8),(65:UInt8),(71:UInt8),(69:UInt8),(88:UInt8)]:LB) g).bind λh=>
(Bd (Ad (Af a 32):UInt64) 4).bind λk=>
(Cz h k).bind λm=>
(Bd (Ad b:UInt64) 4).bind λn=>
(Cz m n).bind λo=>
(Bd f 4).bind λp=>
(Cz o p).bind λu=>
(mkI (8:Int) (0:UInt8)).bind λv=>
(Cz u v).bind λw=>
some w
def Th(a b:Int):Option (LB):=
(Qe a b 2684354560).bind λf=>
some f
def Fl(a b:Int)(f:Bool):Option (LB):=
if f then
(Qe a b 2147483648).bind λg=>
some g
else
(Qe a b 0).bind λh=>
some h
abbrev Nl:=Option (Int×Int)
def NU(a:LB)(b f:Int):Nl:=
if(Dg (Ac a) (Af 64 b))then
some (0,24)
else
(Bp a (Au (Af 64 b) 32) (Af 64 b)).bind λg=>
(Fl b f true).bind λh=>
if(g !=h)then
some (0,12)
else
some ((Af 64 b),0)
def AP:=NU
def Zr(j4:LB->Int->Int->Nl)(a:LB):Nl:=
if(Dg (Ac a) 32)then
some (0,24)
else
(Bp a 0 32).bind λk=>
(Nt k).bind λ(b,f,m)=>
if(!m)then
some (0,12)
else
(Bp a 0 32).bind λn=>
(Th b f).bind λo=>
if(n !=o)then
some (0,12)
else
j4 a b f
def AA:=Zr AP
def Zi(j3:LB->Nl)(a:LB):Nl:=
if(Dg (Ac a) 8)then
some (0,6)
else
(Bp a 0 8).bind λp=>
if(p !=([65,80,69,84,65,71,69,88]:LB))then
some (0,6)
else
j3 a
def Xs:=Zi AA
abbrev Hg:=Option (LI×Int)
def NT(I0:Int->LI->Hg)(a:LB)(b:Int)(f:LI)(g h:Int):Hg:=
if(geq h 6)then
some (f,0)
else
if(Bq h 0)then
some (([]:LI),h)
else
if(Fb (Af b g) 4000)then
some (([]:LI),4)
else
(Cz f ([g]:LI)).bind λm=>
I0 (Af b g) m
def Mo I0:=NT I0
def Rq(j9:Int->LI->Int->Int->Hg)(a:LB)(b:Int)(f:LI):Hg:=
(Bp a b (Ac a)).bind λn=>
(AY n).bind λ(o,k)=>
if(geq k 6)then
(Bp a b (Ac a)).bind λp=>
(Xs p).bind λ(u,v)=>
j9 b f u v
else
j9 b f o k
def Mi(a:LB):Nat->Int->LI->Hg
|0,_,_=>none
|q+1,b,f=>Rq (Mo (Mi a q) a) a b f
def OB a:=Mi a Ba
def NI(j6:LB->Int->LI->Hg)(a:LB):Hg:=
j6 a 0 ([]:LI)
def HJ:=NI OB
abbrev Hm:=Option (Int×Int)
def NH(a b:Int):Hm:=
some (b,a)
def AO:=NH
def Qz(j6:Int->Int->Hm)(Qy:Int->Int->Hm)(a:Int)(f:LI)(b g:Int):Hm:=
if(Dg g (Ac f))then
(Ao f g).bind λ_=>
(Ao f g).bind λh=>
Qy (Af b h) (Af g 1)
else
j6 a b
def Iq(a:Int)(f:LI):Nat->Int->Int->Hm
|0,_,_=>none
|q+1,b,g=>Qz AO (Iq a f q) a f b g
def Ri a f:=Iq a f Ba
def Zz(j4:Int->LI->Int->Int->Hm)(k:LB):Hm:=
(HJ k).bind λ(f,a)=>
j4 a f 0 0
def Ju:=Zz Ri
def Pg(a b:LB):Option Bool:=
if(Dg (Ac a) (Ac b))then
(Bp b 0 (Ac a)).bind λf=>
some (a==f)
else
some false
def RJ(a:UInt32)(b:Bool):Option UInt32:=
if b then
some (GQ (By a 2) 3988292384)
else
some (By a 2)
def CG:=RJ
def BP(j2:UInt32->Bool->Option UInt32)(a:UInt32)(f:Int):Option UInt32:=
if(geq f 1)then
j2 a (!(geq (JJ a 2) 1))
else
j2 a (geq (JJ a 2) 1)
def BK:=BP CG
def RV(a:UInt32):Option UInt32:=
some a
def DX:=RV
def Tw(j6:UInt32->Option UInt32)(Qy:UInt32->UInt8->Int->Option UInt32)(a:UInt32)(b:UInt8)(f:Int):Option UInt32:=
if(Dg f 8)then
(BK a (Ad (JJ b 2):Int)).bind λg=>
Qy g (By b 2) (Af f 1)
else
j6 a
def Ka:Nat->UInt32->UInt8->Int->Option UInt32
|0,_,_,_=>none
|q+1,a,b,f=>Tw DX (Ka q) a b f
def QW:=Ka Ba
def SD(j4:UInt32->UInt8->Int->Option UInt32)(h:UInt32)(k:UInt8):Option UInt32:=
j4 h k 0
def MB:=SD QW
def KT(a:UInt32):Option UInt32:=
some a
def Ym:=KT
def Pn(j6:UInt32->Option UInt32)(Qy:UInt32->Int->Option UInt32)(b:LB)(a:UInt32)(f:Int):Option UInt32:=
if(Dg f (Ac b))then
(Ao b f).bind λg=>
(MB a g).bind λh=>
Qy h (Af f 1)
else
j6 a
def Hv(b:LB):Nat->UInt32->Int->Option UInt32
|0,_,_=>none
|q+1,a,f=>Pn Ym (Hv b q) b a f
def Xw b:=Hv b Ba
def Xn(j4:LB->UInt32->Int->Option UInt32)(k:UInt32)(b:LB):Option UInt32:=
j4 b k 0
def FH:=Xn Xw
def Sk(a:LB):Option UInt32:=
(FH 4294967295 a).bind λb=>
some (Au 4294967295 b)
abbrev Ie:=Option (Int×Int×Int×Int×Int×Int)
def RH(k h g f b:UInt64):Ie:=
(Ig (Ad k:Int) (Ad h:Int) (Ad g:Int) (Ad f:Int) (Ad b:Int)).bind λv=>
if(!v)then
some (0,0,0,0,0,12)
else
(Lh (Ad k:Int) (Ad h:Int) (Ad g:Int) (Ad f:Int) (Ad b:Int)).bind λw=>
if w then
some (0,0,0,0,0,4)
else
some ((Ad k:Int),(Ad h:Int),(Ad g:Int),(Ad f:Int),(Ad b:Int),0)
def DI:=RH
def Tn(j6:UInt64->UInt64->UInt64->UInt64->UInt64->Ie)(a:LB):Ie:=
(Bp a 4 6).bind λu=>
(Bp a 6 8).bind λp=>
(Bp a 8 10).bind λo=>
(Bp a 10 14).bind λn=>
(Bp a 14 18).bind λm=>
(
(Az u).bind λk=>
(
(Az p).bind λh=>
(
(Az o).bind λg=>
(
(Az n).bind λf=>
(
(Az m).bind λb=>
(
j6 k h g f b))))))
def DM:=Tn DI
def CW(j5:LB->Ie)(a:LB):Ie:=
if(Dg (Ac a) 22)then
some (0,0,0,0,0,24)
else
(Bp a 18 22).bind λy=>
(Bp a 0 18).bind λaa=>
(Az y).bind λab=>
(Sk aa).bind λac=>
if(Bq ab (Ad ac:UInt64))then
some (0,0,0,0,0,22)
else
j5 a
def DK:=CW DM
def CP(j4:LB->Ie)(a:LB):Ie:=
(Bp a 0 (Jr 4 (Ac a))).bind λad=>
(Bp ([84,84,65,49]:LB) 0 (Jr 4 (Ac a))).bind λae=>
if(ad !=ae)then
some (0,0,0,0,0,12)
else
j4 a
def Ld:=CP DK
abbrev Xg:=Option (Int×Int×Int×Int×Int×Int×Int)
def IK(b:Int)(a:LB):Xg:=
(Ld a).bind λ(k,m,n,o,p,h)=>
if(geq h 24)then
some (0,0,0,0,0,0,(-1:Int))
else
some ((Af b 22),k,m,n,o,p,h)
def Vo:=IK
def Vs(j2:Int->LB->Xg)(f:LB):Xg:=
(Ju f).bind λ(b,g)=>
if(geq g 24)then
some (0,0,0,0,0,0,(-1:Int))
else
if(Bq g 0)then
some (0,0,0,0,0,0,g)
else
(Bp f b (Ac f)).bind λa=>
(Pg a ([73,68,51]:LB)).bind λu=>
if u then
some (0,0,0,0,0,0,(-1:Int))
else
(Pg a ([65,80,69,84,65,71,69,88]:LB)).bind λv=>
if v then
some (0,0,0,0,0,0,(-1:Int))
else
j2 b a
def Nk:=Vs Vo
def RW(a:UInt64)(b:Bool):Option UInt64:=
if b then
some (GQ (Bm a 2) 4823603603198064275)
else
some (Bm a 2)
def Sp:=RW
def DB(j2:UInt64->Bool->Option UInt64)(a:UInt64)(f:Int):Option UInt64:=
if(geq f 1)then
j2 a (!(Tp a 9223372036854775808))
else
j2 a (Tp a 9223372036854775808)
def BL:=DB Sp
def RY(a:UInt64):Option UInt64:=
some a
def BR:=RY
def Uc(j6:UInt64->Option UInt64)(Qy:UInt64->Int->Option UInt64)(b:UInt8)(a:UInt64)(f:Int):Option UInt64:=
if(Fb f 0)then
(Ue (Bq f 0)).bind λ_=>
(BL a (Ko (By (Ad b:Int) f) 2)).bind λg=>
Qy g (By f 2)
else
j6 a
def Kb(b:UInt8):Nat->UInt64->Int->Option UInt64
|0,_,_=>none
|q+1,a,f=>Uc BR (Kb b q) b a f
def QT b:=Kb b Ba
def QZ(j4:UInt8->UInt64->Int->Option UInt64)(h:UInt64)(b:UInt8):Option UInt64:=
j4 b h 128
def JR:=QZ QT
def LO(a:UInt64):Option UInt64:=
some a
def Xv:=LO
def Ps(j6:UInt64->Option UInt64)(Qy:UInt64->Int->Option UInt64)(b:LB)(a:UInt64)(f:Int):Option UInt64:=
if(Dg f (Ac b))then
(Ao b f).bind λg=>
(JR a g).bind λh=>
Qy h (Af f 1)
else
j6 a
def Hu(b:LB):Nat->UInt64->Int->Option UInt64
|0,_,_=>none
|q+1,a,f=>Ps Xv (Hu b q) b a f
def LM b:=Hu b Ba
def JT(j4:LB->UInt64->Int->Option UInt64)(k:UInt64)(b:LB):Option UInt64:=
j4 b k 0
def Vb:=JT LM
def LH(a:LB):Option UInt64:=
(Vb 0 a).bind λb=>
some b
def Kh(a:LB):Option (LB):=
(LH a).bind λb=>
(Bd b 8).bind λf=>
some f
abbrev Ex:=Option (LI×Int)
def RO(f:LI):Ex:=
(Ha f).bind λh=>
if(Bq h 0)then
some (([]:LI),12)
else
some (f,0)
def Ti:=RO
def Tg(j8:LI->Ex)(I0:Int->LI->Ex)(b:LB)(a g:Int)(f:LI):Ex:=
if(Dg g a)then
(Bp b (Bm 4 g) (Af (Bm 4 g) 4)).bind λk=>
(Az k).bind λm=>
(Cz f ([(Ad m:Int)]:LI)).bind λn=>
I0 (Af g 1) n
else
j8 f
def Jz(b:LB)(a:Int):Nat->Int->LI->Ex
|0,_,_=>none
|q+1,g,f=>Tg Ti (Jz b a q) b a g f
def DO b a:=Jz b a Ba
def BW(j6:LB->Int->Int->LI->Ex)(b:LB)(a:Int):Ex:=
j6 b a 0 ([]:LI)
def CT:=BW DO
def CA(j5:LB->Int->Ex)(b:LB)(a:Int):Ex:=
if((Dg a 1)||(Fb a 1000))then
some (([]:LI),2)
else
if(Dg (Ac b) (Af (Bm 4 a) 4))then
some (([]:LI),24)
else
(Bp b (Bm 4 a) (Af (Bm 4 a) 4)).bind λo=>
(Bp b 0 (Bm 4 a)).bind λp=>
(Az o).bind λu=>
(Sk p).bind λv=>
if(Bq u (Ad v:UInt64))then
some (([]:LI),22)
else
j5 b a
def Oi:=CA CT
abbrev Mp:=Option (Int×LI×Int)
def MJ(b g:Int)(h:LI):Mp:=
if(geq g 24)then
some (0,([]:LI),(-1:Int))
else
some ((Af (Af b (Bm 4 (Ac h))) 4),h,g)
def Xy:=MJ
def Yl(j4:Int->Int->LI->Mp)(a:LB)(f k m n o b:Int):Mp:=
(Bp a b (Ac a)).bind λp=>
(Fo f k m n o).bind λu=>
(Oi p (Ac u)).bind λ(h,g)=>
j4 b g h
def Dk:=Yl Xy
def Fu(j3:LB->Int->Int->Int->Int->Int->Int->Mp)(a:LB)(f k m n o:Int)(v:LB):Mp:=
if(geq f 2)then
if(Dg (Ac a) 8)then
some (0,([]:LI),(-1:Int))
else
(Bp a 0 8).bind λw=>
(Kh v).bind λy=>
if(w !=y)then
some (0,([]:LI),26)
else
j3 a f k m n o 8
else
j3 a f k m n o 0
def Dt:=Fu Dk
def KY(b:UInt64)(a:LB):Option (UInt64×Int):=
if(Fb (Ac a) 100000)then
some (0,4)
else
(Vb b a).bind λf=>
some (f,0)
def PO(a:LB):Option (UInt64×Int):=
(KY 0 a).bind λ(b,f)=>
some (b,f)
def mO(a:LX):Option (LX):=
some a
def TO:=mO
def XF(I0:UInt64->Int->LX->Option (LX))(b:UInt64)(f:Int)(a:LX)(g:Int32):Option (LX):=
(Ao a f).bind λ_=>
(Ux a f g).bind λh=>
I0 (By b 256) (Af f 1) h
def Xx I0:=XF I0
def Xl(j8:UInt64->Int->LX->Int32->Option (LX))(j10:LX->Option (LX))(b:UInt64)(f:Int)(a:LX):Option (LX):=
if(Dg f 8)then
if(Fb (Ad (JJ b 256):Int32) 127)then
j8 b f a (Au (Ad (JJ b 256):Int32) 256)
else
j8 b f a (Ad (JJ b 256):Int32)
else
j10 a
def Jv:Nat->UInt64->Int->LX->Option (LX)
|0,_,_,_=>none
|q+1,b,f,a=>Xl (Xx (Jv q)) TO b f a
def VM:=Jv Ba
def YD(j6:UInt64->Int->LX->Option (LX))(k:UInt64):Option (LX):=
j6 k 0 (List.replicate 16 (0:Int32))
def SU:=YD VM
def Kv(a:LB):Option (LX×Int):=
if(Fb (Ac a) 64)then
some (([(0:Int32),(0:Int32),(0:Int32),(0:Int32),(0:Int32),(0:Int32),(0:Int32),(0:Int32),(0:Int32),(0:Int32),(0:Int32),(0:Int32),(0:Int32),(0:Int32),(0:Int32),(0:Int32)]:LX),2)
else
(PO a).bind λ(b,g)=>
(SU b).bind λf=>
some (f,0)
def Ik(a:Int):Option Int:=
if(geq a 8)then
some 128
else
if(geq a 16)then
some 32768
else
if(geq a 24)then
some 8388608
else
some 0
def Di(a b:Int):Option Int:=
if((Dg a 1)||(Fb a 6))then
some 2
else
(Ik b).bind λf=>
if(geq f 0)then
some 2
else
some 0
def Ed(a f b:Int):Option Int:=
(Di a f).bind λg=>
if((Bq g 0)||(Dg b 1))then
some 2
else
(Ue (Bq a 0)).bind λ_=>
if(Fb b (By 4000 a))then
some 2
else
some 0
def Vd(b:LB):Option (LB):=
(Sk b).bind λa=>
(Cz ([]:LB) b).bind λf=>
(Cz f ([(Ad a:UInt8),(Ad (Ea a (GI.toZ (8:UInt64)).toNat):UInt8),(Ad (Ea a (GI.toZ (16:UInt64)).toNat):UInt8),(Ad (Ea a (GI.toZ (24:UInt64)).toNat):UInt8)]:LB)).bind λg=>
some g
def Pb(a:LB):Option Int:=
if(Dg (Ac a) 5)then
some 24
else
if(Fb (Ac a) 41254)then
some 4
else
(Bp a 0 (Au (Ac a) 4)).bind λb=>
(Vd b).bind λf=>
if(f !=a)then
some 22
else
some 0
def Ms:Option (Int×Int×UInt64×UInt64):=
some (10,10,16384,16384)
def gP(a:UInt64):Option UInt64:=
some a
def NG:=gP
def Ro(j6:UInt64->Option UInt64)(Qy:UInt64->Int->Option UInt64)(b:Int)(a:UInt64)(f:Int):Option UInt64:=
if(Dg f b)then
Qy (Bm a 2) (Af f 1)
else
j6 a
def Io(b:Int):Nat->UInt64->Int->Option UInt64
|0,_,_=>none
|q+1,a,f=>Ro NG (Io b q) b a f
def NP b:=Io b Ba
def ND(j4:Int->UInt64->Int->Option UInt64)(b:Int):Option UInt64:=
j4 b 1 0
def Ft:=ND NP
def Wk(a g:Int)(h k:UInt64)(b:UInt32):Option Bool:=
(Ft a).bind λf=>
some (Dg (Ad b:UInt64) f)
def Od(a g:Int)(h k:UInt64)(b:UInt32):Option UInt32:=
(Ft a).bind λf=>
some (Ad (Au (Ad b:UInt64) f):UInt32)
abbrev GA:=Option (Int×UInt64)
def SB(b:Int)(a f:UInt64):GA:=
if(Dg b 24)then
(Ft (Af b 5)).bind λg=>
if(Fb (Au (Af a f) (By a 16)) g)then
some ((Af b 1),(Au (Af a f) (By a 16)))
else
some (b,(Au (Af a f) (By a 16)))
else
some (b,(Au (Af a f) (By a 16)))
def Sy:=SB
def CZ(j2:Int->UInt64->UInt64->GA)(b:Int)(a f:UInt64):GA:=
if(Fb b 0)then
(Ft (Af b 4)).bind λh=>
if(Dg (Au (Af a f) (By a 16)) h)then
some ((Au b 1),(Au (Af a f) (By a 16)))
else
j2 b a f
else
j2 b a f
def Kw:=CZ Sy
abbrev Zv:=Option (Int×Int×UInt64×UInt64)
def LY(h:UInt32)(f a:Int)(g b:UInt64)(o:Int)(p:UInt64):Zv:=
(Kw f g (Ad h:UInt64)).bind λ(aa,ab)=>
some (aa,o,ab,p)
def Pq:=LY
def Pp(j2:UInt32->Int->Int->UInt64->UInt64->Int->UInt64->Zv)(f a:Int)(g b:UInt64)(h:UInt32):Zv:=
(Wk f a g b h).bind λu=>
if(!u)then
(
(
(Od f a g b h).bind λk=>
(Kw a b (Ad k:UInt64)).bind λ(m,n)=>
j2 h f a g b m n))
else
j2 h f a g b a b
def Uz:=Pp Pq
abbrev Gf:=Option (Int×Int×UInt64×UInt64)
def dZ(a b:Int)(f g:UInt64):Gf:=
some (a,b,f,g)
def JS:=dZ
def Yc(j6:Int->Int->UInt64->UInt64->Gf)(Qy:Int->Int->Int->UInt64->UInt64->Gf)(h:Int)(k:LU)(m a b:Int)(f g:UInt64):Gf:=
if(Dg m (Ac k))then
(Ao k m).bind λn=>
(Uz a b f g n).bind λ(o,p,u,v)=>
Qy (Af m h) o p u v
else
j6 a b f g
def Lf(h:Int)(k:LU):Nat->Int->Int->Int->UInt64->UInt64->Gf
|0,_,_,_,_,_=>none
|q+1,m,a,b,f,g=>Yc JS (Lf h k q) h k m a b f g
def MS h k:=Lf h k Ba
def Xm(j4:Int->LU->Int->Int->Int->UInt64->UInt64->Gf)(h:Int)(k:LU):Gf:=
(Ms).bind λ(w,y,aa,ab)=>
(Ue (Bq h 0)).bind λ_=>
j4 h k (Ko (Ac k) h) w y aa ab
def Pa:=Xm MS
def YA(a:Int):Option Int:=
some (Ko a 2)
def IA:=YA
def Ya(j6:Int->Option Int)(Qy:Int->Int->Option Int)(b a f:Int):Option Int:=
if(Dg f (Ko b 8))then
Qy (By a 2) (Af f 1)
else
j6 a
def My(b:Int):Nat->Int->Int->Option Int
|0,_,_=>none
|q+1,a,f=>Ya IA (My b q) b a f
def HS b:=My b Ba
def HU(j4:Int->Int->Int->Option Int)(g:LB)(k b:Int):Option Int:=
(Ao g (By b 8)).bind λh=>
j4 b (Ad h:Int) 0
def Ly:=HU HS
abbrev Fs:=Option (LB×Int)
def TM(b g a:Int)(f:LB):Fs:=
(Ao f (By a 8)).bind λ_=>
(Ao f (By a 8)).bind λm=>
(Ao f (By a 8)).bind λ_=>
(Ux f (By a 8) (Af m (Ad (Bm b g):UInt8))).bind λn=>
some (n,(Af a 1))
def Va:=TM
def Vn(j8:Int->Int->Int->LB->Fs)(I0:Int->Int->Fs)(b a:Int)(f:LB)(g h:Int):Fs:=
if(Dg h (Ko a 8))then
I0 (Bm g 2) (Af h 1)
else
j8 b g a f
def Lt(b a:Int)(f:LB):Nat->Int->Int->Fs
|0,_,_=>none
|q+1,g,h=>Vn Va (Lt b a f q) b a f g h
def FL b a f:=Lt b a f Ba
def FY(j6:Int->Int->LB->Int->Int->Fs)(b a:Int)(f:LB):Fs:=
j6 b a f 1 0
def Vc:=FY FL
def FM(j5:Int->Int->LB->Fs)(k:LB)(a b:Int):Fs:=
if(geq (Ko a 8) 0)then
(Cz k ([(0:UInt8)]:LB)).bind λo=>
j5 b a o
else
j5 b a k
def Wf:=FM Vc
abbrev Fx:=Option (LB×Int)
def cU(a:Int)(b:LB):Fx:=
some (b,a)
def JE:=cU
def Og(j6:Int->LB->Fx)(Qy:Int->Int->LB->Fx)(f:Int)(g:LB)(h k a:Int)(b:LB):Fx:=
if(Dg k f)then
(Ly g h k).bind λm=>
(Wf b a m).bind λ(n,o)=>
Qy (Af k 1) o n
else
j6 a b
def Gv(f:Int)(g:LB)(h:Int):Nat->Int->Int->LB->Fx
|0,_,_,_=>none
|q+1,k,a,b=>Og JE (Gv f g h q) f g h k a b
def JD f g h:=Gv f g h Ba
def JH(j4:Int->LB->Int->Int->Int->LB->Fx)(g:LB)(h p f:Int):Fx:=
j4 f g h p 0 ([]:LB)
def DD:=JH JD
def gS(a:UInt64):Option UInt64:=
some a
def NM:=gS
def Rl(j6:UInt64->Option UInt64)(Qy:UInt64->Int->Option UInt64)(b:Int)(f:LB)(g:Int)(a:UInt64)(h:Int):Option UInt64:=
if(Tp h 0)then
(Ly f g (Af b h)).bind λk=>
Qy (Af (Bm 2 a) (Ad k:UInt64)) (Au h 1)
else
j6 a
def Ip(b:Int)(f:LB)(g:Int):Nat->UInt64->Int->Option UInt64
|0,_,_=>none
|q+1,a,h=>Rl NM (Ip b f g q) b f g a h
def Zw b f g:=Ip b f g Ba
def AD(j4:Int->LB->Int->UInt64->Int->Option UInt64)(f:LB)(g b m:Int):Option UInt64:=
j4 b f g 0 (Au m 1)
def Qv:=AD Zw
abbrev Jm:=Option (Int×Int)
def TX(b a:Int)(g:LB)(f:Int):Jm:=
if(geq a 48)then
some (a,(Af b a))
else
if(Tp (Af b a) f)then
some ((-1:Int),0)
else
some (a,(Af (Af b a) 1))
def Vm:=TX
def Vi(j6:Int->Int->LB->Int->Jm)(Qy:Int->Jm)(b:Int)(g:LB)(f a:Int):Jm:=
if((Dg (Af b a) f)&&(Dg a 48))then
(Ly g f (Af b a)).bind λh=>
if(geq h 1)then
Qy (Af a 1)
else
j6 b a g f
else
j6 b a g f
def Ln(b:Int)(g:LB)(f:Int):Nat->Int->Jm
|0,_=>none
|q+1,a=>Vi Vm (Ln b g f q) b g f a
def TN b g f:=Ln b g f Ba
def TZ(j4:Int->LB->Int->Int->Jm)(g:LB)(f b:Int):Jm:=
j4 b g f 0
def OQ:=TZ TN
def AS(b:UInt32)(f:Int):Option Int:=
(Ft f).bind λa=>
(Ue (Bq a 0)).bind λ_=>
some (Ad (Jr 48 (By (Ad b:UInt64) a)):Int)
abbrev HN:=Option (UInt32×Int×Int)
def FQ(g a b:Int)(h:LB)(f k:Int):HN:=
if((Dg a 0)||(Dg (Au f b) k))then
some (0,0,24)
else
(Qv h f b k).bind λm=>
if(Dg a 48)then
(Ft g).bind λo=>
some ((Ad (Af (Bm (Ad a:UInt64) o) m):UInt32),(Af b k),0)
else
(AS (Ad m:UInt32) g).bind λp=>
if(Dg p a)then
some (0,0,12)
else
some ((Ad m:UInt32),(Af b k),0)
def Vk:=FQ
def FI(j2:Int->Int->Int->LB->Int->Int->HN)(h:LB)(f n g:Int):HN:=
if(Tp n f)then
some (0,0,24)
else
(OQ h f n).bind λ(a,b)=>
if(geq a 48)then
j2 g a b h f 32
else
j2 g a b h f g
def EM:=FI Vk
def EK(g:LB)(b a f n:Int)(v w:UInt64):Option (UInt32×Int×Int):=
if(Tp a b)then
some (0,0,24)
else
(Ly g b a).bind λo=>
if(geq o 0)then
if(Dg (Au (Au b a) 1) f)then
some (0,0,24)
else
(Qv g b (Af a 1) f).bind λp=>
some ((Ad p:UInt32),(Af (Af a 1) f),0)
else
(EM g b (Af a 1) n).bind λ(h,u,k)=>
if(Bq k 0)then
some (0,0,k)
else
(Ft f).bind λm=>
if(Fb (Af (Ad h:UInt64) m) 4294967295)then
some (0,0,12)
else
some ((Ad (Af (Ad h:UInt64) m):UInt32),u,0)
abbrev Ca:=Option (LU×Int)
def gT(b:LU):Ca:=
some (b,0)
def NN:=gT
def Rj(j18:LU->Ca)(Hp:Int->Ca)(a:LB)(b:LU)(m:Int):Ca:=
if(Dg m (Bm 8 (Ac a)))then
(Ly a (Bm 8 (Ac a)) m).bind λn=>
if(Bq n 0)then
some (b,12)
else
Hp (Af m 1)
else
j18 b
def Is(a:LB)(b:LU):Nat->Int->Ca
|0,_=>none
|q+1,m=>Rj NN (Is a b q) a b m
def Zx a b:=Is a b Ba
def Zm(j16:LB->LU->Int->Ca)(f:Int)(a:LB)(b:LU):Ca:=
if(Fb (Au (Bm 8 (Ac a)) f) 7)then
some (b,12)
else
j16 a b f
def Rs:=Zm Zx
def NV(Al0:Int->Int->LU->Ca)(g h:Int)(a:LB)(f k:Int)(b:LU)(o p:Int)(u v:UInt64):Ca:=
(DD a (Bm 8 (Ac a)) f (Jr (Af f 81) (Bm 8 (Ac a)))).bind λ(y,aa)=>
(EK y aa 0 o p u v).bind λ(ab,ac,w)=>
if(Bq w 0)then
some (b,w)
else
(Cz b ([ab]:LU)).bind λad=>
Al0 (Af f ac) (Af k 1) ad
def Ir Al0:=NV Al0
def AJ(j13:Int->Int->LU->Int->Int->UInt64->UInt64->Ca)(j15:Int->LB->LU->Ca)(g h:Int)(a:LB)(f k:Int)(b:LU):Ca:=
if(Dg k (Bm h g))then
(Ms).bind λ(n,ae,af,ag)=>
if(Tp k g)then
(Pa g b).bind λ(ah,ai,aj,ak)=>
j13 f k b ah ai aj ak
else
j13 f k b n ae af ag
else
j15 f a b
def Ew(g h:Int)(a:LB):Nat->Int->Int->LU->Ca
|0,_,_,_=>none
|q+1,f,k,b=>AJ (Ir (Ew g h a q) g h a) Rs g h a f k b
def NL g h a:=Ew g h a Ba
def DJ(j10:Int->Int->LB->Int->Int->LU->Ca)(g h:Int)(a:LB):Ca:=
j10 g h a 0 0 ([]:LU)
def AT:=DJ NL
def YE(a:Int):Option (Int×Int):=
if(geq a 8)then
some (4,0)
else
if((geq a 16)||(geq a 24))then
some (5,0)
else
some (0,2)
def bH(a:Int)(b:LX):Option (Int×LX×LX×Int):=
(YE a).bind λ(g,f)=>
if(Bq f 0)then
some (0,(List.replicate 16 (0:Int32)),(List.replicate 16 (0:Int32)),2)
else
if(geq a 16)then
some (9,b,(List.replicate 16 (0:Int32)),0)
else
some (10,b,(List.replicate 16 (0:Int32)),0)
def OD(a:Int)(b:LX):Option (Int×Int32×Int×LX×LX×Int):=
(bH a b).bind λ(f,g,h,k)=>
if(Bq k 0)then
some (0,0,0,(List.replicate 16 (0:Int32)),(List.replicate 16 (0:Int32)),2)
else
some (a,0,f,g,h,0)
def Oa(a:UInt32):Option Int32:=
if(geq (JJ a 2) 0)then
some (Ad (By a 2):Int32)
else
some (Ad (By (pN (Af (Ad a:Int) 1)) 2):Int32)
def Df(a:Int):Option Int32:=
some (Ad (Ad (Ad a:UInt64):UInt32):Int32)
def UB(a:Int):Option Int32:=
some (Ad a:Int32)
def FJ:=UB
def Uy(j6:Int->Option Int32)(Qy:Int->Int->Option Int32)(h:Int)(f g:LX)(a b:Int):Option Int32:=
if(Dg b 16)then
(Ao f b).bind λ_=>
(Ao g b).bind λ_=>
(Ao f b).bind λk=>
(Ao g b).bind λm=>
(Df (Bm (Ad k:Int) (Ad m:Int))).bind λn=>
(Df (Af a (Ad n:Int))).bind λo=>
Qy (Ad o:Int) (Af b 1)
else
j6 a
def Lp(h:Int)(f g:LX):Nat->Int->Int->Option Int32
|0,_,_=>none
|q+1,a,b=>Uy FJ (Lp h f g q) h f g a b
def TK h f g:=Lp h f g Ba
def TY(j4:Int->LX->LX->Int->Int->Option Int32)(h:Int)(f g:LX):Option Int32:=
j4 h f g 0 0
def OH:=TY TK
def QQ(b:Int)(f g:LX)(a:Int):Option Int32:=
(OH b f g).bind λk=>
(Df (Af (Ad k:Int) (By a 2))).bind λh=>
(Ue (Bq a 0)).bind λ_=>
(Ue (Bq a 0)).bind λ_=>
if(Dg (Ko (Ad h:Int) a) 0)then
some (Ad (Au (By (Ad h:Int) a) 1):Int32)
else
some (Ad (By (Ad h:Int) a):Int32)
def Ty:=QQ
def CI(j2:Int->LX->LX->Int->Option Int32)(b:Int)(f g:LX):Option Int32:=
if(geq b 9)then
j2 b f g 512
else
j2 b f g 1024
def BC:=CI Ty
def BN(a:Int):Option Int32:=
if(geq a 0)then
some 4
else
if(G4 a 3)then
some 2
else
some 1
def Sr(a:Int32):Option Int32:=
if(Dg a 0)then
some (-1:Int32)
else
if(Fb a 0)then
some 1
else
some 0
abbrev Fw:=Option (Int×LX×LX)
def cY(g:Int)(b a:LX):Fw:=
some (g,b,a)
def JG:=cY
def Nw(j6:Int->LX->LX->Fw)(Qy:Int->LX->Fw)(h:Int32)(g:Int)(a:LX)(f:Int)(b:LX):Fw:=
if(Dg f 16)then
(Ao b f).bind λ_=>
(Ao a f).bind λ_=>
(Ao b f).bind λk=>
(Ao a f).bind λm=>
(BN f).bind λn=>
(Sr m).bind λo=>
(Sr h).bind λp=>
(Ao b f).bind λ_=>
(Ux b f (Af k (Bm (Bm n o) p))).bind λu=>
Qy (Af f 1) u
else
j6 g b a
def Gy(h:Int32)(g:Int)(a:LX):Nat->Int->LX->Fw
|0,_,_=>none
|q+1,f,b=>Nw JG (Gy h g a q) h g a f b
def JB h g a:=Gy h g a Ba
def IX(j4:Int32->Int->LX->Int->LX->Fw)(g:Int)(v a:LX)(h:Int32):Fw:=
j4 h g a 0 v
def CB:=IX JB
abbrev Gd:=Option (Int×LX×LX)
def KL(b:Int32)(f:Int)(g a:LX):Gd:=
(Ao a 0).bind λ_=>
(Ux a 0 b).bind λk=>
some (f,g,k)
def Xh:=KL
def Px(j6:Int32->Int->LX->LX->Gd)(Qy:Int->LX->Gd)(b:Int32)(f:Int)(g:LX)(h:Int)(a:LX):Gd:=
if(Fb h 0)then
(Ao a (Au h 1)).bind λ_=>
(Ao a (Au h 1)).bind λm=>
(Ao a h).bind λ_=>
(Ux a h m).bind λn=>
Qy (Au h 1) n
else
j6 b f g a
def Hw(b:Int32)(f:Int)(g:LX):Nat->Int->LX->Gd
|0,_,_=>none
|q+1,h,a=>Px Xh (Hw b f g q) b f g h a
def LR b f g:=Hw b f g Ba
def KI(j4:Int32->Int->LX->Int->LX->Gd)(f:Int)(g o:LX)(b:Int32):Gd:=
j4 b f g 15 o
def FG:=KI LR
def Td(a:Int)(b f:LX)(g:Int32):Option (Int32×Int×LX×LX):=
(BC a b f).bind λk=>
(Df (Af (Ad g:Int) (Ad k:Int))).bind λh=>
(CB a b f g).bind λ(m,n,o)=>
(FG m n o h).bind λ(p,u,v)=>
some (h,p,u,v)
def JU(b:Int32)(a:Int):Option Int32:=
(Ue (Bq a 0)).bind λ_=>
(Ue (Bq a 0)).bind λ_=>
if(Dg (Ko (Bm (Au a 1) (Ad b:Int)) a) 0)then
some (Ad (Au (By (Bm (Au a 1) (Ad b:Int)) a) 1):Int32)
else
some (Ad (By (Bm (Au a 1) (Ad b:Int)) a):Int32)
def Pv:=JU
def Yf(j2:Int32->Int->Option Int32)(f:Int)(b:Int32):Option Int32:=
if(geq f 5)then
j2 b 32
else
j2 b 16
def Pf:=Yf Pv
def Vf(b:Int)(a:Int32)(h:Int)(k m:LX):Option Int:=
if(geq b 8)then
(Pf 4 a).bind λf=>
some (Ad f:Int)
else
(Pf 5 a).bind λg=>
some (Ad g:Int)
def Jy(a:Int)(k:Int32)(b:Int)(f g:LX)(m:Int32):Option (Int32×Int×Int32×Int×LX×LX):=
(Td b f g m).bind λ(n,o,p,u)=>
(Vf a k b f g).bind λv=>
(Df (Af (Ad n:Int) v)).bind λh=>
some (h,a,h,o,p,u)
def Qp(a:Int)(b:LX):Option Int:=
if((Dg a 1)||(Fb a 6))then
some 2
else
if(Fb (Ac b) 4000)then
some 4
else
(Ue (Bq a 0)).bind λ_=>
if(Fb (Ko (Ac b) a) 0)then
some 2
else
some 0
def cM(b:LX):Option (LX):=
some b
def JC:=cM
def Oe(j8:LX->Option (LX))(I0:Int->LX->Option (LX))(a:LX)(f:Int)(b:LX):Option (LX):=
if(Tp f 0)then
(Ao b (Af f 1)).bind λ_=>
(Ao a f).bind λm=>
(Ao b (Af f 1)).bind λn=>
(Df (Au (Ad n:Int) (Ad m:Int))).bind λo=>
(Ao b f).bind λ_=>
(Ux b f o).bind λp=>
I0 (Au f 1) p
else
j8 b
def Gu(a:LX):Nat->Int->LX->Option (LX)
|0,_,_=>none
|q+1,f,b=>Oe JC (Gu a q) a f b
def ID a:=Gu a Ba
def Wx(j6:LX->Int->LX->Option (LX))(a g:LX):Option (LX):=
j6 a (Au (Ac a) 2) g
def Nz:=Wx ID
def Vx(j5:LX->LX->Option (LX))(a:LX):Option (LX):=
(mkI (Ac a) (0:Int32)).bind λk=>
(Ue (geq (Ac a) (Ac a))).bind λ_=>
(Ao a (Au (Ac a) 1)).bind λu=>
(Ao k (Au (Ac a) 1)).bind λ_=>
(Ux k (Au (Ac a) 1) u).bind λh=>
if(Fb (Ac a) 1)then
(Ao a (Au (Ac a) 1)).bind λv=>
(Ao a (Au (Ac a) 2)).bind λw=>
(Df (Af (Ad v:Int) (By (Ad w:Int) 2))).bind λy=>
(Ao h (Au (Ac a) 1)).bind λ_=>
(Ux h (Au (Ac a) 1) y).bind λaa=>
j5 a aa
else
j5 a h
def Ts:=Vx Nz
abbrev Hz:=Option (LX×Int)
def kG(f:LX):Hz:=
some (f,0)
def SA:=kG
def DS(j6:LX->Hz)(Qy:Int->LX->Hz)(a:Int)(b:LX)(g:Int)(f:LX):Hz:=
if(Dg g (Ac b))then
(Bp b g (Af g a)).bind λh=>
(Ts h).bind λk=>
(Cz f k).bind λm=>
Qy (Af g a) m
else
j6 f
def Nj(a:Int)(b:LX):Nat->Int->LX->Hz
|0,_,_=>none
|q+1,g,f=>DS SA (Nj a b q) a b g f
def RL a b:=Nj a b Ba
def CE(j4:Int->LX->Int->LX->Hz)(a:Int)(b:LX):Hz:=
(Qp a b).bind λn=>
if(Bq n 0)then
(Qp a b).bind λo=>
some (([]:LX),o)
else
j4 a b 0 ([]:LX)
def BA:=CE RL
def IV(a f:Int)(w:LX):Option (LX):=
(BA a w).bind λ(aj,ai)=>
some aj
def Nx:=IV
def IY(I2:Int->LX->Option (LX))(b:LU)(a f:Int)(g:LX)(h:Int)(m:LX):Option (LX):=
I2 (Af h 1) m
def Vz I2:=IY I2
def IJ(Acp:Int->LX->Int->Int32->Int->LX->LX->Option (LX))(b:LU)(h a f:Int)(g:LX)(k:Int)(af:LX)(y:Int)(aa:Int32)(ab:Int)(ac ad:LX):Option (LX):=
Acp (Af k a) af y aa ab ac ad
def Vq Acp:=IJ Acp
def Wp(j30:Int->LX->Int->Int32->Int->LX->LX->Option (LX))(b:LU)(h a f:Int)(g:LX)(k:Int)(ae:Int32)(m:LX)(n:Int)(o:Int32)(p:Int)(u v:LX)(y:Int)(aa:Int32)(ab:Int)(ac ad:LX):Option (LX):=
(Ao m k).bind λ_=>
(Ux m k ae).bind λaf=>
j30 k af y aa ab ac ad
def Wv Acp b h a f g:=Wp (Vq Acp b h a f g) b h a f g
def Oc(j29:Int->Int32->LX->Int->Int32->Int->LX->LX->Int->Int32->Int->LX->LX->Option (LX))(j32:Int->LX->Option (LX))(b:LU)(a f:Int)(g:LX)(h k:Int)(m:LX)(n:Int)(o:Int32)(p:Int)(u v:LX):Option (LX):=
if(Dg k (Ac b))then
(Ao b k).bind λah=>
(
(Oa ah).bind λag=>
(
(Jy n o p u v ag).bind λ(ae,y,aa,ab,ac,ad)=>
j29 k ae m n o p u v y aa ab ac ad))
else
j32 h m
def Kj(I2:Int->LX->Option (LX))(b:LU)(a f:Int)(g:LX)(h:Int):Nat->Int->LX->Int->Int32->Int->LX->LX->Option (LX)
|0,_,_,_,_,_,_,_=>none
|q+1,k,m,n,o,p,u,v=>Oc (Wv (Kj I2 b a f g h q) b h a f g) (Vz I2 b a f g) b a f g h k m n o p u v
def Wq I2 b a f g h:=Kj I2 b a f g h Ba
def Ny(j26:Int->Int->LX->Int->Int32->Int->LX->LX->Option (LX))(j34:Int->Int->LX->Option (LX))(b:LU)(a f:Int)(g:LX)(h:Int)(w:LX):Option (LX):=
if(Dg h a)then
(OD f g).bind λ(ak,ai,al,am,an,aq)=>
j26 h h w ak ai al am an
else
j34 a f w
def Ff(b:LU)(a f:Int)(g:LX):Nat->Int->LX->Option (LX)
|0,_,_=>none
|q+1,h,w=>Ny (Wq (Ff b a f g q) b a f g) Nx b a f g h w
def Wy b a f g:=Ff b a f g Ba
def Xk(j18:LU->Int->Int->LX->Int->LX->Option (LX))(a f:Int)(g:LX)(b:LU):Option (LX):=
(mkI (Ac b) (0:Int32)).bind λao=>
(Ue (geq (Ac b) (Ac b))).bind λ_=>
j18 b a f g 0 ao
def Lr:=Xk Wy
def gQ:Option Int:=
some 0
def NF:=gQ
def Cx(j6:Option Int)(Qy:Int->Option Int)(a:LX)(b f:Int):Option Int:=
if(Dg f (Ac a))then
(Ao a f).bind λg=>
if(Dg (Ad g:Int) (pN b))then
some 16
else
(Ao a f).bind λh=>
if(Tp (Ad h:Int) b)then
some 16
else
Qy (Af f 1)
else
j6
def Bb(a:LX)(b:Int):Nat->Int->Option Int
|0,_=>none
|q+1,f=>Cx NF (Bb a b q) a b f
def NX a b:=Bb a b Ba
def Dn(j4:LX->Int->Int->Option Int)(k:Int)(a:LX):Option Int:=
(Ik k).bind λb=>
if(geq b 0)then
some 2
else
if(Fb (Ac a) 4000)then
some 4
else
j4 a b 0
def Ay:=Dn NX
def Ph(g f:Int)(a:LX):Option (LX×Int):=
(Ay f a).bind λb=>
if(Bq b 0)then
some (([]:LX),b)
else
some (a,0)
abbrev Zk:=Option (LX×Int)
def Fv(f a b:Int)(g:LX)(h:LU):Zk:=
if(Bq f 0)then
some (([]:LX),f)
else
(
(
(Lr a b g h).bind λm=>
(Ph a b m).bind λ(n,o)=>
some (n,o)))
def Hs:=Fv
def Pz(j2:Int->Int->Int->LX->LU->Zk)(a b:Int)(g:LX)(p:Int)(k:LB):Zk:=
(Ed a b p).bind λy=>
if(Bq y 0)then
some (([]:LX),2)
else
(Pb k).bind λaa=>
if(Bq aa 0)then
(Pb k).bind λab=>
some (([]:LX),ab)
else
(Bp k 0 (Au (Ac k) 4)).bind λac=>
(AT a p ac).bind λ(h,f)=>
j2 f a b g h
def Ef:=Pz Hs
def FW(a b:Int):Option (LB):=
if(geq a 24)then
(Cz ([(Ad (Ko b 256):UInt8),(Ad (Ko (By b 256) 256):UInt8)]:LB) ([(Ad (By b 65536):UInt8)]:LB)).bind λg=>
some g
else
some ([(Ad (Ko b 256):UInt8),(Ad (Ko (By b 256) 256):UInt8)]:LB)
def Lq:=FW
def FX(j2:Int->Int->Option (LB))(a:Int)(f:Int32):Option (LB):=
if(geq a 8)then
some ([(Ad (Af (Ad f:Int) 128):UInt8)]:LB)
else
if(Dg (Ad f:Int) 0)then
(Ik a).bind λh=>
j2 a (Af (Ad f:Int) (Bm 2 h))
else
j2 a (Ad f:Int)
def Vv:=FX Lq
abbrev Hj:=Option (LB×Int)
def gL(b:LB):Hj:=
some (b,0)
def NO:=gL
def Rk(j6:LB->Hj)(Qy:Int->LB->Hj)(f:Int)(a:LX)(g:Int)(b:LB):Hj:=
if(Dg g (Ac a))then
(Ao a g).bind λh=>
(Vv f h).bind λk=>
(Cz b k).bind λm=>
Qy (Af g 1) m
else
j6 b
def It(f:Int)(a:LX):Nat->Int->LB->Hj
|0,_,_=>none
|q+1,g,b=>Rk NO (It f a q) f a g b
def NS f a:=It f a Ba
def AE(j4:Int->LX->Int->LB->Hj)(f:Int)(a:LX):Hj:=
(Ay f a).bind λn=>
if(Bq n 0)then
(Ay f a).bind λo=>
some (([]:LB),o)
else
j4 f a 0 ([]:LB)
def Qn:=AE NS
abbrev Zu:=Option (LB×Int)
def Ek(o:LX)(f:Int)(p g:LB)(h k a m n:Int)(u:LI)(b:Int)(v:LB)(w:Bool)(y:Int):Zu:=
if(Bq f 0)then
some (([]:LB),f)
else
(Qn a o).bind λ(ac,ai)=>
some (ac,0)
def Dw:=Ek
def Dv(j2:LX->Int->LB->LB->Int->Int->Int->Int->Int->LI->Int->LB->Bool->Int->Zu)(p g:LB)(h k a m n:Int)(u:LI)(b:Int)(v:LB)(w:Bool)(y:Int):Zu:=
(Ao u b).bind λaa=>
if(Dg (Ac g) aa)then
some (([]:LB),(-1:Int))
else
(Kv p).bind λ(ad,aj)=>
(Bp g 0 aa).bind λae=>
(Es h k a m n).bind λ(af,ag)=>
(Fo h k a m n).bind λab=>
(Ao ab b).bind λ_=>
(Ao ab b).bind λah=>
(Ef af ag ad ah ae).bind λ(o,f)=>
j2 o f p g h k a m n u b v w y
def Cp:=Dv Dw
abbrev Ou:=Option (LB×LB×Int×Int×Int×Int×Int×LI×Int×LB×Bool×Int×Int)
def Bo(g a:LB)(m o p u v:Int)(b:LI)(f:Int)(n:LB)(h:Bool)(k:Int):Ou:=
if(geq (Ac b) 0)then
(Dt a m o p u v g).bind λ(ag,ak,w)=>
if(Bq w 0)then
some (g,a,m,o,p,u,v,b,f,n,h,k,w)
else
(Bp a ag (Ac a)).bind λal=>
some (g,al,m,o,p,u,v,ak,f,n,h,k,0)
else
if(geq f (Ac b))then
if(Fb (Ac a) 4000)then
some (g,a,m,o,p,u,v,b,f,n,h,k,38)
else
some (g,a,m,o,p,u,v,b,f,n,h,k,(-1:Int))
else
(Cp g a m o p u v b f n h k).bind λ(am,y)=>
if(Bq y 0)then
some (g,a,m,o,p,u,v,b,f,n,h,k,y)
else
(Cz ([]:LB) n).bind λan=>
(Cz an am).bind λah=>
(
(
(
(Ao b f).bind λad=>
(
(Bp a ad (Ac a)).bind λae=>
some (g,ae,m,o,p,u,v,b,(Af f 1),ah,h,k,0)))))
def Br:=Bo
def He(g af:LB)(aa w ab ac y:Int)(b:LI)(f:Int)(n:LB)(h:Bool)(k:Int):Ou:=
(Eb aa w ab ac y g).bind λaw=>
some (g,af,aa,w,ab,ac,y,b,f,n,h,k,aw)
def Fm:=He
def Bk(j3:LB->LB->Int->Int->Int->Int->Int->LI->Int->LB->Bool->Int->Ou)(j4:LB->LB->Int->Int->Int->Int->Int->LI->Int->LB->Bool->Int->Ou)(g a:LB)(m o p u v:Int)(b:LI)(f:Int)(n:LB)(h:Bool)(k:Int):Ou:=
if(geq m 0)then
(Nk a).bind λ(ag,aa,w,ab,ac,y,ai)=>
if(Bq ai 0)then
some (g,a,m,o,p,u,v,b,f,n,h,k,ai)
else
(
(Bp a ag (Ac a)).bind λaf=>
(
j3 g af aa w ab ac y b f n h k))
else
j4 g a m o p u v b f n h k
def Ag:=Bk Fm Br
def AN(o p:LB)(b f g h k:Int)(m:LI)(a:Int)(n:LB)(u:Bool)(v:Int):Option Bool:=
(Ag o p b f g h k m a n u v).bind λ(af,ag,ah,ai,aj,ak,al,am,an,ao,ap,aq,w)=>
some (geq w (-1:Int))
def Cf:=AN
def Ml(j4:LB->LB->Int->Int->Int->Int->Int->LI->Int->LB->Bool->Int->Option Bool)(o p:LB)(b f g h k:Int)(m:LI)(a:Int)(n:LB)(u:Bool)(v:Int):Option Bool:=
if(geq (Ac m) 0)then
if((Bq a 0)||(Fb (Ac n) 0))then
some false
else
j4 o p b f g h k m a n u v
else
(Ha m).bind λy=>
if(Bq y 0)then
if((true||(Dg a 0))||(Fb a (Ac m)))then
some false
else
(Tq b f g h k a).bind λaa=>
if(Fb (Ac n) aa)then
some false
else
j4 o p b f g h k m a n u v
else
(Fo b f g h k).bind λab=>
if(((Bq (Ac m) (Ac ab))||(Dg a 0))||(Fb a (Ac m)))then
some false
else
(Tq b f g h k a).bind λac=>
if(Fb (Ac n) ac)then
some false
else
j4 o p b f g h k m a n u v
def Mm:=Ml Cf
def Rp(j4:LB->LB->Int->Int->Int->Int->Int->LI->Int->LB->Bool->Int->Option Bool)(j3:LB->LB->Int->Int->Int->Int->Int->LI->Int->LB->Bool->Int->Option Bool)(o p:LB)(b f g h k:Int)(m:LI)(a:Int)(n:LB)(u:Bool)(v:Int):Option Bool:=
if((geq b 0)&&((geq f 0)&&((geq g 0)&&((geq h 0)&&((geq k 0)&&true)))))then
if(((Fb (Ac m) 0)||(Bq a 0))||(Fb (Ac n) 0))then
some false
else
j4 o p b f g h k m a n u v
else
(Jt b f g h k).bind λad=>
if(Bq ad 0)then
some false
else
(Eb b f g h k o).bind λae=>
if(Bq ae 0)then
some false
else
j3 o p b f g h k m a n u v
def Js:=Rp Cf Mm
def Tl(a:Int):Option Bool:=
some (((((((geq a 4)||(geq a 12))||(geq a 16))||(geq a 22))||(geq a 24))||(geq a 26))||(geq a 38))
def Dh(h k:LB)(m n o p u:Int)(v:LI)(f:Int)(g:LB)(b:Bool)(a:Int):Option Int:=
if(Fb (Ac h) 64)then
some 8
else
if((geq a 0)&&(!b))then
(Js h k m n o p u v f g b a).bind λw=>
if(!w)then
some 8
else
some 0
else
if((geq (Ac k) 0)&&(geq (Ac v) 0))then
if((!(((geq m 0)&&((geq n 0)&&((geq o 0)&&((geq p 0)&&((geq u 0)&&true)))))&&(geq f 0)))||(Fb (Ac g) 12000))then
some 8
else
if(Bq a 0)then
if b then
some 8
else
(Tl a).bind λy=>
if(!y)then
some 8
else
some 0
else
some 0
else
if((!(false&&(geq f 0)))||(Fb (Ac g) 12000))then
some 8
else
if(Bq a 0)then
if b then
some 8
else
(Tl a).bind λaa=>
if(!aa)then
some 8
else
some 0
else
some 0
abbrev FK:=Option (LB×LB×Int×Int×Int×Int×Int×LI×Int×LB×Bool×Int)
def QU(f:LB)(g h k m n:Int)(o:LI)(p:Int)(u:Bool)(v:Int)(a b:LB):FK:=
(Cz ([]:LI) o).bind λaf=>
some (f,a,g,h,k,m,n,af,p,b,u,v)
def CO:=QU
def Sm(j2:LB->Int->Int->Int->Int->Int->LI->Int->Bool->Int->LB->LB->FK)(f w:LB)(g h k m n:Int)(o:LI)(p:Int)(y:LB)(u:Bool)(v:Int):FK:=
(
(
(
(Cz ([]:LB) w).bind λa=>
(
(Cz ([]:LB) y).bind λb=>
j2 f g h k m n o p u v a b))))
def Nu:=Sm CO
def Hk(f g:LB)(h k m n o:Int)(p:LI)(u:Int)(v:LB)(b:Bool)(a:Int):Option Int:=
if(Bq a 0)then
some a
else
if b then
some 36
else
some 0
def Li(a m:LB)(n o p u v:Int)(w:LI)(y:Int)(b:LB)(aa:Bool)(ab:Int):Option (LB×LB×Int×Int×Int×Int×Int×LI×Int×LB×Bool×Int):=
(
(
(Cz ([]:LB) b).bind λf=>
some (a,([]:LB),0,0,0,0,0,([]:LI),0,f,false,0)))
def Pj(b f:LB)(g h k m n:Int)(o:LI)(p:Int)(u:LB)(v:Bool)(w a:Int):Option (LB×LB×Int×Int×Int×Int×Int×LI×Int×LB×Bool×Int×Int):=
(Li b f g h k m n o p u v w).bind λ(y,aa,ab,ac,ad,ae,af,ag,ah,ai,aj,ak)=>
some (y,aa,ab,ac,ad,ae,af,ag,ah,ai,aj,a,a)
abbrev Pe:=Option (LB×LB×Int×Int×Int×Int×Int×LI×Int×LB×Bool×Int×Int)
def Cc(bk3:LB->LB->Int->Int->Int->Int->Int->LI->Int->LB->Bool->Int->Pe)(a b:LB)(f g h k m:Int)(n:LI)(o:Int)(p:LB)(u:Bool)(v:Int):Pe:=
(Ag a b f g h k m n o p u v).bind λ(bb,bc,bd,be,bf,bg,bh,bi,bj,bk,bl,bm,w)=>
if(geq w (-1:Int))then
(Nu a b f g h k m n o p u v).bind λ(bn,bp,bq,br,bs,bt,bu,bv,bw,bx,bz,da)=>
some (bn,bp,bq,br,bs,bt,bu,bv,bw,bx,bz,da,0)
else
if(Bq w 0)then
(Pj a b f g h k m n o p u v w).bind λ(db,dc,dd,de,df,dg,dh,di,dj,dk,dl,dm,dn)=>
some (db,dc,dd,de,df,dg,dh,di,dj,dk,dl,dm,dn)
else
bk3 bb bc bd be bf bg bh bi bj bk bl bm
def Bg:Nat->LB->LB->Int->Int->Int->Int->Int->LI->Int->LB->Bool->Int->Pe
|0,_,_,_,_,_,_,_,_,_,_,_,_=>none
|q+1,a,b,f,g,h,k,m,n,o,p,u,v=>Cc (Bg q) a b f g h k m n o p u v
def RB:=Bg Ba
def Nr(j3:LB->LB->Int->Int->Int->Int->Int->LI->Int->LB->Bool->Int->Pe)(al am:LB)(an ao ap aq ar:Int)(au:LI)(av:Int)(aw:LB)(ax:Bool)(ay:Int)(dp:LB):Pe:=
(Dh al am an ao ap aq ar au av aw ax ay).bind λaz=>
if(Bq az 0)then
some (([]:LB),([]:LB),0,0,0,0,0,([]:LI),0,([]:LB),false,0,az)
else
(Nu al am an ao ap aq ar au av aw ax ay).bind λ(y,aa,ab,ac,ad,ae,af,ag,ah,ai,aj,ak)=>
(Hk y aa ab ac ad ae af ag ah ai aj ak).bind λba=>
if(Bq ba 0)then
some (y,aa,ab,ac,ad,ae,af,ag,ah,ai,aj,ak,ba)
else
(Cz aa dp).bind λdq=>
j3 y dq ab ac ad ae af ag ah ai aj ak
def Gj:=Nr RB
abbrev Ia:=Option (Int×Int)
def DV(a:LB)(f g:Int)(b h:LB)(k:Int):Ia:=
if(Dg (Ac a) k)then
some (0,24)
else
if(b==h)then
(Bp a (Au (Ac a) k) (Af (Au (Ac a) k) 32)).bind λo=>
(Th f g).bind λp=>
if(o !=p)then
some (0,12)
else
some (k,0)
else
some (k,0)
def Tx:=DV
def Ta(j6:LB->Int->Int->LB->LB->Int->Ia)(a:LB)(f g:Int)(b h:LB):Ia:=
if(b==h)then
j6 a f g b h (Af (Af 32 f) 32)
else
j6 a f g b h (Af 32 f)
def Tj:=Ta Tx
def Tv(j5:LB->Int->Int->LB->LB->Ia)(a:LB):Ia:=
(Bp a (Au (Ac a) 32) (Ac a)).bind λb=>
(Nt b).bind λ(f,g,n)=>
if(!n)then
some (0,12)
else
(Fl f g true).bind λh=>
(
if(!(b==h))then
(Fl f g false).bind λm=>
if(b !=m)then
some (0,12)
else
j5 a f g b h
else
j5 a f g b h)
def DN:=Tv Tj
def BQ(j4:LB->Ia)(a:LB):Ia:=
if(Dg (Ac a) 32)then
some (0,6)
else
(Bp a (Au (Ac a) 32) (Af (Au (Ac a) 32) 8)).bind λu=>
if(u !=([65,80,69,84,65,71,69,88]:LB))then
some (0,6)
else
j4 a
def AZ:=BQ DN
abbrev Gh:=Option (Int×Int)
def dH(a:Int):Gh:=
some (a,0)
def JL:=dH
def Yn(j6:Int->Gh)(Qy:LB->Int->Gh)(b:LB)(a:Int):Gh:=
if(Fb (Ac b) 0)then
(AZ b).bind λ(g,h)=>
if(Bq h 0)then
some (0,38)
else
(Bp b 0 (Au (Ac b) g)).bind λk=>
Qy k (Af a 1)
else
j6 a
def Lj:Nat->LB->Int->Gh
|0,_,_=>none
|q+1,b,a=>Yn JL (Lj q) b a
def LJ:=Lj Ba
def Xi(j4:LB->Int->Gh)(f:LB):Gh:=
if(Fb (Ac f) 4000)then
some (0,38)
else
j4 f 0
def Oz:=Xi LJ
def Bz(p a:LB)(g u v w y:Int)(b:LI)(h:Int)(aa:LB)(ab:Bool)(ac:Int):Option Int:=
if(geq g 0)then
(Ju a).bind λ(k,f)=>
if(Bq f 0)then
some f
else
(Bp a k (Ac a)).bind λm=>
(Ld m).bind λ(ad,ae,af,ag,ah,n)=>
some n
else
if((geq (Ac b) 0)||(Dg h (Ac b)))then
some 24
else
(Oz a).bind λ(ai,o)=>
if(Bq o 0)then
some 38
else
some 0
def Pd(w y:LB)(aa ab ac ad ae:Int)(af:LI)(ag:Int)(ah:LB)(ai:Bool)(aj:Int):Option (LB×LB×Int×Int×Int×Int×Int×LI×Int×LB×Bool×Int×Int):=
(Dh w y aa ab ac ad ae af ag ah ai aj).bind λak=>
if(Bq ak 0)then
some (([]:LB),([]:LB),0,0,0,0,0,([]:LI),0,([]:LB),false,0,ak)
else
(Nu w y aa ab ac ad ae af ag ah ai aj).bind λ(a,b,f,g,h,k,m,n,o,p,u,v)=>
(Hk a b f g h k m n o p u v).bind λal=>
if(Bq al 0)then
some (a,b,f,g,h,k,m,n,o,p,u,v,al)
else
(Bz a b f g h k m n o p u v).bind λam=>
if(Bq am 0)then
(Pj a b f g h k m n o p u v am).bind λ(an,ao,ap,aq,ar,au,av,aw,ax,ay,az,ba,bb)=>
some (an,ao,ap,aq,ar,au,av,aw,ax,ay,az,ba,bb)
else
(Li a b f g h k m n o p u v).bind λ(bc,bd,be,bf,bg,bh,bi,bj,bk,bl,bn,bm)=>
some (bc,bd,be,bf,bg,bh,bi,bj,bk,bl,true,bm,0)
abbrev Bl:=Option (LX×Int)
def aA(h:LX):Bl:=
some (h,0)
def GJ:=aA
def GK(Hp:Int->LX->Bl)(a:Int)(b:LB)(f g:Int)(n:LX):Bl:=
Hp (Af g (By a 8)) n
def Nb Hp:=GK Hp
def Ul(j28:Int->LX->Bl)(a:Int)(b:LB)(f g k:Int)(h:LX):Bl:=
if(geq a 8)then
(Cz h ([(Ad (Au k 128):Int32)]:LX)).bind λo=>
j28 g o
else
if(Tp k f)then
(Cz h ([(Ad (Au k (Bm 2 f)):Int32)]:LX)).bind λp=>
j28 g p
else
(Cz h ([(Ad k:Int32)]:LX)).bind λu=>
j28 g u
def Jh Hp a b f:=Ul (Nb Hp a b f) a b f
def Nf(j27:Int->Int->LX->Bl)(Asy:Int->Int->Bl)(a:Int)(b:LB)(f g:Int)(h:LX)(k m:Int):Bl:=
if(Tp m 0)then
(Ao b (Af g m)).bind λv=>
Asy (Af (Bm 256 k) (Ad v:Int)) (Au m 1)
else
j27 g k h
def Dx(Hp:Int->LX->Bl)(a:Int)(b:LB)(f g:Int)(h:LX):Nat->Int->Int->Bl
|0,_,_=>none
|q+1,k,m=>Nf (Jh Hp a b f) (Dx Hp a b f g h q) a b f g h k m
def Uj Hp a b f g h:=Dx Hp a b f g h Ba
def Nc(j25:Int->LX->Int->Int->Bl)(j30:LX->Bl)(a:Int)(b:LB)(f g:Int)(h:LX):Bl:=
if(Dg g (Ac b))then
j25 g h 0 (Au (By a 8) 1)
else
j30 h
def Dj(a:Int)(b:LB)(f:Int):Nat->Int->LX->Bl
|0,_,_=>none
|q+1,g,h=>Nc (Uj (Dj a b f q) a b f) GJ a b f g h
def Uf a b f:=Dj a b f Ba
def Vu(j16:Int->LB->Int->Int->LX->Bl)(a:Int)(b:LB):Bl:=
(Ik a).bind λf=>
if(geq f 0)then
some (([]:LX),2)
else
(Ue (Bq (By a 8) 0)).bind λ_=>
if(Fb (Ko (Ac b) (By a 8)) 0)then
some (([]:LX),12)
else
(Ue (Bq (By a 8) 0)).bind λ_=>
if(Fb (By (Ac b) (By a 8)) 4000)then
some (([]:LX),4)
else
j16 a b f 0 ([]:LX)
def Tz:=Vu Uf
def Eg(m n:LB):Option (Int×Int×Int×LX×Int):=
(Wo n).bind λ(o,p,u,v,w,y,aa,ab,ac,ad,ae,af,b)=>
if(Bq b 0)then
some (0,0,0,([]:LX),b)
else
(Gj o p u v w y aa ab ac ad ae af m).bind λ(ag,ah,ai,f,a,g,aj,ak,al,am,an,ao,h)=>
if(Bq h 0)then
some (0,0,0,([]:LX),h)
else
(Pd ag ah ai f a g aj ak al am an ao).bind λ(ar,au,av,aw,ax,ay,az,ba,bb,ap,bc,bd,k)=>
if(Bq k 0)then
some (0,0,0,([]:LX),k)
else
(Tz a ap).bind λ(aq,be)=>
some (f,a,g,aq,0)
def VT(a b f:Int)(g:LX):Option (Int×Int):=
some (a,b)
def OK(a g f:Int)(h:LX)(b:Int):Option Int:=
(VT a g f h).bind λ(k,m)=>
(Jg k m).bind λn=>
if((Bq n 0)||(Dg b 1))then
some 8
else
(Ue (Bq a 0)).bind λ_=>
if(Fb b (By 4000 a))then
some 8
else
(Kt f b).bind λ(p,o)=>
if(Bq o 0)then
some 8
else
some 0
def Jn(a f h:Int)(b:LX):Option Int:=
if(Dg a 1)then
some 8
else
(Ue (Bq a 0)).bind λ_=>
if(Bq (Ko (Ac b) a) 0)then
some 8
else
(Ue (Bq a 0)).bind λ_=>
(OK a f h b (By (Ac b) a)).bind λg=>
if(Bq g 0)then
some g
else
(IQ f b).bind λk=>
if(Bq k 0)then
some 8
else
some 0
def MU(b a f:Int):Option Int:=
if((((Dg b 1)||(Fb b 6))||(Dg f 1))||(Fb f 1048576))then
some 8
else
if(geq a 8)then
if(geq a 8)then
some 0
else
some 8
else
if(geq a 16)then
if(geq a 16)then
some 0
else
some 8
else
if(geq a 24)then
some 0
else
some 8
def aN(a b g:Int):Option (Bool×Int):=
(MU a b g).bind λf=>
if(Bq f 0)then
some (false,f)
else
some (((Fb a 2)||(Fb b 16)),0)
def PX(a:Bool)(b:LB):Option (LB):=
if a then
(Bp ([(1:UInt8),(0:UInt8),(0:UInt8),(0:UInt8),(0:UInt8),(0:UInt8),(16:UInt8),(0:UInt8),(128:UInt8),(0:UInt8),(0:UInt8),(170:UInt8),(0:UInt8),(56:UInt8),(155:UInt8),(113:UInt8)]:LB) 0 16).bind λp=>
(Cz b p).bind λu=>
some u
else
some b
def EV:=PX
def Vt(j8:Bool->LB->Option (LB))(I0:Int->LB->Option (LB))(a:Bool)(g:Int)(f:LQ)(h:Int)(b:LB):Option (LB):=
if(Dg h g)then
(Ao f h).bind λ_=>
(Ao f h).bind λv=>
(Ao ([(2:Int),(2:Int),(4:Int),(4:Int),(2:Int),(2:Int),(2:Int),(2:Int),(4:Int)]:LI) h).bind λw=>
(Yo v w).bind λ(y,ac)=>
(Cz b y).bind λaa=>
I0 (Af h 1) aa
else
j8 a b
def Fc(a:Bool)(g:Int)(f:LQ):Nat->Int->LB->Option (LB)
|0,_,_=>none
|q+1,h,b=>Vt EV (Fc a g f q) a g f h b
def DZ a g f:=Fc a g f Ba
def EW(j6:Bool->Int->LQ->Int->LB->Option (LB))(a:Bool)(g:Int)(f:LQ):Option (LB):=
j6 a g f 0 ([]:LB)
def FB:=EW DZ
def OL(j5:Bool->Int->LQ->Option (LB))(m k n:Int)(a:Bool)(o:UInt64):Option (LB):=
if a then
(Ao ([(1:UInt64),(Ad m:UInt64),(Ad n:UInt64),(Bm (Ad n:UInt64) (Ad (By (Bm m k) 8):UInt64)),(Ad (By (Bm m k) 8):UInt64),(Ad k:UInt64),(22:UInt64),(Ad k:UInt64),o]:LQ) 0).bind λ_=>
(Ux ([(1:UInt64),(Ad m:UInt64),(Ad n:UInt64),(Bm (Ad n:UInt64) (Ad (By (Bm m k) 8):UInt64)),(Ad (By (Bm m k) 8):UInt64),(Ad k:UInt64),(22:UInt64),(Ad k:UInt64),o]:LQ) 0 65534).bind λab=>
j5 a 9 ab
else
j5 a 6 ([(1:UInt64),(Ad m:UInt64),(Ad n:UInt64),(Bm (Ad n:UInt64) (Ad (By (Bm m k) 8):UInt64)),(Ad (By (Bm m k) 8):UInt64),(Ad k:UInt64),(22:UInt64),(Ad k:UInt64),o]:LQ)
def aZ:=OL FB
def MV(a b f:Int):Option (LB×Int):=
(aN a b f).bind λ(h,g)=>
if(Bq g 0)then
some (([]:LB),g)
else
(Ue (Tp a 0)).bind λ_=>
(aZ a b f h (Au (Fe (1:UInt64) (GI.toZ a).toNat) 1)).bind λk=>
some (k,0)
def yR(a:LB):Option Bool:=
some (geq (Ac a) 4)
def kI:=yR
def jT(j6:LB->Option Bool)(Qy:Int->Option Bool)(a:LB)(b:Int):Option Bool:=
if(Dg b (Ac a))then
(Ao a b).bind λ_=>
(Ao a b).bind λf=>
if((Dg f 32)||(Fb f 126))then
some false
else
Qy (Af b 1)
else
j6 a
def XS(a:LB):Nat->Int->Option Bool
|0,_=>none
|q+1,b=>jT kI (XS a q) a b
def iV a:=XS a Ba
def kO(j4:LB->Int->Option Bool)(a:LB):Option Bool:=
j4 a 0
def YW:=kO iV
def rH(a:Int):Option Int:=
some a
def dU:=rH
def LC(j6:Int->Option Int)(Qy:Int->Int->Option Int)(b:List (LB×LB×Unit))(a f:Int):Option Int:=
if(Dg f (Ac b))then
(Ao b f).bind λg=>
Qy (Af a (Af (Af 8 (Ac g.2.1)) (Kr (Ac g.2.1) 1))) (Af f 1)
else
j6 a
def EF(b:List (LB×LB×Unit)):Nat->Int->Int->Option Int
|0,_,_=>none
|q+1,a,f=>LC dU (EF b q) b a f
def dE b:=EF b Ba
def eE(j4:(List (LB×LB×Unit))->Int->Int->Option Int)(b:List (LB×LB×Unit)):Option Int:=
j4 b 4 0
def OP:=eE dE
def KX(a f:LB):Option Bool:=
(YW a).bind λb=>
some (!b)
def iT:Option Int:=
some 0
def YN:=iT
def XM(j36:Option Int)(k:Bool):Option Int:=
if k then
some 8
else
j36
def DL:=XM YN
def iU(j35:Bool->Option Int)(m:Bool):Option Int:=
j35 m
def XA:=iU DL
def jJ(j26:Bool->Option Int):Option Int:=
j26 (Tp (-1:Int) (0:Int))
def kW:=jJ XA
def A6(Al1:Int->Option Int)(a:List (LB×LB×Unit))(b:Int):Option Int:=
Al1 (Af b 1)
def iL Al1:=A6 Al1
def lF(j26:Bool->Option Int)(j23:Int->Option Int)(a:List (LB×LB×Unit))(b:Int)(g:Bool):Option Int:=
if g then
j26 (Tp b 0)
else
j23 b
def kT Al1 a:=lF XA (iL Al1 a) a
def kL(j22:Int->Bool->Option Int)(j25:Option Int)(a:List (LB×LB×Unit))(b:Int):Option Int:=
if(Dg b (Ac a))then
(Ao a b).bind λo=>
(KX o.1 o.2.1).bind λg=>
j22 b g
else
j25
def WO(a:List (LB×LB×Unit)):Nat->Int->Option Int
|0,_=>none
|q+1,b=>kL (kT (WO a q) a) kW a b
def jG a:=WO a Ba
def WN(j35:Bool->Option Int)(n:Bool):Option Int:=
j35 n
def KS:=WN DL
def WH(j34:Bool->Option Int):Option Int:=
j34 (Tp (-1:Int) (0:Int))
def XV:=WH KS
def WQ(mP:Int->Option Int)(a:List (LB×LB×Unit))(f:Int):Option Int:=
mP (Af f 1)
def KG mP:=WQ mP
def KU(j34:Bool->Option Int)(j31:Int->Option Int)(a:List (LB×LB×Unit))(f:Int)(h:Bool):Option Int:=
if h then
j34 (Tp f 0)
else
j31 f
def MN mP a:=KU KS (KG mP a) a
def DQ(j30:Int->Bool->Option Int)(j33:Option Int)(a:List (LB×LB×Unit))(f:Int):Option Int:=
if(Dg f (Ac a))then
(Ao a f).bind λp=>
(KX p.1 p.2.1).bind λh=>
j30 f h
else
j33
def Wm(a:List (LB×LB×Unit)):Nat->Int->Option Int
|0,_=>none
|q+1,f=>DQ (MN (Wm a q) a) XV a f
def XG a:=Wm a Ba
def QA(j35:Bool->Option Int)(j19:(List (LB×LB×Unit))->Int->Option Int)(j27:(List (LB×LB×Unit))->Int->Option Int)(u:LB)(a:List (LB×LB×Unit)):Option Int:=
if(Fb (Ac a) 20)then
some 4
else
(YW u).bind λv=>
if(!v)then
if true then
j35 true
else
j19 a 0
else
(OP a).bind λw=>
if(Fb (Af w 8) 100000)then
j35 true
else
j27 a 0
def CR:=QA DL jG XG
def UX(o id:LB)(n:Int):Option LB:=
(Yo (Ad n:UInt64) 4).bind λ(b,_)=>
(Cz o id).bind λp=>
Cz p b
def QS:List (LB×LB×Unit)->LB->Option LB
|[],o=>some o
|c::l,o=>
(UX o c.1 (Ac c.2.1)).bind λp=>
(Cz p c.2.1).bind λu=>
(mkI (Kr (Ac c.2.1) 1) (0:UInt8)).bind λz=>
(Cz u z).bind λv=>
QS l v
def PQ(a:LB)(b:List (LB×LB×Unit)):Option (LB×Int):=
(CR a b).bind λe=>
if(Bq e 0)then
some (([]:LB),e)
else
(OP b).bind λn=>
(UX [] [82,73,70,70] n).bind λf=>
(Cz f a).bind λg=>
(QS b g).bind λh=>
some (h,0)
def VB(b a f:Int)(g:LX):Option (LB×Int):=
(Jn b a f g).bind λh=>
if(Bq h 0)then
some (([]:LB),h)
else
(MV b a f).bind λ(k,p)=>
(Ma a g).bind λ(m,u)=>
(PQ ([87,65,86,69]:LB) ([(([102,109,116,32]:LB),k,()),(([100,97,116,97]:LB),m,())]:List (LB×LB×Unit))).bind λ(n,o)=>
some (n,o)
abbrev Lu:=Option (LB×Int)
def tB(n:Int)(o:LB):Lu:=
some (o,n)
def PH:=tB
def cX(j6:Int->LB->Lu)(b:Int)(f:LB):Lu:=
j6 b f
def cJ:=cX PH
def EG(j6:Int->LB->Lu)(j5:Int->LB->Lu)(a g h k:Int)(m:LX):Lu:=
if(Bq a 0)then
j6 a ([]:LB)
else
(VB g h k m).bind λ(f,b)=>
j5 b f
def EX:=EG PH cJ
def EU(j4:Int->Int->Int->Int->LX->Lu)(p u:LB):Lu:=
(Jf p u).bind λ(g,h,k,m,a)=>
j4 a g h k m
def Za:=EU EX
def Qs(a b f:Int)(g:LX):Option (Int×Int×Int):=
some (a,b,f)
def HX(a b f:Int):Option Bool:=
some ((Fb a 2)||(Fb b 16))
def Qx(a b f:Int)(g:UInt64):Option (LB):=
(Bd g 2).bind λh=>
(Bd (Ad a:UInt64) 2).bind λk=>
(Cz h k).bind λm=>
(Bd (Ad f:UInt64) 4).bind λn=>
(Cz m n).bind λo=>
(Bd (Bm (Ad f:UInt64) (Ad (By (Bm a b) 8):UInt64)) 4).bind λp=>
(Cz o p).bind λu=>
(Bd (Ad (By (Bm a b) 8):UInt64) 2).bind λv=>
(Cz u v).bind λw=>
(Bd (Ad b:UInt64) 2).bind λy=>
(Cz w y).bind λaa=>
some aa
def FP(b a f:Int)(g:UInt32):Option (LB):=
(Qx b a f 65534).bind λh=>
(Cz h ([(22:UInt8),(0:UInt8)]:LB)).bind λk=>
(Bd (Ad a:UInt64) 2).bind λm=>
(Cz k m).bind λn=>
(Bd (Ad g:UInt64) 4).bind λo=>
(Cz n o).bind λp=>
(Cz p ([(1:UInt8),(0:UInt8),(0:UInt8),(0:UInt8),(0:UInt8),(0:UInt8),(16:UInt8),(0:UInt8),(128:UInt8),(0:UInt8),(0:UInt8),(170:UInt8),(0:UInt8),(56:UInt8),(155:UInt8),(113:UInt8)]:LB)).bind λu=>
some u
def HV(a b f:Int):Option (LB):=
(Qx a b f 1).bind λg=>
some g
def Lc(a b f:Int):Option (LB):=
(HX a b f).bind λg=>
if g then
(FP a b f (Au (Fe (1:UInt32) (GI.toZ (Ad a:UInt64)).toNat) 1)).bind λh=>
some h
else
(HV a b f).bind λk=>
some k
def jX(a:LB):Option (LB):=
some a
def SF:=jX
def Tr(j6:LB->Option (LB))(Qy:Int->LB->Option (LB))(g f h:Int)(b:LX)(k:Int)(a:LB):Option (LB):=
if(Dg k (Ac b))then
(Ao b k).bind λm=>
(Vv f m).bind λn=>
(Cz a n).bind λo=>
Qy (Af k 1) o
else
j6 a
def Ki(g f h:Int)(b:LX):Nat->Int->LB->Option (LB)
|0,_,_=>none
|q+1,k,a=>Tr SF (Ki g f h b q) g f h b k a
def SE g f h b:=Ki g f h b Ba
def DP(j4:Int->Int->Int->LX->Int->LB->Option (LB))(g f h:Int)(b:LX):Option (LB):=
j4 g f h b 0 ([]:LB)
def Fk:=DP SE
def SH(a:Int):Option Int:=
some a
def CV:=SH
def Nh(j6:Int->Option Int)(Qy:Int->Int->Option Int)(b:List (LB×LB×Unit))(a f:Int):Option Int:=
if(Dg f (Ac b))then
(Ao b f).bind λg=>
(Ao b f).bind λh=>
Qy (Af a (Af (Af 8 (Ac g.2.1)) (Ko (Ac h.2.1) 2))) (Af f 1)
else
j6 a
def Kf(b:List (LB×LB×Unit)):Nat->Int->Int->Option Int
|0,_,_=>none
|q+1,a,f=>Nh CV (Kf b q) b a f
def BS b:=Kf b Ba
def DT(j4:(List (LB×LB×Unit))->Int->Int->Option Int)(b:List (LB×LB×Unit)):Option Int:=
j4 b 12 0
def BI:=DT BS
def NQ(f:LB):Option (LB):=
some f
def Zo:=NQ
def Rb(j6:LB->Option (LB))(Qy:Int->LB->Option (LB))(a:List (LB×LB×Unit))(b:Int)(f:LB):Option (LB):=
if(Dg b (Ac a))then
(Ao a b).bind λh=>
(Cz f h.1).bind λk=>
(Ao a b).bind λm=>
(Bd (Ad (Ac m.2.1):UInt64) 4).bind λn=>
(Cz k n).bind λo=>
(Ao a b).bind λp=>
(Cz o p.2.1).bind λg=>
(Ao a b).bind λu=>
if(geq (Ko (Ac u.2.1) 2) 1)then
(Cz g ([(0:UInt8)]:LB)).bind λv=>
Qy (Af b 1) v
else
Qy (Af b 1) g
else
j6 f
def Ge(a:List (LB×LB×Unit)):Nat->Int->LB->Option (LB)
|0,_,_=>none
|q+1,b,f=>Rb Zo (Ge a q) a b f
def Zj a:=Ge a Ba
def AG(j4:(List (LB×LB×Unit))->Int->LB->Option (LB))(w:LB)(a:List (LB×LB×Unit)):Option (LB):=
(BI a).bind λy=>
(Bd (Ad (Au y 8):UInt64) 4).bind λaa=>
(Cz ([(82:UInt8),(73:UInt8),(70:UInt8),(70:UInt8)]:LB) aa).bind λab=>
(Cz ab w).bind λac=>
j4 a 0 ac
def Er:=AG Zj
def Hh(f g h:Int)(k:LX):Option (LB):=
(
(
(Qs f g h k).bind λ(n,o,p)=>
(
(Lc n o p).bind λm=>
(
(Fk f g h k).bind λa=>
(Er ([87,65,86,69]:LB) ([(([102,109,116,32]:LB),m,()),(([100,97,116,97]:LB),a,())]:List (LB×LB×Unit))).bind λb=>
some b))))
def Mu(b f:LB):Option (LB×Int):=
(Eg b f).bind λ(g,h,k,m,a)=>
if(Bq a 0)then
some (([]:LB),a)
else
(Hh g h k m).bind λn=>
some (n,0)
def iW:Option Bool:=
some true
def SI:=iW
def Tm(j6:Option Bool)(Qy:Int->Option Bool)(a b:LX)(f:Int):Option Bool:=
if(Dg f (Ac a))then
(Ao a f).bind λg=>
(Ao b f).bind λh=>
if(Bq g h)then
some false
else
Qy (Af f 1)
else
j6
def Kc(a b:LX):Nat->Int->Option Bool
|0,_=>none
|q+1,f=>Tm SI (Kc a b q) a b f
def RA a b:=Kc a b Ba
def CC(j4:LX->LX->Int->Option Bool)(a b:LX):Option Bool:=
if(Bq (Ac a) (Ac b))then
some false
else
j4 a b 0
def BB:=CC RA
def BJ(a b f:Int)(g:LX)(h k m:Int)(n:LX):Option Bool:=
if(((geq a h)&&(geq b k))&&(geq f m))then
(BB g n).bind λo=>
some o
else
some false
def Pu(a b:LB):Option Bool:=
(MA a).bind λf=>
if(f||(Fb (Ac b) 100))then
some true
else
(Jf a b).bind λ(g,h,k,m,n)=>
(Eg a b).bind λ(o,p,u,v,w)=>
(Za a b).bind λ(y,aa)=>
(Mu a b).bind λ(ab,ac)=>
(BJ g h k m o p u v).bind λad=>
some (((ad&&(geq n w))&&(y==ab))&&(geq aa ac))
def BH(a:Int):Option (Int×Int):=
if((Dg a 1)||(Fb a 1048576))then
some (0,2)
else
if(geq (By (Bm a 256) 245) 0)then
some (1,0)
else
some ((By (Bm a 256) 245),0)
abbrev ZW:=Option (Int×Int×Int×Int×Int×Int×LI×Int)
def jB(a:LB)(b f g h k n:Int):ZW:=
(Dy b f g h k).bind λ(ab,p)=>
if(Bq p 0)then
some (0,0,0,0,0,0,([]:LI),p)
else
(Bp a n (Ac a)).bind λac=>
(HP ac (Ac ab)).bind λ(u,v)=>
if(Bq v 0)then
some (0,0,0,0,0,0,([]:LI),v)
else
some (b,f,g,h,k,(Af (Af n (Bm 4 (Ac u))) 4),u,0)
def Wl:=jB
def CJ(j2:LB->Int->Int->Int->Int->Int->Int->ZW)(a o:LB):ZW:=
if(Fb (Ac o) 64)then
some (0,0,0,0,0,0,([]:LI),2)
else
if(Fb (Ac a) 100000)then
some (0,0,0,0,0,0,([]:LI),4)
else
(Kg a).bind λ(m,w)=>
if(Bq w 0)then
some (0,0,0,0,0,0,([]:LI),w)
else
(Bp a m (Ac a)).bind λad=>
(Ni ad).bind λ(b,f,g,h,k,y)=>
if(Bq y 0)then
some (0,0,0,0,0,0,([]:LI),y)
else
if((o==([]:LB)) !=(geq b 1))then
some (0,0,0,0,0,0,([]:LI),26)
else
if(o !=([]:LB))then
if(Dg (Ac a) (Af (Af m 22) 8))then
some (0,0,0,0,0,0,([]:LI),24)
else
(Bp a (Af m 22) (Af (Af m 22) 8)).bind λae=>
(Pw ae o).bind λ(af,aa)=>
if(Bq aa 0)then
some (0,0,0,0,0,0,([]:LI),aa)
else
if(!af)then
some (0,0,0,0,0,0,([]:LI),26)
else
j2 a b f g h k (Af (Af m 22) 8)
else
j2 a b f g h k (Af m 22)
def Ee:=CJ Wl
abbrev Mj:=Option (Int×Int×Int×Int×Int×Int×LI×Int)
def KK(m n b h k f g:Int)(o:LI):Mj:=
if(Bq n 0)then
some (0,0,0,0,0,0,([]:LI),n)
else
some (b,h,k,f,g,(Af (Af m (Bm 4 (Ac o))) 4),o,0)
def KA:=KK
def KD(j4:Int->Int->Int->Int->Int->Int->Int->LI->Mj)(a:LB)(b h k f g m:Int):Mj:=
(Bp a m (Ac a)).bind λy=>
(Ec f g).bind λaa=>
(Oi y (Ac aa)).bind λ(o,n)=>
j4 m n b h k f g o
def Pm:=KD KA
def Xf(j3:LB->Int->Int->Int->Int->Int->Int->Mj)(a u:LB):Mj:=
if(Fb (Ac a) 100000)then
some (0,0,0,0,0,0,([]:LI),4)
else
(Ju a).bind λ(p,v)=>
if(Bq v 0)then
some (0,0,0,0,0,0,([]:LI),v)
else
(Bp a p (Ac a)).bind λab=>
(Ld ab).bind λ(b,h,k,f,g,w)=>
if(Bq w 0)then
some (0,0,0,0,0,0,([]:LI),w)
else
if((u==([]:LB)) !=(geq b 1))then
some (0,0,0,0,0,0,([]:LI),26)
else
if(geq b 2)then
if(Dg (Au (Ac a) (Af p 22)) 8)then
some (0,0,0,0,0,0,([]:LI),24)
else
(Bp a (Af p 22) (Af (Af p 22) 8)).bind λac=>
(Kh u).bind λad=>
if(ac !=ad)then
some (0,0,0,0,0,0,([]:LI),26)
else
j3 a b h k f g (Af (Af p 22) 8)
else
j3 a b h k f g (Af p 22)
def Ez:=Xf Pm
def gU(a:Int):Option Int:=
some a
def gO:=gU
def Zp(j6:Int->Option Int)(Qy:Int->Int->Option Int)(b h k m n o f:Int)(g:LI)(a p:Int):Option Int:=
if(Dg p b)then
(Ao g p).bind λu=>
Qy (Af a u) (Af p 1)
else
j6 a
def Mn(b h k m n o f:Int)(g:LI):Nat->Int->Int->Option Int
|0,_,_=>none
|q+1,a,p=>Zp gO (Mn b h k m n o f g q) b h k m n o f g a p
def gK b h k m n o f g:=Mn b h k m n o f g Ba
def gN(j4:Int->Int->Int->Int->Int->Int->Int->LI->Int->Int->Option Int)(h k m n o f:Int)(g:LI)(b:Int):Option Int:=
j4 b h k m n o f g f 0
def VH:=gN gK
abbrev HT:=Option (LB×Int)
def TV(p:LX)(m n g b h k o:Int)(a:LI):HT:=
if(Bq m 0)then
some (([]:LB),m)
else
(Qn b p).bind λ(af,ai)=>
some (af,0)
def TS:=TV
def TQ(j2:LX->Int->Int->Int->Int->Int->Int->Int->LI->HT)(v y:LB)(n g b h k o:Int)(a:LI)(f:Int):HT:=
(VH n g b h k o a f).bind λu=>
(Ao a f).bind λaa=>
if(Dg (Au (Ac v) u) aa)then
some (([]:LB),24)
else
(Kv y).bind λ(ab,ag)=>
(Ao a f).bind λac=>
(Bp v u (Af u ac)).bind λad=>
(
(Ec h k).bind λw=>
(Ao w f).bind λ_=>
(Ao w f).bind λae=>
(Ef g b ab ae ad).bind λ(p,m)=>
j2 p m n g b h k o a)
def Wn:=TQ TS
def tM(f:LB):Option (Int×Int×Int×Int×Int×Int×Int×Int×Int×Int×LI×Int):=
if(Fb (Ac f) 100000)then
some (0,0,0,0,0,0,0,0,0,0,([]:LI),4)
else
(Kg f).bind λ(a,n)=>
if(Bq n 0)then
some (0,0,0,0,0,0,0,0,0,0,([]:LI),n)
else
(Bp f a (Ac f)).bind λu=>
(Ni u).bind λ(b,g,h,k,m,o)=>
if(Bq o 0)then
some (b,g,h,k,m,0,0,0,0,0,([]:LI),o)
else
(Dy b g h k m).bind λ(p,v)=>
if(geq b 2)then
some (b,g,h,k,m,a,(Af a 22),(Af (Af a 22) 8),0,0,p,0)
else
some (b,g,h,k,m,a,(Af a 22),(Af a 22),0,0,p,0)
abbrev Cm:=Option (Int×Int×Int×LX×Int)
def hH(a:LB)(aa b f h:Int)(ad:LX):Cm:=
(Bp a aa (Ac a)).bind λaq=>
(KM aq).bind λ(bb,ar)=>
if(Bq ar 0)then
some (0,0,0,([]:LX),38)
else
some (b,f,h,ad,0)
def jC:=hH
def iX(Aco:Int->Int->LX->Cm)(a:LB)(w:LI)(m b f h o p n g y ab:Int)(ac:LX)(k:LI)(aa aj ak ae:Int)(am ad:LX):Cm:=
if(Bq ak 0)then
some (0,0,0,([]:LX),ak)
else
(Cz ad am).bind λau=>
Aco (Af aa aj) (Af ae 1) au
def iY Aco:=iX Aco
def XK(j24:Int->Int->Int->Int->LX->LX->Cm)(j26:LB->Int->Int->Int->Int->LX->Cm)(a:LB)(w:LI)(m b f h o p n g y ab:Int)(ac:LX)(k:LI)(aa ae:Int)(ad:LX):Cm:=
if(Dg ae (Ac w))then
(Ao w ae).bind λ_=>
(Ao w ae).bind λaj=>
if(Dg (Ac a) (Af aa aj))then
some (0,0,0,([]:LX),24)
else
(Ao k ae).bind λ_=>
(Bp a aa (Af aa aj)).bind λav=>
(Ao k ae).bind λaw=>
(Qj b f ac aw av).bind λ(am,ak)=>
j24 aa aj ak ae am ad
else
j26 a aa b f h ad
def CM(a:LB)(w:LI)(m b f h o p n g y ab:Int)(ac:LX)(k:LI):Nat->Int->Int->LX->Cm
|0,_,_,_=>none
|q+1,aa,ae,ad=>XK (iY (CM a w m b f h o p n g y ab ac k q) a w m b f h o p n g y ab ac k) jC a w m b f h o p n g y ab ac k aa ae ad
def yJ a w m b f h o p n g y ab ac k:=CM a w m b f h o p n g y ab ac k Ba
def WZ(j21:LB->LI->Int->Int->Int->Int->Int->Int->Int->Int->Int->Int->LX->LI->Int->Int->LX->Cm)(a u:LB)(m b f h o p n g:Int)(k:LI)(an y ab:Int)(w:LI):Cm:=
if(Bq an 0)then
some (0,0,0,([]:LX),an)
else
(FA u).bind λ(ac,bc)=>
j21 a w m b f h o p n g y ab ac k y 0 ([]:LX)
def We:=WZ yJ
def iG(j20:LB->LB->Int->Int->Int->Int->Int->Int->Int->Int->LI->Int->Int->Int->LI->Cm)(a u:LB)(v:LI)(m b f h o p n g af:Int)(k:LI):Cm:=
j20 a u m b f h o p n g k 0 (Af (Af g (Bm 4 (Ac v))) 4) af v
def WC:=iG We
def WJ(j19:LB->LB->LI->Int->Int->Int->Int->Int->Int->Int->Int->Int->LI->Cm)(Aw1:Int->Int->Cm)(v:LI)(a u:LB)(m b f h o p n g:Int)(k:LI)(ag af:Int):Cm:=
if(Dg ag (Ac v))then
(Ao v ag).bind λ_=>
(Ao v ag).bind λax=>
Aw1 (Af ag 1) (Af af ax)
else
j19 a u v m b f h o p n g af k
def BZ(v:LI)(a u:LB)(m b f h o p n g:Int)(k:LI):Nat->Int->Int->Cm
|0,_,_=>none
|q+1,ag,af=>WJ WC (BZ v a u m b f h o p n g k q) v a u m b f h o p n g k ag af
def gY v a u m b f h o p n g k:=BZ v a u m b f h o p n g k Ba
def VP(j20:LB->LB->Int->Int->Int->Int->Int->Int->Int->Int->LI->Int->Int->Int->LI->Cm)(j17:LI->LB->LB->Int->Int->Int->Int->Int->Int->Int->Int->LI->Int->Int->Cm)(al:Int)(a u:LB)(m b f h o p n g ah ai:Int)(v k:LI):Cm:=
if(Bq al 0)then
j20 a u m b f h o p n g k al ah ai ([]:LI)
else
j17 v a u m b f h o p n g k 0 (Af (Af g (Bm 4 (Ac v))) 4)
def VF:=VP We gY
def jS(j20:LB->LB->Int->Int->Int->Int->Int->Int->Int->Int->LI->Int->Int->Int->LI->Cm)(j16:Int->LB->LB->Int->Int->Int->Int->Int->Int->Int->Int->Int->Int->LI->LI->Cm)(a u:LB)(m b f h o p n g ah ai:Int)(k:LI):Cm:=
if(Dg (Ac a) g)then
j20 a u m b f h o p n g k 24 ah ai ([]:LI)
else
(Bp a g (Ac a)).bind λay=>
(HP ay (Ac k)).bind λ(v,al)=>
j16 al a u m b f h o p n g ah ai v k
def LN:=jS We VF
def XD(j15:LB->LB->Int->Int->Int->Int->Int->Int->Int->Int->Int->Int->LI->Cm)(a u:LB)(m b f h o p n g ah ai:Int)(k:LI)(ao:Int):Cm:=
if(Bq ao 0)then
some (0,0,0,([]:LX),ao)
else
j15 a u m b f h o p n g ah ai k
def CN:=XD LN
def mQ(j14:LB->LB->Int->Int->Int->Int->Int->Int->Int->Int->Int->Int->LI->Int->Cm)(a u:LB):Cm:=
if(Fb (Ac u) 64)then
some (0,0,0,([]:LX),2)
else
(tM a).bind λ(m,b,f,h,o,p,n,g,ah,ai,k,ap)=>
if(Bq ap 0)then
some (0,0,0,([]:LX),ap)
else
if((u==([]:LB)) !=(geq m 1))then
j14 a u m b f h o p n g ah ai k 26
else
if(geq m 1)then
j14 a u m b f h o p n g ah ai k 0
else
if(Dg (Ac a) g)then
j14 a u m b f h o p n g ah ai k 24
else
(Bp a n g).bind λaz=>
(Pw az u).bind λ(ba,bd)=>
if(!ba)then
j14 a u m b f h o p n g ah ai k 26
else
j14 a u m b f h o p n g ah ai k 0
def Qu:=mQ CN
def WY(a:LB):Option (Int×Int×Int×Int×Int×Int×Int):=
if(Fb (Ac a) 100000)then
some (0,0,0,0,0,0,4)
else
(Ju a).bind λ(b,f)=>
if(Bq f 0)then
some (0,0,0,0,0,0,f)
else
(Bp a b (Ac a)).bind λg=>
(Ld g).bind λ(h,k,m,n,o,p)=>
some (b,h,k,m,n,o,p)
def TT(f:LB)(a g m n o p:Int)(b:LB):Option (Int×Int):=
if((b==([]:LB)) !=(geq g 1))then
some (0,26)
else
if(b==([]:LB))then
some (a,0)
else
if(Dg (Ac f) (Af a 8))then
some (0,24)
else
(Bp f a (Af a 8)).bind λh=>
(Kh b).bind λk=>
if(h !=k)then
some (0,26)
else
some ((Af a 8),0)
def HO(a:LB)(b o p u f g:Int):Option (LI×Int):=
(Bp a b (Ac a)).bind λh=>
(Ec f g).bind λk=>
(Oi h (Ac k)).bind λ(m,n)=>
some (m,n)
abbrev Ey:=Option (Int×Int×Int×LX×Int)
def NJ(a:LB)(n b f g:Int)(v:LX):Ey:=
(Bp a n (Ac a)).bind λaf=>
(Oz af).bind λ(ao,ag)=>
if(Bq ag 0)then
some (0,0,0,([]:LX),38)
else
some (b,f,g,v,0)
def OA:=NJ
def NK(bk7:Int->Int->LX->Ey)(a:LB)(o b f g k:Int)(h p:LI)(u:LX)(n m:Int)(y:LX)(w:Int)(v:LX):Ey:=
if(Bq w 0)then
some (0,0,0,([]:LX),w)
else
(Cz v y).bind λah=>
(Ao h m).bind λ_=>
(Ao h m).bind λai=>
bk7 (Af n ai) (Af m 1) ah
def OC bk7:=NK bk7
def DR(j10:Int->Int->LX->Int->LX->Ey)(j12:LB->Int->Int->Int->Int->LX->Ey)(a:LB)(o b f g k:Int)(h p:LI)(u:LX)(n m:Int)(v:LX):Ey:=
if(Dg m (Ac h))then
(Ao h m).bind λ_=>
(Ao h m).bind λaj=>
if(Dg (Au (Ac a) n) aj)then
some (0,0,0,([]:LX),24)
else
(Ao p m).bind λ_=>
(Ao h m).bind λ_=>
(Ao p m).bind λak=>
(Ao h m).bind λal=>
(Bp a n (Af n al)).bind λam=>
(Ef b f u ak am).bind λ(y,w)=>
j10 n m y w v
else
j12 a n b f g v
def Np(a:LB)(o b f g k:Int)(h p:LI)(u:LX):Nat->Int->Int->LX->Ey
|0,_,_,_=>none
|q+1,n,m,v=>DR (OC (Np a o b f g k h p u q) a o b f g k h p u) OA a o b f g k h p u n m v
def QV a o b f g k h p u:=Np a o b f g k h p u Ba
def QX(j7:LB->Int->Int->Int->Int->Int->LI->LI->LX->Int->Int->LX->Ey)(a aa:LB):Ey:=
if(Fb (Ac aa) 64)then
some (0,0,0,([]:LX),2)
else
(WY a).bind λ(an,o,b,f,g,k,ab)=>
if(Bq ab 0)then
some (0,0,0,([]:LX),ab)
else
(TT a (Af an 22) o b f g k aa).bind λ(ac,ad)=>
if(Bq ad 0)then
some (0,0,0,([]:LX),ad)
else
(HO a ac o b f g k).bind λ(h,ae)=>
if(Bq ae 0)then
some (0,0,0,([]:LX),ae)
else
(Ec g k).bind λp=>
(Kv aa).bind λ(u,ap)=>
j7 a o b f g k h p u (Af ac (Af (Bm 4 (Ac h)) 4)) 0 ([]:LX)
def Le:=QX QV
abbrev DG:=Option (LB×Int)
def vD(a:LB):DG:=
(OR a).bind λ(u,aa)=>
(Yo (Ad u:UInt64) 4).bind λ(n,v)=>
(Cz a n).bind λo=>
some (o,0)
def vG:=vD
def gI(j6:LB->DG)(Qy:Int->LB->DG)(b f g h k m:Int)(a:LB):DG:=
if(Dg m 5)then
(Ao ([b,f,g,h,k]:LI) m).bind λw=>
(Ao ([(2:Int),(2:Int),(2:Int),(4:Int),(4:Int)]:LI) m).bind λy=>
(Yo (Ad w:UInt64) y).bind λ(n,v)=>
(Cz a n).bind λo=>
Qy (Af m 1) o
else
j6 a
def GX(b f g h k:Int):Nat->Int->LB->DG
|0,_,_=>none
|q+1,m,a=>gI vG (GX b f g h k q) b f g h k m a
def Hf(a b f:Int)(g:LX):Option (Int×Int):=
some (a,b)
def Cn(b f:Int)(a:LX):Option Int:=
(Di b f).bind λg=>
if(Bq g 0)then
some 2
else
(Ay f a).bind λh=>
if(Bq h 0)then
(Ay f a).bind λk=>
some k
else
if(Dg (Ac a) 1)then
some 2
else
(Ue (Bq b 0)).bind λ_=>
if(Fb (Ko (Ac a) b) 0)then
some 2
else
some 0
abbrev Jq:=Option (LI×Int)
def Vj(a:LI):Jq:=
if(Fb (Ac a) 1000)then
some (([]:LI),4)
else
some (a,0)
def Ve:=Vj
def Ls(j6:LI->Jq)(Qy:Int->LI->Jq)(b f:Int)(a:LI):Jq:=
if(Fb f 0)then
(Cz a ([(Jr f b)]:LI)).bind λh=>
Qy (Au f (Jr f b)) h
else
j6 a
def Fa(b:Int):Nat->Int->LI->Jq
|0,_,_=>none
|q+1,f,a=>Ls Ve (Fa b q) b f a
def FU b:=Fa b Ba
def Vh(j4:Int->Int->LI->Jq)(k g:Int):Jq:=
(BH k).bind λ(b,m)=>
if(((Bq m 0)||(Dg g 1))||(Fb g 4000))then
some (([]:LI),2)
else
j4 b g ([]:LI)
def EZ:=Vh FU
def Jo(a b:Int):Option (Int×Int):=
(EZ a b).bind λ(f,g)=>
some ((Ac f),g)
def MX(f g a:Int)(h:LX)(b:Int):Option Bool:=
(Hf f g a h).bind λ(k,m)=>
(Ed k m b).bind λn=>
if(Bq n 0)then
some false
else
(Jo a b).bind λ(p,o)=>
some (geq o 0)
def Dp(a f g:Int)(b:LX):Option Int:=
(Hf a f g b).bind λ(h,k)=>
(Cn h k b).bind λm=>
if(Bq m 0)then
some 8
else
(Ue (Bq a 0)).bind λ_=>
(MX a f g b (By (Ac b) a)).bind λn=>
if(!n)then
some 8
else
some 0
end Go.Pl
