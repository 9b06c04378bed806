/- A part of a proof (see the text that ends in Proof). No conditions. -/
import Derived.Test.YtjjeabieimfcpaaGreatDoorVcBA
set_option linter.unusedVariables false
namespace Go.Pl
open Go Go.Lv
abbrev LB:=List UInt8
abbrev LI:=List Int
abbrev LX:=List Int32
abbrev LU:=List UInt32
abbrev LQ:=List UInt64
def DW(a:LB):Option Bool:=
some (((Fv (Ac a) 4000)&&(Cp (Ac a) 99900))||(Fv (Ac a) 100100))
def Hi(a b:LB):Option Bool:=
some (a==b)
def Kk(b a:LB):Option Bool:=
if(Ts (Ac b) (Ac a))then
(Bv b 0 (Ac a)).bind λf=>
(Hi f a).bind λg=>
some g
else
some false
abbrev Km:=Option (Int×Int)
def iV(b:Int):Km:=
some (b,0)
def TJ:=iV
def Yd(j6:Int->Km)(On:Int->Int->Km)(a:LB)(b f:Int):Km:=
if(Cp f (Ac a))then
(Aj a f).bind λg=>
if(Fv g 127)then
some (0,12)
else
On (rD (Ej b (GI.toZ (7:UInt64)).toNat) (Ad g:Int)) (Ae f 1)
else
j6 b
def Li(a:LB):Nat->Int->Int->Km
|0,_,_=>none
|q+1,b,f=>Yd TJ (Li a q) a b f
def GN a:=Li a Az
def HI(j4:LB->Int->Int->Km)(a:LB):Km:=
if(Ch (Ac a) 4)then
some (0,2)
else
j4 a 0 0
def HV:=HI GN
abbrev Ht:=Option (Int×Int)
def WW(a:LB)(b:UInt8)(h:Int):Ht:=
if(Fv h 4000)then
some (0,4)
else
if(Cp (Ac a) h)then
some (0,24)
else
if(geq b 16)then
(Bv a (Am h 10) h).bind λk=>
(Bv k 0 3).bind λu=>
if(u !=([51,68,73]:LB))then
some (0,12)
else
(Bv k 3 (Ac k)).bind λv=>
(Bv a 3 10).bind λw=>
(Hi v w).bind λy=>
if(!y)then
some (0,12)
else
some (h,0)
else
some (h,0)
def AB:=WW
def KJ(j8:LB->UInt8->Int->Ht)(a:LB)(g:Int)(b:UInt8):Ht:=
if(geq b 16)then
j8 a b (Ae (Ae g 10) 10)
else
j8 a b (Ae g 10)
def AI:=KJ AB
def KA(j7:LB->Int->UInt8->Ht)(a:LB)(g:Int)(b:UInt8)(m:Bool):Ht:=
if m then
some (0,12)
else
j7 a g b
def KB:=KA AI
def KO(j6:LB->Int->UInt8->Bool->Ht)(a:LB)(f b:UInt8):Ht:=
(Bv a 6 10).bind λaa=>
(HV aa).bind λ(g,ab)=>
if(Ch ab 0)then
if true then
j6 a g b true
else
if(geq b 0)then
j6 a g b (!((Ts f 2)&&(K8 f 4)))
else
if(geq b 16)then
j6 a g b (!(geq f 4))
else
j6 a g b (!false)
else
(Aj a 4).bind λac=>
if(Ch ac 0)then
j6 a g b true
else
if(geq b 0)then
j6 a g b (!((Ts f 2)&&(K8 f 4)))
else
if(geq b 16)then
j6 a g b (!(geq f 4))
else
j6 a g b (!false)
def KG:=KO KB
def AD(j5:LB->UInt8->UInt8->Ht)(a:LB):Ht:=
(Kk a ([(73:UInt8),(68:UInt8),(51:UInt8)]:LB)).bind λn=>
if(!n)then
some (0,6)
else
if(Cp (Ac a) 10)then
some (0,24)
else
(Aj a 3).bind λf=>
(Aj a 5).bind λb=>
(
(
(
j5 a f b)))
def LO:=AD KG
abbrev BA:=Option (UInt64×Int)
def yD(b:UInt64):BA:=
some (b,0)
def kJ:=yD
def QM(j6:UInt64->BA)(On:UInt64->Int->BA)(a:LB)(b:UInt64)(f:Int):BA:=
if(Cp f (Ac a))then
(Aj a f).bind λg=>
(Rj (Ts (Be 8 f) 0)).bind λ_=>
On (rD b (Ej (Ad g:UInt64) (GI.toZ (Be 8 f)).toNat)) (Ae f 1)
else
j6 b
def BI(a:LB):Nat->UInt64->Int->BA
|0,_,_=>none
|q+1,b,f=>QM kJ (BI a q) a b f
def aB a:=BI a Az
def aZ(j4:LB->UInt64->Int->BA)(a:LB):BA:=
if((Cp (Ac a) 1)||(Fv (Ac a) 8))then
some (0,2)
else
j4 a 0 0
def YS:=aZ aB
def TI(f:LB)(a b:Int):Option (UInt64×Int):=
if(((Cp b 1)||(Fv b 8))||(Cp a 0))then
some (0,2)
else
if(Fv a (Am (Ac f) b))then
some (0,24)
else
(Bv f a (Ae a b)).bind λg=>
(YS g).bind λ(h,k)=>
some (h,k)
def mF(b:UInt64)(a:Int):Option Bool:=
if(geq a 8)then
some true
else
(Rj (Ts (Be 8 a) 0)).bind λ_=>
some (geq (Cr b (GI.toZ (Be 8 a)).toNat) 0)
abbrev AZ:=Option (LB×Int)
def kV(a:LB):AZ:=
some (a,0)
def YF:=kV
def QI(j6:LB->AZ)(On:Int->LB->AZ)(f:UInt64)(g:LB)(b:Int)(a:LB):AZ:=
if(Cp b (Ac g))then
(Rj (Ts (Be 8 b) 0)).bind λ_=>
(Aj a b).bind λ_=>
(Pd a b (Ad (Cr f (GI.toZ (Be 8 b)).toNat):UInt8)).bind λk=>
On (Ae b 1) k
else
j6 a
def BZ(f:UInt64)(g:LB):Nat->Int->LB->AZ
|0,_,_=>none
|q+1,b,a=>QI YF (BZ f g q) f g b a
def ZW f g:=BZ f g Az
def ZN(j4:UInt64->LB->Int->LB->AZ)(f:UInt64)(h:Int):AZ:=
if((Cp h 1)||(Fv h 8))then
some (([]:LB),2)
else
(mF f h).bind λm=>
if(!m)then
some (([]:LB),16)
else
(N8 h (0:UInt8)).bind λg=>
(Rj (geq h h)).bind λ_=>
j4 f g 0 g
def Tp:=ZN ZW
def pV(g:LB):Option (LB):=
some g
def dV:=pV
def UT(j6:LB->Option (LB))(On:Int->LB->Option (LB))(a b:Int)(f:UInt64)(h:Int)(g:LB):Option (LB):=
if(Cp h (Ac ([(2000:UInt64),(Ad (Ae a 32):UInt64),(Ad b:UInt64),f,(0:UInt64),(0:UInt64)]:LQ)))then
(Aj ([(2000:UInt64),(Ad (Ae a 32):UInt64),(Ad b:UInt64),f,(0:UInt64),(0:UInt64)]:LQ) h).bind λ_=>
(Aj ([(2000:UInt64),(Ad (Ae a 32):UInt64),(Ad b:UInt64),f,(0:UInt64),(0:UInt64)]:LQ) h).bind λk=>
(Tp k 4).bind λ(m,o)=>
(Cu g m).bind λn=>
On (Ae h 1) n
else
j6 g
def BD(a b:Int)(f:UInt64):Nat->Int->LB->Option (LB)
|0,_,_=>none
|q+1,h,g=>UT dV (BD a b f q) a b f h g
def dR a b f:=BD a b f Az
def eL(j4:Int->Int->UInt64->Int->LB->Option (LB))(a b:Int)(f:UInt64):Option (LB):=
j4 a b f 0 ([(65:UInt8),(80:UInt8),(69:UInt8),(84:UInt8),(65:UInt8),(71:UInt8),(69:UInt8),(88:UInt8)]:LB)
def bH:=eL dR
def MN(b:LB)(g:UInt64):Option (Int×Int×Bool):=
(TI b 12 4).bind λ(a,m)=>
(TI b 16 4).bind λ(f,n)=>
if(((Cp a 32)||(Fv a 3032))||(Fv f 1000))then
some (0,0,false)
else
(bH (Am (Ad a:Int) 32) (Ad f:Int) g).bind λh=>
(Hi b h).bind λk=>
some ((Am (Ad a:Int) 32),(Ad f:Int),k)
def bK(a:LB):Option (Int×Int):=
(Kk a ([(65:UInt8),(80:UInt8),(69:UInt8),(84:UInt8),(65:UInt8),(71:UInt8),(69:UInt8),(88:UInt8)]:LB)).bind λf=>
if(!f)then
some (0,6)
else
if(Cp (Ac a) 32)then
some (0,24)
else
(Bv a 0 32).bind λg=>
(MN g 2684354560).bind λ(b,h,k)=>
if(!k)then
some (0,12)
else
if(Cp (Ac a) (Ae b 64))then
some (0,24)
else
(Bv a (Am (Ae b 64) 32) (Ae b 64)).bind λm=>
(bH b h 2147483648).bind λn=>
(Hi m n).bind λo=>
if(!o)then
some (0,12)
else
some ((Ae b 64),0)
def Ws(a:LB):Option (Int×Int):=
(LO a).bind λ(f,b)=>
if(Ch b 6)then
some (f,b)
else
(bK a).bind λ(g,h)=>
some (g,h)
def Tz(b:List UInt8):Nat->Int->Option (Int×Int)
  |0,_=>none
  |q+1,x=>Option.bind (Bv b x (Ac b)) λs=>Option.bind (Ws s) λr=>
    if geq r.2 (6:Int)=true then some (x,0)
    else if(geq r.2 (0:Int)&&Fv (Ae x r.1) (4000:Int))=true then some (0,4)
    else if Ch r.2 (0:Int)=true then some (0,r.2)
    else Tz b q (Ae x r.1)
def Xh(b:List UInt8):Option (Int×Int):=Tz b Az 0
def Iz(b a:LB):Option Bool:=
if(Ts (Ac b) (Ac a))then
(Bv b 0 (Ac a)).bind λf=>
some (f==a)
else
some false
def Vj(a b:LB):Option Bool:=
(Iz a b).bind λf=>
some f
abbrev Bo:=Option (UInt32×Int)
def YT(h:UInt32):Bo:=
some (h,0)
def NK:=YT
def ER(j30:UInt32->Bo)(Am3:UInt32->Int->Bo)(a:LB)(b:LU)(h:UInt32)(m:Int):Bo:=
if(Cp m (Ac a))then
(Aj a m).bind λp=>
(Aj b (GI.toZ (Zx (Ad h:UInt8) p))).bind λ_=>
(Aj b (GI.toZ (Zx (Ad h:UInt8) p))).bind λu=>
Am3 (Zx (Cr h (GI.toZ (8:UInt64)).toNat) u) (Ae m 1)
else
j30 h
def Qp(a:LB)(b:LU):Nat->UInt32->Int->Bo
|0,_,_=>none
|q+1,h,m=>ER NK (Qp a b q) a b h m
def OE a b:=Qp a b Az
def NT(j28:LB->LU->UInt32->Int->Bo)(f:UInt32)(a:LB)(b:LU):Bo:=
j28 a b f 0
def NN:=NT OE
def NL(j27:UInt32->LB->LU->Bo)(f:UInt32)(a:LB)(b:LU):Bo:=
j27 f a b
def DQ:=NL NN
def YH(Ln:Int->LU->Bo)(f:UInt32)(a:LB)(g:Int)(o:LU):Bo:=
Ln (Ae g 1) o
def PF Ln:=YH Ln
def OB(j24:Int->LU->Bo)(f:UInt32)(a:LB)(g:Int)(k:UInt32)(b:LU):Bo:=
(Aj b g).bind λ_=>
(Pd b g k).bind λo=>
j24 g o
def DN Ln f a:=OB (PF Ln f a) f a
def DF(j23:Int->UInt32->LU->Bo)(P0:UInt32->Int->Bo)(f:UInt32)(a:LB)(g:Int)(b:LU)(k:UInt32)(n:Int):Bo:=
if(Cp n 8)then
P0 (Zx (Cr k (GI.toZ (1:UInt64)).toNat) (Be 3988292384 (Hk k 1))) (Ae n 1)
else
j23 g k b
def Qh(Ln:Int->LU->Bo)(f:UInt32)(a:LB)(g:Int)(b:LU):Nat->UInt32->Int->Bo
|0,_,_=>none
|q+1,k,n=>DF (DN Ln f a) (Qh Ln f a g b q) f a g b k n
def MX Ln f a g b:=Qh Ln f a g b Az
def ES(j21:Int->LU->UInt32->Int->Bo)(j26:UInt32->LB->LU->Bo)(f:UInt32)(a:LB)(g:Int)(b:LU):Bo:=
if(Cp g 256)then
j21 g b (Ad g:UInt32) 0
else
j26 f a b
def Lr(f:UInt32)(a:LB):Nat->Int->LU->Bo
|0,_,_=>none
|q+1,g,b=>ES (MX (Lr f a q) f a) DQ f a g b
def NG f a:=Lr f a Az
def RJ(j16:UInt32->LB->Int->LU->Bo)(f:UInt32)(a:LB):Bo:=
if(Fv (Ac a) 100000)then
some (0,4)
else
j16 f a 0 (List.replicate 256 (0:UInt32))
def WB:=RJ NG
def GV(b:LB):Option (UInt32×Int):=
(WB 4294967295 b).bind λ(f,a)=>
if(Ch a 0)then
some (0,a)
else
some ((pN f),0)
def SS(b f a g h:Int):Option Bool:=
some (((((((geq b 1)||(geq b 2))&&(Fv f 0))&&(K8 f 6))&&(Fv g 0))&&(K8 g 1048576))&&(Fv h 0))
def Yg:=SS
def GR(j2:Int->Int->Int->Int->Int->Option Bool)(b f a g h:Int):Option Bool:=
if(geq a 8)then
if(geq a 8)then
j2 b f a g h
else
some false
else
if(geq a 16)then
if(geq a 16)then
j2 b f a g h
else
some false
else
if(geq a 24)then
j2 b f a g h
else
some false
def Zo:=GR Yg
def Rn(a:Int):Option (Int×Int):=
if((Cp a 1)||(Fv a 1048576))then
some (0,2)
else
some ((cD 1 (Cg (Be 256 a) 245)),0)
def Hl(g b:Int):Option (Int×Int):=
(Rn g).bind λ(a,f)=>
if(Ch f 0)then
some (0,f)
else
if((Cp b 1)||(Fv b 4000))then
some (0,2)
else
(Rj (Ch a 0)).bind λ_=>
if(Fv (Cg (Am (Ae b a) 1) a) 1000)then
some (0,4)
else
some ((Cg (Am (Ae b a) 1) a),0)
def JL(k a m f b:Int):Option Bool:=
(Rj (Ch a 0)).bind λ_=>
if(Fv b (Cg 4000 a))then
some false
else
(Hl f b).bind λ(g,h)=>
some ((geq h 0)&&(K8 g 1000))
abbrev Pc:=Option (Int×Int×Int×Int×Int×Int)
def aO(a:LI):Pc:=
(Aj a 0).bind λ_=>
(Aj a 0).bind λh=>
(Aj a 1).bind λ_=>
(Aj a 1).bind λk=>
(Aj a 2).bind λ_=>
(Aj a 2).bind λm=>
(Aj a 3).bind λ_=>
(Aj a 3).bind λn=>
(Aj a 4).bind λ_=>
(Aj a 4).bind λo=>
(Zo h k m n o).bind λp=>
if(!p)then
some (0,0,0,0,0,12)
else
(JL h k m n o).bind λu=>
if(!u)then
some (0,0,0,0,0,4)
else
some (h,k,m,n,o,0)
def CX:=aO
def CZ(j6:LI->Pc)(On:Int->Int->LI->Pc)(b:LB)(g f:Int)(a:LI):Pc:=
if(Cp f 5)then
(Aj ([(2:Int),(2:Int),(2:Int),(4:Int),(4:Int)]:LI) f).bind λh=>
(TI b g h).bind λ(v,ae)=>
(Aj a f).bind λ_=>
(Pd a f (Ad v:Int)).bind λw=>
On (Ae g h) (Ae f 1) w
else
j6 a
def Lq(b:LB):Nat->Int->Int->LI->Pc
|0,_,_,_=>none
|q+1,g,f,a=>CZ CX (Lq b q) b g f a
def DM b:=Lq b Az
def OV(j4:LB->Int->Int->LI->Pc)(b:LB):Pc:=
(Bv b 0 (Gv 4 (Ac b))).bind λy=>
(Vj ([84,84,65,49]:LB) y).bind λaa=>
if(!aa)then
some (0,0,0,0,0,12)
else
if(Cp (Ac b) 22)then
some (0,0,0,0,0,24)
else
(TI b 18 4).bind λ(ab,af)=>
(Bv b 0 18).bind λac=>
(GV ac).bind λ(ad,ag)=>
if(Ch (Ad ad:UInt64) ab)then
some (0,0,0,0,0,22)
else
j4 b 4 0 (List.replicate 5 (0:Int))
def IM:=OV DM
def LM(a b f g h:Int):Option Int:=
(Zo a b f g h).bind λk=>
if(!k)then
some 8
else
(JL a b f g h).bind λm=>
if(!m)then
some 8
else
some 0
def KK(a b:UInt64):Option (UInt64×UInt64):=
some ((Ae (Ae (Be (Cr a (GI.toZ (32:UInt64)).toNat) (Cr b (GI.toZ (32:UInt64)).toNat)) (Cr (Ae (Be (Cr a (GI.toZ (32:UInt64)).toNat) (Hk b 4294967295)) (Cr (Be (Hk a 4294967295) (Hk b 4294967295)) (GI.toZ (32:UInt64)).toNat)) (GI.toZ (32:UInt64)).toNat)) (Cr (Ae (Hk (Ae (Be (Cr a (GI.toZ (32:UInt64)).toNat) (Hk b 4294967295)) (Cr (Be (Hk a 4294967295) (Hk b 4294967295)) (GI.toZ (32:UInt64)).toNat)) 4294967295) (Be (Hk a 4294967295) (Cr b (GI.toZ (32:UInt64)).toNat))) (GI.toZ (32:UInt64)).toNat)),(Be a b))
def ID(a b:UInt64):Option (UInt64×UInt64):=
(KK a b).bind λ(f,g)=>
some (f,g)
def My(a:LI):Option (LI):=
some a
def Il:=My
def Gg(j10:LI->Option (LI))(bk8:Int->LI->Option (LI))(b:Int)(a:LI):Option (LI):=
if(Cp b (Ac a))then
(
(eX (Ac a) b (Ac a)).bind λ_=>
(eX (Ac a) 0 b).bind λ_=>
bk8 (Ae b (OU ((Ac a)-b) (TE a 0 (b-(0:Int))).length)) (Ud a b ((Ac a)-b) (TE a 0 (b-(0:Int)))))
else
j10 a
def Dw:Nat->Int->LI->Option (LI)
|0,_,_=>none
|q+1,b,a=>Gg Il (Dw q) b a
def Oz:=Dw Az
def Pa(j8:Int->LI->Option (LI))(f:LI)(g:UInt64):Option (LI):=
(N8 (Ad g:Int) (0:Int)).bind λk=>
(Rj (geq (Ad g:Int) (Ad g:Int))).bind λ_=>
j8 (OU (Ac k) f.length) (qO k f)
def Ou:=Pa Oz
def Oo(j7:LI->UInt64->Option (LI))(f:LI)(h:Int):Option (LI):=
(ID (Ad (Ac f):UInt64) (Ad h:UInt64)).bind λ(m,g)=>
if((Fv m 0)||(Fv g 9223372036854775807))then
none
else
j7 f g
def Pb:=Oo Ou
def Oy(j6:LI->Int->Option (LI))(f:LI)(h:Int):Option (LI):=
if(Cp h 0)then
none
else
j6 f h
def Mt:=Oy Pb
def QA(f:LI):Option (LI):=
some f
def Ys:=QA
def Fi(j16:LI->Option (LI))(Am4:Int->LI->Option (LI))(a:List LI)(g:Int)(f:LI):Option (LI):=
if(Cp g (Ac a))then
(Aj a g).bind λo=>
(Cu f o).bind λp=>
Am4 (Ae g 1) p
else
j16 f
def Dm(a:List LI):Nat->Int->LI->Option (LI)
|0,_,_=>none
|q+1,g,f=>Fi Ys (Dm a q) a g f
def Nd a:=Dm a Az
def Mz(j14:(List LI)->Int->LI->Option (LI))(a:List LI)(k:LI):Option (LI):=
j14 a 0 k
def Io:=Mz Nd
def Na(j13:(List LI)->LI->Option (LI))(b:Int)(a:List LI):Option (LI):=
if(Fv (Am b (Am (0:Int) (0:Int))) 0)then
(eX 0 0 0).bind λ_=>
(N8 (Am b (Am (0:Int) (0:Int))) (0:Int)).bind λu=>
(Cu ([]:LI) u).bind λm=>
(eX (Ac m) 0 0).bind λ_=>
j13 a (TE m 0 ((0:Int)-(0:Int)))
else
j13 a ([]:LI)
def Nc:=Na Io
def Nf(j12:Int-> (List LI)->Option (LI))(a:List LI)(b:Int):Option (LI):=
if(Cp b 0)then
none
else
j12 b a
def Mw:=Nf Nc
def Gf(j11:(List LI)->Int->Option (LI))(bk9:Int->Int->Option (LI))(a:List LI)(b h:Int):Option (LI):=
if(Cp h (Ac a))then
(Aj a h).bind λn=>
if(Cp (Ae b (Ac n)) 0)then
none
else
bk9 (Ae b (Ac n)) (Ae h 1)
else
j11 a b
def Dv(a:List LI):Nat->Int->Int->Option (LI)
|0,_,_=>none
|q+1,b,h=>Gf Mw (Dv a q) a b h
def Oq a:=Dv a Az
def Ox(j9:(List LI)->Int->Int->Option (LI))(a:List LI):Option (LI):=
j9 a 0 0
def Mi:=Ox Oq
def OG(a b:LI):Option (LI):=
(Mi ([a,b]:List LI)).bind λf=>
some f
def QE(a b:Int):Option (LI×Int):=
(Hl a b).bind λ(f,g)=>
if(Ch g 0)then
some (([]:LI),g)
else
(Rn a).bind λ(h,n)=>
(Mt ([h]:LI) (Am f 1)).bind λk=>
(OG k ([(Am b (Be (Am f 1) h))]:LI)).bind λm=>
some (m,0)
def Zq(g h k a b:Int):Option (LI×Int):=
(LM g h k a b).bind λf=>
if(Ch f 0)then
some (([]:LI),f)
else
(QE a b).bind λ(m,n)=>
some (m,n)
def XZ(f:LB):Option (Int×Int×Int×Int×Int×Int×Int×Int×Int×Int×LI×Int):=
if(Fv (Ac f) 100000)then
some (0,0,0,0,0,0,0,0,0,0,([]:LI),4)
else
(Xh f).bind λ(a,n)=>
if(Ch n 0)then
some (0,0,0,0,0,0,0,0,0,0,([]:LI),n)
else
(Bv f a (Ac f)).bind λu=>
(IM u).bind λ(b,g,h,k,m,o)=>
if(Ch o 0)then
some (b,g,h,k,m,0,0,0,0,0,([]:LI),o)
else
(Zq b g h k m).bind λ(p,v)=>
if(geq b 2)then
some (b,g,h,k,m,a,(Ae a 22),(Ae (Ae a 22) 8),0,0,p,0)
else
some (b,g,h,k,m,a,(Ae a 22),(Ae a 22),0,0,p,0)
abbrev Bp:=Option (UInt64×Int)
def ZM(h:UInt64):Bp:=
some (h,0)
def OI:=ZM
def NB(j30:UInt64->Bp)(h b:UInt64)(a:LB)(f:LQ):Bp:=
j30 h
def OP:=NB OI
def DO(j29:UInt64->UInt64->LB->LQ->Bp)(cK:UInt64->Int->Bp)(a:LB)(b:UInt64)(f:LQ)(h:UInt64)(m:Int):Bp:=
if(Cp m (Ac a))then
(Aj a m).bind λp=>
Option.bind (Aj f (GI.toZ (Zx (Ad (Cr h (GI.toZ (56:UInt64)).toNat):UInt8) p))) λ_=>
Option.bind (Aj f (GI.toZ (Zx (Ad (Cr h (GI.toZ (56:UInt64)).toNat):UInt8) p))) λu=>
cK (Zx (Ej h (GI.toZ (8:UInt64)).toNat) u) (Ae m 1)
else
j29 h b a f
def Qk(a:LB)(b:UInt64)(f:LQ):Nat->UInt64->Int->Bp
|0,_,_=>none
|q+1,h,m=>DO OP (Qk a b f q) a b f h m
def NH a b f:=Qk a b f Az
def MY(j27:LB->UInt64->LQ->UInt64->Int->Bp)(b:UInt64)(a:LB)(f:LQ):Bp:=
j27 a b f b 0
def EC:=MY NH
def YB(Ln:Int->LQ->Bp)(b:UInt64)(a:LB)(g:Int)(o:LQ):Bp:=
Ln (Ae g 1) o
def NM Ln:=YB Ln
def NF(j24:Int->LQ->Bp)(b:UInt64)(a:LB)(g:Int)(k:UInt64)(f:LQ):Bp:=
(Aj f g).bind λ_=>
(Pd f g k).bind λo=>
j24 g o
def DG Ln b a:=NF (NM Ln b a) b a
def CP(j23:Int->UInt64->LQ->Bp)(P0:UInt64->Int->Bp)(b:UInt64)(a:LB)(g:Int)(f:LQ)(k:UInt64)(n:Int):Bp:=
if(Cp n 8)then
P0 (Zx (Ej k (GI.toZ (1:UInt64)).toNat) (Be 4823603603198064275 (Cr k (GI.toZ (63:UInt64)).toNat))) (Ae n 1)
else
j23 g k f
def Qx(Ln:Int->LQ->Bp)(b:UInt64)(a:LB)(g:Int)(f:LQ):Nat->UInt64->Int->Bp
|0,_,_=>none
|q+1,k,n=>CP (DG Ln b a) (Qx Ln b a g f q) b a g f k n
def PN Ln b a g f:=Qx Ln b a g f Az
def DR(j21:Int->LQ->UInt64->Int->Bp)(j26:UInt64->LB->LQ->Bp)(b:UInt64)(a:LB)(g:Int)(f:LQ):Bp:=
if(Cp g 256)then
j21 g f (Ej (Ad g:UInt64) (GI.toZ (56:UInt64)).toNat) 0
else
j26 b a f
def Md(b:UInt64)(a:LB):Nat->Int->LQ->Bp
|0,_,_=>none
|q+1,g,f=>DR (PN (Md b a q) b a) EC b a g f
def NX b a:=Md b a Az
def RW(j16:UInt64->LB->Int->LQ->Bp)(b:UInt64)(a:LB):Bp:=
if(Fv (Ac a) 100000)then
some (0,4)
else
j16 b a 0 (List.replicate 256 (0:UInt64))
def VP:=RW NX
def SW(a:LB):Option (UInt64×Int):=
(VP 0 a).bind λ(b,f)=>
some (b,f)
def jE(a:LB):Option (UInt64×Int):=
if(Fv (Ac a) 64)then
some (0,2)
else
(SW a).bind λ(b,f)=>
some (b,0)
def ME(b:LB):Option (LB×Int):=
(jE b).bind λ(f,a)=>
if(Ch a 0)then
some (([]:LB),a)
else
(Tp f 8).bind λ(g,h)=>
some (g,h)
def Ym(a f:LB):Option (Bool×Int):=
(ME f).bind λ(b,g)=>
if((Ch g 0)||(Ch (Ac a) (Ac b)))then
some (false,2)
else
(Hi a b).bind λh=>
some (h,0)
def pO:Option Int:=
some 0
def bC:=pO
def FB(j6:Option Int)(On:Int->Int->Option Int)(a:LI)(f b:Int):Option Int:=
if(Cp b (Ac a))then
(Aj a b).bind λg=>
if((Cp g 5)||(Fv g f))then
some 8
else
On (Am f g) (Ae b 1)
else
j6
def Qq(a:LI):Nat->Int->Int->Option Int
|0,_,_=>none
|q+1,f,b=>FB bC (Qq a q) a f b
def OM a:=Qq a Az
def EN(j4:LI->Int->Int->Option Int)(a:LI):Option Int:=
if((geq (Ac a) 0)||(Fv (Ac a) 1000))then
some 8
else
j4 a 100000 0
def Xt:=EN OM
abbrev Sp:=Option (LI×Int)
def dE(a:LI):Sp:=
(Xt a).bind λk=>
if(Ch k 0)then
some (([]:LI),12)
else
some (a,0)
def HR:=dE
def HU(j6:LI->Sp)(On:Int->LI->Sp)(b:LB)(f:LI)(g:Int)(a:LI):Sp:=
if(Cp g (Ac f))then
(TI b (Be 4 g) 4).bind λ(k,u)=>
(Aj a g).bind λ_=>
(Pd a g (Ad k:Int)).bind λm=>
On (Ae g 1) m
else
j6 a
def Tx(b:LB)(f:LI):Nat->Int->LI->Sp
|0,_,_=>none
|q+1,g,a=>HU HR (Tx b f q) b f g a
def RL b f:=Tx b f Az
def SC(j4:LB->LI->Int->LI->Sp)(b:LB)(h:Int):Sp:=
if((Cp h 1)||(Fv h 1000))then
some (([]:LI),2)
else
if(Cp (Ac b) (Ae (Be 4 h) 4))then
some (([]:LI),24)
else
(TI b (Be 4 h) 4).bind λ(n,v)=>
(Bv b 0 (Be 4 h)).bind λo=>
(GV o).bind λ(p,w)=>
if(Ch (Ad p:UInt64) n)then
some (([]:LI),22)
else
(N8 h (0:Int)).bind λf=>
(Rj (geq h h)).bind λ_=>
j4 b f 0 f
def OH:=SC RL
def O6(a:LX):Option (LX):=
some a
def nS:=O6
def WO(j6:LX->Option (LX))(On:Int->LX->Option (LX))(f:UInt64)(b:Int)(a:LX):Option (LX):=
if(Cp b 8)then
(Rj (Ts (Be 8 b) 0)).bind λ_=>
(Aj a b).bind λ_=>
(Pd a b (Ad (Ad (Cr f (GI.toZ (Be 8 b)).toNat):Int8):Int32)).bind λg=>
On (Ae b 1) g
else
j6 a
def HF(f:UInt64):Nat->Int->LX->Option (LX)
|0,_,_=>none
|q+1,b,a=>WO nS (HF f q) f b a
def qZ f:=HF f Az
def pZ(j4:UInt64->Int->LX->Option (LX))(f:UInt64):Option (LX):=
j4 f 0 (List.replicate 16 (0:Int32))
def uX:=pZ qZ
def bX(a:LB):Option (LX×Int):=
if(Fv (Ac a) 64)then
some (([(0:Int32),(0:Int32),(0:Int32),(0:Int32),(0:Int32),(0:Int32),(0:Int32),(0:Int32),(0:Int32),(0:Int32),(0:Int32),(0:Int32),(0:Int32),(0:Int32),(0:Int32),(0:Int32)]:LX),2)
else
(SW a).bind λ(f,b)=>
if(Ch b 0)then
some (([(0:Int32),(0:Int32),(0:Int32),(0:Int32),(0:Int32),(0:Int32),(0:Int32),(0:Int32),(0:Int32),(0:Int32),(0:Int32),(0:Int32),(0:Int32),(0:Int32),(0:Int32),(0:Int32)]:LX),b)
else
(uX f).bind λg=>
some (g,0)
abbrev RV:=Option (Int32×Int32×Int)
def YN(a:Int)(b:Bool):RV:=
if b then
(Rj (Ts (Am a 1) 0)).bind λ_=>
some ((fH (Ej (1:Int32) (GI.toZ (Am a 1)).toNat)),(Am (Ej (1:Int32) (GI.toZ (Am a 1)).toNat) 1),0)
else
some (0,0,2)
def PM:=YN
def OJ(j2:Int->Bool->RV)(a:Int):RV:=
if(geq a 8)then
j2 a (geq a 8)
else
if(geq a 16)then
j2 a (geq a 16)
else
j2 a (geq a 24)
def Rl:=OJ PM
def Gi(a b:Int):Option Int:=
(Rl b).bind λ(g,h,f)=>
if(((Ch f 0)||(Cp a 1))||(Fv a 6))then
some 2
else
some 0
def EA(a:LB):Option (LB×Int):=
if(Cp (Ac a) 5)then
some (([]:LB),24)
else
if(Fv (Ac a) 41254)then
some (([]:LB),4)
else
(Bv a 0 (Am (Ac a) 4)).bind λf=>
(GV f).bind λ(g,b)=>
if(Ch b 0)then
some (([]:LB),b)
else
(Bv a (Am (Ac a) 4) (Ac a)).bind λh=>
(YS h).bind λ(k,m)=>
if((Ch m 0)||(Ch k (Ad g:UInt64)))then
some (([]:LB),22)
else
(Bv a 0 (Am (Ac a) 4)).bind λn=>
some (n,0)
def Hx(a:LB):Option (LB):=
(
(Cu ([]:LB) a).bind λb=>
some b)
def wO(a:LB):Option (LB×Int×Int):=
if(Fv (Ac a) 41250)then
some (([]:LB),0,4)
else
(Hx a).bind λb=>
some (b,(Be 8 (Ac a)),0)
def rA:Option (Int×Int×UInt64×UInt64):=
some (10,10,16384,16384)
def Tf(b:LB)(a:Int):Option Int:=
if(((Cp a 0)||(Fv a 330000))||(Ch (Ac b) (wE (Ae a 7) (GI.toZ (3:UInt64)).toNat)))then
some 8
else
if(Fv (Hk a 7) 0)then
(Aj b (Am (Ac b) 1)).bind λf=>
(Rj (Ts (Hk a 7) 0)).bind λ_=>
if(Ch (Cr f (GI.toZ (Hk a 7)).toNat) 0)then
some 8
else
some 0
else
some 0
def E3(g:UInt64):Option UInt64:=
some g
def kW:=E3
def ZU(j6:UInt64->Option UInt64)(On:UInt64->Int->Option UInt64)(b f:Int)(h:LB)(k:Int)(g:UInt64)(a:Int):Option UInt64:=
if(Cp a f)then
(Aj h (wE (Ae b a) (GI.toZ (3:UInt64)).toNat)).bind λm=>
(Rj (Ts (Hk (Ae b a) 7) 0)).bind λ_=>
(Rj (Ts (Gv (Am f a) (Am 8 (Hk (Ae b a) 7))) 0)).bind λ_=>
(Rj (Ts a 0)).bind λ_=>
On (rD g (Ej (Ad (Hk (Cr m (GI.toZ (Hk (Ae b a) 7)).toNat) (Am (Ej (1:UInt8) (GI.toZ (Gv (Am f a) (Am 8 (Hk (Ae b a) 7)))).toNat) 1)):UInt64) (GI.toZ a).toNat)) (Ae a (Gv (Am f a) (Am 8 (Hk (Ae b a) 7))))
else
j6 g
def IX(b f:Int)(h:LB)(k:Int):Nat->UInt64->Int->Option UInt64
|0,_,_=>none
|q+1,g,a=>ZU kW (IX b f h k q) b f h k g a
def kN b f h k:=IX b f h k Az
def jX(j4:Int->Int->LB->Int->UInt64->Int->Option UInt64)(h:LB)(k b f:Int):Option UInt64:=
j4 b f h k 0 0
def gP:=jX kN
abbrev Ed:=Option (LB×Int×Int)
def gR(o:Int)(p:LB):Ed:=
some (p,o,0)
def UH:=gR
def fU(cK:Int->Int->LB->Ed)(a:Int)(g:LB)(f b h:Int)(u:LB):Ed:=
cK (Ae b 64) h u
def LN cK:=fU cK
def fW(Ac1:UInt64->Int->Int->LB->Ed)(a b:Int)(g:LB)(f:Int)(k n:UInt64)(m h:Int)(w:LB):Ed:=
(Rj (Ts (Gv m (Am 8 (Hk h 7))) 0)).bind λ_=>
Ac1 (Cr n (GI.toZ (Gv m (Am 8 (Hk h 7)))).toNat) (Am m (Gv m (Am 8 (Hk h 7)))) (Ae h (Gv m (Am 8 (Hk h 7)))) w
def VL Ac1:=fW Ac1
def WJ(j48:UInt64->Int->Int->LB->Ed)(a b:Int)(g:LB)(f:Int)(k n:UInt64)(m h:Int)(v:LB):Ed:=
(Aj v (Am (Ac v) 1)).bind λ_=>
(Rj (Ts (Gv m (Am 8 (Hk h 7))) 0)).bind λ_=>
(Rj (Ts (Hk h 7) 0)).bind λ_=>
(Aj v (Am (Ac v) 1)).bind λaa=>
(Aj v (Am (Ac v) 1)).bind λ_=>
Option.bind (Pd v (Am (Ac v) 1) (rD aa (Ej (Ad (Hk n (Am (Ej (1:UInt64) (GI.toZ (Gv m (Am 8 (Hk h 7)))).toNat) 1)):UInt8) (GI.toZ (Hk h 7)).toNat))) λw=>
j48 n m h w
def MB Ac1 a b g f k:=WJ (VL Ac1 a b g f k) a b g f k
def MA(j47:UInt64->Int->Int->LB->Ed)(j50:Int->Int->LB->Ed)(a:Int)(g:LB)(f b:Int)(k n:UInt64)(m h:Int)(u:LB):Ed:=
if(Fv m 0)then
if(geq (Hk h 7) 0)then
(Cu u ([(0:UInt8)]:LB)).bind λab=>
j47 n m h ab
else
j47 n m h u
else
j50 b h u
def Nu(cK:Int->Int->LB->Ed)(a:Int)(g:LB)(f b:Int)(k:UInt64):Nat->UInt64->Int->Int->LB->Ed
|0,_,_,_,_=>none
|q+1,n,m,h,u=>MA (MB (Nu cK a g f b k q) a b g f k) (LN cK a g f) a g f b k n m h u
def VR cK a g f b k:=Nu cK a g f b k Az
def VM(j44:Int->UInt64->UInt64->Int->Int->LB->Ed)(j52:Int->LB->Ed)(a:Int)(g:LB)(f b o:Int)(p:LB):Ed:=
if(Cp b a)then
(gP g f b (Gv 64 (Am a b))).bind λk=>
j44 b k k (Gv 64 (Am a b)) o p
else
j52 o p
def Yb(a:Int)(g:LB)(f:Int):Nat->Int->Int->LB->Ed
|0,_,_,_=>none
|q+1,b,o,p=>VM (VR (Yb a g f q) a g f) UH a g f b o p
def TX a g f:=Yb a g f Az
def ZY(j27:Int->LB->Int->Int->Int->LB->Ed)(g:LB)(f y a:Int):Ed:=
(Tf g f).bind λac=>
if(Ch ac 0)then
some (([]:LB),0,8)
else
if(((Cp y 0)||(Fv y a))||(Fv a f))then
some (([]:LB),0,2)
else
j27 a g f y 0 ([]:LB)
def ZP:=ZY TX
def cM(a b:Int)(f g:UInt64):Option Int:=
if(!((geq (Gv (cD a 0) 24) a)&&((geq (Gv (cD b 0) 24) b)&&((geq (Gv f 68719476735) f)&&((geq (Gv g 68719476735) g)&&true)))))then
some 8
else
some 0
def QY:=cM
def HT(j4:Int->Int->UInt64->UInt64->Option Int)(a b:Int)(f g:UInt64):Option Int:=
(
(
j4 a b f g))
def SA:=HT QY
def HY(j3:Int->Int->UInt64->UInt64->Option Int)(a b:Int)(f g:UInt64):Option Int:=
(
(
j3 a b f g))
def VQ:=HY SA
def EL(g:LB)(b f a:Int):Option (UInt64×Int):=
(Tf g b).bind λh=>
if(Ch h 0)then
some (0,8)
else
if(((Cp a 0)||(Fv a 64))||(Cp f 0))then
some (0,2)
else
if(Fv f (Am b a))then
some (0,24)
else
(gP g b f a).bind λk=>
some (k,0)
def Fh(a:UInt64):Option Int:=
if(geq a 0)then
some 64
else
(Aj ([(0:UInt8),(1:UInt8),(56:UInt8),(2:UInt8),(57:UInt8),(49:UInt8),(28:UInt8),(3:UInt8),(61:UInt8),(58:UInt8),(42:UInt8),(50:UInt8),(38:UInt8),(29:UInt8),(17:UInt8),(4:UInt8),(62:UInt8),(47:UInt8),(59:UInt8),(36:UInt8),(45:UInt8),(43:UInt8),(51:UInt8),(22:UInt8),(53:UInt8),(39:UInt8),(33:UInt8),(30:UInt8),(24:UInt8),(18:UInt8),(12:UInt8),(5:UInt8),(63:UInt8),(55:UInt8),(48:UInt8),(27:UInt8),(60:UInt8),(41:UInt8),(37:UInt8),(16:UInt8),(46:UInt8),(35:UInt8),(44:UInt8),(21:UInt8),(52:UInt8),(32:UInt8),(23:UInt8),(11:UInt8),(54:UInt8),(26:UInt8),(40:UInt8),(15:UInt8),(34:UInt8),(20:UInt8),(31:UInt8),(10:UInt8),(25:UInt8),(14:UInt8),(19:UInt8),(9:UInt8),(13:UInt8),(8:UInt8),(7:UInt8),(6:UInt8)]:LB) (GI.toZ (Cr (Be (Hk a (fH a)) 285870213051353865) (GI.toZ (58:UInt64)).toNat))).bind λb=>
some (Ad b:Int)
abbrev Hp:=Option (Int×Int×Int)
def oH:Hp:=
some (0,0,24)
def ZB:=oH
def dA(j10:Hp):Hp:=
j10
def cN:=dA ZB
def RH(j9:Hp)(f a:Int):Hp:=
if(geq f 48)then
some (f,(Ae 0 (Ae a f)),0)
else
j9
def RO:=RH cN
def RK(j8:Int->Int->Hp)(f b a:Int):Hp:=
if(Cp f (Gv 48 (Am b a)))then
some (f,(Ae (Ae (0:Int) (1:Int)) (Ae a f)),0)
else
j8 f a
def RU:=RK RO
def RQ(j7:Int->Int->Int->Hp)(h:Int)(k:UInt64)(a:Int)(g:LB)(b:Int):Hp:=
if(Ch h 0)then
some (0,0,h)
else
(Fh (pN k)).bind λf=>
j7 f b a
def RF:=RQ RU
def Zw(j6:Int->UInt64->Int->LB->Int->Hp)(g:LB)(b a:Int):Hp:=
(Tf g b).bind λm=>
if(Ch m 0)then
some (0,0,m)
else
if(Cp a 0)then
some (0,0,2)
else
if(Ts a b)then
some (0,0,24)
else
(
(
(EL g b a (Gv 48 (Am b a))).bind λ(k,h)=>
j6 h k a g b))
def HD:=Zw RF
def WA(b:UInt32)(a:Int):Option Bool:=
(Rj (Ts a 0)).bind λ_=>
some (Ts (Cr b (GI.toZ a).toNat) 48)
abbrev aA:=Option (UInt32×Int×Int)
def UX(a b f:Int)(g:LB)(h k:Int):aA:=
(EL g h b k).bind λ(m,n)=>
if(Ch n 0)then
some (0,0,n)
else
if(Cp f 48)then
(Rj (Ts a 0)).bind λ_=>
some ((rD (Ej (Ad f:UInt32) (GI.toZ a).toNat) (Ad m:UInt32)),(Ae b k),0)
else
(WA (Ad m:UInt32) a).bind λu=>
if(!u)then
some (0,0,12)
else
some ((Ad m:UInt32),(Ae b k),0)
def MH:=UX
def VG(j2:Int->Int->Int->LB->Int->Int->aA)(g:LB)(h v a:Int):aA:=
(Tf g h).bind λo=>
if(Ch o 0)then
some (0,0,o)
else
if((Cp a 0)||(Fv a 24))then
some (0,0,2)
else
(HD g h v).bind λ(f,b,p)=>
if(Ch p 0)then
some (0,0,p)
else
if(geq f 48)then
j2 a b f g h 32
else
j2 a b f g h a
def bO:=VG MH
def VD(a f:Int)(g h:UInt64)(b:UInt32):Option (Int×UInt32):=
(Rj (Ts a 0)).bind λ_=>
if(geq (Cr b (GI.toZ a).toNat) 0)then
some (0,b)
else
(Rj (Ts a 0)).bind λ_=>
some (1,(Am b (Ej (1:UInt32) (GI.toZ a).toNat)))
abbrev Jn:=Option (UInt32×Int×Int×Int×UInt64×UInt64×Int)
def cL(f:UInt32)(k w m:Int)(a n:UInt64):Jn:=
some (f,k,w,m,(Ae a (Am (Ad f:UInt64) (Cr a (GI.toZ (4:UInt64)).toNat))),n,0)
def RI:=cL
def VU(j10:UInt32->Int->Int->Int->UInt64->UInt64->Jn)(f:UInt32)(k m:Int)(a n:UInt64)(w:Int):Jn:=
j10 f k w m a n
def TZ:=VU RI
def WE(j9:UInt32->Int->Int->UInt64->UInt64->Int->Jn)(f:UInt32)(k b:Int)(a:UInt64)(m:Int)(n:UInt64):Jn:=
if(Fv b 0)then
(Rj (Ts b 0)).bind λ_=>
if(Cp (Ae a (Am (Ad f:UInt64) (Cr a (GI.toZ (4:UInt64)).toNat))) (Ej (16:UInt64) (GI.toZ b).toNat))then
j9 f k m a n (Am b 1)
else
if(Cp b 24)then
(Rj (Ts b 0)).bind λ_=>
if(Fv (Ae a (Am (Ad f:UInt64) (Cr a (GI.toZ (4:UInt64)).toNat))) (Ej (32:UInt64) (GI.toZ b).toNat))then
j9 f k m a n (Ae b 1)
else
j9 f k m a n b
else
j9 f k m a n b
else
if(Cp b 24)then
(Rj (Ts b 0)).bind λ_=>
if(Fv (Ae a (Am (Ad f:UInt64) (Cr a (GI.toZ (4:UInt64)).toNat))) (Ej (32:UInt64) (GI.toZ b).toNat))then
j9 f k m a n (Ae b 1)
else
j9 f k m a n b
else
j9 f k m a n b
def EY:=WE TZ
def UI(j8:UInt32->Int->Int->UInt64->Int->UInt64->Jn)(b h:Int)(a g:UInt64)(f:UInt32)(k:Int):Jn:=
(VD b h a g f).bind λ(ad,o)=>
if(geq ad 1)then
if(Fv h 0)then
(Rj (Ts h 0)).bind λ_=>
if(Cp (Ae g (Am (Ad o:UInt64) (Cr g (GI.toZ (4:UInt64)).toNat))) (Ej (16:UInt64) (GI.toZ h).toNat))then
j8 f k b a (Am h 1) (Ae g (Am (Ad o:UInt64) (Cr g (GI.toZ (4:UInt64)).toNat)))
else
if(Cp h 24)then
(Rj (Ts h 0)).bind λ_=>
if(Fv (Ae g (Am (Ad o:UInt64) (Cr g (GI.toZ (4:UInt64)).toNat))) (Ej (32:UInt64) (GI.toZ h).toNat))then
j8 f k b a (Ae h 1) (Ae g (Am (Ad o:UInt64) (Cr g (GI.toZ (4:UInt64)).toNat)))
else
j8 f k b a h (Ae g (Am (Ad o:UInt64) (Cr g (GI.toZ (4:UInt64)).toNat)))
else
j8 f k b a h (Ae g (Am (Ad o:UInt64) (Cr g (GI.toZ (4:UInt64)).toNat)))
else
if(Cp h 24)then
(Rj (Ts h 0)).bind λ_=>
if(Fv (Ae g (Am (Ad o:UInt64) (Cr g (GI.toZ (4:UInt64)).toNat))) (Ej (32:UInt64) (GI.toZ h).toNat))then
j8 f k b a (Ae h 1) (Ae g (Am (Ad o:UInt64) (Cr g (GI.toZ (4:UInt64)).toNat)))
else
j8 f k b a h (Ae g (Am (Ad o:UInt64) (Cr g (GI.toZ (4:UInt64)).toNat)))
else
j8 f k b a h (Ae g (Am (Ad o:UInt64) (Cr g (GI.toZ (4:UInt64)).toNat)))
else
j8 f k b a h g
def LZ:=UI EY
def UL(j7:Int->Int->UInt64->UInt64->UInt32->Int->Jn)(p:Int)(u:LB)(v b h:Int)(a g:UInt64):Jn:=
(EL u v p 1).bind λ(ae,aa)=>
if(Ch aa 0)then
some (0,0,0,0,0,0,aa)
else
if(geq ae 0)then
(EL u v (Ae p 1) b).bind λ(af,ab)=>
if(Ch ab 0)then
some (0,0,0,0,0,0,ab)
else
j7 b h a g (Ad af:UInt32) (Ae (Ae p 1) b)
else
(bO u v (Ae p 1) h).bind λ(y,ag,ac)=>
if(Ch ac 0)then
some (0,0,0,0,0,0,ac)
else
(Rj (Ts b 0)).bind λ_=>
if(Cp (Ae y (Ej (1:UInt32) (GI.toZ b).toNat)) y)then
some (0,0,0,0,0,0,12)
else
j7 b h a g (Ae y (Ej (1:UInt32) (GI.toZ b).toNat)) ag
def WH:=UL LZ
def WM(j6:Int->LB->Int->Int->Int->UInt64->UInt64->Jn)(u:LB)(v p b h:Int)(a g:UInt64):Jn:=
(Tf u v).bind λah=>
if(Ch ah 0)then
some (0,0,0,0,0,0,8)
else
(VQ b h a g).bind λai=>
if(Ch ai 0)then
some (0,0,0,0,0,0,8)
else
j6 p u v b h a g
def GY:=WM WH
abbrev Bn:=Option (LU×Int×Int)
def dZ(k:Int)(m:LU):Bn:=
some (m,k,0)
def OZ:=dZ
def OW(Ln:Int->Int-> (List (Int×Int×UInt64×UInt64×Unit))->LU->Bn)(a f:Int)(g:LB)(b k v:Int)(w:UInt32)(h:Int)(ag:List (Int×Int×UInt64×UInt64×Unit))(m:LU):Bn:=
(Cu m ([w]:LU)).bind λak=>
Ln (Ae k v) (Ae h 1) ag ak
def AK Ln:=OW Ln
def Rz(j22:Int->Int->UInt32->Int-> (List (Int×Int×UInt64×UInt64×Unit))->LU->Bn)(a f:Int)(g:LB)(b k h y:Int)(w:UInt32)(v:Int)(n:List (Int×Int×UInt64×UInt64×Unit))(m:LU)(aa ab:Int)(ac ad:UInt64):Bn:=
if(Ch y 0)then
some (([]:LU),0,y)
else
(Rj (Ch a 0)).bind λ_=>
(Aj n (Is h a)).bind λ_=>
(Pd n (Is h a) (aa,ab,ac,ad,())).bind λag=>
j22 k v w h ag m
def Sd Ln a f g b:=Rz (AK Ln a f g b) a f g b
def Ti(j21:Int->Int->Int->UInt32->Int-> (List (Int×Int×UInt64×UInt64×Unit))->LU->Int->Int->UInt64->UInt64->Bn)(j24:Int->LU->Bn)(a f:Int)(g:LB)(b k h:Int)(n:List (Int×Int×UInt64×UInt64×Unit))(m:LU):Bn:=
if(Cp h (Be f a))then
(ZP g b k (Gv (Ae k 81) b)).bind λ(ah,ae,af)=>
if(Ch af 0)then
some (([]:LU),0,af)
else
(Rj (Ch a 0)).bind λ_=>
(Aj n (Is h a)).bind λ_=>
(
(
(Aj n (Is h a)).bind λp=>
(
(GY ah ae 0 p.1 p.2.1 p.2.2.1 p.2.2.2.1).bind λ(w,v,aa,ab,ac,ad,y)=>
j21 k h y w v n m aa ab ac ad)))
else
j24 k m
def Lp(a f:Int)(g:LB)(b:Int):Nat->Int->Int-> (List (Int×Int×UInt64×UInt64×Unit))->LU->Bn
|0,_,_,_,_=>none
|q+1,k,h,n,m=>Ti (Sd (Lp a f g b q) a f g b) OZ a f g b k h n m
def PQ a f g b:=Lp a f g b Az
def MW(j16:Int->Int->LB->Int->Int->Int-> (List (Int×Int×UInt64×UInt64×Unit))->LU->Bn)(a f:Int)(g:LB)(b:Int)(o:List (Int×Int×UInt64×UInt64×Unit)):Bn:=
j16 a f g b 0 0 o ([]:LU)
def AJ:=MW PQ
def NC(j15:Int->Int->LB->Int-> (List (Int×Int×UInt64×UInt64×Unit))->Bn)(Ac2:Int-> (List (Int×Int×UInt64×UInt64×Unit))->Bn)(a f:Int)(g:LB)(b u:Int)(o:List (Int×Int×UInt64×UInt64×Unit)):Bn:=
if(Cp u 6)then
(rA).bind λ(al,ae,af,am)=>
(Aj o u).bind λ_=>
(Pd o u (al,ae,af,am,())).bind λan=>
Ac2 (Ae u 1) an
else
j15 a f g b o
def AM(a f:Int)(g:LB)(b:Int):Nat->Int-> (List (Int×Int×UInt64×UInt64×Unit))->Bn
|0,_,_=>none
|q+1,u,o=>NC AJ (AM a f g b q) a f g b u o
def Tj a f g b:=AM a f g b Az
def DV(j13:Int->Int->LB->Int->Int-> (List (Int×Int×UInt64×UInt64×Unit))->Bn)(a f:Int)(g:LB)(b:Int):Bn:=
j13 a f g b 0 (List.replicate 6 ((0:Int),(0:Int),(0:UInt64),(0:UInt64),()))
def DX:=DV Tj
abbrev dQ:=Option (Int×LX×LX×Int)
def E0(a:Int)(b:LX)(f:Bool):dQ:=
if f then
some (10,b,(List.replicate 16 (0:Int32)),0)
else
if(geq a 16)then
some (9,b,(List.replicate 16 (0:Int32)),0)
else
some (0,(List.replicate 16 (0:Int32)),(List.replicate 16 (0:Int32)),2)
def kL:=E0
def kX(j2:Int->LX->Bool->dQ)(a:Int)(b:LX):dQ:=
if(geq a 8)then
j2 a b (geq a 8)
else
j2 a b (geq a 24)
def gI:=kX kL
def uK(a:Int)(f:LX):Option (Int×Int32×Int×LX×LX×Int):=
(gI a f).bind λ(g,h,k,b)=>
if(Ch b 0)then
some (0,0,0,(List.replicate 16 (0:Int32)),(List.replicate 16 (0:Int32)),b)
else
some (a,0,g,h,k,0)
def Yk(a:UInt32):Option Int32:=
some (Zx (Ad (Cr a (GI.toZ (1:UInt64)).toNat):Int32) (fH (Ad (Hk a 1):Int32)))
def IP(a:Int)(k:Int32)(b:Int)(f m:LX):Option Int:=
(gI a f).bind λ(g,n,o,h)=>
if((Ch h 0)||(Ch g b))then
some 8
else
some 0
def ZH(a:Int):Option (Int×Int):=
if(geq a 8)then
some (4,0)
else
if(geq a 16)then
if(geq a 16)then
some (5,0)
else
some (0,2)
else
if(geq a 24)then
some (5,0)
else
some (0,2)
def QB(a:Int)(b:Int32):Option Int32:=
(Rj (Ts a 0)).bind λ_=>
(Rj (Ts a 0)).bind λ_=>
some (Ad (wE (Am (Ej (Ad b:Int) (GI.toZ a).toNat) (Ad b:Int)) (GI.toZ a).toNat):Int32)
def IQ(b:Int)(f:Int32):Option (Int32×Int):=
(ZH b).bind λ(g,a)=>
if(Ch a 0)then
some (0,a)
else
(QB g f).bind λh=>
some (h,0)
def HB(a:Int)(b f:LX):Option Int:=
if((Ch a 9)&&(Ch a 10))then
some 8
else
some 0
abbrev Td:=Option (Int32×Int)
def dB(g:Int32)(a:Int)(b f:LX):Td:=
(Rj (Ts a 0)).bind λ_=>
some ((Cr g (GI.toZ a).toNat),0)
def RG:=dB
def HW(j6:Int32->Int->LX->LX->Td)(On:Int32->Int->Td)(b:LX)(a:Int)(f:LX)(g:Int32)(h:Int):Td:=
if(Cp h 16)then
(Aj b h).bind λm=>
(Aj f h).bind λ_=>
(Aj f h).bind λn=>
On (Ae g (Be m n)) (Ae h 1)
else
j6 g a b f
def Ua(b:LX)(a:Int)(f:LX):Nat->Int32->Int->Td
|0,_,_=>none
|q+1,g,h=>HW RG (Ua b a f q) b a f g h
def RN b a f:=Ua b a f Az
def RD(j4:LX->Int->LX->Int32->Int->Td)(a:Int)(b f:LX):Td:=
(HB a b f).bind λk=>
if(Ch k 0)then
some (0,k)
else
(Rj (Ts (Am a 1) 0)).bind λ_=>
j4 b a f (Ej (1:Int32) (GI.toZ (Am a 1)).toNat) 0
def UY:=RD RN
def SP(a:Int):Option Int32:=
if(geq a 0)then
some 4
else
if(Cp a 4)then
some 2
else
some 1
abbrev Rm:=Option (Int×LX×LX×Int)
def rO(g:Int)(b f:LX):Rm:=
some (g,b,f,0)
def cU:=rO
def HX(j6:Int->LX->LX->Rm)(On:Int->LX->Rm)(h:Int32)(f:LX)(g a:Int)(b:LX):Rm:=
if(Cp a 16)then
(Aj f a).bind λm=>
if(geq m 0)then
On (Ae a 1) b
else
if((Cp m 0)==(Cp h 0))then
(Aj b a).bind λ_=>
(Aj b a).bind λo=>
(SP a).bind λp=>
(Aj b a).bind λ_=>
(Pd b a (Ae o p)).bind λu=>
On (Ae a 1) u
else
(Aj b a).bind λ_=>
(Aj b a).bind λv=>
(SP a).bind λw=>
(Aj b a).bind λ_=>
(Pd b a (Am v w)).bind λy=>
On (Ae a 1) y
else
j6 g b f
def Tu(h:Int32)(f:LX)(g:Int):Nat->Int->LX->Rm
|0,_,_=>none
|q+1,a,b=>HX cU (Tu h f g q) h f g a b
def cR h f g:=Tu h f g Az
def RT(j4:Int32->LX->Int->Int->LX->Rm)(g:Int)(k f:LX)(h:Int32):Rm:=
(HB g k f).bind λn=>
if(Ch n 0)then
some (0,(List.replicate 16 (0:Int32)),(List.replicate 16 (0:Int32)),n)
else
if(geq h 0)then
some (g,k,f,0)
else
j4 h f g 0 k
def WQ:=RT cR
abbrev aK:=Option (Int×LX×LX×Int)
def fG(g:Int32)(b:Int)(f a:LX):aK:=
(Aj (Ud a 1 ((16:Int)-(1:Int)) (TE a 0 ((16:Int)-(0:Int)))) 0).bind λ_=>
(Pd (Ud a 1 ((16:Int)-(1:Int)) (TE a 0 ((16:Int)-(0:Int)))) 0 g).bind λk=>
some (b,f,k,0)
def VH:=fG
def MC(j2:Int32->Int->LX->LX->aK)(b:Int)(f a:LX)(g:Int32):aK:=
(HB b f a).bind λh=>
if(Ch h 0)then
some (0,(List.replicate 16 (0:Int32)),(List.replicate 16 (0:Int32)),h)
else
(
(eX 16 1 16).bind λ_=>
(eX 16 0 16).bind λ_=>
j2 g b f a)
def bY:=MC VH
def dM(a:Int)(b f:LX)(g h:Int32):Option (Int×LX×LX):=
(WQ a b f h).bind λ(k,m,n,v)=>
(bY k m n g).bind λ(o,p,u,w)=>
some (o,p,u)
def aS(b:Int)(f g:LX)(a:Int32):Option (Int32×Int×LX×LX×Int):=
(UY b f g).bind λ(h,k)=>
if(Ch k 0)then
some (0,0,(List.replicate 16 (0:Int32)),(List.replicate 16 (0:Int32)),k)
else
(dM b f g (Ae a h) a).bind λ(m,n,o)=>
some ((Ae a h),m,n,o,0)
def Kl(a:Int)(b:Int32)(f:Int)(g h:LX)(o:Int32):Option (Int32×Int×Int32×Int×LX×LX×Int):=
(IP a b f g h).bind λk=>
if(Ch k 0)then
some (0,0,0,0,(List.replicate 16 (0:Int32)),(List.replicate 16 (0:Int32)),k)
else
(IQ a b).bind λ(m,y)=>
(aS f g h o).bind λ(n,p,u,v,w)=>
(
some ((Ae n m),a,(Ae n m),p,u,v,w))
def bQ(a:Int)(b:LX):Option Int:=
if((Cp a 1)||(Fv a 6))then
some 2
else
if(Fv (Ac b) 4000)then
some 4
else
(Rj (Ch a 0)).bind λ_=>
if(Ch (Is (Ac b) a) 0)then
some 2
else
some 0
def Ge(a:LX):Option (LX):=
(
(Cu ([]:LX) a).bind λb=>
some b)
abbrev Fl:=Option (LX×Int)
def vI(f:LX):Fl:=
some (f,0)
def fJ:=vI
def gC(rQ:Int->LX->Fl)(b a:Int)(h:LX):Fl:=
rQ (Ae a b) h
def VC rQ:=gC rQ
def LV(j20:Int->LX->Fl)(rR:Int->LX->Fl)(b a g:Int)(h:LX):Fl:=
if(Ts g 0)then
(Rj (decide (0<= (Ae g 1)/\ (Ae g 1)<((Ae a b)-a)))).bind λ_=>
(Rj (decide (0<=g/\g<((Ae a b)-a)))).bind λ_=>
(Aj h (a+(Ae g 1))).bind λo=>
(Aj h (a+g)).bind λp=>
(Rj (decide (0<=g/\g<((Ae a b)-a)))).bind λ_=>
(Pd h (a+g) (Am o p)).bind λu=>
rR (Am g 1) u
else
j20 a h
def Yi(rQ:Int->LX->Fl)(b a:Int):Nat->Int->LX->Fl
|0,_,_=>none
|q+1,g,h=>LV (VC rQ b) (Yi rQ b a q) b a g h
def UG rQ b a:=Yi rQ b a Az
def TY(j18:Int->Int->LX->Fl)(b a:Int)(k:LX):Fl:=
j18 a (Am (Am ((Ae a b)-a) 1) 1) k
def MG rQ b:=TY (UG rQ b) b
def UD(j17:Int->LX->Fl)(j22:LX->Fl)(b a:Int)(f:LX):Fl:=
if(Cp a (Ac f))then
(eX (Ac f) a (Ae a b)).bind λ_=>
if(Fv (Am ((Ae a b)-a) 1) 0)then
(Rj (decide (0<= (Am ((Ae a b)-a) 1)/\ (Am ((Ae a b)-a) 1)<((Ae a b)-a)))).bind λ_=>
Option.bind (Rj (decide (0<= (Am (Am ((Ae a b)-a) 1) 1)/\ (Am (Am ((Ae a b)-a) 1) 1)<((Ae a b)-a)))) λ_=>
(Aj f (a+(Am ((Ae a b)-a) 1))).bind λv=>
(Aj f (a+(Am (Am ((Ae a b)-a) 1) 1))).bind λw=>
(Rj (decide (0<= (Am ((Ae a b)-a) 1)/\ (Am ((Ae a b)-a) 1)<((Ae a b)-a)))).bind λ_=>
(Pd f (a+(Am ((Ae a b)-a) 1)) (Ae v (Cg w 2))).bind λy=>
j17 a y
else
j17 a f
else
j22 f
def Sg(b:Int):Nat->Int->LX->Fl
|0,_,_=>none
|q+1,a,f=>UD (MG (Sg b q) b) fJ b a f
def VI b:=Sg b Az
def aV(j12:Int->Int->LX->Fl)(b:Int)(m:LX):Fl:=
(bQ b m).bind λn=>
if(Ch n 0)then
some (([]:LX),n)
else
(Ge m).bind λaa=>
j12 b 0 aa
def fS:=aV VI
def qH:Option Int:=
some 0
def ZZ:=qH
def CW(j6:Option Int)(On:Int->Option Int)(b f:Int32)(a:LX)(g:Int):Option Int:=
if(Cp g (Ac a))then
(Aj a g).bind λh=>
if((Cp h b)||(Fv h f))then
some 16
else
On (Ae g 1)
else
j6
def Qj(b f:Int32)(a:LX):Nat->Int->Option Int
|0,_=>none
|q+1,g=>CW ZZ (Qj b f a q) b f a g
def YE b f a:=Qj b f a Az
def OQ(j4:Int32->Int32->LX->Int->Option Int)(m:Int)(a:LX):Option Int:=
(Rl m).bind λ(b,f,k)=>
if(Ch k 0)then
some k
else
if(Fv (Ac a) 4000)then
some 4
else
j4 b f a 0
def BR:=OQ YE
abbrev Br:=Option (LX×Int)
def KR(a b:Int)(k:LX):Br:=
(fS a k).bind λ(ah,af)=>
if(Ch af 0)then
some (([]:LX),af)
else
(BR b ah).bind λae=>
if(Ch ae 0)then
some (([]:LX),ae)
else
some (ah,0)
def Kr:=KR
def KW(Ac2:Int-> (List (Int×Int32×(Int×LX×LX×Unit)×Unit))->LX->Br)(a:Int)(f:LU)(b g:Int)(w:Int32)(u:Int)(h:List (Int×Int32×(Int×LX×LX×Unit)×Unit))(k:LX)(y:Int)(v:Int32)(aa:Int)(ab ac:LX):Br:=
if(Ch u 0)then
some (([]:LX),u)
else
(Pd h (Is g a) (y,v,(aa,ab,ac,()),())).bind λai=>
(Cu k ([w]:LX)).bind λaj=>
Ac2 (Ae g 1) ai aj
def Zf Ac2:=KW Ac2
def Kq(j16:Int->Int32->Int-> (List (Int×Int32×(Int×LX×LX×Unit)×Unit))->LX->Int->Int32->Int->LX->LX->Br)(j18:Int->Int->LX->Br)(f:LU)(a b g:Int)(h:List (Int×Int32×(Int×LX×LX×Unit)×Unit))(k:LX):Br:=
if(Cp g (Ac f))then
(Aj f g).bind λag=>
(Rj (Ch a 0)).bind λ_=>
(Aj h (Is g a)).bind λ_=>
(
(Aj h (Is g a)).bind λm=>
(
(Yk ag).bind λae=>
(
(Kl m.1 m.2.1 m.2.2.1.1 m.2.2.1.2.1 m.2.2.1.2.2.1 ae).bind λ(w,y,v,aa,ab,ac,u)=>
j16 g w u h k y v aa ab ac)))
else
j18 a b k
def Hz(f:LU)(a b:Int):Nat->Int-> (List (Int×Int32×(Int×LX×LX×Unit)×Unit))->LX->Br
|0,_,_,_=>none
|q+1,g,h,k=>Kq (Zf (Hz f a b q) a f b) Kr f a b g h k
def LK f a b:=Hz f a b Az
def LA(j13:LU->Int->Int->Int-> (List (Int×Int32×(Int×LX×LX×Unit)×Unit))->LX->Br)(f:LU)(a b:Int)(n:List (Int×Int32×(Int×LX×LX×Unit)×Unit)):Br:=
j13 f a b 0 n ([]:LX)
def Zn:=LA LK
def LH(j12:LU->Int->Int-> (List (Int×Int32×(Int×LX×LX×Unit)×Unit))->Br)(Ac3:Int-> (List (Int×Int32×(Int×LX×LX×Unit)×Unit))->Br)(f:LU)(a b:Int)(o:LX)(p:Int)(n:List (Int×Int32×(Int×LX×LX×Unit)×Unit)):Br:=
if(Cp p 6)then
(uK b o).bind λ(ak,af,ae,al,am,v)=>
(Aj n p).bind λ_=>
(Pd n p (ak,af,(ae,al,am,()),())).bind λan=>
Ac3 (Ae p 1) an
else
j12 f a b n
def Zl(f:LU)(a b:Int)(o:LX):Nat->Int-> (List (Int×Int32×(Int×LX×LX×Unit)×Unit))->Br
|0,_,_=>none
|q+1,p,n=>LH Zn (Zl f a b o q) f a b o p n
def Pr f a b o:=Zl f a b o Az
def AX(j10:LU->Int->Int->LX->Int-> (List (Int×Int32×(Int×LX×LX×Unit)×Unit))->Br)(a b:Int)(o:LX)(f:LU):Br:=
j10 f a b o 0 (List.replicate 6 ((0:Int),(0:Int32),((0:Int),(List.replicate 16 (0:Int32)),(List.replicate 16 (0:Int32)),()),()))
def Tr:=AX Pr
def Wb(a h:Int)(u:LX)(f:Int)(v:LB):Option (LX×Int):=
(Gi a h).bind λk=>
if(Ch k 0)then
some (([]:LX),k)
else
if(Cp f 1)then
some (([]:LX),2)
else
(Rj (Ch a 0)).bind λ_=>
if(Fv f (Cg 4000 a))then
some (([]:LX),2)
else
(EA v).bind λ(w,m)=>
if(Ch m 0)then
some (([]:LX),m)
else
(wO w).bind λ(n,b,o)=>
if(Ch o 0)then
some (([]:LX),o)
else
(DX a f n b).bind λ(y,g,p)=>
if(Ch p 0)then
some (([]:LX),p)
else
if(Ts (Am b g) 8)then
some (([]:LX),12)
else
(EL n b g (Am b g)).bind λ(aa,ab)=>
if((Ch ab 0)||(Ch aa 0))then
some (([]:LX),12)
else
(Tr a h u y).bind λ(ac,ad)=>
some (ac,ad)
abbrev eQ:=Option (Int×Int)
def kY(a:LB):eQ:=
(Bv a (Am (Ac a) 32) (Ac a)).bind λg=>
(MN g 0).bind λ(f,y,h)=>
if h then
if(Cp (Am (Ac a) 32) f)then
some (0,24)
else
some ((Ae f 32),0)
else
(Bv a (Am (Ac a) 32) (Ac a)).bind λk=>
(MN k 2147483648).bind λ(b,m,n)=>
if(!n)then
some (0,12)
else
if(Cp (Ac a) (Ae b 64))then
some (0,24)
else
(Bv a (Am (Ac a) (Ae b 64)) (Ae (Am (Ac a) (Ae b 64)) 32)).bind λo=>
(bH b m 2684354560).bind λp=>
(Hi o p).bind λu=>
if(!u)then
some (0,12)
else
some ((Ae b 64),0)
def XV:=kY
def ZQ(j2:LB->eQ)(a:LB):eQ:=
if(Cp (Am (Ac a) 32) 0)then
some (0,6)
else
(Bv a (Am (Ac a) 32) (Ac a)).bind λv=>
(Kk v ([(65:UInt8),(80:UInt8),(69:UInt8),(84:UInt8),(65:UInt8),(71:UInt8),(69:UInt8),(88:UInt8)]:LB)).bind λw=>
if(!w)then
some (0,6)
else
j2 a
def fM:=ZQ XV
abbrev Eu:=Option (Int×Int)
def jI(a:Int):Eu:=
some (a,0)
def TM:=jI
def TR(bk8:Int->LB->Eu)(a:Int)(g:LB):Eu:=
bk8 (Ae a 1) g
def HM bk8:=TR bk8
def HL(j12:Int->LB->Eu)(a f:Int)(b:LB):Eu:=
if(geq f 0)then
some (0,38)
else
(Bv b 0 (Am (Ac b) f)).bind λg=>
j12 a g
def GZ bk8:=HL (HM bk8)
def KN(j11:Int->Int->LB->Eu)(j14:Int->Eu)(a:Int)(b:LB):Eu:=
if(Fv (Ac b) 0)then
(fM b).bind λ(f,k)=>
j11 a f b
else
j14 a
def Tq:Nat->Int->LB->Eu
|0,_,_=>none
|q+1,a,b=>KN (GZ (Tq q)) TM a b
def WY:=Tq Az
def KL(j8:Int->LB->Eu)(h:LB):Eu:=
if(Fv (Ac h) 4000)then
some (0,38)
else
j8 0 h
def LY:=KL WY
abbrev Bl:=Option (Int×Int×Int×LX×Int)
def XX(a:LB)(aa b f h:Int)(ad:LX):Bl:=
(Bv a aa (Ac a)).bind λaq=>
(LY aq).bind λ(bb,ar)=>
if(Ch ar 0)then
some (0,0,0,([]:LX),38)
else
some (b,f,h,ad,0)
def NV:=XX
def YY(P0:Int->Int->LX->Bl)(a:LB)(w:LI)(m b f h o p n g y ab:Int)(ac:LX)(k:LI)(aa aj ak ae:Int)(am ad:LX):Bl:=
if(Ch ak 0)then
some (0,0,0,([]:LX),ak)
else
(Cu ad am).bind λau=>
P0 (Ae aa aj) (Ae ae 1) au
def NU P0:=YY P0
def EM(j24:Int->Int->Int->Int->LX->LX->Bl)(j26:LB->Int->Int->Int->Int->LX->Bl)(a:LB)(w:LI)(m b f h o p n g y ab:Int)(ac:LX)(k:LI)(aa ae:Int)(ad:LX):Bl:=
if(Cp ae (Ac w))then
(Aj w ae).bind λ_=>
(Aj w ae).bind λaj=>
if(Cp (Ac a) (Ae aa aj))then
some (0,0,0,([]:LX),24)
else
(Aj k ae).bind λ_=>
(Bv a aa (Ae aa aj)).bind λav=>
(Aj k ae).bind λaw=>
(Wb b f ac aw av).bind λ(am,ak)=>
j24 aa aj ak ae am ad
else
j26 a aa b f h ad
def Ql(a:LB)(w:LI)(m b f h o p n g y ab:Int)(ac:LX)(k:LI):Nat->Int->Int->LX->Bl
|0,_,_,_=>none
|q+1,aa,ae,ad=>EM (NU (Ql a w m b f h o p n g y ab ac k q) a w m b f h o p n g y ab ac k) NV a w m b f h o p n g y ab ac k aa ae ad
def ZA a w m b f h o p n g y ab ac k:=Ql a w m b f h o p n g y ab ac k Az
def EB(j21:LB->LI->Int->Int->Int->Int->Int->Int->Int->Int->Int->Int->LX->LI->Int->Int->LX->Bl)(a u:LB)(m b f h o p n g:Int)(k:LI)(an y ab:Int)(w:LI):Bl:=
if(Ch an 0)then
some (0,0,0,([]:LX),an)
else
(bX u).bind λ(ac,bc)=>
j21 a w m b f h o p n g y ab ac k y 0 ([]:LX)
def Lt:=EB ZA
def ND(j20:LB->LB->Int->Int->Int->Int->Int->Int->Int->Int->LI->Int->Int->Int->LI->Bl)(a u:LB)(v:LI)(m b f h o p n g af:Int)(k:LI):Bl:=
j20 a u m b f h o p n g k 0 (Ae (Ae g (Be 4 (Ac v))) 4) af v
def DL:=ND Lt
def DP(j19:LB->LB->LI->Int->Int->Int->Int->Int->Int->Int->Int->Int->LI->Bl)(Am5:Int->Int->Bl)(v:LI)(a u:LB)(m b f h o p n g:Int)(k:LI)(ag af:Int):Bl:=
if(Cp ag (Ac v))then
(Aj v ag).bind λ_=>
(Aj v ag).bind λax=>
Am5 (Ae ag 1) (Ae af ax)
else
j19 a u v m b f h o p n g af k
def Qf(v:LI)(a u:LB)(m b f h o p n g:Int)(k:LI):Nat->Int->Int->Bl
|0,_,_=>none
|q+1,ag,af=>DP DL (Qf v a u m b f h o p n g k q) v a u m b f h o p n g k ag af
def MV v a u m b f h o p n g k:=Qf v a u m b f h o p n g k Az
def CY(j20:LB->LB->Int->Int->Int->Int->Int->Int->Int->Int->LI->Int->Int->Int->LI->Bl)(j17:LI->LB->LB->Int->Int->Int->Int->Int->Int->Int->Int->LI->Int->Int->Bl)(al:Int)(a u:LB)(m b f h o p n g ah ai:Int)(v k:LI):Bl:=
if(Ch al 0)then
j20 a u m b f h o p n g k al ah ai ([]:LI)
else
j17 v a u m b f h o p n g k 0 (Ae (Ae g (Be 4 (Ac v))) 4)
def CN:=CY Lt MV
def OL(j20:LB->LB->Int->Int->Int->Int->Int->Int->Int->Int->LI->Int->Int->Int->LI->Bl)(j16:Int->LB->LB->Int->Int->Int->Int->Int->Int->Int->Int->Int->Int->LI->LI->Bl)(a u:LB)(m b f h o p n g ah ai:Int)(k:LI):Bl:=
if(Cp (Ac a) g)then
j20 a u m b f h o p n g k 24 ah ai ([]:LI)
else
(Bv a g (Ac a)).bind λay=>
(OH ay (Ac k)).bind λ(v,al)=>
j16 al a u m b f h o p n g ah ai v k
def Xg:=OL Lt CN
def EI(j15:LB->LB->Int->Int->Int->Int->Int->Int->Int->Int->Int->Int->LI->Bl)(a u:LB)(m b f h o p n g ah ai:Int)(k:LI)(ao:Int):Bl:=
if(Ch ao 0)then
some (0,0,0,([]:LX),ao)
else
j15 a u m b f h o p n g ah ai k
def Qm:=EI Xg
def HS(j14:LB->LB->Int->Int->Int->Int->Int->Int->Int->Int->Int->Int->LI->Int->Bl)(a u:LB):Bl:=
if(Fv (Ac u) 64)then
some (0,0,0,([]:LX),2)
else
(XZ a).bind λ(m,b,f,h,o,p,n,g,ah,ai,k,ap)=>
if(Ch ap 0)then
some (0,0,0,([]:LX),ap)
else
if((u==([]:LB)) !=(geq m 1))then
j14 a u m b f h o p n g ah ai k 26
else
if(geq m 1)then
j14 a u m b f h o p n g ah ai k 0
else
if(Cp (Ac a) g)then
j14 a u m b f h o p n g ah ai k 24
else
(Bv a n g).bind λaz=>
(Ym az u).bind λ(ba,bd)=>
if(!ba)then
j14 a u m b f h o p n g ah ai k 26
else
j14 a u m b f h o p n g ah ai k 0
def Gt:=HS Qm
abbrev Et:=Option (Int×Int)
def XH(a:Int):Et:=
some (a,0)
def GH:=XH
def Mp(j6:Int->Et)(On:Int->Int->Et)(b:LB)(a f:Int):Et:=
if(Cp f 4)then
(Aj b f).bind λg=>
if(Ts g 128)then
some (0,12)
else
(Aj b f).bind λh=>
On (Ae (Be 128 a) (Ad h:Int)) (Ae f 1)
else
j6 a
def Gc(b:LB):Nat->Int->Int->Et
|0,_,_=>none
|q+1,a,f=>Mp GH (Gc b q) b a f
def Um b:=Gc b Az
def Uz(j4:LB->Int->Int->Et)(b:LB):Et:=
if(Ch (Ac b) 4)then
some (0,2)
else
j4 b 0 0
def Tc:=Uz Um
abbrev Fq:=Option (Int×Int)
def JF(a:LB)(g:Int):Fq:=
if(Fv g 4000)then
some (0,4)
else
if(Cp (Ac a) g)then
some (0,24)
else
(Aj a 5).bind λh=>
if(geq h 16)then
(Bv a (Am g 10) g).bind λk=>
(Bv a 3 10).bind λm=>
(Cu ([51,68,73]:LB) m).bind λn=>
if(k !=n)then
some (0,12)
else
some (g,0)
else
some (g,0)
def Nk:=JF
def Wh(j6:LB->Int->Fq)(a:LB)(b:Int):Fq:=
(Aj a 5).bind λo=>
if(geq o 16)then
j6 a (Ae (Ae 10 b) 10)
else
j6 a (Ae 10 b)
def Nr:=Wh Nk
def Ww(j5:LB->Int->Fq)(a:LB):Fq:=
if(Cp (Ac a) 10)then
some (0,24)
else
(Bv a 6 10).bind λp=>
(Tc p).bind λ(b,f)=>
(Aj a 3).bind λu=>
if(Cp u 2)then
if true then
if true then
if(true||(Ch f 0))then
some (0,12)
else
j5 a b
else
(Aj a 5).bind λv=>
if(Ch v 0)then
(Aj a 5).bind λw=>
if(Ch w 16)then
if(true||(Ch f 0))then
some (0,12)
else
j5 a b
else
(Aj a 3).bind λy=>
if((Ch y 4)||(Ch f 0))then
some (0,12)
else
j5 a b
else
if(false||(Ch f 0))then
some (0,12)
else
j5 a b
else
(Aj a 4).bind λaa=>
if(Ch aa 0)then
if(true||(Ch f 0))then
some (0,12)
else
j5 a b
else
(Aj a 5).bind λab=>
if(Ch ab 0)then
(Aj a 5).bind λac=>
if(Ch ac 16)then
if(true||(Ch f 0))then
some (0,12)
else
j5 a b
else
(Aj a 3).bind λad=>
if((Ch ad 4)||(Ch f 0))then
some (0,12)
else
j5 a b
else
if(false||(Ch f 0))then
some (0,12)
else
j5 a b
else
(Aj a 3).bind λae=>
if(Fv ae 4)then
if true then
if(true||(Ch f 0))then
some (0,12)
else
j5 a b
else
(Aj a 5).bind λaf=>
if(Ch af 0)then
(Aj a 5).bind λag=>
if(Ch ag 16)then
if(true||(Ch f 0))then
some (0,12)
else
j5 a b
else
(Aj a 3).bind λah=>
if((Ch ah 4)||(Ch f 0))then
some (0,12)
else
j5 a b
else
if(false||(Ch f 0))then
some (0,12)
else
j5 a b
else
(Aj a 4).bind λai=>
if(Ch ai 0)then
if(true||(Ch f 0))then
some (0,12)
else
j5 a b
else
(Aj a 5).bind λaj=>
if(Ch aj 0)then
(Aj a 5).bind λak=>
if(Ch ak 16)then
if(true||(Ch f 0))then
some (0,12)
else
j5 a b
else
(Aj a 3).bind λal=>
if((Ch al 4)||(Ch f 0))then
some (0,12)
else
j5 a b
else
if(false||(Ch f 0))then
some (0,12)
else
j5 a b
def Xy:=Ww Nr
def Wl(j4:LB->Fq)(a:LB):Fq:=
if(Cp (Ac a) 3)then
some (0,6)
else
(Bv a 0 3).bind λam=>
if(am !=([73,68,51]:LB))then
some (0,6)
else
j4 a
def Vm:=Wl Xy
def MZ(a:UInt64):Option UInt64:=
some a
def AS:=MZ
def Tk(j6:UInt64->Option UInt64)(On:UInt64->Int->Option UInt64)(b:LB)(a:UInt64)(f:Int):Option UInt64:=
if(Ts f 0)then
(Aj b f).bind λg=>
On (Ae (Be 256 a) (Ad g:UInt64)) (Am f 1)
else
j6 a
def Jc(b:LB):Nat->UInt64->Int->Option UInt64
|0,_,_=>none
|q+1,a,f=>Tk AS (Jc b q) b a f
def AP b:=Jc b Az
def AO(j4:LB->UInt64->Int->Option UInt64)(b:LB):Option UInt64:=
j4 b 0 (Am (Ac b) 1)
def Al:=AO AP
def Jo(b:LB):Option (Int×Int×Bool):=
(Bv b 12 16).bind λg=>
(Al g).bind λa=>
(Bv b 16 20).bind λh=>
(Al h).bind λf=>
if(((Cp a 32)||(Fv a 3032))||(Fv f 1000))then
some (0,0,false)
else
some ((Am (Ad a:Int) 32),(Ad f:Int),true)
def BS(a:LB):Option (LB):=
some a
def Qc:=BS
def Kc(j6:LB->Option (LB))(On:UInt64->Int->LB->Option (LB))(b:Int)(f:UInt64)(g:Int)(a:LB):Option (LB):=
if(Cp g b)then
(Cu a ([(Ad (CJ f 256):UInt8)]:LB)).bind λh=>
On (Cg f 256) (Ae g 1) h
else
j6 a
def Ek(b:Int):Nat->UInt64->Int->LB->Option (LB)
|0,_,_,_=>none
|q+1,f,g,a=>Kc Qc (Ek b q) b f g a
def Qo b:=Ek b Az
def Qy(j4:Int->UInt64->Int->LB->Option (LB))(k:UInt64)(b:Int):Option (LB):=
j4 b k 0 ([]:LB)
def Au:=Qy Qo
def Lj(a b:Int)(f:UInt64):Option (LB):=
(Au 2000 4).bind λg=>
(Cu ([(65:UInt8),(80:UInt8),(69:UInt8),(84:UInt8),(65:UInt8),(71:UInt8),(69:UInt8),(88:UInt8)]:LB) g).bind λh=>
(Au (Ad (Ae a 32):UInt64) 4).bind λk=>
(Cu h k).bind λm=>
(Au (Ad b:UInt64) 4).bind λn=>
(Cu m n).bind λo=>
(Au f 4).bind λp=>
(Cu o p).bind λu=>
(N8 (8:Int) (0:UInt8)).bind λv=>
(Cu u v).bind λw=>
some w
def Nw(a b:Int):Option (LB):=
(Lj a b 2684354560).bind λf=>
some f
def Dk(a b:Int)(f:Bool):Option (LB):=
if f then
(Lj a b 2147483648).bind λg=>
some g
else
(Lj a b 0).bind λh=>
some h
abbrev Jl:=Option (Int×Int)
def GB(a:LB)(b f:Int):Jl:=
if(Cp (Ac a) (Ae 64 b))then
some (0,24)
else
(Bv a (Am (Ae 64 b) 32) (Ae 64 b)).bind λg=>
(Dk b f true).bind λh=>
if(g !=h)then
some (0,12)
else
some ((Ae 64 b),0)
def Vi:=GB
def Un(j4:LB->Int->Int->Jl)(a:LB):Jl:=
if(Cp (Ac a) 32)then
some (0,24)
else
(Bv a 0 32).bind λk=>
(Jo k).bind λ(b,f,m)=>
if(!m)then
some (0,12)
else
(Bv a 0 32).bind λn=>
(Nw b f).bind λo=>
if(n !=o)then
some (0,12)
else
j4 a b f
def Uw:=Un Vi
def Ug(j3:LB->Jl)(a:LB):Jl:=
if(Cp (Ac a) 8)then
some (0,6)
else
(Bv a 0 8).bind λp=>
if(p !=([65,80,69,84,65,71,69,88]:LB))then
some (0,6)
else
j3 a
def Sf:=Ug Uw
abbrev Ew:=Option (LI×Int)
def GA(xH:Int->LI->Ew)(a:LB)(b:Int)(f:LI)(g h:Int):Ew:=
if(geq h 6)then
some (f,0)
else
if(Ch h 0)then
some (([]:LI),h)
else
if(Fv (Ae b g) 4000)then
some (([]:LI),4)
else
(Cu f ([g]:LI)).bind λm=>
xH (Ae b g) m
def Iu xH:=GA xH
def Ms(j9:Int->LI->Int->Int->Ew)(a:LB)(b:Int)(f:LI):Ew:=
(Bv a b (Ac a)).bind λn=>
(Vm n).bind λ(o,k)=>
if(geq k 6)then
(Bv a b (Ac a)).bind λp=>
(Sf p).bind λ(u,v)=>
j9 b f u v
else
j9 b f o k
def Ip(a:LB):Nat->Int->LI->Ew
|0,_,_=>none
|q+1,b,f=>Ms (Iu (Ip a q) a) a b f
def GJ a:=Ip a Az
def FQ(j6:LB->Int->LI->Ew)(a:LB):Ew:=
j6 a 0 ([]:LI)
def AL:=FQ GJ
abbrev Ey:=Option (Int×Int)
def FP(a b:Int):Ey:=
some (b,a)
def Vh:=FP
def Mf(j6:Int->Int->Ey)(On:Int->Int->Ey)(a:Int)(f:LI)(b g:Int):Ey:=
if(Cp g (Ac f))then
(Aj f g).bind λ_=>
(Aj f g).bind λh=>
On (Ae b h) (Ae g 1)
else
j6 a b
def Fy(a:Int)(f:LI):Nat->Int->Int->Ey
|0,_,_=>none
|q+1,b,g=>Mf Vh (Fy a f q) a f b g
def Mm a f:=Fy a f Az
def Uv(j4:Int->LI->Int->Int->Ey)(k:LB):Ey:=
(AL k).bind λ(f,a)=>
j4 a f 0 0
def Jd:=Uv Mm
def JB(a:UInt32)(b:Bool):Option UInt32:=
if b then
some (Zx (Cg a 2) 3988292384)
else
some (Cg a 2)
def Wj:=JB
def Vy(j2:UInt32->Bool->Option UInt32)(a:UInt32)(f:Int):Option UInt32:=
if(geq f 1)then
j2 a (!(geq (CJ a 2) 1))
else
j2 a (geq (CJ a 2) 1)
def Vu:=Vy Wj
def JJ(a:UInt32):Option UInt32:=
some a
def Xz:=JJ
def Oh(j6:UInt32->Option UInt32)(On:UInt32->UInt8->Int->Option UInt32)(a:UInt32)(b:UInt8)(f:Int):Option UInt32:=
if(Cp f 8)then
(Vu a (Ad (CJ b 2):Int)).bind λg=>
On g (Cg b 2) (Ae f 1)
else
j6 a
def Gz:Nat->UInt32->UInt8->Int->Option UInt32
|0,_,_,_=>none
|q+1,a,b,f=>Oh Xz (Gz q) a b f
def IK:=Gz Az
def JT(j4:UInt32->UInt8->Int->Option UInt32)(h:UInt32)(k:UInt8):Option UInt32:=
j4 h k 0
def EP:=JT IK
def DT(a:UInt32):Option UInt32:=
some a
def Tm:=DT
def Kz(j6:UInt32->Option UInt32)(On:UInt32->Int->Option UInt32)(b:LB)(a:UInt32)(f:Int):Option UInt32:=
if(Cp f (Ac b))then
(Aj b f).bind λg=>
(EP a g).bind λh=>
On h (Ae f 1)
else
j6 a
def Ff(b:LB):Nat->UInt32->Int->Option UInt32
|0,_,_=>none
|q+1,a,f=>Kz Tm (Ff b q) b a f
def Sm b:=Ff b Az
def Ry(j4:LB->UInt32->Int->Option UInt32)(k:UInt32)(b:LB):Option UInt32:=
j4 b k 0
def Yu:=Ry Sm
def Ni(a:LB):Option UInt32:=
(Yu 4294967295 a).bind λb=>
some (Am 4294967295 b)
def Pq(f g b a h:Int):Option Bool:=
if((((geq f 1)||(geq f 2))&&(Ts g 1))&&(K8 g 6))then
some ((((((geq b 8)||(geq b 16))||(geq b 24))&&(Ts a 1))&&(K8 a 1048576))&&(Ts h 1))
else
some (((false&&(Ts a 1))&&(K8 a 1048576))&&(Ts h 1))
def Nz(a:Int):Option Int:=
some (cD 1 (Cg (Be 256 a) 245))
def Ml(a:LI):Option (LI):=
some a
def Iw:=Ml
def Gb(j6:LI->Option (LI))(On:Int->LI->Option (LI))(b f:Int)(a:LI):Option (LI):=
if(Fv f 0)then
(Nz b).bind λg=>
(Cu a ([(Gv f g)]:LI)).bind λh=>
(Nz b).bind λk=>
On (Am f k) h
else
j6 a
def Da(b:Int):Nat->Int->LI->Option (LI)
|0,_,_=>none
|q+1,f,a=>Gb Iw (Da b q) b f a
def Uf b:=Da b Az
def Uu(j4:Int->Int->LI->Option (LI))(b m:Int):Option (LI):=
j4 b m ([]:LI)
def Cm:=Uu Uf
def Kg(h a k f b:Int):Option Bool:=
(
(Rj (Ch a 0)).bind λ_=>
(
if(Fv b (Cg 4000 a))then
some true
else
(Cm f b).bind λg=>
some (Fv (Ac g) 1000)))
abbrev Fo:=Option (Int×Int×Int×Int×Int×Int)
def IY(k h g f b:UInt64):Fo:=
(Pq (Ad k:Int) (Ad h:Int) (Ad g:Int) (Ad f:Int) (Ad b:Int)).bind λv=>
if(!v)then
some (0,0,0,0,0,12)
else
(Kg (Ad k:Int) (Ad h:Int) (Ad g:Int) (Ad f:Int) (Ad b:Int)).bind λw=>
if w then
some (0,0,0,0,0,4)
else
some ((Ad k:Int),(Ad h:Int),(Ad g:Int),(Ad f:Int),(Ad b:Int),0)
def Xj:=IY
def Oa(j6:UInt64->UInt64->UInt64->UInt64->UInt64->Fo)(a:LB):Fo:=
(Bv a 4 6).bind λu=>
(Bv a 6 8).bind λp=>
(Bv a 8 10).bind λo=>
(Bv a 10 14).bind λn=>
(Bv a 14 18).bind λm=>
(
(Al u).bind λk=>
(
(Al p).bind λh=>
(
(Al o).bind λg=>
(
(Al n).bind λf=>
(
(Al m).bind λb=>
(
j6 k h g f b))))))
def Xo:=Oa Xj
def Wv(j5:LB->Fo)(a:LB):Fo:=
if(Cp (Ac a) 22)then
some (0,0,0,0,0,24)
else
(Bv a 18 22).bind λy=>
(Bv a 0 18).bind λaa=>
(Al y).bind λab=>
(Ni aa).bind λac=>
if(Ch ab (Ad ac:UInt64))then
some (0,0,0,0,0,22)
else
j5 a
def Xl:=Wv Xo
def Wo(j4:LB->Fo)(a:LB):Fo:=
(Bv a 0 (Gv 4 (Ac a))).bind λad=>
(Bv ([84,84,65,49]:LB) 0 (Gv 4 (Ac a))).bind λae=>
if(ad !=ae)then
some (0,0,0,0,0,12)
else
j4 a
def Ke:=Wo Xl
def AR(a:LB):Option (Int×Int×Int×Int×Int×Int×Int):=
if(Fv (Ac a) 100000)then
some (0,0,0,0,0,0,4)
else
(Jd a).bind λ(b,f)=>
if(Ch f 0)then
some (0,0,0,0,0,0,f)
else
(Bv a b (Ac a)).bind λg=>
(Ke g).bind λ(h,k,m,n,o,p)=>
some (b,h,k,m,n,o,p)
def JK(a:UInt64)(b:Bool):Option UInt64:=
if b then
some (Zx (Be a 2) 4823603603198064275)
else
some (Be a 2)
def Nl:=JK
def Xb(j2:UInt64->Bool->Option UInt64)(a:UInt64)(f:Int):Option UInt64:=
if(geq f 1)then
j2 a (!(Ts a 9223372036854775808))
else
j2 a (Ts a 9223372036854775808)
def Vv:=Xb Nl
def JN(a:UInt64):Option UInt64:=
some a
def Wa:=JN
def Om(j6:UInt64->Option UInt64)(On:UInt64->Int->Option UInt64)(b:UInt8)(a:UInt64)(f:Int):Option UInt64:=
if(Fv f 0)then
(Rj (Ch f 0)).bind λ_=>
(Vv a (Is (Cg (Ad b:Int) f) 2)).bind λg=>
On g (Cg f 2)
else
j6 a
def Ha(b:UInt8):Nat->UInt64->Int->Option UInt64
|0,_,_=>none
|q+1,a,f=>Om Wa (Ha b q) b a f
def IJ b:=Ha b Az
def IL(j4:UInt8->UInt64->Int->Option UInt64)(h:UInt64)(b:UInt8):Option UInt64:=
j4 b h 128
def CR:=IL IJ
def EJ(a:UInt64):Option UInt64:=
some a
def Sk:=EJ
def Le(j6:UInt64->Option UInt64)(On:UInt64->Int->Option UInt64)(b:LB)(a:UInt64)(f:Int):Option UInt64:=
if(Cp f (Ac b))then
(Aj b f).bind λg=>
(CR a g).bind λh=>
On h (Ae f 1)
else
j6 a
def Fe(b:LB):Nat->UInt64->Int->Option UInt64
|0,_,_=>none
|q+1,a,f=>Le Sk (Fe b q) b a f
def EH b:=Fe b Az
def CU(j4:LB->UInt64->Int->Option UInt64)(k:UInt64)(b:LB):Option UInt64:=
j4 b k 0
def Ph:=CU EH
def EF(a:LB):Option UInt64:=
(Ph 0 a).bind λb=>
some b
def Hf(a:LB):Option (LB):=
(EF a).bind λb=>
(Au b 8).bind λf=>
some f
def Zd(f:LB)(a g m n o p:Int)(b:LB):Option (Int×Int):=
if((b==([]:LB)) !=(geq g 1))then
some (0,26)
else
if(b==([]:LB))then
some (a,0)
else
if(Cp (Ac f) (Ae a 8))then
some (0,24)
else
(Bv f a (Ae a 8)).bind λh=>
(Hf b).bind λk=>
if(h !=k)then
some (0,26)
else
some ((Ae a 8),0)
def EX(b:Int):Option Int:=
if(Fv b 100000)then
some 8
else
some 0
def Sy:=EX
def FZ(xH:Int->Int->Option Int)(a:LI)(b f:Int):Option Int:=
(Aj a f).bind λg=>
xH (Ae b g) (Ae f 1)
def Ux xH:=FZ xH
def Mq(j8:Int->Int->Option Int)(j10:Int->Option Int)(a:LI)(b f:Int):Option Int:=
if(Cp f (Ac a))then
(Aj a f).bind λh=>
if(Cp h 5)then
some 8
else
(Aj a f).bind λk=>
if(Fv k 100000)then
some 8
else
j8 b f
else
j10 b
def Gd(a:LI):Nat->Int->Int->Option Int
|0,_,_=>none
|q+1,b,f=>Mq (Ux (Gd a q) a) Sy a b f
def Vb a:=Gd a Az
def Mg(j6:LI->Int->Int->Option Int)(a:LI):Option Int:=
if((Cp (Ac a) 1)||(Fv (Ac a) 1000))then
some 8
else
j6 a 0 0
def Gm:=Mg Vb
abbrev Dc:=Option (LI×Int)
def JG(f:LI):Dc:=
(Gm f).bind λh=>
if(Ch h 0)then
some (([]:LI),12)
else
some (f,0)
def Nx:=JG
def Nv(j8:LI->Dc)(xH:Int->LI->Dc)(b:LB)(a g:Int)(f:LI):Dc:=
if(Cp g a)then
(Bv b (Be 4 g) (Ae (Be 4 g) 4)).bind λk=>
(Al k).bind λm=>
(Cu f ([(Ad m:Int)]:LI)).bind λn=>
xH (Ae g 1) n
else
j8 f
def Gy(b:LB)(a:Int):Nat->Int->LI->Dc
|0,_,_=>none
|q+1,g,f=>Nv Nx (Gy b a q) b a g f
def Xq b a:=Gy b a Az
def Wd(j6:LB->Int->Int->LI->Dc)(b:LB)(a:Int):Dc:=
j6 b a 0 ([]:LI)
def Wr:=Wd Xq
def Wf(j5:LB->Int->Dc)(b:LB)(a:Int):Dc:=
if((Cp a 1)||(Fv a 1000))then
some (([]:LI),2)
else
if(Cp (Ac b) (Ae (Be 4 a) 4))then
some (([]:LI),24)
else
(Bv b (Be 4 a) (Ae (Be 4 a) 4)).bind λo=>
(Bv b 0 (Be 4 a)).bind λp=>
(Al o).bind λu=>
(Ni p).bind λv=>
if(Ch u (Ad v:UInt64))then
some (([]:LI),22)
else
j5 b a
def Kf:=Wf Wr
def Se(a:LB)(b o p u f g:Int):Option (LI×Int):=
(Bv a b (Ac a)).bind λh=>
(Cm f g).bind λk=>
(Kf h (Ac k)).bind λ(m,n)=>
some (m,n)
def DZ(b:UInt64)(a:LB):Option (UInt64×Int):=
if(Fv (Ac a) 100000)then
some (0,4)
else
(Ph b a).bind λf=>
some (f,0)
def HJ(a:LB):Option (UInt64×Int):=
(DZ 0 a).bind λ(b,f)=>
some (b,f)
def cI(a:LX):Option (LX):=
some a
def KU:=cI
def ON(xH:UInt64->Int->LX->Option (LX))(b:UInt64)(f:Int)(a:LX)(g:Int32):Option (LX):=
(Aj a f).bind λ_=>
(Pd a f g).bind λh=>
xH (Cg b 256) (Ae f 1) h
def Sn xH:=ON xH
def Rv(j8:UInt64->Int->LX->Int32->Option (LX))(j10:LX->Option (LX))(b:UInt64)(f:Int)(a:LX):Option (LX):=
if(Cp f 8)then
if(Fv (Ad (CJ b 256):Int32) 127)then
j8 b f a (Am (Ad (CJ b 256):Int32) 256)
else
j8 b f a (Ad (CJ b 256):Int32)
else
j10 a
def Gw:Nat->UInt64->Int->LX->Option (LX)
|0,_,_,_=>none
|q+1,b,f,a=>Rv (Sn (Gw q)) KU b f a
def NA:=Gw Az
def PK(j6:UInt64->Int->LX->Option (LX))(k:UInt64):Option (LX):=
j6 k 0 (List.replicate 16 (0:Int32))
def KH:=PK NA
def Hn(a:LB):Option (LX×Int):=
if(Fv (Ac a) 64)then
some (([(0:Int32),(0:Int32),(0:Int32),(0:Int32),(0:Int32),(0:Int32),(0:Int32),(0:Int32),(0:Int32),(0:Int32),(0:Int32),(0:Int32),(0:Int32),(0:Int32),(0:Int32),(0:Int32)]:LX),2)
else
(HJ a).bind λ(b,g)=>
(KH b).bind λf=>
some (f,0)
def Hv(a:Int):Option Int:=
if(geq a 8)then
some 128
else
if(geq a 16)then
some 32768
else
if(geq a 24)then
some 8388608
else
some 0
def Cj(a b:Int):Option Int:=
if((Cp a 1)||(Fv a 6))then
some 2
else
(Hv b).bind λf=>
if(geq f 0)then
some 2
else
some 0
def Dr(a f b:Int):Option Int:=
(Cj a f).bind λg=>
if((Ch g 0)||(Cp b 1))then
some 2
else
(Rj (Ch a 0)).bind λ_=>
if(Fv b (Cg 4000 a))then
some 2
else
some 0
def Pm(b:LB):Option (LB):=
(Ni b).bind λa=>
(Cu ([]:LB) b).bind λf=>
(Cu f ([(Ad a:UInt8),(Ad (Cr a (GI.toZ (8:UInt64)).toNat):UInt8),(Ad (Cr a (GI.toZ (16:UInt64)).toNat):UInt8),(Ad (Cr a (GI.toZ (24:UInt64)).toNat):UInt8)]:LB)).bind λg=>
some g
def Kt(a:LB):Option Int:=
if(Cp (Ac a) 5)then
some 24
else
if(Fv (Ac a) 41254)then
some 4
else
(Bv a 0 (Am (Ac a) 4)).bind λb=>
(Pm b).bind λf=>
if(f !=a)then
some 22
else
some 0
def Ix:Option (Int×Int×UInt64×UInt64):=
some (10,10,16384,16384)
def XL(a:UInt64):Option UInt64:=
some a
def FO:=XL
def Mr(j6:UInt64->Option UInt64)(On:UInt64->Int->Option UInt64)(b:Int)(a:UInt64)(f:Int):Option UInt64:=
if(Cp f b)then
On (Be a 2) (Ae f 1)
else
j6 a
def Fw(b:Int):Nat->UInt64->Int->Option UInt64
|0,_,_=>none
|q+1,a,f=>Mr FO (Fw b q) b a f
def FX b:=Fw b Az
def FM(j4:Int->UInt64->Int->Option UInt64)(b:Int):Option UInt64:=
j4 b 1 0
def Dp:=FM FX
def Qs(a g:Int)(h k:UInt64)(b:UInt32):Option Bool:=
(Dp a).bind λf=>
some (Cp (Ad b:UInt64) f)
def Jw(a g:Int)(h k:UInt64)(b:UInt32):Option UInt32:=
(Dp a).bind λf=>
some (Ad (Am (Ad b:UInt64) f):UInt32)
abbrev Zm:=Option (Int×UInt64)
def JQ(b:Int)(a f:UInt64):Zm:=
if(Cp b 24)then
(Dp (Ae b 5)).bind λg=>
if(Fv (Am (Ae a f) (Cg a 16)) g)then
some ((Ae b 1),(Am (Ae a f) (Cg a 16)))
else
some (b,(Am (Ae a f) (Cg a 16)))
else
some (b,(Am (Ae a f) (Cg a 16)))
def Np:=JQ
def Wz(j2:Int->UInt64->UInt64->Zm)(b:Int)(a f:UInt64):Zm:=
if(Fv b 0)then
(Dp (Ae b 4)).bind λh=>
if(Cp (Am (Ae a f) (Cg a 16)) h)then
some ((Am b 1),(Am (Ae a f) (Cg a 16)))
else
j2 b a f
else
j2 b a f
def Ho:=Wz Np
abbrev Uq:=Option (Int×Int×UInt64×UInt64)
def EO(h:UInt32)(f a:Int)(g b:UInt64)(o:Int)(p:UInt64):Uq:=
(Ho f g (Ad h:UInt64)).bind λ(aa,ab)=>
some (aa,o,ab,p)
def Lc:=EO
def Lb(j2:UInt32->Int->Int->UInt64->UInt64->Int->UInt64->Uq)(f a:Int)(g b:UInt64)(h:UInt32):Uq:=
(Qs f a g b h).bind λu=>
if(!u)then
(
(
(Jw f a g b h).bind λk=>
(Ho a b (Ad k:UInt64)).bind λ(m,n)=>
j2 h f a g b m n))
else
j2 h f a g b a b
def Pf:=Lb Lc
abbrev Ec:=Option (Int×Int×UInt64×UInt64)
def UW(a b:Int)(f g:UInt64):Ec:=
some (a,b,f,g)
def CT:=UW
def Ta(j6:Int->Int->UInt64->UInt64->Ec)(On:Int->Int->Int->UInt64->UInt64->Ec)(h:Int)(k:LU)(m a b:Int)(f g:UInt64):Ec:=
if(Cp m (Ac k))then
(Aj k m).bind λn=>
(Pf a b f g n).bind λ(o,p,u,v)=>
On (Ae m h) o p u v
else
j6 a b f g
def Hs(h:Int)(k:LU):Nat->Int->Int->Int->UInt64->UInt64->Ec
|0,_,_,_,_,_=>none
|q+1,m,a,b,f,g=>Ta CT (Hs h k q) h k m a b f g
def FD h k:=Hs h k Az
def Rw(j4:Int->LU->Int->Int->Int->UInt64->UInt64->Ec)(h:Int)(k:LU):Ec:=
(Ix).bind λ(w,y,aa,ab)=>
(Rj (Ch h 0)).bind λ_=>
j4 h k (Is (Ac k) h) w y aa ab
def Ks:=Rw FD
def PH(a:Int):Option Int:=
some (Is a 2)
def BB:=PH
def Sr(j6:Int->Option Int)(On:Int->Int->Option Int)(b a f:Int):Option Int:=
if(Cp f (Is b 8))then
On (Cg a 2) (Ae f 1)
else
j6 a
def Je(b:Int):Nat->Int->Int->Option Int
|0,_,_=>none
|q+1,a,f=>Sr BB (Je b q) b a f
def AT b:=Je b Az
def AV(j4:Int->Int->Int->Option Int)(g:LB)(k b:Int):Option Int:=
(Aj g (Cg b 8)).bind λh=>
j4 b (Ad h:Int) 0
def Ig:=AV AT
abbrev Dn:=Option (LB×Int)
def KS(b g a:Int)(f:LB):Dn:=
(Aj f (Cg a 8)).bind λ_=>
(Aj f (Cg a 8)).bind λm=>
(Aj f (Cg a 8)).bind λ_=>
(Pd f (Cg a 8) (Ae m (Ad (Be b g):UInt8))).bind λn=>
some (n,(Ae a 1))
def Pg:=KS
def Pz(j8:Int->Int->Int->LB->Dn)(xH:Int->Int->Dn)(b a:Int)(f:LB)(g h:Int):Dn:=
if(Cp h (Is a 8))then
xH (Be g 2) (Ae h 1)
else
j8 b g a f
def If(b a:Int)(f:LB):Nat->Int->Int->Dn
|0,_,_=>none
|q+1,g,h=>Pz Pg (If b a f q) b a f g h
def Yy b a f:=If b a f Az
def Zk(j6:Int->Int->LB->Int->Int->Dn)(b a:Int)(f:LB):Dn:=
j6 b a f 1 0
def Pj:=Zk Yy
def Yz(j5:Int->Int->LB->Dn)(k:LB)(a b:Int):Dn:=
if(geq (Is a 8) 0)then
(Cu k ([(0:UInt8)]:LB)).bind λo=>
j5 b a o
else
j5 b a k
def Qn:=Yz Pj
abbrev Dt:=Option (LB×Int)
def TS(a:Int)(b:LB):Dt:=
some (b,a)
def CE:=TS
def Kb(j6:Int->LB->Dt)(On:Int->Int->LB->Dt)(f:Int)(g:LB)(h k a:Int)(b:LB):Dt:=
if(Cp k f)then
(Ig g h k).bind λm=>
(Qn b a m).bind λ(n,o)=>
On (Ae k 1) o n
else
j6 a b
def Em(f:Int)(g:LB)(h:Int):Nat->Int->Int->LB->Dt
|0,_,_,_=>none
|q+1,k,a,b=>Kb CE (Em f g h q) f g h k a b
def CD f g h:=Em f g h Az
def CI(j4:Int->LB->Int->Int->Int->LB->Dt)(g:LB)(h p f:Int):Dt:=
j4 f g h p 0 ([]:LB)
def Xd:=CI CD
def XP(a:UInt64):Option UInt64:=
some a
def FV:=XP
def Mo(j6:UInt64->Option UInt64)(On:UInt64->Int->Option UInt64)(b:Int)(f:LB)(g:Int)(a:UInt64)(h:Int):Option UInt64:=
if(Ts h 0)then
(Ig f g (Ae b h)).bind λk=>
On (Ae (Be 2 a) (Ad k:UInt64)) (Am h 1)
else
j6 a
def Fx(b:Int)(f:LB)(g:Int):Nat->UInt64->Int->Option UInt64
|0,_,_=>none
|q+1,a,h=>Mo FV (Fx b f g q) b f g a h
def Us b f g:=Fx b f g Az
def Uy(j4:Int->LB->Int->UInt64->Int->Option UInt64)(f:LB)(g b m:Int):Option UInt64:=
j4 b f g 0 (Am m 1)
def Mb:=Uy Us
abbrev Gn:=Option (Int×Int)
def LC(b a:Int)(g:LB)(f:Int):Gn:=
if(geq a 48)then
some (a,(Ae b a))
else
if(Ts (Ae b a) f)then
some ((-1:Int),0)
else
some (a,(Ae (Ae b a) 1))
def Py:=LC
def Pu(j6:Int->Int->LB->Int->Gn)(On:Int->Gn)(b:Int)(g:LB)(f a:Int):Gn:=
if((Cp (Ae b a) f)&&(Cp a 48))then
(Ig g f (Ae b a)).bind λh=>
if(geq h 1)then
On (Ae a 1)
else
j6 b a g f
else
j6 b a g f
def Hy(b:Int)(g:LB)(f:Int):Nat->Int->Gn
|0,_=>none
|q+1,a=>Pu Py (Hy b g f q) b g f a
def KT b g f:=Hy b g f Az
def LG(j4:Int->LB->Int->Int->Gn)(g:LB)(f b:Int):Gn:=
j4 b g f 0
def GU:=LG KT
def Vk(b:UInt32)(f:Int):Option Int:=
(Dp f).bind λa=>
(Rj (Ch a 0)).bind λ_=>
some (Ad (Gv 48 (Cg (Ad b:UInt64) a)):Int)
abbrev AQ:=Option (UInt32×Int×Int)
def Zc(g a b:Int)(h:LB)(f k:Int):AQ:=
if((Cp a 0)||(Cp (Am f b) k))then
some (0,0,24)
else
(Mb h f b k).bind λm=>
if(Cp a 48)then
(Dp g).bind λo=>
some ((Ad (Ae (Be (Ad a:UInt64) o) m):UInt32),(Ae b k),0)
else
(Vk (Ad m:UInt32) g).bind λp=>
if(Cp p a)then
some (0,0,12)
else
some ((Ad m:UInt32),(Ae b k),0)
def Pw:=Zc
def Yv(j2:Int->Int->Int->LB->Int->Int->AQ)(h:LB)(f n g:Int):AQ:=
if(Ts n f)then
some (0,0,24)
else
(GU h f n).bind λ(a,b)=>
if(geq a 48)then
j2 g a b h f 32
else
j2 g a b h f g
def Yh:=Yv Pw
def Yf(g:LB)(b a f n:Int)(v w:UInt64):Option (UInt32×Int×Int):=
if(Ts a b)then
some (0,0,24)
else
(Ig g b a).bind λo=>
if(geq o 0)then
if(Cp (Am (Am b a) 1) f)then
some (0,0,24)
else
(Mb g b (Ae a 1) f).bind λp=>
some ((Ad p:UInt32),(Ae (Ae a 1) f),0)
else
(Yh g b (Ae a 1) n).bind λ(h,u,k)=>
if(Ch k 0)then
some (0,0,k)
else
(Dp f).bind λm=>
if(Fv (Ae (Ad h:UInt64) m) 4294967295)then
some (0,0,12)
else
some ((Ad (Ae (Ad h:UInt64) m):UInt32),u,0)
abbrev Bg:=Option (LU×Int)
def XQ(b:LU):Bg:=
some (b,0)
def FW:=XQ
def Mn(j18:LU->Bg)(Ln:Int->Bg)(a:LB)(b:LU)(m:Int):Bg:=
if(Cp m (Be 8 (Ac a)))then
(Ig a (Be 8 (Ac a)) m).bind λn=>
if(Ch n 0)then
some (b,12)
else
Ln (Ae m 1)
else
j18 b
def Ga(a:LB)(b:LU):Nat->Int->Bg
|0,_=>none
|q+1,m=>Mn FW (Ga a b q) a b m
def Ut a b:=Ga a b Az
def Uj(j16:LB->LU->Int->Bg)(f:Int)(a:LB)(b:LU):Bg:=
if(Fv (Am (Be 8 (Ac a)) f) 7)then
some (b,12)
else
j16 a b f
def Mu:=Uj Ut
def GC(Ac3:Int->Int->LU->Bg)(g h:Int)(a:LB)(f k:Int)(b:LU)(o p:Int)(u v:UInt64):Bg:=
(Xd a (Be 8 (Ac a)) f (Gv (Ae f 81) (Be 8 (Ac a)))).bind λ(y,aa)=>
(Yf y aa 0 o p u v).bind λ(ab,ac,w)=>
if(Ch w 0)then
some (b,w)
else
(Cu b ([ab]:LU)).bind λad=>
Ac3 (Ae f ac) (Ae k 1) ad
def Fz Ac3:=GC Ac3
def Vc(j13:Int->Int->LU->Int->Int->UInt64->UInt64->Bg)(j15:Int->LB->LU->Bg)(g h:Int)(a:LB)(f k:Int)(b:LU):Bg:=
if(Cp k (Be h g))then
(Ix).bind λ(n,ae,af,ag)=>
if(Ts k g)then
(Ks g b).bind λ(ah,ai,aj,ak)=>
j13 f k b ah ai aj ak
else
j13 f k b n ae af ag
else
j15 f a b
def Db(g h:Int)(a:LB):Nat->Int->Int->LU->Bg
|0,_,_,_=>none
|q+1,f,k,b=>Vc (Fz (Db g h a q) g h a) Mu g h a f k b
def FU g h a:=Db g h a Az
def Xk(j10:Int->Int->LB->Int->Int->LU->Bg)(g h:Int)(a:LB):Bg:=
j10 g h a 0 0 ([]:LU)
def Vl:=Xk FU
def PL(a:Int):Option (Int×Int):=
if(geq a 8)then
some (4,0)
else
if((geq a 16)||(geq a 24))then
some (5,0)
else
some (0,2)
def SI(a:Int)(b:LX):Option (Int×LX×LX×Int):=
(PL a).bind λ(g,f)=>
if(Ch f 0)then
some (0,(List.replicate 16 (0:Int32)),(List.replicate 16 (0:Int32)),2)
else
if(geq a 16)then
some (9,b,(List.replicate 16 (0:Int32)),0)
else
some (10,b,(List.replicate 16 (0:Int32)),0)
def GK(a:Int)(b:LX):Option (Int×Int32×Int×LX×LX×Int):=
(SI a b).bind λ(f,g,h,k)=>
if(Ch k 0)then
some (0,0,0,(List.replicate 16 (0:Int32)),(List.replicate 16 (0:Int32)),2)
else
some (a,0,f,g,h,0)
def Ju(a:UInt32):Option Int32:=
if(geq (CJ a 2) 0)then
some (Ad (Cg a 2):Int32)
else
some (Ad (Cg (fH (Ae (Ad a:Int) 1)) 2):Int32)
def Ca(a:Int):Option Int32:=
some (Ad (Ad (Ad a:UInt64):UInt32):Int32)
def LJ(a:Int):Option Int32:=
some (Ad a:Int32)
def Yw:=LJ
def Pe(j6:Int->Option Int32)(On:Int->Int->Option Int32)(h:Int)(f g:LX)(a b:Int):Option Int32:=
if(Cp b 16)then
(Aj f b).bind λ_=>
(Aj g b).bind λ_=>
(Aj f b).bind λk=>
(Aj g b).bind λm=>
(Ca (Be (Ad k:Int) (Ad m:Int))).bind λn=>
(Ca (Ae a (Ad n:Int))).bind λo=>
On (Ad o:Int) (Ae b 1)
else
j6 a
def Ia(h:Int)(f g:LX):Nat->Int->Int->Option Int32
|0,_,_=>none
|q+1,a,b=>Pe Yw (Ia h f g q) h f g a b
def KQ h f g:=Ia h f g Az
def LD(j4:Int->LX->LX->Int->Int->Option Int32)(h:Int)(f g:LX):Option Int32:=
j4 h f g 0 0
def GL:=LD KQ
def IG(b:Int)(f g:LX)(a:Int):Option Int32:=
(GL b f g).bind λk=>
(Ca (Ae (Ad k:Int) (Cg a 2))).bind λh=>
(Rj (Ch a 0)).bind λ_=>
(Rj (Ch a 0)).bind λ_=>
if(Cp (Is (Ad h:Int) a) 0)then
some (Ad (Am (Cg (Ad h:Int) a) 1):Int32)
else
some (Ad (Cg (Ad h:Int) a):Int32)
def Oj:=IG
def Wk(j2:Int->LX->LX->Int->Option Int32)(b:Int)(f g:LX):Option Int32:=
if(geq b 9)then
j2 b f g 512
else
j2 b f g 1024
def Vp:=Wk Oj
def Vw(a:Int):Option Int32:=
if(geq a 0)then
some 4
else
if(K8 a 3)then
some 2
else
some 1
def Nn(a:Int32):Option Int32:=
if(Cp a 0)then
some (-1:Int32)
else
if(Fv a 0)then
some 1
else
some 0
abbrev Ds:=Option (Int×LX×LX)
def TV(g:Int)(b a:LX):Ds:=
some (g,b,a)
def CG:=TV
def Jq(j6:Int->LX->LX->Ds)(On:Int->LX->Ds)(h:Int32)(g:Int)(a:LX)(f:Int)(b:LX):Ds:=
if(Cp f 16)then
(Aj b f).bind λ_=>
(Aj a f).bind λ_=>
(Aj b f).bind λk=>
(Aj a f).bind λm=>
(Vw f).bind λn=>
(Nn m).bind λo=>
(Nn h).bind λp=>
(Aj b f).bind λ_=>
(Pd b f (Ae k (Be (Be n o) p))).bind λu=>
On (Ae f 1) u
else
j6 g b a
def Er(h:Int32)(g:Int)(a:LX):Nat->Int->LX->Ds
|0,_,_=>none
|q+1,f,b=>Jq CG (Er h g a q) h g a f b
def CB h g a:=Er h g a Az
def BW(j4:Int32->Int->LX->Int->LX->Ds)(g:Int)(v a:LX)(h:Int32):Ds:=
j4 h g a 0 v
def Wg:=BW CB
abbrev Ea:=Option (Int×LX×LX)
def DK(b:Int32)(f:Int)(g a:LX):Ea:=
(Aj a 0).bind λ_=>
(Pd a 0 b).bind λk=>
some (f,g,k)
def Rq:=DK
def Lg(j6:Int32->Int->LX->LX->Ea)(On:Int->LX->Ea)(b:Int32)(f:Int)(g:LX)(h:Int)(a:LX):Ea:=
if(Fv h 0)then
(Aj a (Am h 1)).bind λ_=>
(Aj a (Am h 1)).bind λm=>
(Aj a h).bind λ_=>
(Pd a h m).bind λn=>
On (Am h 1) n
else
j6 b f g a
def Fg(b:Int32)(f:Int)(g:LX):Nat->Int->LX->Ea
|0,_,_=>none
|q+1,h,a=>Lg Rq (Fg b f g q) b f g h a
def EK b f g:=Fg b f g Az
def DI(j4:Int32->Int->LX->Int->LX->Ea)(f:Int)(g o:LX)(b:Int32):Ea:=
j4 b f g 15 o
def Yt:=DI EK
def Ns(a:Int)(b f:LX)(g:Int32):Option (Int32×Int×LX×LX):=
(Vp a b f).bind λk=>
(Ca (Ae (Ad g:Int) (Ad k:Int))).bind λh=>
(Wg a b f g).bind λ(m,n,o)=>
(Yt m n o h).bind λ(p,u,v)=>
some (h,p,u,v)
def CV(b:Int32)(a:Int):Option Int32:=
(Rj (Ch a 0)).bind λ_=>
(Rj (Ch a 0)).bind λ_=>
if(Cp (Is (Be (Am a 1) (Ad b:Int)) a) 0)then
some (Ad (Am (Cg (Be (Am a 1) (Ad b:Int)) a) 1):Int32)
else
some (Ad (Cg (Be (Am a 1) (Ad b:Int)) a):Int32)
def Lf:=CV
def Te(j2:Int32->Int->Option Int32)(f:Int)(b:Int32):Option Int32:=
if(geq f 5)then
j2 b 32
else
j2 b 16
def Kv:=Te Lf
def Pp(b:Int)(a:Int32)(h:Int)(k m:LX):Option Int:=
if(geq b 8)then
(Kv 4 a).bind λf=>
some (Ad f:Int)
else
(Kv 5 a).bind λg=>
some (Ad g:Int)
def Gx(a:Int)(k:Int32)(b:Int)(f g:LX)(m:Int32):Option (Int32×Int×Int32×Int×LX×LX):=
(Ns b f g m).bind λ(n,o,p,u)=>
(Pp a k b f g).bind λv=>
(Ca (Ae (Ad n:Int) v)).bind λh=>
some (h,a,h,o,p,u)
def Lu(a:Int)(b:LX):Option Int:=
if((Cp a 1)||(Fv a 6))then
some 2
else
if(Fv (Ac b) 4000)then
some 4
else
(Rj (Ch a 0)).bind λ_=>
if(Fv (Is (Ac b) a) 0)then
some 2
else
some 0
def TL(b:LX):Option (LX):=
some b
def CC:=TL
def Jy(j8:LX->Option (LX))(xH:Int->LX->Option (LX))(a:LX)(f:Int)(b:LX):Option (LX):=
if(Ts f 0)then
(Aj b (Ae f 1)).bind λ_=>
(Aj a f).bind λm=>
(Aj b (Ae f 1)).bind λn=>
(Ca (Am (Ad n:Int) (Ad m:Int))).bind λo=>
(Aj b f).bind λ_=>
(Pd b f o).bind λp=>
xH (Am f 1) p
else
j8 b
def El(a:LX):Nat->Int->LX->Option (LX)
|0,_,_=>none
|q+1,f,b=>Jy CC (El a q) a f b
def BH a:=El a Az
def Re(j6:LX->Int->LX->Option (LX))(a g:LX):Option (LX):=
j6 a (Am (Ac a) 2) g
def Jt:=Re BH
def Qg(j5:LX->LX->Option (LX))(a:LX):Option (LX):=
(N8 (Ac a) (0:Int32)).bind λk=>
(Rj (geq (Ac a) (Ac a))).bind λ_=>
(Aj a (Am (Ac a) 1)).bind λu=>
(Aj k (Am (Ac a) 1)).bind λ_=>
(Pd k (Am (Ac a) 1) u).bind λh=>
if(Fv (Ac a) 1)then
(Aj a (Am (Ac a) 1)).bind λv=>
(Aj a (Am (Ac a) 2)).bind λw=>
(Ca (Ae (Ad v:Int) (Cg (Ad w:Int) 2))).bind λy=>
(Aj h (Am (Ac a) 1)).bind λ_=>
(Pd h (Am (Ac a) 1) y).bind λaa=>
j5 a aa
else
j5 a h
def Of:=Qg Jt
abbrev Fj:=Option (LX×Int)
def aE(f:LX):Fj:=
some (f,0)
def JP:=aE
def Xu(j6:LX->Fj)(On:Int->LX->Fj)(a:Int)(b:LX)(g:Int)(f:LX):Fj:=
if(Cp g (Ac b))then
(Bv b g (Ae g a)).bind λh=>
(Of h).bind λk=>
(Cu f k).bind λm=>
On (Ae g a) m
else
j6 f
def Jk(a:Int)(b:LX):Nat->Int->LX->Fj
|0,_,_=>none
|q+1,g,f=>Xu JP (Jk a b q) a b g f
def JE a b:=Jk a b Az
def Wi(j4:Int->LX->Int->LX->Fj)(a:Int)(b:LX):Fj:=
(Lu a b).bind λn=>
if(Ch n 0)then
(Lu a b).bind λo=>
some (([]:LX),o)
else
j4 a b 0 ([]:LX)
def Vo:=Wi JE
def BT(a f:Int)(w:LX):Option (LX):=
(Vo a w).bind λ(aj,ai)=>
some aj
def Jr:=BT
def BY(rR:Int->LX->Option (LX))(b:LU)(a f:Int)(g:LX)(h:Int)(m:LX):Option (LX):=
rR (Ae h 1) m
def Qi rR:=BY rR
def BL(P1:Int->LX->Int->Int32->Int->LX->LX->Option (LX))(b:LU)(h a f:Int)(g:LX)(k:Int)(af:LX)(y:Int)(aa:Int32)(ab:Int)(ac ad:LX):Option (LX):=
P1 (Ae k a) af y aa ab ac ad
def Qb P1:=BL P1
def Qv(j30:Int->LX->Int->Int32->Int->LX->LX->Option (LX))(b:LU)(h a f:Int)(g:LX)(k:Int)(ae:Int32)(m:LX)(n:Int)(o:Int32)(p:Int)(u v:LX)(y:Int)(aa:Int32)(ab:Int)(ac ad:LX):Option (LX):=
(Aj m k).bind λ_=>
(Pd m k ae).bind λaf=>
j30 k af y aa ab ac ad
def Ra P1 b h a f g:=Qv (Qb P1 b h a f g) b h a f g
def Jv(j29:Int->Int32->LX->Int->Int32->Int->LX->LX->Int->Int32->Int->LX->LX->Option (LX))(j32:Int->LX->Option (LX))(b:LU)(a f:Int)(g:LX)(h k:Int)(m:LX)(n:Int)(o:Int32)(p:Int)(u v:LX):Option (LX):=
if(Cp k (Ac b))then
(Aj b k).bind λah=>
(
(Ju ah).bind λag=>
(
(Gx n o p u v ag).bind λ(ae,y,aa,ab,ac,ad)=>
j29 k ae m n o p u v y aa ab ac ad))
else
j32 h m
def Hh(rR:Int->LX->Option (LX))(b:LU)(a f:Int)(g:LX)(h:Int):Nat->Int->LX->Int->Int32->Int->LX->LX->Option (LX)
|0,_,_,_,_,_,_,_=>none
|q+1,k,m,n,o,p,u,v=>Jv (Ra (Hh rR b a f g h q) b h a f g) (Qi rR b a f g) b a f g h k m n o p u v
def Qw rR b a f g h:=Hh rR b a f g h Az
def Js(j26:Int->Int->LX->Int->Int32->Int->LX->LX->Option (LX))(j34:Int->Int->LX->Option (LX))(b:LU)(a f:Int)(g:LX)(h:Int)(w:LX):Option (LX):=
if(Cp h a)then
(GK f g).bind λ(ak,ai,al,am,an,aq)=>
j26 h h w ak ai al am an
else
j34 a f w
def Dh(b:LU)(a f:Int)(g:LX):Nat->Int->LX->Option (LX)
|0,_,_=>none
|q+1,h,w=>Js (Qw (Dh b a f g q) b a f g) Jr b a f g h w
def Rg b a f g:=Dh b a f g Az
def Ru(j18:LU->Int->Int->LX->Int->LX->Option (LX))(a f:Int)(g:LX)(b:LU):Option (LX):=
(N8 (Ac b) (0:Int32)).bind λao=>
(Rj (geq (Ac b) (Ac b))).bind λ_=>
j18 b a f g 0 ao
def Ic:=Ru Rg
def XM:Option Int:=
some 0
def FN:=XM
def By(j6:Option Int)(On:Int->Option Int)(a:LX)(b f:Int):Option Int:=
if(Cp f (Ac a))then
(Aj a f).bind λg=>
if(Cp (Ad g:Int) (fH b))then
some 16
else
(Aj a f).bind λh=>
if(Ts (Ad h:Int) b)then
some 16
else
On (Ae f 1)
else
j6
def Ba(a:LX)(b:Int):Nat->Int->Option Int
|0,_=>none
|q+1,f=>By FN (Ba a b q) a b f
def GG a b:=Ba a b Az
def Cn(j4:LX->Int->Int->Option Int)(k:Int)(a:LX):Option Int:=
(Hv k).bind λb=>
if(geq b 0)then
some 2
else
if(Fv (Ac a) 4000)then
some 4
else
j4 a b 0
def Ao:=Cn GG
def Kw(g f:Int)(a:LX):Option (LX×Int):=
(Ao f a).bind λb=>
if(Ch b 0)then
some (([]:LX),b)
else
some (a,0)
abbrev Ui:=Option (LX×Int)
def Hu(f a b:Int)(g:LX)(h:LU):Ui:=
if(Ch f 0)then
some (([]:LX),f)
else
(
(
(Ic a b g h).bind λm=>
(Kw a b m).bind λ(n,o)=>
some (n,o)))
def Ld:=Hu
def Tn(j2:Int->Int->Int->LX->LU->Ui)(a b:Int)(g:LX)(p:Int)(k:LB):Ui:=
(Dr a b p).bind λy=>
if(Ch y 0)then
some (([]:LX),2)
else
(Kt k).bind λaa=>
if(Ch aa 0)then
(Kt k).bind λab=>
some (([]:LX),ab)
else
(Bv k 0 (Am (Ac k) 4)).bind λac=>
(Vl a p ac).bind λ(h,f)=>
j2 f a b g h
def Fm:=Tn Ld
abbrev Fk:=Option (Int×Int)
def Xw(a:LB)(f g:Int)(b h:LB)(k:Int):Fk:=
if(Cp (Ac a) k)then
some (0,24)
else
if(b==h)then
(Bv a (Am (Ac a) k) (Ae (Am (Ac a) k) 32)).bind λo=>
(Nw f g).bind λp=>
if(o !=p)then
some (0,12)
else
some (k,0)
else
some (k,0)
def Oi:=Xw
def Nq(j6:LB->Int->Int->LB->LB->Int->Fk)(a:LB)(f g:Int)(b h:LB):Fk:=
if(b==h)then
j6 a f g b h (Ae (Ae 32 f) 32)
else
j6 a f g b h (Ae 32 f)
def Ny:=Nq Oi
def Og(j5:LB->Int->Int->LB->LB->Fk)(a:LB):Fk:=
(Bv a (Am (Ac a) 32) (Ac a)).bind λb=>
(Jo b).bind λ(f,g,n)=>
if(!n)then
some (0,12)
else
(Dk f g true).bind λh=>
(
if(!(b==h))then
(Dk f g false).bind λm=>
if(b !=m)then
some (0,12)
else
j5 a f g b h
else
j5 a f g b h)
def Xp:=Og Ny
def Vz(j4:LB->Fk)(a:LB):Fk:=
if(Cp (Ac a) 32)then
some (0,6)
else
(Bv a (Am (Ac a) 32) (Ae (Am (Ac a) 32) 8)).bind λu=>
if(u !=([65,80,69,84,65,71,69,88]:LB))then
some (0,6)
else
j4 a
def Vn:=Vz Xp
abbrev Ee:=Option (Int×Int)
def UF(a:Int):Ee:=
some (a,0)
def CM:=UF
def To(j6:Int->Ee)(On:LB->Int->Ee)(b:LB)(a:Int):Ee:=
if(Fv (Ac b) 0)then
(Vn b).bind λ(g,h)=>
if(Ch h 0)then
some (0,38)
else
(Bv b 0 (Am (Ac b) g)).bind λk=>
On k (Ae a 1)
else
j6 a
def Hw:Nat->LB->Int->Ee
|0,_,_=>none
|q+1,b,a=>To CM (Hw q) b a
def EG:=Hw Az
def Rs(j4:LB->Int->Ee)(f:LB):Ee:=
if(Fv (Ac f) 4000)then
some (0,38)
else
j4 f 0
def Pk:=Rs EG
abbrev Dd:=Option (Int×Int×Int×LX×Int)
def FR(a:LB)(n b f g:Int)(v:LX):Dd:=
(Bv a n (Ac a)).bind λaf=>
(Pk af).bind λ(ao,ag)=>
if(Ch ag 0)then
some (0,0,0,([]:LX),38)
else
some (b,f,g,v,0)
def Vf:=FR
def FT(bk7:Int->Int->LX->Dd)(a:LB)(o b f g k:Int)(h p:LI)(u:LX)(n m:Int)(y:LX)(w:Int)(v:LX):Dd:=
if(Ch w 0)then
some (0,0,0,([]:LX),w)
else
(Cu v y).bind λah=>
(Aj h m).bind λ_=>
(Aj h m).bind λai=>
bk7 (Ae n ai) (Ae m 1) ah
def Vg bk7:=FT bk7
def Ok(j10:Int->Int->LX->Int->LX->Dd)(j12:LB->Int->Int->Int->Int->LX->Dd)(a:LB)(o b f g k:Int)(h p:LI)(u:LX)(n m:Int)(v:LX):Dd:=
if(Cp m (Ac h))then
(Aj h m).bind λ_=>
(Aj h m).bind λaj=>
if(Cp (Am (Ac a) n) aj)then
some (0,0,0,([]:LX),24)
else
(Aj p m).bind λ_=>
(Aj h m).bind λ_=>
(Aj p m).bind λak=>
(Aj h m).bind λal=>
(Bv a n (Ae n al)).bind λam=>
(Fm b f u ak am).bind λ(y,w)=>
j10 n m y w v
else
j12 a n b f g v
def He(a:LB)(o b f g k:Int)(h p:LI)(u:LX):Nat->Int->Int->LX->Dd
|0,_,_,_=>none
|q+1,n,m,v=>Ok (Vg (He a o b f g k h p u q) a o b f g k h p u) Vf a o b f g k h p u n m v
def Wm a o b f g k h p u:=He a o b f g k h p u Az
def Nt(j7:LB->Int->Int->Int->Int->Int->LI->LI->LX->Int->Int->LX->Dd)(a aa:LB):Dd:=
if(Fv (Ac aa) 64)then
some (0,0,0,([]:LX),2)
else
(AR a).bind λ(an,o,b,f,g,k,ab)=>
if(Ch ab 0)then
some (0,0,0,([]:LX),ab)
else
(Zd a (Ae an 22) o b f g k aa).bind λ(ac,ad)=>
if(Ch ad 0)then
some (0,0,0,([]:LX),ad)
else
(Se a ac o b f g k).bind λ(h,ae)=>
if(Ch ae 0)then
some (0,0,0,([]:LX),ae)
else
(Cm g k).bind λp=>
(Hn aa).bind λ(u,ap)=>
j7 a o b f g k h p u (Ae ac (Ae (Be 4 (Ac h)) 4)) 0 ([]:LX)
def Bz:=Nt Wm
def NI(a b f:Int)(g:LX):Option (Int×Int):=
some (a,b)
def GO(a g f:Int)(h:LX)(b:Int):Option Int:=
(NI a g f h).bind λ(k,m)=>
(Gi k m).bind λn=>
if((Ch n 0)||(Cp b 1))then
some 8
else
(Rj (Ch a 0)).bind λ_=>
if(Fv b (Cg 4000 a))then
some 8
else
(Hl f b).bind λ(p,o)=>
if(Ch o 0)then
some 8
else
some 0
def Gp(a f h:Int)(b:LX):Option Int:=
if(Cp a 1)then
some 8
else
(Rj (Ch a 0)).bind λ_=>
if(Ch (Is (Ac b) a) 0)then
some 8
else
(Rj (Ch a 0)).bind λ_=>
(GO a f h b (Cg (Ac b) a)).bind λg=>
if(Ch g 0)then
some g
else
(BR f b).bind λk=>
if(Ch k 0)then
some 8
else
some 0
def FF(b a f:Int):Option Int:=
if((((Cp b 1)||(Fv b 6))||(Cp f 1))||(Fv f 1048576))then
some 8
else
if(geq a 8)then
if(geq a 8)then
some 0
else
some 8
else
if(geq a 16)then
if(geq a 16)then
some 0
else
some 8
else
if(geq a 24)then
some 0
else
some 8
def RP(a b g:Int):Option (Bool×Int):=
(FF a b g).bind λf=>
if(Ch f 0)then
some (false,f)
else
some (((Fv a 2)||(Fv b 16)),0)
def HO(a:Bool)(b:LB):Option (LB):=
if a then
(Bv ([(1:UInt8),(0:UInt8),(0:UInt8),(0:UInt8),(0:UInt8),(0:UInt8),(16:UInt8),(0:UInt8),(128:UInt8),(0:UInt8),(0:UInt8),(170:UInt8),(0:UInt8),(56:UInt8),(155:UInt8),(113:UInt8)]:LB) 0 16).bind λp=>
(Cu b p).bind λu=>
some u
else
some b
def Yl:=HO
def Qd(j8:Bool->LB->Option (LB))(xH:Int->LB->Option (LB))(a:Bool)(g:Int)(f:LQ)(h:Int)(b:LB):Option (LB):=
if(Cp h g)then
(Aj f h).bind λ_=>
(Aj f h).bind λv=>
(Aj ([(2:Int),(2:Int),(4:Int),(4:Int),(2:Int),(2:Int),(2:Int),(2:Int),(4:Int)]:LI) h).bind λw=>
(Tp v w).bind λ(y,ac)=>
(Cu b y).bind λaa=>
xH (Ae h 1) aa
else
j8 a b
def Dg(a:Bool)(g:Int)(f:LQ):Nat->Int->LB->Option (LB)
|0,_,_=>none
|q+1,h,b=>Qd Yl (Dg a g f q) a g f h b
def Ya a g f:=Dg a g f Az
def Yn(j6:Bool->Int->LQ->Int->LB->Option (LB))(a:Bool)(g:Int)(f:LQ):Option (LB):=
j6 a g f 0 ([]:LB)
def Yq:=Yn Ya
def GP(j5:Bool->Int->LQ->Option (LB))(m k n:Int)(a:Bool)(o:UInt64):Option (LB):=
if a then
(Aj ([(1:UInt64),(Ad m:UInt64),(Ad n:UInt64),(Be (Ad n:UInt64) (Ad (Cg (Be m k) 8):UInt64)),(Ad (Cg (Be m k) 8):UInt64),(Ad k:UInt64),(22:UInt64),(Ad k:UInt64),o]:LQ) 0).bind λ_=>
(Pd ([(1:UInt64),(Ad m:UInt64),(Ad n:UInt64),(Be (Ad n:UInt64) (Ad (Cg (Be m k) 8):UInt64)),(Ad (Cg (Be m k) 8):UInt64),(Ad k:UInt64),(22:UInt64),(Ad k:UInt64),o]:LQ) 0 65534).bind λab=>
j5 a 9 ab
else
j5 a 6 ([(1:UInt64),(Ad m:UInt64),(Ad n:UInt64),(Be (Ad n:UInt64) (Ad (Cg (Be m k) 8):UInt64)),(Ad (Cg (Be m k) 8):UInt64),(Ad k:UInt64),(22:UInt64),(Ad k:UInt64),o]:LQ)
def RZ:=GP Yq
def FG(a b f:Int):Option (LB×Int):=
(RP a b f).bind λ(h,g)=>
if(Ch g 0)then
some (([]:LB),g)
else
(Rj (Ts a 0)).bind λ_=>
(RZ a b f h (Am (Ej (1:UInt64) (GI.toZ a).toNat) 1)).bind λk=>
some (k,0)
abbrev Cs:=Option (LB×Int)
def lH(g:LB):Cs:=
some (g,0)
def XC:=lH
def XA(Ln:Int->LB->Cs)(b:Int)(a:LX)(f:Int)(h:LB):Cs:=
Ln (Ae f 1) h
def KI Ln:=XA Ln
def AA(j28:Int->LB->Cs)(P1:Int->LB->Cs)(b:Int)(a:LX)(k:Int32)(f m:Int)(h:LB):Cs:=
if(Cp m (Cg b 8))then
(Rj (Ts (Be 8 m) 0)).bind λ_=>
(Cu h ([(Ad (Cr k (GI.toZ (Be 8 m)).toNat):UInt8)]:LB)).bind λp=>
P1 (Ae m 1) p
else
j28 f h
def Ii(Ln:Int->LB->Cs)(b:Int)(a:LX)(k:Int32)(f:Int):Nat->Int->LB->Cs
|0,_,_=>none
|q+1,m,h=>AA (KI Ln b a) (Ii Ln b a k f q) b a k f m h
def KP Ln b a k f:=Ii Ln b a k f Az
def JZ(j26:Int32->Int->Int->LB->Cs)(b:Int)(a:LX)(f:Int)(g:LB)(k:Int32):Cs:=
j26 k f 0 g
def Kn Ln b a:=JZ (KP Ln b a) b a
def AG(j25:Int->LB->Int32->Cs)(j30:LB->Cs)(b:Int)(a:LX)(f:Int)(g:LB):Cs:=
if(Cp f (Ac a))then
(Aj a f).bind λn=>
if(geq b 8)then
j25 f g (Ae n 128)
else
j25 f g n
else
j30 g
def Fa(b:Int)(a:LX):Nat->Int->LB->Cs
|0,_,_=>none
|q+1,f,g=>AG (Kn (Fa b a q) b a) XC b a f g
def WZ b a:=Fa b a Az
def OR(j16:Int->LX->Int->LB->Cs)(b:Int)(a:LX):Cs:=
(BR b a).bind λo=>
if(Ch o 0)then
some (([]:LB),o)
else
j16 b a 0 ([]:LB)
def CF:=OR WZ
def oL(a:LB):Option Bool:=
some (geq (Ac a) 4)
def aF:=oL
def ZS(j6:LB->Option Bool)(On:Int->Option Bool)(a:LB)(b:Int):Option Bool:=
if(Cp b (Ac a))then
(Aj a b).bind λ_=>
(Aj a b).bind λf=>
if((Cp f 32)||(Fv f 126))then
some false
else
On (Ae b 1)
else
j6 a
def OX(a:LB):Nat->Int->Option Bool
|0,_=>none
|q+1,b=>ZS aF (OX a q) a b
def YX a:=OX a Az
def aL(j4:LB->Int->Option Bool)(a:LB):Option Bool:=
j4 a 0
def QD:=aL YX
def hH(a:Int):Option Int:=
some a
def UR:=hH
def ED(j6:Int->Option Int)(On:Int->Int->Option Int)(b:List (LB×LB×Unit))(a f:Int):Option Int:=
if(Cp f (Ac b))then
(Aj b f).bind λg=>
On (Ae a (Ae (Ae 8 (Ac g.2.1)) (Hk (Ac g.2.1) 1))) (Ae f 1)
else
j6 a
def Yc(b:List (LB×LB×Unit)):Nat->Int->Int->Option Int
|0,_,_=>none
|q+1,a,f=>ED UR (Yc b q) b a f
def UC b:=Yc b Az
def UZ(j4:(List (LB×LB×Unit))->Int->Int->Option Int)(b:List (LB×LB×Unit)):Option Int:=
j4 b 4 0
def GQ:=UZ UC
def DY(a f:LB):Option Bool:=
(QD a).bind λb=>
some (!b)
def YU:Option Int:=
some 0
def PX:=YU
def OT(j36:Option Int)(k:Bool):Option Int:=
if k then
some 8
else
j36
def Xm:=OT PX
def YV(j35:Bool->Option Int)(m:Bool):Option Int:=
j35 m
def OK:=YV Xm
def ZJ(j26:Bool->Option Int):Option Int:=
j26 (Ts (-1:Int) (0:Int))
def aU:=ZJ OK
def pR(Ac4:Int->Option Int)(a:List (LB×LB×Unit))(b:Int):Option Int:=
Ac4 (Ae b 1)
def YM Ac4:=pR Ac4
def bB(j26:Bool->Option Int)(j23:Int->Option Int)(a:List (LB×LB×Unit))(b:Int)(g:Bool):Option Int:=
if g then
j26 (Ts b 0)
else
j23 b
def aQ Ac4 a:=bB OK (YM Ac4 a) a
def aJ(j22:Int->Bool->Option Int)(j25:Option Int)(a:List (LB×LB×Unit))(b:Int):Option Int:=
if(Cp b (Ac a))then
(Aj a b).bind λo=>
(DY o.1 o.2.1).bind λg=>
j22 b g
else
j25
def NZ(a:List (LB×LB×Unit)):Nat->Int->Option Int
|0,_=>none
|q+1,b=>aJ (aQ (NZ a q) a) aU a b
def ZF a:=NZ a Az
def NY(j35:Bool->Option Int)(n:Bool):Option Int:=
j35 n
def DS:=NY Xm
def NS(j34:Bool->Option Int):Option Int:=
j34 (Ts (-1:Int) (0:Int))
def PB:=NS DS
def OA(cK:Int->Option Int)(a:List (LB×LB×Unit))(f:Int):Option Int:=
cK (Ae f 1)
def DH cK:=OA cK
def DU(j34:Bool->Option Int)(j31:Int->Option Int)(a:List (LB×LB×Unit))(f:Int)(h:Bool):Option Int:=
if h then
j34 (Ts f 0)
else
j31 f
def EZ cK a:=DU DS (DH cK a) a
def Xs(j30:Int->Bool->Option Int)(j33:Option Int)(a:List (LB×LB×Unit))(f:Int):Option Int:=
if(Cp f (Ac a))then
(Aj a f).bind λp=>
(DY p.1 p.2.1).bind λh=>
j30 f h
else
j33
def Qt(a:List (LB×LB×Unit)):Nat->Int->Option Int
|0,_=>none
|q+1,f=>Xs (EZ (Qt a q) a) PB a f
def OO a:=Qt a Az
def HQ(j35:Bool->Option Int)(j19:(List (LB×LB×Unit))->Int->Option Int)(j27:(List (LB×LB×Unit))->Int->Option Int)(u:LB)(a:List (LB×LB×Unit)):Option Int:=
if(Fv (Ac a) 20)then
some 4
else
(QD u).bind λv=>
if(!v)then
if true then
j35 true
else
j19 a 0
else
(GQ a).bind λw=>
if(Fv (Ae w 8) 100000)then
j35 true
else
j27 a 0
def Wq:=HQ Xm ZF OO
def MM(o id:LB)(n:Int):Option LB:=
(Tp (Ad n:UInt64) 4).bind λ(b,_)=>
(Cu o id).bind λp=>
Cu p b
def II:List (LB×LB×Unit)->LB->Option LB
|[],o=>some o
|c::l,o=>
(MM o c.1 (Ac c.2.1)).bind λp=>
(Cu p c.2.1).bind λu=>
(N8 (Hk (Ac c.2.1) 1) (0:UInt8)).bind λz=>
(Cu u z).bind λv=>
II l v
def HK(a:LB)(b:List (LB×LB×Unit)):Option (LB×Int):=
(Wq a b).bind λe=>
if(Ch e 0)then
some (([]:LB),e)
else
(GQ b).bind λn=>
(MM [] [82,73,70,70] n).bind λf=>
(Cu f a).bind λg=>
(II b g).bind λh=>
some (h,0)
def bT(b a f:Int)(g:LX):Option (LB×Int):=
(Gp b a f g).bind λh=>
if(Ch h 0)then
some (([]:LB),h)
else
(FG b a f).bind λ(k,p)=>
(CF a g).bind λ(m,u)=>
(HK ([87,65,86,69]:LB) ([(([102,109,116,32]:LB),k,()),(([100,97,116,97]:LB),m,())]:List (LB×LB×Unit))).bind λ(n,o)=>
some (n,o)
def MI(b f:LB):Option (LB×Int):=
(Gt b f).bind λ(g,h,k,m,a)=>
if(Ch a 0)then
some (([]:LB),a)
else
(bT g h k m).bind λ(n,o)=>
some (n,o)
def Ly(a b f:Int)(g:LX):Option (Int×Int×Int):=
some (a,b,f)
def AY(a b f:Int):Option Bool:=
some ((Fv a 2)||(Fv b 16))
def Me(a b f:Int)(g:UInt64):Option (LB):=
(Au g 2).bind λh=>
(Au (Ad a:UInt64) 2).bind λk=>
(Cu h k).bind λm=>
(Au (Ad f:UInt64) 4).bind λn=>
(Cu m n).bind λo=>
(Au (Be (Ad f:UInt64) (Ad (Cg (Be a b) 8):UInt64)) 4).bind λp=>
(Cu o p).bind λu=>
(Au (Ad (Cg (Be a b) 8):UInt64) 2).bind λv=>
(Cu u v).bind λw=>
(Au (Ad b:UInt64) 2).bind λy=>
(Cu w y).bind λaa=>
some aa
def Zb(b a f:Int)(g:UInt32):Option (LB):=
(Me b a f 65534).bind λh=>
(Cu h ([(22:UInt8),(0:UInt8)]:LB)).bind λk=>
(Au (Ad a:UInt64) 2).bind λm=>
(Cu k m).bind λn=>
(Au (Ad g:UInt64) 4).bind λo=>
(Cu n o).bind λp=>
(Cu p ([(1:UInt8),(0:UInt8),(0:UInt8),(0:UInt8),(0:UInt8),(0:UInt8),(16:UInt8),(0:UInt8),(128:UInt8),(0:UInt8),(0:UInt8),(170:UInt8),(0:UInt8),(56:UInt8),(155:UInt8),(113:UInt8)]:LB)).bind λu=>
some u
def AW(a b f:Int):Option (LB):=
(Me a b f 1).bind λg=>
some g
def Hq(a b f:Int):Option (LB):=
(AY a b f).bind λg=>
if g then
(Zb a b f (Am (Ej (1:UInt32) (GI.toZ (Ad a:UInt64)).toNat) 1)).bind λh=>
some h
else
(AW a b f).bind λk=>
some k
def Zi(a b:Int):Option (LB):=
if(geq a 24)then
(Cu ([(Ad (Is b 256):UInt8),(Ad (Is (Cg b 256) 256):UInt8)]:LB) ([(Ad (Cg b 65536):UInt8)]:LB)).bind λg=>
some g
else
some ([(Ad (Is b 256):UInt8),(Ad (Is (Cg b 256) 256):UInt8)]:LB)
def Ib:=Zi
def Zj(j2:Int->Int->Option (LB))(a:Int)(f:Int32):Option (LB):=
if(geq a 8)then
some ([(Ad (Ae (Ad f:Int) 128):UInt8)]:LB)
else
if(Cp (Ad f:Int) 0)then
(Hv a).bind λh=>
j2 a (Ae (Ad f:Int) (Be 2 h))
else
j2 a (Ad f:Int)
def Qe:=Zj Ib
def ZX(a:LB):Option (LB):=
some a
def JV:=ZX
def Od(j6:LB->Option (LB))(On:Int->LB->Option (LB))(g f h:Int)(b:LX)(k:Int)(a:LB):Option (LB):=
if(Cp k (Ac b))then
(Aj b k).bind λm=>
(Qe f m).bind λn=>
(Cu a n).bind λo=>
On (Ae k 1) o
else
j6 a
def Hg(g f h:Int)(b:LX):Nat->Int->LB->Option (LB)
|0,_,_=>none
|q+1,k,a=>Od JV (Hg g f h b q) g f h b k a
def JU g f h b:=Hg g f h b Az
def Xr(j4:Int->Int->Int->LX->Int->LB->Option (LB))(g f h:Int)(b:LX):Option (LB):=
j4 g f h b 0 ([]:LB)
def Dj:=Xr JU
def JX(a:Int):Option Int:=
some a
def Wu:=JX
def Jj(j6:Int->Option Int)(On:Int->Int->Option Int)(b:List (LB×LB×Unit))(a f:Int):Option Int:=
if(Cp f (Ac b))then
(Aj b f).bind λg=>
(Aj b f).bind λh=>
On (Ae a (Ae (Ae 8 (Ac g.2.1)) (Is (Ac h.2.1) 2))) (Ae f 1)
else
j6 a
def Hc(b:List (LB×LB×Unit)):Nat->Int->Int->Option Int
|0,_,_=>none
|q+1,a,f=>Jj Wu (Hc b q) b a f
def Wc b:=Hc b Az
def Xv(j4:(List (LB×LB×Unit))->Int->Int->Option Int)(b:List (LB×LB×Unit)):Option Int:=
j4 b 12 0
def Vt:=Xv Wc
def FY(f:LB):Option (LB):=
some f
def Uk:=FY
def Mh(j6:LB->Option (LB))(On:Int->LB->Option (LB))(a:List (LB×LB×Unit))(b:Int)(f:LB):Option (LB):=
if(Cp b (Ac a))then
(Aj a b).bind λh=>
(Cu f h.1).bind λk=>
(Aj a b).bind λm=>
(Au (Ad (Ac m.2.1):UInt64) 4).bind λn=>
(Cu k n).bind λo=>
(Aj a b).bind λp=>
(Cu o p.2.1).bind λg=>
(Aj a b).bind λu=>
if(geq (Is (Ac u.2.1) 2) 1)then
(Cu g ([(0:UInt8)]:LB)).bind λv=>
On (Ae b 1) v
else
On (Ae b 1) g
else
j6 f
def Eb(a:List (LB×LB×Unit)):Nat->Int->LB->Option (LB)
|0,_,_=>none
|q+1,b,f=>Mh Uk (Eb a q) a b f
def Uh a:=Eb a Az
def Va(j4:(List (LB×LB×Unit))->Int->LB->Option (LB))(w:LB)(a:List (LB×LB×Unit)):Option (LB):=
(Vt a).bind λy=>
(Au (Ad (Am y 8):UInt64) 4).bind λaa=>
(Cu ([(82:UInt8),(73:UInt8),(70:UInt8),(70:UInt8)]:LB) aa).bind λab=>
(Cu ab w).bind λac=>
j4 a 0 ac
def Cx:=Va Uh
def Ja(f g h:Int)(k:LX):Option (LB):=
(
(
(Ly f g h k).bind λ(n,o,p)=>
(
(Hq n o p).bind λm=>
(
(Dj f g h k).bind λa=>
(Cx ([87,65,86,69]:LB) ([(([102,109,116,32]:LB),m,()),(([100,97,116,97]:LB),a,())]:List (LB×LB×Unit))).bind λb=>
some b))))
def Lk(b f:LB):Option (LB×Int):=
(Bz b f).bind λ(g,h,k,m,a)=>
if(Ch a 0)then
some (([]:LB),a)
else
(Ja g h k m).bind λn=>
some (n,0)
def XT:Option Bool:=
some true
def JS:=XT
def Oe(j6:Option Bool)(On:Int->Option Bool)(f g h:Int)(a:LX)(k m n:Int)(b:LX)(o:Int):Option Bool:=
if(Cp o (Ac a))then
(Aj a o).bind λp=>
(Aj b o).bind λu=>
if(Ch p u)then
some false
else
On (Ae o 1)
else
j6
def Hb(f g h:Int)(a:LX)(k m n:Int)(b:LX):Nat->Int->Option Bool
|0,_=>none
|q+1,o=>Oe JS (Hb f g h a k m n b q) f g h a k m n b o
def IF f g h a k m n b:=Hb f g h a k m n b Az
def Xx(j4:Int->Int->Int->LX->Int->Int->Int->LX->Int->Option Bool)(f g h:Int)(a:LX)(k m n:Int)(b:LX):Option Bool:=
if((((Ch f k)||(Ch g m))||(Ch h n))||(Ch (Ac a) (Ac b)))then
some false
else
j4 f g h a k m n b 0
def Vr:=Xx IF
def aN(a b:LB):Option Int:=
(Gt a b).bind λ(g,h,k,m,f)=>
some f
def Rh(a b:LB):Option Bool:=
(DW a).bind λg=>
if(g||(Fv (Ac b) 200))then
some true
else
(Gt a b).bind λ(h,k,m,n,f)=>
(Bz a b).bind λ(o,p,u,v,w)=>
(MI a b).bind λ(y,aa)=>
(Lk a b).bind λ(ab,ac)=>
(Vr h k m n o p u v).bind λad=>
if(((ad&&(geq f w))&&(y==ab))&&(geq aa ac))then
(aN a b).bind λae=>
some ((geq ae f)&&(a==a))
else
some (false&&(a==a))
def kT(a:LB):Option (LB):=
(
(Cu ([]:LB) a).bind λb=>
some b)
def aI(a:LI):Option (LI):=
(
(Cu ([]:LI) a).bind λb=>
some b)
def vN(a b:LB)(f g h k m:Int)(n:LI)(o:Int)(p:LB)(u:Bool)(v:Int):Option (LB×LB×Int×Int×Int×Int×Int×LI×Int×LB×Bool×Int):=
(kT b).bind λw=>
(kT p).bind λy=>
(aI n).bind λaa=>
some (a,w,f,g,h,k,m,aa,o,y,u,v)
def dX(a f g h k:Int)(b:LB):Option Int:=
if((b==([]:LB)) !=(geq a 1))then
some 26
else
some 0
def IZ(g h k a b:Int):Option (LI):=
(Cm a b).bind λf=>
some f
def eH(f a b g h:Int):Option (Int×Int):=
some (a,b)
def Po(a b:LB):Option Bool:=
if(Cp (Ac a) (Ac b))then
(Bv b 0 (Ac a)).bind λf=>
some (a==f)
else
some false
abbrev Rp:=Option (Int×Int×Int×Int×Int×Int×Int)
def BN(b:Int)(a:LB):Rp:=
(Ke a).bind λ(k,m,n,o,p,h)=>
if(geq h 24)then
some (0,0,0,0,0,0,(-1:Int))
else
some ((Ae b 22),k,m,n,o,p,h)
def BE:=BN
def BF(j2:Int->LB->Rp)(f:LB):Rp:=
(Jd f).bind λ(b,g)=>
if(geq g 24)then
some (0,0,0,0,0,0,(-1:Int))
else
if(Ch g 0)then
some (0,0,0,0,0,0,g)
else
(Bv f b (Ac f)).bind λa=>
(Po a ([73,68,51]:LB)).bind λu=>
if u then
some (0,0,0,0,0,0,(-1:Int))
else
(Po a ([65,80,69,84,65,71,69,88]:LB)).bind λv=>
if v then
some (0,0,0,0,0,0,(-1:Int))
else
j2 b a
def Xc:=BF BE
abbrev Iv:=Option (Int×LI×Int)
def VW(b g:Int)(h:LI):Iv:=
if(geq g 24)then
some (0,([]:LI),(-1:Int))
else
some ((Ae (Ae b (Be 4 (Ac h))) 4),h,g)
def VF:=VW
def WI(j4:Int->Int->LI->Iv)(a:LB)(f k m n o b:Int):Iv:=
(Bv a b (Ac a)).bind λp=>
(IZ f k m n o).bind λu=>
(Kf p (Ac u)).bind λ(h,g)=>
j4 b g h
def VJ:=WI VF
def VX(j3:LB->Int->Int->Int->Int->Int->Int->Iv)(a:LB)(f k m n o:Int)(v:LB):Iv:=
if(geq f 2)then
if(Cp (Ac a) 8)then
some (0,([]:LI),(-1:Int))
else
(Bv a 0 8).bind λw=>
(Hf v).bind λy=>
if(w !=y)then
some (0,([]:LI),26)
else
j3 a f k m n o 8
else
j3 a f k m n o 0
def cG:=VX VJ
abbrev Ex:=Option (LB×Int)
def XG(b:LB):Ex:=
some (b,0)
def XI:=XG
def Ur(j6:LB->Ex)(On:Int->LB->Ex)(f:Int)(a:LX)(g:Int)(b:LB):Ex:=
if(Cp g (Ac a))then
(Aj a g).bind λh=>
(Qe f h).bind λk=>
(Cu b k).bind λm=>
On (Ae g 1) m
else
j6 b
def Ir(f:Int)(a:LX):Nat->Int->LB->Ex
|0,_,_=>none
|q+1,g,b=>Ur XI (Ir f a q) f a g b
def XN f a:=Ir f a Az
def GD(j4:Int->LX->Int->LB->Ex)(f:Int)(a:LX):Ex:=
(Ao f a).bind λn=>
if(Ch n 0)then
(Ao f a).bind λo=>
some (([]:LB),o)
else
j4 f a 0 ([]:LB)
def Rt:=GD XN
abbrev Up:=Option (LB×Int)
def UA(o:LX)(f:Int)(p g:LB)(h k a m n:Int)(u:LI)(b:Int)(v:LB)(w:Bool)(y:Int):Up:=
if(Ch f 0)then
some (([]:LB),f)
else
(Rt a o).bind λ(ac,ai)=>
some (ac,0)
def WK:=UA
def VZ(j2:LX->Int->LB->LB->Int->Int->Int->Int->Int->LI->Int->LB->Bool->Int->Up)(p g:LB)(h k a m n:Int)(u:LI)(b:Int)(v:LB)(w:Bool)(y:Int):Up:=
(Aj u b).bind λaa=>
if(Cp (Ac g) aa)then
some (([]:LB),(-1:Int))
else
(Hn p).bind λ(ad,aj)=>
(Bv g 0 aa).bind λae=>
(eH h k a m n).bind λ(af,ag)=>
(IZ h k a m n).bind λab=>
(Aj ab b).bind λ_=>
(Aj ab b).bind λah=>
(Fm af ag ad ah ae).bind λ(o,f)=>
j2 o f p g h k a m n u b v w y
def cB:=VZ WK
abbrev Ko:=Option (LB×LB×Int×Int×Int×Int×Int×LI×Int×LB×Bool×Int×Int)
def ZG(g a:LB)(m o p u v:Int)(b:LI)(f:Int)(n:LB)(h:Bool)(k:Int):Ko:=
if(geq (Ac b) 0)then
(cG a m o p u v g).bind λ(ag,ak,w)=>
if(Ch w 0)then
some (g,a,m,o,p,u,v,b,f,n,h,k,w)
else
(Bv a ag (Ac a)).bind λal=>
some (g,al,m,o,p,u,v,ak,f,n,h,k,0)
else
if(geq f (Ac b))then
if(Fv (Ac a) 4000)then
some (g,a,m,o,p,u,v,b,f,n,h,k,38)
else
some (g,a,m,o,p,u,v,b,f,n,h,k,(-1:Int))
else
(cB g a m o p u v b f n h k).bind λ(am,y)=>
if(Ch y 0)then
some (g,a,m,o,p,u,v,b,f,n,h,k,y)
else
(Cu ([]:LB) n).bind λan=>
(Cu an am).bind λah=>
(
(
(
(Aj b f).bind λad=>
(
(Bv a ad (Ac a)).bind λae=>
some (g,ae,m,o,p,u,v,b,(Ae f 1),ah,h,k,0)))))
def ZT:=ZG
def YL(g af:LB)(aa w ab ac y:Int)(b:LI)(f:Int)(n:LB)(h:Bool)(k:Int):Ko:=
(dX aa w ab ac y g).bind λaw=>
some (g,af,aa,w,ab,ac,y,b,f,n,h,k,aw)
def YW:=YL
def IV(j3:LB->LB->Int->Int->Int->Int->Int->LI->Int->LB->Bool->Int->Ko)(j4:LB->LB->Int->Int->Int->Int->Int->LI->Int->LB->Bool->Int->Ko)(g a:LB)(m o p u v:Int)(b:LI)(f:Int)(n:LB)(h:Bool)(k:Int):Ko:=
if(geq m 0)then
(Xc a).bind λ(ag,aa,w,ab,ac,y,ai)=>
if(Ch ai 0)then
some (g,a,m,o,p,u,v,b,f,n,h,k,ai)
else
(
(Bv a ag (Ac a)).bind λaf=>
(
j3 g af aa w ab ac y b f n h k))
else
j4 g a m o p u v b f n h k
def EV:=IV YW ZT
abbrev Yx:=Option (LB×LB×Int×Int×Int×Int×Int×LI×Int×LB×Bool×Int)
def YI(f:LB)(g h k m n:Int)(o:LI)(p:Int)(u:Bool)(v:Int)(a b:LB):Yx:=
(Cu ([]:LI) o).bind λaf=>
some (f,a,g,h,k,m,n,af,p,b,u,v)
def YO:=YI
def XU(j2:LB->Int->Int->Int->Int->Int->LI->Int->Bool->Int->LB->LB->Yx)(f w:LB)(g h k m n:Int)(o:LI)(p:Int)(y:LB)(u:Bool)(v:Int):Yx:=
(
(
(
(Cu ([]:LB) w).bind λa=>
(
(Cu ([]:LB) y).bind λb=>
j2 f g h k m n o p u v a b))))
def fD:=XU YO
def wV(b g:LB)(h k m n o:Int)(p:LI)(u:Int)(f:LB)(v:Bool)(w a:Int):Option (LB×LB×Int×Int×Int×Int×Int×LI×Int×LB×Bool×Int×Int):=
some (b,([]:LB),0,0,0,0,0,([]:LI),0,f,false,a,a)
abbrev Xn:=Option (LB×LB×Int×Int×Int×Int×Int×LI×Int×LB×Bool×Int×Int)
def iD(Ac5:LB->Int->Int->Int->Int->Int->Int->LI->LB->Xn)(a:LB)(b:Bool)(f:Int)(ar:LB)(au av aw ax ay az:Int)(bh:Bool)(be:Int)(ba:LI)(bb:LB):Xn:=
if bh then
(vN a ar au av aw ax ay ba az bb b f).bind λ(fh,fi,fj,bc,bi,ai,fk,fl,fm,fn,fo,aj)=>
some (fh,fi,fj,bc,bi,ai,fk,fl,fm,fn,fo,aj,0)
else
if(Ch be 0)then
(wV a ar au av aw ax ay ba az bb b f be).bind λ(fp,fq,fs,ft,fu,fv,fw,fx,fy,fz,ga,gb,gc)=>
some (fp,fq,fs,ft,fu,fv,fw,fx,fy,fz,ga,gb,gc)
else
Ac5 ar au av aw ax ay az ba bb
def TA Ac5:=iD Ac5
def jF(j71:LB->Int->Int->Int->Int->Int->Int->Bool->Int->LI->LB->Xn)(a:LB)(b:Bool)(f m p o u v h:Int)(n:LB)(bs:Bool)(bt:Int)(bu:LB)(bv:LI):Xn:=
j71 bu m p o u v h bs bt bv n
def jH Ac5 a b f:=jF (TA Ac5 a b f) a b f
def gU(a m:LB)(n o p u v:Int)(w:LI)(y:Int)(b:LB)(aa:Bool)(ab:Int):Option (LB×LB×Int×Int×Int×Int×Int×LI×Int×LB×Bool×Int):=
(
(
(Cu ([]:LB) b).bind λf=>
some (a,([]:LB),0,0,0,0,0,([]:LI),0,f,false,0)))
def cJ(b f:LB)(g h k m n:Int)(o:LI)(p:Int)(u:LB)(v:Bool)(w a:Int):Option (LB×LB×Int×Int×Int×Int×Int×LI×Int×LB×Bool×Int×Int):=
(gU b f g h k m n o p u v w).bind λ(y,aa,ab,ac,ad,ae,af,ag,ah,ai,aj,ak)=>
some (y,aa,ab,ac,ad,ae,af,ag,ah,ai,aj,a,a)
abbrev Ze:=Option (LB×LB×Int×Int×Int×Int×Int×LI×Int×LB×Bool×Int×Int)
def ZO(bk3:LB->LB->Int->Int->Int->Int->Int->LI->Int->LB->Bool->Int->Ze)(a b:LB)(f g h k m:Int)(n:LI)(o:Int)(p:LB)(u:Bool)(v:Int):Ze:=
(EV a b f g h k m n o p u v).bind λ(bb,bc,bd,be,bf,bg,bh,bi,bj,bk,bl,bm,w)=>
if(geq w (-1:Int))then
(fD a b f g h k m n o p u v).bind λ(bn,bp,bq,br,bs,bt,bu,bv,bw,bx,bz,da)=>
some (bn,bp,bq,br,bs,bt,bu,bv,bw,bx,bz,da,0)
else
if(Ch w 0)then
(cJ a b f g h k m n o p u v w).bind λ(db,dc,dd,de,df,dg,dh,di,dj,dk,dl,dm,dn)=>
some (db,dc,dd,de,df,dg,dh,di,dj,dk,dl,dm,dn)
else
bk3 bb bc bd be bf bg bh bi bj bk bl bm
def JM:Nat->LB->LB->Int->Int->Int->Int->Int->LI->Int->LB->Bool->Int->Ze
|0,_,_,_,_,_,_,_,_,_,_,_,_=>none
|q+1,a,b,f,g,h,k,m,n,o,p,u,v=>ZO (JM q) a b f g h k m n o p u v
def Vs(a:Int):Option (Int×Int):=
if((Cp a 1)||(Fv a 1048576))then
some (0,2)
else
if(geq (Cg (Be a 256) 245) 0)then
some (1,0)
else
some ((Cg (Be a 256) 245),0)
abbrev RA:=Option (Int×Int×Int×Int×Int×Int×LI×Int)
def ZC(a:LB)(b f g h k n:Int):RA:=
(Zq b f g h k).bind λ(ab,p)=>
if(Ch p 0)then
some (0,0,0,0,0,0,([]:LI),p)
else
(Bv a n (Ac a)).bind λac=>
(OH ac (Ac ab)).bind λ(u,v)=>
if(Ch v 0)then
some (0,0,0,0,0,0,([]:LI),v)
else
some (b,f,g,h,k,(Ae (Ae n (Be 4 (Ac u))) 4),u,0)
def Wx:=ZC
def DD(j2:LB->Int->Int->Int->Int->Int->Int->RA)(a o:LB):RA:=
if(Fv (Ac o) 64)then
some (0,0,0,0,0,0,([]:LI),2)
else
if(Fv (Ac a) 100000)then
some (0,0,0,0,0,0,([]:LI),4)
else
(Xh a).bind λ(m,w)=>
if(Ch w 0)then
some (0,0,0,0,0,0,([]:LI),w)
else
(Bv a m (Ac a)).bind λad=>
(IM ad).bind λ(b,f,g,h,k,y)=>
if(Ch y 0)then
some (0,0,0,0,0,0,([]:LI),y)
else
if((o==([]:LB)) !=(geq b 1))then
some (0,0,0,0,0,0,([]:LI),26)
else
if(o !=([]:LB))then
if(Cp (Ac a) (Ae (Ae m 22) 8))then
some (0,0,0,0,0,0,([]:LI),24)
else
(Bv a (Ae m 22) (Ae (Ae m 22) 8)).bind λae=>
(Ym ae o).bind λ(af,aa)=>
if(Ch aa 0)then
some (0,0,0,0,0,0,([]:LI),aa)
else
if(!af)then
some (0,0,0,0,0,0,([]:LI),26)
else
j2 a b f g h k (Ae (Ae m 22) 8)
else
j2 a b f g h k (Ae m 22)
def Ft:=DD Wx
abbrev Iq:=Option (Int×Int×Int×Int×Int×Int×LI×Int)
def DJ(m n b h k f g:Int)(o:LI):Iq:=
if(Ch n 0)then
some (0,0,0,0,0,0,([]:LI),n)
else
some (b,h,k,f,g,(Ae (Ae m (Be 4 (Ac o))) 4),o,0)
def DA:=DJ
def DE(j4:Int->Int->Int->Int->Int->Int->Int->LI->Iq)(a:LB)(b h k f g m:Int):Iq:=
(Bv a m (Ac a)).bind λy=>
(Cm f g).bind λaa=>
(Kf y (Ac aa)).bind λ(o,n)=>
j4 m n b h k f g o
def Ky:=DE DA
def Ro(j3:LB->Int->Int->Int->Int->Int->Int->Iq)(a u:LB):Iq:=
if(Fv (Ac a) 100000)then
some (0,0,0,0,0,0,([]:LI),4)
else
(Jd a).bind λ(p,v)=>
if(Ch v 0)then
some (0,0,0,0,0,0,([]:LI),v)
else
(Bv a p (Ac a)).bind λab=>
(Ke ab).bind λ(b,h,k,f,g,w)=>
if(Ch w 0)then
some (0,0,0,0,0,0,([]:LI),w)
else
if((u==([]:LB)) !=(geq b 1))then
some (0,0,0,0,0,0,([]:LI),26)
else
if(geq b 2)then
if(Cp (Am (Ac a) (Ae p 22)) 8)then
some (0,0,0,0,0,0,([]:LI),24)
else
(Bv a (Ae p 22) (Ae (Ae p 22) 8)).bind λac=>
(Hf u).bind λad=>
if(ac !=ad)then
some (0,0,0,0,0,0,([]:LI),26)
else
j3 a b h k f g (Ae (Ae p 22) 8)
else
j3 a b h k f g (Ae p 22)
def De:=Ro Ky
def XR(a:Int):Option Int:=
some a
def XK:=XR
def Ul(j6:Int->Option Int)(On:Int->Int->Option Int)(b h k m n o f:Int)(g:LI)(a p:Int):Option Int:=
if(Cp p b)then
(Aj g p).bind λu=>
On (Ae a u) (Ae p 1)
else
j6 a
def It(b h k m n o f:Int)(g:LI):Nat->Int->Int->Option Int
|0,_,_=>none
|q+1,a,p=>Ul XK (It b h k m n o f g q) b h k m n o f g a p
def XD b h k m n o f g:=It b h k m n o f g Az
def XJ(j4:Int->Int->Int->Int->Int->Int->Int->LI->Int->Int->Option Int)(h k m n o f:Int)(g:LI)(b:Int):Option Int:=
j4 b h k m n o f g f 0
def MU:=XJ XD
abbrev AU:=Option (LB×Int)
def KZ(p:LX)(m n g b h k o:Int)(a:LI):AU:=
if(Ch m 0)then
some (([]:LB),m)
else
(Rt b p).bind λ(af,ai)=>
some (af,0)
def KX:=KZ
def KV(j2:LX->Int->Int->Int->Int->Int->Int->Int->LI->AU)(v y:LB)(n g b h k o:Int)(a:LI)(f:Int):AU:=
(MU n g b h k o a f).bind λu=>
(Aj a f).bind λaa=>
if(Cp (Am (Ac v) u) aa)then
some (([]:LB),24)
else
(Hn y).bind λ(ab,ag)=>
(Aj a f).bind λac=>
(Bv v u (Ae u ac)).bind λad=>
(
(Cm h k).bind λw=>
(Aj w f).bind λ_=>
(Aj w f).bind λae=>
(Fm g b ab ae ad).bind λ(p,m)=>
j2 p m n g b h k o a)
def Qu:=KV KX
abbrev Xf:=Option (LB×Int)
def lI(a:LB):Xf:=
(GV a).bind λ(u,aa)=>
(Tp (Ad u:UInt64) 4).bind λ(n,v)=>
(Cu a n).bind λo=>
some (o,0)
def lL:=lI
def XB(j6:LB->Xf)(On:Int->LB->Xf)(b f g h k m:Int)(a:LB):Xf:=
if(Cp m 5)then
(Aj ([b,f,g,h,k]:LI) m).bind λw=>
(Aj ([(2:Int),(2:Int),(2:Int),(4:Int),(4:Int)]:LI) m).bind λy=>
(Tp (Ad w:UInt64) y).bind λ(n,v)=>
(Cu a n).bind λo=>
On (Ae m 1) o
else
j6 a
def Zz(b f g h k:Int):Nat->Int->LB->Xf
|0,_,_=>none
|q+1,m,a=>XB lL (Zz b f g h k q) b f g h k m a
def Ev(a b f:Int)(g:LX):Option (Int×Int):=
some (a,b)
def Bm(b f:Int)(a:LX):Option Int:=
(Cj b f).bind λg=>
if(Ch g 0)then
some 2
else
(Ao f a).bind λh=>
if(Ch h 0)then
(Ao f a).bind λk=>
some k
else
if(Cp (Ac a) 1)then
some 2
else
(Rj (Ch b 0)).bind λ_=>
if(Fv (Is (Ac a) b) 0)then
some 2
else
some 0
abbrev Gu:=Option (LI×Int)
def Pv(a:LI):Gu:=
if(Fv (Ac a) 1000)then
some (([]:LI),4)
else
some (a,0)
def Pn:=Pv
def Ie(j6:LI->Gu)(On:Int->LI->Gu)(b f:Int)(a:LI):Gu:=
if(Fv f 0)then
(Cu a ([(Gv f b)]:LI)).bind λh=>
On (Am f (Gv f b)) h
else
j6 a
def Df(b:Int):Nat->Int->LI->Gu
|0,_,_=>none
|q+1,f,a=>Ie Pn (Df b q) b f a
def Zh b:=Df b Az
def Ps(j4:Int->Int->LI->Gu)(k g:Int):Gu:=
(Vs k).bind λ(b,m)=>
if(((Ch m 0)||(Cp g 1))||(Fv g 4000))then
some (([]:LI),2)
else
j4 b g ([]:LI)
def Yp:=Ps Zh
def Gq(a b:Int):Option (Int×Int):=
(Yp a b).bind λ(f,g)=>
some ((Ac f),g)
def FH(f g a:Int)(h:LX)(b:Int):Option Bool:=
(Ev f g a h).bind λ(k,m)=>
(Dr k m b).bind λn=>
if(Ch n 0)then
some false
else
(Gq a b).bind λ(p,o)=>
some (geq o 0)
def Ci(a f g:Int)(b:LX):Option Int:=
(Ev a f g b).bind λ(h,k)=>
(Bm h k b).bind λm=>
if(Ch m 0)then
some 8
else
(Rj (Ch a 0)).bind λ_=>
(FH a f g b (Cg (Ac b) a)).bind λn=>
if(!n)then
some 8
else
some 0
end Go.Pl
