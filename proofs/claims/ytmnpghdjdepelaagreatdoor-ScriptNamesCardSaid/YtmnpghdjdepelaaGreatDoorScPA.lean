/- A part of a proof (see the text that ends in Proof). No conditions. -/
import Derived.Test.YtmnpghdjdepelaaGreatDoorScBA
set_option linter.unusedVariables false
namespace Go.Pl
open Go Go.Lv
abbrev LB:=List UInt8
abbrev LI:=List Int
abbrev LX:=List Int32
abbrev LU:=List UInt32
abbrev LQ:=List UInt64
variable(F:List (UInt8×Int×Unit))(c d l P ig jr jv jw jy kg ko:Int)(jc:Bool)(mg kr ku:List (UInt8×Int×Unit))(lg:Bool)(D:LI)(z A:LB)(e t I V X:Int)(R:LI)(Y:Int)(N:LB)(C:Bool)(B jf:Int)(i:LX)(M:List LB)(O:LB)(iw:Bool)(J cu:Int)(mh:List LB)(lq mo mq:Int)(jg:LB)(ng:Bool)(ni:Int)(lu:LB)(L:LX)(l5:LB)(nk:Bool)(nu:Int)(ny:LB)(jq:List LB)(og:LB)(j:UInt64)(T:UInt32)(U:UInt64)(jd:LB)(E:Int32)(G:Int)(je iy:LX)(jh:Int32)(l6 oh:Int)(l9 om:UInt64)(Z:LU)(ji jk:Int)(l7:LX)(jm:UInt8)(eu:Int)(oo:Bool)(oq:LQ)(iq:Bool->Option Int)(jl:Bool)(jo:Int)(ou:Option Int)(oz:Bool)(l8:List LI)
def PU:Option Bool:=
if oo then
some ((Gq eu 0)&&(aF eu 100000))
else
if(geq jm 3)then
some (geq eu 0)
else
some false
def QA:=PU
def PL(j2:UInt8->Int->Bool->Option Bool)(a:UInt8)(b:Int):Option Bool:=
if(geq a 1)then
j2 a b (geq a 1)
else
j2 a b (geq a 2)
def JM:=PL QA
def BP:Option Bool:=
(JM jm eu).bind λz=>
some (!z)
def LH:Option Int:=
some 0
def MW:=LH
def MZ:Option Int:=
if oz then
some 2
else
ou
def ND:=MZ MW
def LV:Option Int:=
iq jl
def Wb:=LV ND
def ML:Option Int:=
iq (Gq (-1:Int) (0:Int))
def Wf:=ML Wb
def MH(kL:Int->Option Int)(a:List (UInt8×Int×Unit))(b:Int):Option Int:=
kL (Ac b 1)
def NP kL:=MH kL
def NB(j18:Bool->Option Int)(j15:Int->Option Int)(a:List (UInt8×Int×Unit))(b:Int)(g:Bool):Option Int:=
if g then
j18 (Gq b 0)
else
j15 b
def Vm kL a:=NB Wb (NP kL a) a
def Wc(j14:Int->Bool->Option Int)(j17:Option Int)(a:List (UInt8×Int×Unit))(b:Int):Option Int:=
if(Cf b (Aa a))then
(Ad a b).bind λh=>
(BP h.1 h.2.1).bind λg=>
j14 b g
else
j17
def Mm:Nat->Int->Option Int
|0,_=>none
|z+1,c=>Wc (Vm (Mm z) F) Wf F c
def MQ a:=Mm a Cm
def Zc(j11:(List (UInt8×Int×Unit))->Int->Option Int)(a:List (UInt8×Int×Unit)):Option Int:=
if(Dy (Aa a) 200)then
some 4
else
j11 a 0
def Il:=Zc MQ
def La:Option (Int×Int):=
if((Cf c 1)||(Dy c 1048576))then
some (0,2)
else
some ((bA 1 (Gx (Ep 256 c) 245)),0)
abbrev Ux:=Option (Int32×Int32×Int)
def RW:Ux:=
if jc then
(Ei (Gq (Ao c 1) 0)).bind λ_=>
some ((gB (Gd (1:Int32) (GI.toZ (Ao c 1)).toNat)),(Ao (Gd (1:Int32) (GI.toZ (Ao c 1)).toNat) 1),0)
else
some (0,0,2)
def UK:=RW
def TD(j2:Int->Bool->Ux)(a:Int):Ux:=
if(geq a 8)then
j2 a (geq a 8)
else
if(geq a 16)then
j2 a (geq a 16)
else
j2 a (geq a 24)
def Ub:=TD UK
def Ng:Option Int:=
(Ub d).bind λ(z,e,i)=>
if(((Bm i 0)||(Cf c 1))||(Dy c 6))then
some 2
else
some 0
def Uw:Option (Int×Bool):=
(La l).bind λ(e,i)=>
(Ng c d).bind λj=>
some (e,(((geq j 0)&&(geq i 0))&&(aF (Aa z) 64)))
def OT:Option (Int×Int×Int×LB×LB×LX×(List LB)×LB×Bool×Int×Int):=
(Uw c d l z).bind λ(e,i)=>
if(!i)then
some (0,0,0,([]:LB),([]:LB),([]:LX),([]:List LB),([]:LB),false,0,2)
else
some (c,d,l,z,([]:LB),([]:LX),([]:List LB),([]:LB),false,0,0)
def Qm:Option Int:=
some (Gx (Ep c d) 8)
def UH:Option Int:=
some 0
def BW:=UH
def AJ(j6:Option Int)(AA:Int->Option Int)(b f:Int32)(a:LX)(g:Int):Option Int:=
if(Cf g (Aa a))then
(Ad a g).bind λh=>
if((Cf h b)||(Dy h f))then
some 16
else
AA (Ac g 1)
else
j6
def Qk:Nat->Int->Option Int
|0,_=>none
|z+1,c=>AJ BW (Qk z) E jh l7 c
def RF b f a:=Qk b f a Cm
def BS(j4:Int32->Int32->LX->Int->Option Int)(m:Int)(a:LX):Option Int:=
(Ub m).bind λ(b,f,k)=>
if(Bm k 0)then
some k
else
if(Dy (Aa a) 4000)then
some 4
else
j4 b f a 0
def Nl:=BS RF
def Nb(a h k:Int)(m n:LB)(b:LX)(f:List LB)(o:LB)(p:Bool)(u g:Int):Option Int:=
(Ei (Bm a 0)).bind λ_=>
some (Ac (Ep (Aa f) g) (Gx (Aa b) a))
def Xz(a g h:Int)(k m:LB)(n:LX)(o:List LB)(p:LB)(u:Bool)(v b f:Int):Option Bool:=
some ((aF b 1000)&&(aF (Ep f a) 4000))
def DV:Option Bool:=
some (!jc)
def DX:=DV
def DM(j24:Bool->Option Bool)(y:Bool):Option Bool:=
j24 y
def Pj:=DM DX
def DT(j23:Bool->Option Bool):Option Bool:=
j23 (Gq (-1:Int) (0:Int))
def Pc:=DT Pj
def DU(Du:Int->Option Bool)(b:List LB)(f a h:Int):Option Bool:=
Du (Ac h 1)
def DQ Du:=DU Du
def DZ(j23:Bool->Option Bool)(j20:Int->Option Bool)(b:List LB)(f a h:Int)(w:LB):Option Bool:=
if((Cf (Aa w) 5)||(Dy (Aa w) (Ac (Gx (Ac (Ep (Ep 81 f) a) 7) 8) 4)))then
j23 (Gq h 0)
else
j20 h
def Oy Du b f a:=DZ Pj (DQ Du b f a) b f a
def Pe(j19:Int->LB->Option Bool)(j22:Option Bool)(b:List LB)(f a h:Int):Option Bool:=
if(Cf h (Aa b))then
(Ad b h).bind λw=>
j19 h w
else
j22
def Jd:Nat->Int->Option Bool
|0,_=>none
|z+1,c=>Pe (Oy (Jd z) M J cu) Pc M J cu c
def DL b f a:=Jd b f a Cm
def Ox(j16:(List LB)->Int->Int->Int->Option Bool)(f a k o:Int)(p m:LB)(g:LX)(b:List LB)(n:LB)(u:Bool)(v:Int):Option Bool:=
j16 b f a 0
def EA:=Ox DL
def Pa(j15:Int->Int->Int->Int->LB->LB->LX-> (List LB)->LB->Bool->Int->Option Bool)(f a k o:Int)(p m:LB)(g:LX)(b:List LB)(n:LB)(u:Bool)(v aa:Int):Option Bool:=
(Nb a k o p m g b n u v f).bind λab=>
(Xz a k o p m g b n u v aa ab).bind λac=>
if(!ac)then
some false
else
j15 f a k o p m g b n u v
def DO:=Pa EA
def Pf(j14:Int->Int->Int->Int->LB->LB->LX-> (List LB)->LB->Bool->Int->Int->Option Bool)(f a k o:Int)(p m:LB)(g:LX)(b:List LB)(n:LB)(u:Bool)(v:Int):Option Bool:=
(Nl k g).bind λad=>
if(Bm ad 0)then
some false
else
if(Dy (Aa g) 0)then
j14 f a k o p m g b n u v (Ac (Aa b) 1)
else
j14 f a k o p m g b n u v (Aa b)
def Pb:=Pf DO
def Qo(j13:Int->Int->Int->Int->LB->LB->LX-> (List LB)->LB->Bool->Int->Option Bool)(a k o:Int)(p m:LB)(g:LX)(b:List LB)(n:LB)(u:Bool)(v f:Int):Option Bool:=
if(Dy (Aa n) 0)then
if true then
if true then
if(true||(Dy (Aa b) 1000))then
some false
else
j13 f a k o p m g b n u v
else
(Ei (Bm a 0)).bind λ_=>
if((Gq (Gx (Aa g) a) f)||(Dy (Aa b) 1000))then
some false
else
j13 f a k o p m g b n u v
else
(Ei (Bm a 0)).bind λ_=>
if(Bm (Ho (Aa g) a) 0)then
if(true||(Dy (Aa b) 1000))then
some false
else
j13 f a k o p m g b n u v
else
(Ei (Bm a 0)).bind λ_=>
if((Gq (Gx (Aa g) a) f)||(Dy (Aa b) 1000))then
some false
else
j13 f a k o p m g b n u v
else
(Qm a k).bind λae=>
if(Gq (Aa m) ae)then
if true then
if(true||(Dy (Aa b) 1000))then
some false
else
j13 f a k o p m g b n u v
else
(Ei (Bm a 0)).bind λ_=>
if((Gq (Gx (Aa g) a) f)||(Dy (Aa b) 1000))then
some false
else
j13 f a k o p m g b n u v
else
(Ei (Bm a 0)).bind λ_=>
if(Bm (Ho (Aa g) a) 0)then
if(true||(Dy (Aa b) 1000))then
some false
else
j13 f a k o p m g b n u v
else
(Ei (Bm a 0)).bind λ_=>
if((Gq (Gx (Aa g) a) f)||(Dy (Aa b) 1000))then
some false
else
j13 f a k o p m g b n u v
def Yu:=Qo Pb
def Un:Option Int:=
(Uw c d l z).bind λ(e,j)=>
if(!j)then
some 8
else
if(Bm J 0)then
if(!(((((geq J 18)||(geq J 24))&&(!iw))&&(geq (Ac (Ac (Aa A) (Aa i)) (Aa M)) 0))&&(geq (Aa O) 0)))then
some 8
else
some 0
else
if iw then
if(!((geq (Ac (Ac (Aa A) (Aa i)) (Aa M)) 0)&&(aF (Aa O) 100000)))then
some 8
else
some 0
else
(Yu c d l z A i M O iw J e).bind λt=>
if(!t)then
some 8
else
some 0
def Bk:Option (LB):=
(
(By ([]:LB) z).bind λc=>
some c)
def Bz:Option (LX):=
(
(By ([]:LX) i).bind λz=>
some z)
abbrev De:=Option (Int×Int×Int×LB×LB×LX×(List LB)×LB×Bool×Int)
def QM(b f g:Int)(h:LB)(a:List LB)(k:Bool)(m:Int)(u:List LB)(n:LB)(o:LX)(p:LB):De:=
some (b,f,g,h,n,o,u,p,k,m)
def Yy:=QM
def Zo(j8:Int->Int->Int->LB-> (List LB)->Bool->Int-> (List LB)->LB->LX->LB->De)(qS:Int-> (List LB)->De)(w a:List LB)(b f g:Int)(h:LB)(k:Bool)(m:Int)(n:LB)(o:LX)(p:LB)(v:Int)(u:List LB):De:=
if(Cf v (Aa (PB w a)))then
(Ad u v).bind λ_=>
(Ad u v).bind λy=>
(Bk y).bind λaa=>
(Ad u v).bind λ_=>
(Io u v aa).bind λab=>
qS (Ac v 1) ab
else
j8 b f g h a k m u n o p
def Oq:Nat->Int-> (List LB)->De
|0,_,_=>none
|z+1,c,d=>Zo Yy (Oq z) M mh lq mo mq jg ng ni lu L l5 c d
def PY w a b f g h k m n o p:=Oq w a b f g h k m n o p Cm
def Za(j6:(List LB)-> (List LB)->Int->Int->Int->LB->Bool->Int->LB->LX->LB->Int-> (List LB)->De)(b f g:Int)(h:LB)(a:List LB)(k:Bool)(m:Int)(n:LB)(o:LX)(p:LB):De:=
(eF (Aa a) ([]:LB)).bind λw=>
(Ei (geq (Aa a) (Aa a))).bind λ_=>
j6 w a b f g h k m n o p 0 (PB w a)
def QB:=Za PY
def Yl(j5:Int->Int->Int->LB-> (List LB)->Bool->Int->LB->LX->LB->De)(b f g:Int)(h ac:LB)(ad:LX)(a:List LB)(ae:LB)(k:Bool)(m:Int):De:=
(Bk ac).bind λn=>
(Bz ad).bind λo=>
(Bk ae).bind λp=>
j5 b f g h a k m n o p
def Xq:=Yl QB
abbrev Of:=Option (Int×Int×Int×LB×LB×LX×(List LB)×LB×Bool×Int×Int×Int)
def KW:Of:=
(Xq d l P z A i M O iw J).bind λ(e,j,t,B,C,D,E,F,G,I)=>
some (e,j,t,B,C,D,E,F,G,I,c,cu)
def NS:=KW
def KR(j2:Int->Int->Int->Int->LB->LB->LX-> (List LB)->LB->Bool->Int->Int->Of)(g h b:Int)(k m:LB)(n:LX)(o:List LB)(p:LB)(f:Bool)(a:Int):Of:=
(Un g h b k m n o p f a).bind λv=>
if(Bm v 0)then
some (0,0,0,([]:LB),([]:LB),([]:LX),([]:List LB),([]:LB),false,0,0,v)
else
(La b).bind λ(u,aj)=>
if(Bm a 0)then
j2 u g h b k m n o p f a a
else
if f then
j2 u g h b k m n o p f a 36
else
j2 u g h b k m n o p f a aj
def Vb:=KR NS
abbrev Bf:=Option (LX×Int)
def JL:Bf:=
some (i,0)
def Tp:=JL
def HY(Du:Int->LX->Bf)(a:Int)(b:LB)(f:Int)(o:LX):Bf:=
Du (Ac f (Gx a 8)) o
def Lj Du:=HY Du
def HH(j28:Int->LX->Bf)(a:Int)(b:LB)(f:Int)(k:Int32)(g:LX):Bf:=
(Ei (Gq (Ao 32 a) 0)).bind λ_=>
(Ei (Gq (Ao 32 a) 0)).bind λ_=>
(By g ([(Ch (Gd k (GI.toZ (Ao 32 a)).toNat) (GI.toZ (Ao 32 a)).toNat)]:LX)).bind λp=>
j28 f p
def Tn Du a b:=HH (Lj Du a b) a b
def Tk(j27:Int->Int32->LX->Bf)(rT:Int32->Int->Bf)(a:Int)(b:LB)(f:Int)(g:LX)(k:Int32)(h:Int):Bf:=
if(Cf h (Gx a 8))then
(Ad b (Ac f h)).bind λm=>
(Ei (Gq (Ep 8 h) 0)).bind λ_=>
rT (iC k (Gd (Aq m:Int32) (GI.toZ (Ep 8 h)).toNat)) (Ac h 1)
else
j27 f k g
def Ls(Du:Int->LX->Bf)(a:Int)(b:LB)(f:Int)(g:LX):Nat->Int32->Int->Bf
|0,_,_=>none
|q+1,k,h=>Tk (Tn Du a b) (Ls Du a b f g q) a b f g k h
def Tw Du a b f g:=Ls Du a b f g Cm
def Uc(j28:Int->LX->Bf)(j25:Int->LX->Int32->Int->Bf)(j30:LX->Bf)(a:Int)(b:LB)(f:Int)(g:LX):Bf:=
if(Cf f (Aa b))then
if(geq a 8)then
(Ad b f).bind λm=>
(By g ([(Ao (Aq m:Int32) 128)]:LX)).bind λu=>
j28 f u
else
j25 f g 0 0
else
j30 g
def Hz:Nat->Int->LX->Bf
|0,_,_=>none
|d+1,e,i=>Uc (Lj (Hz d) c z) (Tw (Hz d) c z) Tp c z e i
def JY a b:=Hz a b Cm
def We(j16:Int->LB->Int->LX->Bf)(a:Int)(b:LB):Bf:=
(Ub a).bind λ(v,w,n)=>
if(Bm n 0)then
some (([]:LX),n)
else
(Ei (Bm (Gx a 8) 0)).bind λ_=>
if(Bm (Ho (Aa b) (Gx a 8)) 0)then
some (([]:LX),12)
else
(Ei (Bm (Gx a 8) 0)).bind λ_=>
if(Dy (Gx (Aa b) (Gx a 8)) 4000)then
some (([]:LX),4)
else
j16 a b 0 ([]:LX)
def EN:=We JY
abbrev Bc:=Option (UInt64×Int)
def SY:Bc:=
some (j,0)
def TB:=SY
def RI(j30:UInt64->Bc)(h b:UInt64)(a:LB)(f:LQ):Bc:=
j30 h
def BR:=RI TB
def BC(j29:UInt64->UInt64->LB->LQ->Bc)(Ye:UInt64->Int->Bc)(a:LB)(b:UInt64)(f:LQ)(h:UInt64)(m:Int):Bc:=
if(Cf m (Aa a))then
(Ad a m).bind λp=>
Option.bind (Ad f (GI.toZ (NF (Aq (Ch h (GI.toZ (56:UInt64)).toNat):UInt8) p))) λ_=>
Option.bind (Ad f (GI.toZ (NF (Aq (Ch h (GI.toZ (56:UInt64)).toNat):UInt8) p))) λu=>
Ye (NF (Gd h (GI.toZ (8:UInt64)).toNat) u) (Ac m 1)
else
j29 h b a f
def Qn:Nat->UInt64->Int->Bc
|0,_,_=>none
|c+1,d,e=>BC BR (Qn c) z j oq d e
def AS a b f:=Qn a b f Cm
def AI(j27:LB->UInt64->LQ->UInt64->Int->Bc)(b:UInt64)(a:LB)(f:LQ):Bc:=
j27 a b f b 0
def TF:=AI AS
def RC(Du:Int->LQ->Bc)(b:UInt64)(a:LB)(g:Int)(o:LQ):Bc:=
Du (Ac g 1) o
def RZ Du:=RC Du
def RQ(j24:Int->LQ->Bc)(b:UInt64)(a:LB)(g:Int)(k:UInt64)(f:LQ):Bc:=
(Ad f g).bind λ_=>
(Io f g k).bind λo=>
j24 g o
def AP Du b a:=RQ (RZ Du b a) b a
def AB(j23:Int->UInt64->LQ->Bc)(oT:UInt64->Int->Bc)(b:UInt64)(a:LB)(g:Int)(f:LQ)(k:UInt64)(n:Int):Bc:=
if(Cf n 8)then
oT (NF (Gd k (GI.toZ (1:UInt64)).toNat) (Ep 4823603603198064275 (Ch k (GI.toZ (63:UInt64)).toNat))) (Ac n 1)
else
j23 g k f
def Rc(Du:Int->LQ->Bc)(b:UInt64)(a:LB)(g:Int)(f:LQ):Nat->UInt64->Int->Bc
|0,_,_=>none
|q+1,k,n=>AB (AP Du b a) (Rc Du b a g f q) b a g f k n
def CM Du b a g f:=Rc Du b a g f Cm
def BF(j21:Int->LQ->UInt64->Int->Bc)(j26:UInt64->LB->LQ->Bc)(b:UInt64)(a:LB)(g:Int)(f:LQ):Bc:=
if(Cf g 256)then
j21 g f (Gd (Aq g:UInt64) (GI.toZ (56:UInt64)).toNat) 0
else
j26 b a f
def Rp:Nat->Int->LQ->Bc
|0,_,_=>none
|z+1,c,d=>BF (CM (Rp z) j jd) TF j jd c d
def SO b a:=Rp b a Cm
def FB(j16:UInt64->LB->Int->LQ->Bc)(b:UInt64)(a:LB):Bc:=
if(Dy (Aa a) 100000)then
some (0,4)
else
j16 b a 0 (List.replicate 256 (0:UInt64))
def TZ:=FB SO
def ME:Option (UInt64×Int):=
(TZ 0 z).bind λ(c,d)=>
some (c,d)
def eI:Option (LX):=
some i
def RX:=eI
def UX(j6:LX->Option (LX))(AA:Int->LX->Option (LX))(f:UInt64)(a:Int)(b:LX):Option (LX):=
if(Cf a 8)then
(Ei (Gq (Ep 8 a) 0)).bind λ_=>
(Ad b a).bind λ_=>
(Io b a (Aq (Aq (Ch f (GI.toZ (Ep 8 a)).toNat):Int8):Int32)).bind λg=>
AA (Ac a 1) g
else
j6 b
def GG:Nat->Int->LX->Option (LX)
|0,_,_=>none
|z+1,c,d=>UX RX (GG z) j c d
def eK f:=GG f Cm
def UA(j4:UInt64->Int->LX->Option (LX))(f:UInt64):Option (LX):=
j4 f 0 (List.replicate 16 (0:Int32))
def eR:=UA eK
def My:Option (LX×Int):=
if(Dy (Aa z) 64)then
some (([(0:Int32),(0:Int32),(0:Int32),(0:Int32),(0:Int32),(0:Int32),(0:Int32),(0:Int32),(0:Int32),(0:Int32),(0:Int32),(0:Int32),(0:Int32),(0:Int32),(0:Int32),(0:Int32)]:LX),2)
else
(ME z).bind λ(c,d)=>
if(Bm d 0)then
some (([(0:Int32),(0:Int32),(0:Int32),(0:Int32),(0:Int32),(0:Int32),(0:Int32),(0:Int32),(0:Int32),(0:Int32),(0:Int32),(0:Int32),(0:Int32),(0:Int32),(0:Int32),(0:Int32)]:LX),d)
else
(eR c).bind λe=>
some (e,0)
def EJ:Option Int:=
(Ng c d).bind λz=>
if(Bm z 0)then
some z
else
(Nl d i).bind λe=>
if(Bm e 0)then
some e
else
if(geq (Aa i) 0)then
some 2
else
(Ei (Bm c 0)).bind λ_=>
if(Bm (Ho (Aa i) c) 0)then
some 2
else
some 0
def MX:Option Int:=
if((Cf c 1)||(Dy c 6))then
some 2
else
if(Dy (Aa i) 4000)then
some 4
else
(Ei (Bm c 0)).bind λ_=>
if(Bm (Ho (Aa i) c) 0)then
some 2
else
some 0
abbrev Dh:=Option (LX×Int)
def bO:Dh:=
some (i,0)
def NX:=bO
def aR(Se:Int->LX->Dh)(b a:Int)(u:LX):Dh:=
Se (Ac a b) u
def bX Se:=aR Se
def cP(j20:Int->LX->Dh)(b a:Int)(g:LX):Dh:=
if(Dy (Ao ((Ac a b)-a) 1) 0)then
(Ei (decide (0<= (Ao ((Ac a b)-a) 1)/\ (Ao ((Ac a b)-a) 1)<((Ac a b)-a)))).bind λ_=>
Option.bind (Ei (decide (0<= (Ao (Ao ((Ac a b)-a) 1) 1)/\ (Ao (Ao ((Ac a b)-a) 1) 1)<((Ac a b)-a)))) λ_=>
(Ad g (a+(Ao ((Ac a b)-a) 1))).bind λk=>
(Ad g (a+(Ao (Ao ((Ac a b)-a) 1) 1))).bind λm=>
(Ei (decide (0<= (Ao ((Ac a b)-a) 1)/\ (Ao ((Ac a b)-a) 1)<((Ac a b)-a)))).bind λ_=>
(Io g (a+(Ao ((Ac a b)-a) 1)) (Ao k (Gx m 2))).bind λn=>
j20 a n
else
j20 a g
def NZ Se b:=cP (bX Se b) b
def NV(j19:Int->LX->Dh)(Vh:Int->LX->Dh)(b a f:Int)(g:LX):Dh:=
if(Cf f (Ao ((Ac a b)-a) 1))then
(Ei (decide (0<= (Ac f 1)/\ (Ac f 1)<((Ac a b)-a)))).bind λ_=>
(Ei (decide (0<=f/\f<((Ac a b)-a)))).bind λ_=>
(Ad g (a+(Ac f 1))).bind λk=>
(Ad g (a+f)).bind λm=>
(Ei (decide (0<=f/\f<((Ac a b)-a)))).bind λ_=>
(Io g (a+f) (Ao k m)).bind λn=>
Vh (Ac f 1) n
else
j19 a g
def BU(Se:Int->LX->Dh)(b a:Int):Nat->Int->LX->Dh
|0,_,_=>none
|q+1,f,g=>NV (NZ Se b) (BU Se b a q) b a f g
def OI Se b a:=BU Se b a Cm
def OF(j17:Int->Int->LX->Dh)(j22:LX->Dh)(b a:Int)(h:LX):Dh:=
if(Cf a (Aa h))then
(KP (Aa h) a (Ac a b)).bind λ_=>
j17 a 0 h
else
j22 h
def CP:Nat->Int->LX->Dh
|0,_,_=>none
|z+1,d,e=>OF (OI (CP z) c) NX c d e
def aM b:=CP b Cm
def SX(j12:Int->Int->LX->Dh)(b:Int)(o:LX):Dh:=
(MX b o).bind λp=>
if(Bm p 0)then
some (([]:LX),p)
else
(Bz o).bind λv=>
j12 b 0 v
def fS:=SX aM
abbrev FU:=Option (Int×LX×LX×Int)
def cN:FU:=
if iw then
some (10,i,(List.replicate 16 (0:Int32)),0)
else
if(geq c 16)then
some (9,i,(List.replicate 16 (0:Int32)),0)
else
some (0,(List.replicate 16 (0:Int32)),(List.replicate 16 (0:Int32)),2)
def bB:=cN
def bU(j2:Int->LX->Bool->FU)(a:Int)(b:LX):FU:=
if(geq a 8)then
j2 a b (geq a 8)
else
j2 a b (geq a 24)
def TY:=bU bB
def NQ:Option (Int×Int32×Int×LX×LX×Int):=
(TY c i).bind λ(z,d,e,j)=>
if(Bm j 0)then
some (0,0,0,(List.replicate 16 (0:Int32)),(List.replicate 16 (0:Int32)),j)
else
some (c,0,z,d,e,0)
def Nk(a:Int)(k:Int32)(b:Int)(f m:LX):Option Int:=
(TY a f).bind λ(g,n,o,h)=>
if((Bm h 0)||(Bm g b))then
some 8
else
some 0
def OO:Option (Int×Int):=
if(geq c 8)then
some (4,0)
else
if(geq c 16)then
if(geq c 16)then
some (5,0)
else
some (0,2)
else
if(geq c 24)then
some (5,0)
else
some (0,2)
def NW:Option Int32:=
(Ei (Gq c 0)).bind λ_=>
(Ei (Gq c 0)).bind λ_=>
some (Aq (gR (Ao (Gd (Aq E:Int) (GI.toZ c).toNat) (Aq E:Int)) (GI.toZ c).toNat):Int32)
def Nn:Option (Int32×Int):=
(OO c).bind λ(z,d)=>
if(Bm d 0)then
some (0,d)
else
(NW z E).bind λe=>
some (e,0)
def Rb(a:Int)(b f:LX):Option Int:=
if((Bm a 9)&&(Bm a 10))then
some 8
else
some 0
abbrev Gt:=Option (Int32×Int)
def VZ(h:Int32)(a:Int)(b f:LX):Gt:=
(Ei (Gq a 0)).bind λ_=>
some ((Ch h (GI.toZ a).toNat),0)
def EM:=VZ
def EU(j6:Int32->Int->LX->LX->Gt)(AA:Int32->Int->Gt)(b:LX)(a:Int)(f:LX)(h:Int32)(g:Int):Gt:=
if(Cf g 16)then
(Ad b g).bind λm=>
(Ad f g).bind λ_=>
(Ad f g).bind λn=>
AA (Ac h (Ep m n)) (Ac g 1)
else
j6 h a b f
def Va:Nat->Int32->Int->Gt
|0,_,_=>none
|z+1,c,d=>EU EM (Va z) i J L c d
def VR b a f:=Va b a f Cm
def EH(j4:LX->Int->LX->Int32->Int->Gt)(a:Int)(b f:LX):Gt:=
(Rb a b f).bind λk=>
if(Bm k 0)then
some (0,k)
else
(Ei (Gq (Ao a 1) 0)).bind λ_=>
j4 b a f (Gd (1:Int32) (GI.toZ (Ao a 1)).toNat) 0
def GC:=EH VR
def LJ:Option Int32:=
if(geq c 0)then
some 4
else
if(Cf c 4)then
some 2
else
some 1
abbrev Gk:=Option (Int×LX×LX×Int)
def WB:Gk:=
some (c,i,L,0)
def EW:=WB
def EV(j6:Int->LX->LX->Gk)(AA:Int->LX->Gk)(h:Int32)(f:LX)(g a:Int)(b:LX):Gk:=
if(Cf a 16)then
(Ad f a).bind λm=>
if(geq m 0)then
AA (Ac a 1) b
else
if((Cf m 0)==(Cf h 0))then
(Ad b a).bind λ_=>
(Ad b a).bind λo=>
(LJ a).bind λp=>
(Ad b a).bind λ_=>
(Io b a (Ac o p)).bind λu=>
AA (Ac a 1) u
else
(Ad b a).bind λ_=>
(Ad b a).bind λv=>
(LJ a).bind λw=>
(Ad b a).bind λ_=>
(Io b a (Ao v w)).bind λy=>
AA (Ac a 1) y
else
j6 g b f
def Um:Nat->Int->LX->Gk
|0,_,_=>none
|z+1,c,d=>EV EW (Um z) E je l6 c d
def VL h f g:=Um h f g Cm
def FA(j4:Int32->LX->Int->Int->LX->Gk)(g:Int)(k f:LX)(h:Int32):Gk:=
(Rb g k f).bind λn=>
if(Bm n 0)then
some (0,(List.replicate 16 (0:Int32)),(List.replicate 16 (0:Int32)),n)
else
if(geq h 0)then
some (g,k,f,0)
else
j4 h f g 0 k
def UY:=FA VL
abbrev CK:=Option (Int×LX×LX×Int)
def XZ:CK:=
(Ad (Hk iy 1 ((16:Int)-(1:Int)) (Rg iy 0 ((16:Int)-(0:Int)))) 0).bind λ_=>
(Io (Hk iy 1 ((16:Int)-(1:Int)) (Rg iy 0 ((16:Int)-(0:Int)))) 0 E).bind λz=>
some (G,je,z,0)
def JG:=XZ
def Xn(j2:Int32->Int->LX->LX->CK)(b:Int)(f a:LX)(g:Int32):CK:=
(Rb b f a).bind λh=>
if(Bm h 0)then
some (0,(List.replicate 16 (0:Int32)),(List.replicate 16 (0:Int32)),h)
else
(
(KP 16 1 16).bind λ_=>
(KP 16 0 16).bind λ_=>
j2 g b f a)
def XL:=Xn JG
def FO:Option (Int×LX×LX):=
(UY c i L jh).bind λ(z,d,e,j)=>
(XL z d e E).bind λ(l,t,A,B)=>
some (l,t,A)
def CW:Option (Int32×Int×LX×LX×Int):=
(GC c i L).bind λ(z,d)=>
if(Bm d 0)then
some (0,0,(List.replicate 16 (0:Int32)),(List.replicate 16 (0:Int32)),d)
else
(FO c i L E (Ao E z)).bind λ(e,j,l)=>
some ((Ao E z),e,j,l,0)
def Na:Option (Int32×Int×Int32×Int×LX×LX×Int):=
(Nk c E G je iy).bind λz=>
if(Bm z 0)then
some (0,0,0,0,(List.replicate 16 (0:Int32)),(List.replicate 16 (0:Int32)),z)
else
(Nn c E).bind λ(d,e)=>
(CW G je iy (Ao jh d)).bind λ(i,j,l,t,A)=>
(
some (i,c,jh,j,l,t,A))
def WO:Option UInt32:=
some (NF (Gd (Aq E:UInt32) (GI.toZ (1:UInt64)).toNat) (Aq (Ch E (GI.toZ (31:UInt64)).toNat):UInt32))
abbrev Bn:=Option (LU×Int)
def GQ:Bn:=
some (Z,0)
def Rz:=GQ
def Rr(j12:LU->Bn)(oU:Int-> (List (Int×Int32×(Int×LX×LX×Unit)×Unit))->LU->Bn)(b:LX)(a f g:Int)(k:List (Int×Int32×(Int×LX×LX×Unit)×Unit))(h:LU):Bn:=
if(Cf g (Aa b))then
(Ad b g).bind λ_=>
(Ad b g).bind λac=>
(Ei (Bm a 0)).bind λ_=>
(Ad k (Ho g a)).bind λ_=>
(Ad k (Ho g a)).bind λp=>
(Na p.1 p.2.1 p.2.2.1.1 p.2.2.1.2.1 p.2.2.1.2.2.1 ac).bind λ(u,ad,ae,v,af,ag,w)=>
if(Bm w 0)then
some (([]:LU),w)
else
(Io k (Ho g a) (ad,ae,(v,af,ag,()),())).bind λah=>
(WO u).bind λai=>
(By h ([ai]:LU)).bind λaj=>
oU (Ac g 1) ah aj
else
j12 h
def Kj:Nat->Int-> (List (Int×Int32×(Int×LX×LX×Unit)×Unit))->LU->Bn
|0,_,_,_=>none
|z+1,c,d,e=>Rr Rz (Kj z) i J cu c d e
def Qi b a f:=Kj b a f Cm
def Sn(j10:LX->Int->Int->Int-> (List (Int×Int32×(Int×LX×LX×Unit)×Unit))->LU->Bn)(a f:Int)(b:LX)(m:List (Int×Int32×(Int×LX×LX×Unit)×Unit)):Bn:=
j10 b a f 0 m ([]:LU)
def HI:=Sn Qi
def Sr(j9:Int->Int->LX-> (List (Int×Int32×(Int×LX×LX×Unit)×Unit))->Bn)(tA:Int-> (List (Int×Int32×(Int×LX×LX×Unit)×Unit))->Bn)(a f:Int)(n b:LX)(o:Int)(m:List (Int×Int32×(Int×LX×LX×Unit)×Unit)):Bn:=
if(Cf o 6)then
(NQ f n).bind λ(ak,al,u,am,an,v)=>
(Ad m o).bind λ_=>
(Io m o (ak,al,(u,am,an,()),())).bind λao=>
tA (Ac o 1) ao
else
j9 a f b m
def Lm:Nat->Int-> (List (Int×Int32×(Int×LX×LX×Unit)×Unit))->Bn
|0,_,_=>none
|z+1,e,j=>Sr HI (Lm z) c d i L e j
def KN a f n b:=Lm a f n b Cm
def Th(j7:Int->Int->LX->LX->Int-> (List (Int×Int32×(Int×LX×LX×Unit)×Unit))->Bn)(a f:Int)(n y:LX):Bn:=
(EJ a f y).bind λaa=>
if(Bm aa 0)then
some (([]:LU),aa)
else
(fS a y).bind λ(b,ab)=>
if(Bm ab 0)then
some (([]:LU),ab)
else
j7 a f n b 0 (List.replicate 6 ((0:Int),(0:Int32),((0:Int),(List.replicate 16 (0:Int32)),(List.replicate 16 (0:Int32)),()),()))
def AV:=Th KN
def HC:Option (Int×Int×UInt64×UInt64):=
some (10,10,16384,16384)
abbrev Ds:=Option ((List (Int×Int×UInt64×UInt64×Unit)))
def JO(a:List (Int×Int×UInt64×UInt64×Unit)):Ds:=
some a
def Tv:=JO
def Ua(j6:(List (Int×Int×UInt64×UInt64×Unit))->Ds)(AA:Int-> (List (Int×Int×UInt64×UInt64×Unit))->Ds)(b:Int)(a:List (Int×Int×UInt64×UInt64×Unit)):Ds:=
if(Cf b 6)then
(HC).bind λ(f,g,h,k)=>
(Ad a b).bind λ_=>
(Io a b (f,g,h,k,())).bind λm=>
AA (Ac b 1) m
else
j6 a
def Lb:Nat->Int-> (List (Int×Int×UInt64×UInt64×Unit))->Ds
|0,_,_=>none
|q+1,b,a=>Ua Tv (Lb q) b a
def JQ:=Lb Cm
def Te(j4:Int-> (List (Int×Int×UInt64×UInt64×Unit))->Ds):Ds:=
j4 0 (List.replicate 6 ((0:Int),(0:Int),(0:UInt64),(0:UInt64),()))
def BO:=Te JQ
def Fj:Option Int:=
if(((Cf e 0)||(Dy e 330000))||(Bm (Aa z) (gR (Ac e 7) (GI.toZ (3:UInt64)).toNat)))then
some 8
else
if(Dy (Dt e 7) 0)then
(Ad z (Ao (Aa z) 1)).bind λc=>
(Ei (Gq (Dt e 7) 0)).bind λ_=>
if(Bm (Ch c (GI.toZ (Dt e 7)).toNat) 0)then
some 8
else
some 0
else
some 0
def VH:Option Int:=
if(!((geq (Cx (bA c 0) 24) c)&&((geq (Cx (bA d 0) 24) d)&&((geq (Cx j 68719476735) j)&&((geq (Cx U 68719476735) U)&&true)))))then
some 8
else
some 0
def ED:=VH
def Uk(j4:Int->Int->UInt64->UInt64->Option Int)(a b:Int)(f g:UInt64):Option Int:=
(
(
j4 a b f g))
def FF:=Uk ED
def Ut(j3:Int->Int->UInt64->UInt64->Option Int)(a b:Int)(f g:UInt64):Option Int:=
(
(
j3 a b f g))
def GO:=Ut FF
def Xr(a f:Int)(g h:UInt64)(b:UInt32):Option (Int×UInt32):=
(Ei (Gq a 0)).bind λ_=>
if(geq (Ch b (GI.toZ a).toNat) 0)then
some (0,b)
else
(Ei (Gq a 0)).bind λ_=>
some (1,(Ao b (Gd (1:UInt32) (GI.toZ a).toNat)))
def MC:Option (LB×Int):=
(Bk z).bind λc=>
some (c,e)
abbrev Bs:=Option (LB×Int×Int)
def XS:Bs:=
some (z,c,0)
def HX:=XS
def YZ(kM:UInt64->Int->Int->LB->Bs)(b:UInt64)(a:Int)(m:UInt64)(h f:Int)(w:LB):Bs:=
(Ei (Gq (Cx h (Ao 8 (Dt f 7))) 0)).bind λ_=>
kM (Ch m (GI.toZ (Cx h (Ao 8 (Dt f 7)))).toNat) (Ao h (Cx h (Ao 8 (Dt f 7)))) (Ac f (Cx h (Ao 8 (Dt f 7)))) w
def ZS kM:=YZ kM
def ZA(j19:UInt64->Int->Int->LB->Bs)(b:UInt64)(a:Int)(m:UInt64)(h f:Int)(u:LB):Bs:=
(Ad u (Ao (Aa u) 1)).bind λ_=>
(Ei (Gq (Cx h (Ao 8 (Dt f 7))) 0)).bind λ_=>
(Ei (Gq (Dt f 7) 0)).bind λ_=>
(Ad u (Ao (Aa u) 1)).bind λad=>
(Ad u (Ao (Aa u) 1)).bind λ_=>
Option.bind (Io u (Ao (Aa u) 1) (iC ad (Gd (Aq (Dt m (Ao (Gd (1:UInt64) (GI.toZ (Cx h (Ao 8 (Dt f 7)))).toNat) 1)):UInt8) (GI.toZ (Dt f 7)).toNat))) λw=>
j19 m h f w
def IM kM b a:=ZA (ZS kM b a) b a
def IS(j18:UInt64->Int->Int->LB->Bs)(j21:Int->LB->Bs)(b:UInt64)(a:Int)(m:UInt64)(h f:Int)(o:LB):Bs:=
if(Dy h 0)then
if(geq (Dt f 7) 0)then
(By o ([(0:UInt8)]:LB)).bind λaa=>
j18 m h f aa
else
j18 m h f o
else
j21 f o
def Xg:Nat->UInt64->Int->Int->LB->Bs
|0,_,_,_,_=>none
|z+1,c,d,e,i=>IS (IM (Xg z) j G) HX j G c d e i
def ZN b a:=Xg b a Cm
def YA:Bs:=
some (z,c,0)
def KD:=YA
def YR(kN:UInt64->Int->Int->LB->Bs)(b:UInt64)(a:Int)(n:UInt64)(k g:Int)(ab:LB):Bs:=
(Ei (Gq (Cx k (Ao 8 (Dt g 7))) 0)).bind λ_=>
kN (Ch n (GI.toZ (Cx k (Ao 8 (Dt g 7)))).toNat) (Ao k (Cx k (Ao 8 (Dt g 7)))) (Ac g (Cx k (Ao 8 (Dt g 7)))) ab
def YF kN:=YR kN
def YB(j26:UInt64->Int->Int->LB->Bs)(b:UInt64)(a:Int)(n:UInt64)(k g:Int)(v:LB):Bs:=
(Ad v (Ao (Aa v) 1)).bind λ_=>
(Ei (Gq (Cx k (Ao 8 (Dt g 7))) 0)).bind λ_=>
(Ei (Gq (Dt g 7) 0)).bind λ_=>
(Ad v (Ao (Aa v) 1)).bind λae=>
(Ad v (Ao (Aa v) 1)).bind λ_=>
Option.bind (Io v (Ao (Aa v) 1) (iC ae (Gd (Aq (Dt n (Ao (Gd (1:UInt64) (GI.toZ (Cx k (Ao 8 (Dt g 7)))).toNat) 1)):UInt8) (GI.toZ (Dt g 7)).toNat))) λab=>
j26 n k g ab
def JE kN b a:=YB (YF kN b a) b a
def HJ(j25:UInt64->Int->Int->LB->Bs)(j28:Int->LB->Bs)(b:UInt64)(a:Int)(n:UInt64)(k g:Int)(p:LB):Bs:=
if(Dy k 0)then
if(geq (Dt g 7) 0)then
(By p ([(0:UInt8)]:LB)).bind λw=>
j25 n k g w
else
j25 n k g p
else
j28 g p
def Xk:Nat->UInt64->Int->Int->LB->Bs
|0,_,_,_,_=>none
|z+1,c,d,e,i=>HJ (JE (Xk z) j G) KD j G c d e i
def YO b a:=Xk b a Cm
def OG(j15:UInt64->Int->UInt64->Int->Int->LB->Bs)(j22:UInt64->Int->UInt64->Int->Int->LB->Bs)(ac:LB)(y:Int)(b:UInt64)(a:Int):Bs:=
(Fj ac y).bind λaf=>
if(Bm af 0)then
some (([]:LB),0,8)
else
if((Cf a 0)||(Dy a 64))then
some (([]:LB),0,2)
else
if(Cf a 64)then
(Ei (Gq a 0)).bind λ_=>
if(Bm (Ch b (GI.toZ a).toNat) 0)then
some (([]:LB),0,16)
else
if(Dy (Ac y a) 330000)then
some (([]:LB),0,18)
else
(MC ac y).bind λ(ag,ah)=>
j15 b a b a ah ag
else
if(Dy (Ac y a) 330000)then
some (([]:LB),0,18)
else
(MC ac y).bind λ(aa,ai)=>
j22 b a b a ai aa
def BY:=OG ZN YO
def Xy:Option Bool:=
(Ei (Gq G 0)).bind λ_=>
some (Gq (Ch T (GI.toZ G).toNat) 48)
def JV:Option (Int×Int):=
if((Cf c 0)||(Dy c 48))then
some (0,2)
else
some ((Cx (Ac c 1) 48),0)
def OY:Option (LB×Int×Int):=
(Fj z e).bind λc=>
if(Bm c 0)then
some (([]:LB),0,c)
else
(JV t).bind λ(d,i)=>
if(Bm i 0)then
some (([]:LB),0,i)
else
(Ei (Gq t 0)).bind λ_=>
(BY z e (Ao (Gd (1:UInt64) (GI.toZ t).toNat) 1) d).bind λ(j,l,A)=>
some (j,l,A)
abbrev Xb:=Option (LB×Int×Int)
def WA:Xb:=
(OY z e t).bind λ(c,d,i)=>
if(Bm i 0)then
some (([]:LB),0,i)
else
(BY c d (Aq T:UInt64) G).bind λ(j,l,A)=>
some (j,l,A)
def VV:=WA
def VE(j2:LB->Int->Int->UInt32->Int->Xb)(b:LB)(f:Int)(g:UInt32)(a:Int):Xb:=
(Fj b f).bind λk=>
if(Bm k 0)then
some (([]:LB),0,k)
else
if((Cf a 0)||(Dy a 24))then
some (([]:LB),0,2)
else
(Ei (Gq a 0)).bind λ_=>
(Ei (Gq a 0)).bind λ_=>
(Xy g a).bind λaa=>
if aa then
j2 b f 48 g 32
else
j2 b f (Aq (Ch g (GI.toZ a).toNat):Int) (Dt g (Ao (Gd (1:UInt32) (GI.toZ a).toNat) 1)) a
def TG:=VE VV
abbrev Dg:=Option (LB×Int×Int×Int×UInt64×UInt64×Int)
def Sa:Dg:=
(
(
some (jd,c,d,l,(Ac j (Ao (Aq T:UInt64) (Ch j (GI.toZ (4:UInt64)).toNat))),U,0)))
def CN:=Sa
def EY(j10:Int->Int->Int->UInt64->UInt32->UInt64->LB->Dg)(b:UInt32)(k n:Int)(a o:UInt64)(m:LB)(u:Int):Dg:=
j10 k u n a b o m
def VX:=EY CN
def EG(j9:UInt32->Int->Int->UInt64->UInt64->LB->Int->Dg)(b:UInt32)(f:Int)(a:UInt64)(k:Int)(m:LB)(n:Int)(o:UInt64):Dg:=
if(Dy f 0)then
(Ei (Gq f 0)).bind λ_=>
if(Cf (Ac a (Ao (Aq b:UInt64) (Ch a (GI.toZ (4:UInt64)).toNat))) (Gd (16:UInt64) (GI.toZ f).toNat))then
j9 b k n a o m (Ao f 1)
else
if(Cf f 24)then
(Ei (Gq f 0)).bind λ_=>
if(Dy (Ac a (Ao (Aq b:UInt64) (Ch a (GI.toZ (4:UInt64)).toNat))) (Gd (32:UInt64) (GI.toZ f).toNat))then
j9 b k n a o m (Ac f 1)
else
j9 b k n a o m f
else
j9 b k n a o m f
else
if(Cf f 24)then
(Ei (Gq f 0)).bind λ_=>
if(Dy (Ac a (Ao (Aq b:UInt64) (Ch a (GI.toZ (4:UInt64)).toNat))) (Gd (32:UInt64) (GI.toZ f).toNat))then
j9 b k n a o m (Ac f 1)
else
j9 b k n a o m f
else
j9 b k n a o m f
def EI:=EG VX
def EE(j8:UInt32->Int->UInt64->Int->LB->Int->UInt64->Dg)(b:UInt32)(f h:Int)(a g:UInt64)(ac k:Int)(m:LB):Dg:=
if(Bm ac 0)then
some (([]:LB),0,0,0,0,0,ac)
else
(Xr f h a g b).bind λ(ag,p)=>
if(geq ag 1)then
if(Dy h 0)then
(Ei (Gq h 0)).bind λ_=>
if(Cf (Ac g (Ao (Aq p:UInt64) (Ch g (GI.toZ (4:UInt64)).toNat))) (Gd (16:UInt64) (GI.toZ h).toNat))then
j8 b f a k m (Ao h 1) (Ac g (Ao (Aq p:UInt64) (Ch g (GI.toZ (4:UInt64)).toNat)))
else
if(Cf h 24)then
(Ei (Gq h 0)).bind λ_=>
if(Dy (Ac g (Ao (Aq p:UInt64) (Ch g (GI.toZ (4:UInt64)).toNat))) (Gd (32:UInt64) (GI.toZ h).toNat))then
j8 b f a k m (Ac h 1) (Ac g (Ao (Aq p:UInt64) (Ch g (GI.toZ (4:UInt64)).toNat)))
else
j8 b f a k m h (Ac g (Ao (Aq p:UInt64) (Ch g (GI.toZ (4:UInt64)).toNat)))
else
j8 b f a k m h (Ac g (Ao (Aq p:UInt64) (Ch g (GI.toZ (4:UInt64)).toNat)))
else
if(Cf h 24)then
(Ei (Gq h 0)).bind λ_=>
if(Dy (Ac g (Ao (Aq p:UInt64) (Ch g (GI.toZ (4:UInt64)).toNat))) (Gd (32:UInt64) (GI.toZ h).toNat))then
j8 b f a k m (Ac h 1) (Ac g (Ao (Aq p:UInt64) (Ch g (GI.toZ (4:UInt64)).toNat)))
else
j8 b f a k m h (Ac g (Ao (Aq p:UInt64) (Ch g (GI.toZ (4:UInt64)).toNat)))
else
j8 b f a k m h (Ac g (Ao (Aq p:UInt64) (Ch g (GI.toZ (4:UInt64)).toNat)))
else
j8 b f a k m h g
def VU:=EE EI
def FD(j7:UInt32->Int->Int->UInt64->UInt64->Int->Int->LB->Dg)(b:UInt32)(v:LB)(w f h:Int)(a g:UInt64):Dg:=
(Xr f h a g b).bind λ(ad,ae)=>
(BY v w (Aq ad:UInt64) 1).bind λ(y,aa,ab)=>
if((geq ab 0)&&(geq ad 0))then
(BY y aa (Aq ae:UInt64) f).bind λ(ah,ai,aj)=>
j7 b f h a g aj ai ah
else
if(geq ab 0)then
(TG y aa ae h).bind λ(ak,al,am)=>
j7 b f h a g am al ak
else
j7 b f h a g ab aa y
def VF:=FD VU
def FH(j6:UInt32->LB->Int->Int->Int->UInt64->UInt64->Dg)(v:LB)(w f h:Int)(a g:UInt64)(b:UInt32):Dg:=
(Fj v w).bind λan=>
if(Bm an 0)then
some (([]:LB),0,0,0,0,0,8)
else
(GO f h a g).bind λao=>
if(Bm ao 0)then
some (([]:LB),0,0,0,0,0,8)
else
j6 b v w f h a g
def SR:=FH VF
abbrev Bb:=Option (UInt32×Int)
def SC:Bb:=
some (T,0)
def AT:=SC
def CF(j30:UInt32->Bb)(rU:UInt32->Int->Bb)(a:LB)(b:LU)(h:UInt32)(m:Int):Bb:=
if(Cf m (Aa a))then
(Ad a m).bind λp=>
(Ad b (GI.toZ (NF (Aq h:UInt8) p))).bind λ_=>
(Ad b (GI.toZ (NF (Aq h:UInt8) p))).bind λu=>
rU (NF (Ch h (GI.toZ (8:UInt64)).toNat) u) (Ac m 1)
else
j30 h
def Qs:Nat->UInt32->Int->Bb
|0,_,_=>none
|c+1,d,e=>CF AT (Qs c) z Z d e
def BK a b:=Qs a b Cm
def BB(j28:LB->LU->UInt32->Int->Bb)(f:UInt32)(a:LB)(b:LU):Bb:=
j28 a b f 0
def SD:=BB BK
def AX(j27:UInt32->LB->LU->Bb)(f:UInt32)(a:LB)(b:LU):Bb:=
j27 f a b
def SN:=AX SD
def RN(Du:Int->LU->Bb)(f:UInt32)(a:LB)(g:Int)(o:LU):Bb:=
Du (Ac g 1) o
def UF Du:=RN Du
def SS(j24:Int->LU->Bb)(f:UInt32)(a:LB)(g:Int)(k:UInt32)(b:LU):Bb:=
(Ad b g).bind λ_=>
(Io b g k).bind λo=>
j24 g o
def BA Du f a:=SS (UF Du f a) f a
def AO(j23:Int->UInt32->LU->Bb)(oT:UInt32->Int->Bb)(f:UInt32)(a:LB)(g:Int)(b:LU)(k:UInt32)(n:Int):Bb:=
if(Cf n 8)then
oT (NF (Ch k (GI.toZ (1:UInt64)).toNat) (Ep 3988292384 (Dt k 1))) (Ac n 1)
else
j23 g k b
def Qg(Du:Int->LU->Bb)(f:UInt32)(a:LB)(g:Int)(b:LU):Nat->UInt32->Int->Bb
|0,_,_=>none
|q+1,k,n=>AO (BA Du f a) (Qg Du f a g b q) f a g b k n
def AH Du f a g b:=Qg Du f a g b Cm
def CG(j21:Int->LU->UInt32->Int->Bb)(j26:UInt32->LB->LU->Bb)(f:UInt32)(a:LB)(g:Int)(b:LU):Bb:=
if(Cf g 256)then
j21 g b (Aq g:UInt32) 0
else
j26 f a b
def Qf:Nat->Int->LU->Bb
|0,_,_=>none
|z+1,c,d=>CG (AH (Qf z) T jd) SN T jd c d
def RY f a:=Qf f a Cm
def EP(j16:UInt32->LB->Int->LU->Bb)(f:UInt32)(a:LB):Bb:=
if(Dy (Aa a) 100000)then
some (0,4)
else
j16 f a 0 (List.replicate 256 (0:UInt32))
def UO:=EP RY
def Ml:Option (UInt32×Int):=
(UO 4294967295 z).bind λ(c,d)=>
if(Bm d 0)then
some (0,d)
else
some ((jM c),0)
def fN:Option Bool:=
if(geq G 8)then
some true
else
(Ei (Gq (Ep 8 G) 0)).bind λ_=>
some (geq (Ch j (GI.toZ (Ep 8 G)).toNat) 0)
abbrev Ks:=Option (LB×Int)
def bN:Ks:=
some (z,0)
def OD:=bN
def OK(j6:LB->Ks)(AA:Int->LB->Ks)(f:UInt64)(g:LB)(a:Int)(b:LB):Ks:=
if(Cf a (Aa g))then
(Ei (Gq (Ep 8 a) 0)).bind λ_=>
(Ad b a).bind λ_=>
(Io b a (Aq (Ch f (GI.toZ (Ep 8 a)).toNat):UInt8)).bind λk=>
AA (Ac a 1) k
else
j6 b
def BQ:Nat->Int->LB->Ks
|0,_,_=>none
|z+1,c,d=>OK OD (BQ z) j jd c d
def bP f g:=BQ f g Cm
def OP(j4:UInt64->LB->Int->LB->Ks)(f:UInt64)(h:Int):Ks:=
if((Cf h 1)||(Dy h 8))then
some (([]:LB),2)
else
(fN f h).bind λm=>
if(!m)then
some (([]:LB),16)
else
(eF h (0:UInt8)).bind λg=>
(Ei (geq h h)).bind λ_=>
j4 f g 0 g
def Ni:=OP bP
def Pv:Option (LB):=
some z
def Hq:=Pv
def Hs(j16:LB->Option (LB))(CY:Int->LB->Option (LB))(a:List LB)(g:Int)(f:LB):Option (LB):=
if(Cf g (Aa a))then
(Ad a g).bind λn=>
(By f n).bind λo=>
CY (Ac g 1) o
else
j16 f
def Eo:Nat->Int->LB->Option (LB)
|0,_,_=>none
|z+1,c,d=>Hs Hq (Eo z) M c d
def Hp a:=Eo a Cm
def Hu(j14:(List LB)->Int->LB->Option (LB))(a:List LB)(p:LB):Option (LB):=
j14 a 0 p
def Pr:=Hu Hp
def Hy(j13:(List LB)->LB->Option (LB))(b:Int)(a:List LB):Option (LB):=
if(Dy (Ao b (Ao (0:Int) (0:Int))) 0)then
(KP 0 0 0).bind λ_=>
(eF (Ao b (Ao (0:Int) (0:Int))) (0:UInt8)).bind λu=>
(By ([]:LB) u).bind λk=>
(KP (Aa k) 0 0).bind λ_=>
j13 a (Rg k 0 ((0:Int)-(0:Int)))
else
j13 a ([]:LB)
def Ps:=Hy Pr
def Hv(j12:Int-> (List LB)->Option (LB))(a:List LB)(b:Int):Option (LB):=
if(Cf b 0)then
none
else
j12 b a
def Pu:=Hv Ps
def Ia(j11:(List LB)->Int->Option (LB))(qT:Int->Int->Option (LB))(a:List LB)(b h:Int):Option (LB):=
if(Cf h (Aa a))then
(Ad a h).bind λm=>
if(Cf (Ac b (Aa m)) 0)then
none
else
qT (Ac b (Aa m)) (Ac h 1)
else
j11 a b
def Fi:Nat->Int->Int->Option (LB)
|0,_,_=>none
|z+1,c,d=>Ia Pu (Fi z) M c d
def Ql a:=Fi a Cm
def Ih(j9:(List LB)->Int->Int->Option (LB))(a:List LB):Option (LB):=
j9 a 0 0
def Eh:=Ih Ql
abbrev Ax:=Option (LB×Int)
def GJ(v:Int)(p:LB):Ax:=
(Ml p).bind λ(af,ac)=>
if(Bm ac 0)then
some (([]:LB),ac)
else
(Ni (Aq af:UInt64) 4).bind λ(m,h)=>
if(Bm h 0)then
some (([]:LB),h)
else
(Eh ([p,m]:List LB)).bind λag=>
some (ag,0)
def Qz:=GJ
def FX(Ye:Int-> (List (Int×Int×UInt64×UInt64×Unit))->Int->LB->Ax)(b:LU)(a g f:Int)(n:List (Int×Int×UInt64×UInt64×Unit))(k:Int)(w:LB):Ax:=
Ye (Ac f 1) n k w
def Rv Ye:=FX Ye
def GX(VA:Int->Int->LB->Ax)(h:Int)(b:LU)(f a g:Int)(n:List (Int×Int×UInt64×UInt64×Unit))(m:LB)(o k:Int)(ab:LB):Ax:=
VA (Ac o 1) (Ac k 1) ab
def FZ VA:=GX VA
def FQ(j48:Int->Int->LB->Ax)(h:Int)(b:LU)(f a g:Int)(n:List (Int×Int×UInt64×UInt64×Unit))(m:LB)(o k:Int)(y:LB):Ax:=
(Ad m (Gx o 8)).bind λ_=>
(Ad m (Gx o 8)).bind λah=>
(Ei (Gq (Ho o 8) 0)).bind λ_=>
(Ad y (Gx k 8)).bind λ_=>
(Ei (Gq (Ho k 8) 0)).bind λ_=>
(Ad y (Gx k 8)).bind λai=>
(Ad y (Gx k 8)).bind λ_=>
Option.bind (Io y (Gx k 8) (iC ai (Gd (Dt (Ch ah (GI.toZ (Ho o 8)).toNat) 1) (GI.toZ (Ho k 8)).toNat))) λab=>
j48 o k ab
def Qq VA h b f a g n m:=FQ (FZ VA h b f a g n m) h b f a g n m
def Rt(j47:Int->Int->LB->Ax)(j50:Int-> (List (Int×Int×UInt64×UInt64×Unit))->Int->LB->Ax)(b:LU)(a g h f:Int)(n:List (Int×Int×UInt64×UInt64×Unit))(m:LB)(o k:Int)(w:LB):Ax:=
if(Cf o h)then
if(geq (Ho k 8) 0)then
(By w ([(0:UInt8)]:LB)).bind λaj=>
j47 o k aj
else
j47 o k w
else
j50 f n k w
def Kq(Ye:Int-> (List (Int×Int×UInt64×UInt64×Unit))->Int->LB->Ax)(b:LU)(a g h f:Int)(n:List (Int×Int×UInt64×UInt64×Unit))(m:LB):Nat->Int->Int->LB->Ax
|0,_,_,_=>none
|q+1,o,k,w=>Rt (Qq (Kq Ye b a g h f n m q) h b f a g n m) (Rv Ye b a g) b a g h f n m o k w
def Ra Ye b a g h f n m:=Kq Ye b a g h f n m Cm
def Re(j44:Int->Int-> (List (Int×Int×UInt64×UInt64×Unit))->LB->Int->Int->LB->Ax)(j52:Int->LB->Ax)(b:LU)(a g f:Int)(u:List (Int×Int×UInt64×UInt64×Unit))(v:Int)(p:LB):Ax:=
if(Cf f (Aa b))then
(Ad b f).bind λ_=>
(Ad b f).bind λak=>
(Ei (Bm a 0)).bind λ_=>
(Ad u (Ho f a)).bind λ_=>
(Ad u (Ho f a)).bind λaa=>
(SR ([]:LB) 0 aa.1 aa.2.1 aa.2.2.1 aa.2.2.2.1 ak).bind λ(m,h,al,am,an,ao,ad)=>
if(Bm ad 0)then
some (([]:LB),ad)
else
(Ei (Bm a 0)).bind λ_=>
(Ad u (Ho f a)).bind λ_=>
(Io u (Ho f a) (al,am,an,ao,())).bind λn=>
j44 h f n m 0 v p
else
j52 v p
def Kn:Nat->Int-> (List (Int×Int×UInt64×UInt64×Unit))->Int->LB->Ax
|0,_,_,_,_=>none
|z+1,c,d,e,i=>Re (Ra (Kn z) Z ji jk) Qz Z ji jk c d e i
def FN b a g:=Kn b a g Cm
def Tc(j27:LU->Int->Int->Int-> (List (Int×Int×UInt64×UInt64×Unit))->Int->LB->Ax)(a g:Int)(ap aq:LX):Ax:=
(AV a g ap aq).bind λ(b,ae)=>
if(Bm ae 0)then
some (([]:LB),ae)
else
(BO).bind λar=>
j27 b a g 0 ar 0 ([]:LB)
def Rq:=Tc FN
def Lu(b f g:Int)(h k:LB)(m:LX)(n:List LB)(o:LB)(p:Bool)(u a:Int):Option (Int×Int×Int×LB×LB×LX×(List LB)×LB×Bool×Int×Int):=
some (b,f,g,h,([]:LB),([]:LX),([]:List LB),([]:LB),false,a,a)
abbrev Ay:=Option (Int×Int×Int×LB×LB×LX×(List LB)×LB×Bool×Int×Int)
def KY:Ay:=
some (c,d,l,z,O,L,jq,og,C,B,0)
def Ww:=KY
def LG(CY:Int->LB->LX-> (List LB)->Ay)(p:Int)(n:LB)(a b g:Int)(f:LB)(h:Bool)(k o:Int)(m:LB)(u:Int)(ao:LB)(ap:LX)(aq:List LB):Ay:=
CY (Ac u 1) ao ap aq
def Mh CY:=LG CY
def LN(j24:Int->LB->LX-> (List LB)->Ay)(p:Int)(n:LB)(a b g:Int)(f:LB)(h:Bool)(k o:Int)(m:LB)(u ad:Int)(ae:LB)(af:LX)(ag:List LB):Ay:=
if(Bm ad 0)then
(Lu a b g f ae af ag m h k ad).bind λ(ar,au,av,aw,ax,ay,az,ba,bb,bc,bd)=>
some (ar,au,av,aw,ax,ay,az,ba,bb,bc,bd)
else
j24 u ae af ag
def Gi CY p n a b g f h k o m:=LN (Mh CY p n a b g f h k o m) p n a b g f h k o m
def KT(j23:Int->Int->LB->LX-> (List LB)->Ay)(p:Int)(n:LB)(a b g:Int)(f:LB)(h:Bool)(k o:Int)(m:LB)(u:Int)(ab:LX)(v:List LB)(be:Int):Ay:=
j23 u be ([]:LB) ab v
def NA CY p n a b g f h k o m:=KT (Gi CY p n a b g f h k o m) p n a b g f h k o m
def NC(j23:Int->Int->LB->LX-> (List LB)->Ay)(p:Int)(n:LB)(a b g:Int)(f:LB)(h:Bool)(k o:Int)(m:LB)(u:Int)(ac:List LB):Ay:=
j23 u 0 ([]:LB) ([]:LX) ac
def MA CY p n a b g f h k o m:=NC (Gi CY p n a b g f h k o m) p n a b g f h k o m
def LC(j23:Int->Int->LB->LX-> (List LB)->Ay)(j21:Int->LX-> (List LB)->Int->Ay)(j22:Int-> (List LB)->Ay)(p:Int)(n:LB)(a b g:Int)(f:LB)(h:Bool)(k o:Int)(m:LB)(u:Int)(aa:LB)(w:LX)(v:List LB):Ay:=
(EN b aa).bind λ(bf,ah)=>
if(Bm ah 0)then
j23 u ah aa w v
else
(By w bf).bind λab=>
if(Cf (Aa ab) (Ep o a))then
j23 u 0 ([]:LB) ab v
else
(My f).bind λ(bg,ai)=>
if(Bm ai 0)then
j21 u ab v ai
else
(Rq a b bg ab).bind λ(bh,aj)=>
if(Bm aj 0)then
j21 u ab v aj
else
(By v ([bh]:List LB)).bind λac=>
j22 u ac
def Vr CY p n a b g f h k o m:=LC (Gi CY p n a b g f h k o m) (NA CY p n a b g f h k o m) (MA CY p n a b g f h k o m) p n a b g f h k o m
def Wl(j24:Int->LB->LX-> (List LB)->Ay)(j23:Int->Int->LB->LX-> (List LB)->Ay)(j20:Int->LB->LX-> (List LB)->Ay)(j26:Int->Int->Int->LB->Bool->Int->LB->LX-> (List LB)->LB->Ay)(p:Int)(n:LB)(a b g:Int)(f:LB)(h:Bool)(k o:Int)(m:LB)(u:Int)(y:LB)(w:LX)(v:List LB):Ay:=
if(Cf u (Aa n))then
(Ad n u).bind λbi=>
(By y ([bi]:LB)).bind λaa=>
if(Cf (Aa aa) p)then
j24 u aa w v
else
(Nb a b g f aa w v m h k o).bind λbj=>
(Xz a b g f aa w v m h k (Ac (Aa v) 1) (Ac bj 1)).bind λbk=>
if(!bk)then
j23 u 18 aa w v
else
j20 u aa w v
else
j26 a b g f h k y w v m
def Ge:Nat->Int->LB->LX-> (List LB)->Ay
|0,_,_,_,_=>none
|d+1,i,j,l,A=>Wl (Mh (Ge d) c z e t I N C B jf O) (Gi (Ge d) c z e t I N C B jf O) (Vr (Ge d) c z e t I N C B jf O) Ww c z e t I N C B jf O i j l A
def MY p n a b g f h k o m:=Ge p n a b g f h k o m Cm
def Zr(j14:Int->LB->Int->Int->Int->LB->Bool->Int->Int->LB->Int->LB->LX-> (List LB)->Ay)(bl bm bn:Int)(bp bq:LB)(br:LX)(bs:List LB)(bt:LB)(bu:Bool)(bv:Int)(n:LB):Ay:=
(Vb bl bm bn bp bq br bs bt bu bv).bind λ(a,b,g,f,ak,al,am,m,h,k,o,an)=>
if(Bm an 0)then
some (a,b,g,f,ak,al,am,m,h,k,an)
else
(Qm a b).bind λp=>
j14 p n a b g f h k o m 0 ak al am
def Gm:=Zr MY
def Ur:Option (Int×Int×Int×LB×LB×LX×(List LB)×LB×Bool×Int×LB×Int):=
(Un c d l z A i M O iw J).bind λe=>
if(Bm e 0)then
some (0,0,0,([]:LB),([]:LB),([]:LX),([]:List LB),([]:LB),false,0,([]:LB),e)
else
if(Cf cu 0)then
some (0,0,0,([]:LB),([]:LB),([]:LX),([]:List LB),([]:LB),false,0,([]:LB),2)
else
(Xq c d l z A i M O iw J).bind λ(j,t,B,C,D,E,F,G,I,L)=>
(Bw G 0 (Cx cu (Aa G))).bind λN=>
(Bk N).bind λP=>
(Bw G (Cx cu (Aa G)) (Aa G)).bind λR=>
some (j,t,B,C,D,E,F,R,I,L,P,0)
def FI:Option (Int×Int):=
if(Dy (Aa z) 64)then
some (0,2)
else
if(geq (Aa z) 0)then
some (1,0)
else
some (2,0)
def LZ(b f a g h:Int):Option Bool:=
some (((((((geq b 1)||(geq b 2))&&(Dy f 0))&&(aF f 6))&&(Dy g 0))&&(aF g 1048576))&&(Dy h 0))
def MJ:=LZ
def LD(j2:Int->Int->Int->Int->Int->Option Bool)(b f a g h:Int):Option Bool:=
if(geq a 8)then
if(geq a 8)then
j2 b f a g h
else
some false
else
if(geq a 16)then
if(geq a 16)then
j2 b f a g h
else
some false
else
if(geq a 24)then
j2 b f a g h
else
some false
def Ug:=LD MJ
def Us:Option (Int×Int):=
(La c).bind λ(z,e)=>
if(Bm e 0)then
some (0,e)
else
if((Cf d 1)||(Dy d 4000))then
some (0,2)
else
(Ei (Bm z 0)).bind λ_=>
if(Dy (Gx (Ao (Ac d z) 1) z) 1000)then
some (0,4)
else
some ((Gx (Ao (Ac d z) 1) z),0)
def CI(k a m f b:Int):Option Bool:=
(Ei (Bm a 0)).bind λ_=>
if(Dy b (Gx 4000 a))then
some false
else
(Us f b).bind λ(g,h)=>
some ((geq h 0)&&(aF g 1000))
def Xa:Option Int:=
(Ug c d l P ig).bind λz=>
if(!z)then
some 8
else
(CI c d l P ig).bind λe=>
if(!e)then
some 8
else
some 0
abbrev Fg:=Option (LB×Int)
def PO:Fg:=
(Ml z).bind λ(c,d)=>
(Ni (Aq c:UInt64) 4).bind λ(e,i)=>
(By z e).bind λj=>
some (j,0)
def Zm:=PO
def Zk(j6:LB->Fg)(AA:Int->LB->Fg)(b f g h k m:Int)(a:LB):Fg:=
if(Cf m 5)then
(Ad ([b,f,g,h,k]:LI) m).bind λw=>
(Ad ([(2:Int),(2:Int),(2:Int),(4:Int),(4:Int)]:LI) m).bind λy=>
(Ni (Aq w:UInt64) y).bind λ(n,v)=>
(By a n).bind λo=>
AA (Ac m 1) o
else
j6 a
def Oc:Nat->Int->LB->Fg
|0,_,_=>none
|z+1,e,i=>Zk Zm (Oc z) c d l P ig e i
def QC b f g h k:=Oc b f g h k Cm
def Zs(j4:Int->Int->Int->Int->Int->Int->LB->Fg)(b f g h k:Int):Fg:=
(Xa b f g h k).bind λp=>
if(Bm p 0)then
some (([]:LB),p)
else
j4 b f g h k 0 ([(84:UInt8),(84:UInt8),(65:UInt8),(49:UInt8)]:LB)
def JA:=Zs QC
def WY:Option (UInt64×Int):=
if(Dy (Aa z) 64)then
some (0,2)
else
(ME z).bind λ(c,d)=>
some (c,0)
def Xp:Option (LB×Int):=
(WY z).bind λ(c,d)=>
if(Bm d 0)then
some (([]:LB),d)
else
(Ni c 8).bind λ(e,i)=>
some (e,i)
def TU:Option Int:=
some 0
def CX:=TU
def CS(j6:Option Int)(AA:Int->Int->Option Int)(a:LI)(f b:Int):Option Int:=
if(Cf b (Aa a))then
(Ad a b).bind λg=>
if((Cf g 5)||(Dy g f))then
some 8
else
AA (Ao f g) (Ac b 1)
else
j6
def Qu:Nat->Int->Int->Option Int
|0,_,_=>none
|z+1,c,d=>CS CX (Qu z) D c d
def TK a:=Qu a Cm
def CA(j4:LI->Int->Int->Option Int)(a:LI):Option Int:=
if((geq (Aa a) 0)||(Dy (Aa a) 1000))then
some 8
else
j4 a 100000 0
def Tz:=CA TK
abbrev Cv:=Option (LB×Int)
def PM:Cv:=
some (z,0)
def QF:=PM
def PR(j14:LB->Cv)(b:LB):Cv:=
(Ml b).bind λ(m,u)=>
(Ni (Aq m:UInt64) 4).bind λ(n,v)=>
(By b n).bind λg=>
j14 g
def Yk:=PR QF
def QN(aD:Int->LB->Cv)(a:LI)(f:Int)(h:LB):Cv:=
aD (Ac f 1) h
def Yw aD:=QN aD
def CR(j11:Int->LB->Cv)(j13:LB->Cv)(a:LI)(f:Int)(b:LB):Cv:=
if(Cf f (Aa a))then
(Ad a f).bind λo=>
(Ni (Aq o:UInt64) 4).bind λ(p,w)=>
(By b p).bind λh=>
j11 f h
else
j13 b
def Qb:Nat->Int->LB->Cv
|0,_,_=>none
|z+1,c,d=>CR (Yw (Qb z) D) Yk D c d
def UI a:=Qb a Cm
def AW(j8:LI->Int->LB->Cv)(a:LI):Cv:=
(Tz a).bind λk=>
if(Bm k 0)then
some (([]:LB),k)
else
j8 a 0 ([]:LB)
def CL:=AW UI
abbrev Dc:=Option (LB×Int)
def Og(f g h:Int)(b k:LB)(m:LX)(a:List LB)(n:LB)(o:Bool)(p:Int)(u:LB)(v:LI):Dc:=
(CL v).bind λ(aa,y)=>
if(Bm y 0)then
some (([]:LB),y)
else
(
(By u aa).bind λab=>
(Eh a).bind λac=>
(By ab ac).bind λad=>
some (ad,0))
def Yv:=Og
def Yq(j8:Int->Int->Int->LB->LB->LX-> (List LB)->LB->Bool->Int->LB->LI->Dc)(qS:Int->LI->Dc)(a:List LB)(f g h:Int)(b k:LB)(m:LX)(n:LB)(o:Bool)(p:Int)(u:LB)(w:Int)(v:LI):Dc:=
if(Cf w (Aa a))then
(Ad a w).bind λai=>
(By v ([(Aa ai)]:LI)).bind λaj=>
qS (Ac w 1) aj
else
j8 f g h b k m a n o p u v
def Oo:Nat->Int->LI->Dc
|0,_,_=>none
|z+1,c,d=>Yq Yv (Oo z) M J cu lq jg lu L l5 nk nu ny c d
def PZ a f g h b k m n o p u:=Oo a f g h b k m n o p u Cm
def Zp(j6:(List LB)->Int->Int->Int->LB->LB->LX->LB->Bool->Int->LB->Int->LI->Dc)(f g h:Int)(b k:LB)(m:LX)(a:List LB)(n:LB)(o:Bool)(p:Int)(u:LB):Dc:=
j6 a f g h b k m n o p u 0 ([]:LI)
def PG:=Zp PZ
def Yg(j5:Int->Int->Int->LB->LB->LX-> (List LB)->LB->Bool->Int->LB->Dc)(f g h:Int)(b k:LB)(m:LX)(a:List LB)(n:LB)(o:Bool)(p ak:Int):Dc:=
(FI b).bind λ(al,ae)=>
if(Bm ae 0)then
some (([]:LB),ae)
else
(JA al f g h ak).bind λ(af,ag)=>
if(Bm ag 0)then
some (([]:LB),ag)
else
if(b !=([]:LB))then
(Xp b).bind λ(am,ah)=>
if(Bm ah 0)then
some (([]:LB),ah)
else
(By af am).bind λan=>
j5 f g h b k m a n o p an
else
j5 f g h b k m a n o p af
def KL:=Yg PG
abbrev Ez:=Option (Int×Int×Int×LB×LB×LX×(List LB)×LB×Bool×Int×Int)
def HW:Ez:=
(KL d l P z O L jq jg C B c).bind λ(e,i)=>
if(Bm i 0)then
(Lu d l P z O L jq jg C B i).bind λ(j,t,A,D,E,F,G,I,J,M,N)=>
some (j,t,A,D,E,F,G,I,J,M,N)
else
some (d,l,P,z,([]:LB),([]:LX),([]:List LB),e,true,0,0)
def Tr:=HW
def HZ(j4:Int->Int->Int->Int->LB->Bool->Int->LB->LB->LX-> (List LB)->Ez)(o a b g:Int)(f:LB)(k:Bool)(m:Int)(h n:LB)(ad:Int)(ae:LX)(af:List LB):Ez:=
if(Bm ad 0)then
(Lu a b g f h ae af n k m ad).bind λ(au,v,w,av,aw,ax,y,aa,ay,az,ba)=>
some (au,v,w,av,aw,ax,y,aa,ay,az,ba)
else
j4 o a b g f k m h n ae af
def IN:=HZ Tr
def KA(j3:Int->Int->Int->Int->LB->Bool->Int->LB->LB->Int->LX-> (List LB)->Ez)(j4:Int->Int->Int->Int->LB->Bool->Int->LB->LB->LX-> (List LB)->Ez)(bb bc bd:Int)(be bf:LB)(bg:LX)(bh:List LB)(bi:LB)(bj:Bool)(bk:Int):Ez:=
(Vb bb bc bd be bf bg bh bi bj bk).bind λ(a,b,g,f,h,p,u,n,k,m,bl,ag)=>
if(Bm ag 0)then
some (a,b,g,f,h,p,u,n,k,m,ag)
else
(Nb a b g f h p u n k m bl).bind λo=>
if((Dy (Aa h) 0)||(geq o 0))then
(Lu a b g f h p u n k m 24).bind λ(bm,bn,bp,bq,br,bs,bt,bu,bv,bw,bx)=>
some (bm,bn,bp,bq,br,bs,bt,bu,bv,bw,bx)
else
if(Dy (Aa p) 0)then
(My f).bind λ(bz,ah)=>
if(Bm ah 0)then
j3 o a b g f k m h n ah p u
else
(Rq a b bz p).bind λ(da,ai)=>
if(Bm ai 0)then
j3 o a b g f k m h n ai p u
else
(By u ([da]:List LB)).bind λdb=>
j3 o a b g f k m h n 0 ([]:LX) db
else
j4 o a b g f k m h n p u
def Qh:=KA IN Tr
abbrev Au:=Option (Int×Int×Int×LB×LB×LX×(List LB)×LB×Bool×Int×(List (Int×LB×Unit))×Int)
def IU(f g h:Int)(k m:LB)(n:Bool)(o:Int)(a:LB)(w:List (Int×LB×Unit))(p:LB)(u:LX)(v:List LB):Au:=
some (f,g,h,k,p,u,v,m,n,o,w,0)
def KG:=IU
def KO(j32:Int->Int->Int->LB->LB->Bool->Int->LB-> (List (Int×LB×Unit))->LB->LX-> (List LB)->Au)(w:List (Int×LB×Unit))(f g h:Int)(k m:LB)(n:Bool)(o:Int)(a p:LB)(u:LX)(v:List LB):Au:=
j32 f g h k m n o a w p u v
def Ty:=KO KG
def IQ(Vh:Int->Int->Int->Int->LB->LB->Bool->Int->LB-> (List (Int×LB×Unit))->LB->LX-> (List LB)->Au)(b:List (UInt8×Int×Unit))(y df dg dh:Int)(di dj:LB)(dk:Bool)(dl:Int)(dm:LB)(dn:List (Int×LB×Unit))(dp:LB)(dq:LX)(dr:List LB):Au:=
Vh (Ac y 1) df dg dh di dj dk dl dm dn dp dq dr
def Ed Vh:=IQ Vh
def Ll(j29:Int->Int->Int->Int->LB->LB->Bool->Int->LB-> (List (Int×LB×Unit))->LB->LX-> (List LB)->Au)(b:List (UInt8×Int×Unit))(aa:UInt8×Int×Unit)(a:LB)(ab y f g h:Int)(k p:LB)(u:LX)(v:List LB)(m:LB)(n:Bool)(o ac ad ae:Int)(af:LB)(ag:Bool)(ah:Int)(w:List (Int×LB×Unit))(ai:LB)(aj:LX)(ak:List LB)(al:LB):Au:=
(
(Bw a (Cx aa.2.1 (Aa a)) (Aa a)).bind λbm=>
(By w ([(ab,([]:LB),())]:List (Int×LB×Unit))).bind λbn=>
j29 y ac ad ae af al ag ah bm bn ai aj ak)
def Ti Vh b:=Ll (Ed Vh b) b
def JS(j29:Int->Int->Int->Int->LB->LB->Bool->Int->LB-> (List (Int×LB×Unit))->LB->LX-> (List LB)->Au)(b:List (UInt8×Int×Unit))(an y f g h:Int)(k p:LB)(u:LX)(v:List LB)(m:LB)(n:Bool)(o:Int)(a:LB)(ao ap aq:Int)(ar au:LB)(av:Bool)(aw:Int)(ax:LB)(w:List (Int×LB×Unit))(ay:LB)(az:LX)(ba:List LB):Au:=
(By w ([(an,ax,())]:List (Int×LB×Unit))).bind λds=>
j29 y ao ap aq ar au av aw a ds ay az ba
def Tx Vh b:=JS (Ed Vh b) b
def IB(j29:Int->Int->Int->Int->LB->LB->Bool->Int->LB-> (List (Int×LB×Unit))->LB->LX-> (List LB)->Au)(b:List (UInt8×Int×Unit))(bb y f g h:Int)(k p:LB)(u:LX)(v:List LB)(m:LB)(n:Bool)(o:Int)(a:LB)(bc bd be:Int)(bf:LB)(bg:Bool)(bh:Int)(w:List (Int×LB×Unit))(bi:LB)(bj:LX)(bk:List LB)(bl:LB):Au:=
(By w ([(bb,([]:LB),())]:List (Int×LB×Unit))).bind λdt=>
j29 y bc bd be bf bl bg bh a dt bi bj bk
def Ts Vh b:=IB (Ed Vh b) b
def Ln(j26:(UInt8×Int×Unit)->LB->Int->Int->Int->Int->Int->LB->LB->LX-> (List LB)->LB->Bool->Int->Int->Int->Int->LB->Bool->Int-> (List (Int×LB×Unit))->LB->LX-> (List LB)->LB->Au)(j33:Int->Int->Int->Int->Int->LB->LB->LX-> (List LB)->LB->Bool->Int->LB->Int->Int->Int->LB->LB->Bool->Int->LB-> (List (Int×LB×Unit))->LB->LX-> (List LB)->Au)(j34:Int->Int->Int->Int->Int->LB->LB->LX-> (List LB)->LB->Bool->Int->LB->Int->Int->Int->LB->Bool->Int-> (List (Int×LB×Unit))->LB->LX-> (List LB)->LB->Au)(j29:Int->Int->Int->Int->LB->LB->Bool->Int->LB-> (List (Int×LB×Unit))->LB->LX-> (List LB)->Au)(j31:(List (Int×LB×Unit))->Int->Int->Int->LB->LB->Bool->Int->LB->LB->LX-> (List LB)->Au)(b:List (UInt8×Int×Unit))(y f g h:Int)(k m:LB)(n:Bool)(o:Int)(a:LB)(w:List (Int×LB×Unit))(p:LB)(u:LX)(v:List LB):Au:=
if(Cf y (Aa b))then
(Ad b y).bind λaa=>
if(geq aa.1 1)then
(
(
(
(Bw a 0 (Cx aa.2.1 (Aa a))).bind λam=>
(
(Gm f g h k p u v m n o am).bind λ(ac,ad,ae,af,ai,aj,ak,al,ag,ah,ab)=>
j26 aa a ab y f g h k p u v m n o ac ad ae af ag ah w ai aj ak al))))
else
if(geq aa.1 2)then
(
(
(
(Ur f g h k p u v m n o aa.2.1).bind λ(ao,ap,aq,ar,ay,az,ba,au,av,aw,ax,an)=>
j33 an y f g h k p u v m n o a ao ap aq ar au av aw ax w ay az ba)))
else
if(geq aa.1 3)then
(
(
(
(Qh f g h k p u v m n o).bind λ(bc,bd,be,bf,bi,bj,bk,bl,bg,bh,bb)=>
j34 bb y f g h k p u v m n o a bc bd be bf bg bh w bi bj bk bl)))
else
j29 y f g h k m n o a w p u v
else
j31 w f g h k m n o a p u v
def Ee:Nat->Int->Int->Int->Int->LB->LB->Bool->Int->LB-> (List (Int×LB×Unit))->LB->LX-> (List LB)->Au
|0,_,_,_,_,_,_,_,_,_,_,_,_,_=>none
|z+1,c,d,e,i,j,l,t,A,B,C,D,E,G=>Ln (Ti (Ee z) F) (Tx (Ee z) F) (Ts (Ee z) F) (Ed (Ee z) F) Ty F c d e i j l t A B C D E G
def IK b:=Ee b Cm
def Wm(j17:(List (UInt8×Int×Unit))->Int->Int->Int->Int->LB->LB->Bool->Int->LB-> (List (Int×LB×Unit))->LB->LX-> (List LB)->Au)(du dv dw:Int)(dx dy:LB)(b:List (UInt8×Int×Unit)):Au:=
(Il b).bind λbq=>
if(Bm bq 0)then
some (0,0,0,([]:LB),([]:LB),([]:LX),([]:List LB),([]:LB),false,0,([]:List (Int×LB×Unit)),bq)
else
(OT du dv dw dx).bind λ(dz,fa,fb,fc,fd,fe,ff,fg,fh,fi,br)=>
if(Bm br 0)then
some (0,0,0,([]:LB),([]:LB),([]:LX),([]:List LB),([]:LB),false,0,([]:List (Int×LB×Unit)),br)
else
j17 b 0 dz fa fb fc fg fh fi dy ([]:List (Int×LB×Unit)) fd fe ff
def Jg:=Wm IK
def OV:Option (LB×LB×Int×Int×Int×Int×Int×LI×Int×LB×Bool×Int×Int):=
if(Dy (Aa z) 64)then
some (([]:LB),([]:LB),0,0,0,0,0,([]:LI),0,([]:LB),false,0,2)
else
some (z,([]:LB),0,0,0,0,0,([]:LI),0,([]:LB),false,0,0)
def Ky:Option (LB):=
(
(By ([]:LB) z).bind λc=>
some c)
def Fv:Option (LI):=
(
(By ([]:LI) D).bind λz=>
some z)
def Cw:Option (LB×LB×Int×Int×Int×Int×Int×LI×Int×LB×Bool×Int):=
(Ky A).bind λc=>
(Ky N).bind λd=>
(Fv R).bind λi=>
some (z,c,e,t,I,V,X,i,Y,d,C,B)
def Zb:Option (UInt64×UInt64):=
some ((Ac (Ac (Ep (Ch j (GI.toZ (32:UInt64)).toNat) (Ch U (GI.toZ (32:UInt64)).toNat)) (Ch (Ac (Ep (Ch j (GI.toZ (32:UInt64)).toNat) (Dt U 4294967295)) (Ch (Ep (Dt j 4294967295) (Dt U 4294967295)) (GI.toZ (32:UInt64)).toNat)) (GI.toZ (32:UInt64)).toNat)) (Ch (Ac (Dt (Ac (Ep (Ch j (GI.toZ (32:UInt64)).toNat) (Dt U 4294967295)) (Ch (Ep (Dt j 4294967295) (Dt U 4294967295)) (GI.toZ (32:UInt64)).toNat)) 4294967295) (Ep (Dt j 4294967295) (Ch U (GI.toZ (32:UInt64)).toNat))) (GI.toZ (32:UInt64)).toNat)),(Ep j U))
def Vd:Option (UInt64×UInt64):=
(Zb j U).bind λ(z,c)=>
some (z,c)
def Sg:Option (LI):=
some D
def Iq:=Sg
def Fw(j10:LI->Option (LI))(aD:Int->LI->Option (LI))(b:Int)(a:LI):Option (LI):=
if(Cf b (Aa a))then
(
(KP (Aa a) b (Aa a)).bind λ_=>
(KP (Aa a) 0 b).bind λ_=>
aD (Ac b (Tt ((Aa a)-b) (Rg a 0 (b-(0:Int))).length)) (Hk a b ((Aa a)-b) (Rg a 0 (b-(0:Int)))))
else
j10 a
def Ga:Nat->Int->LI->Option (LI)
|0,_,_=>none
|q+1,b,a=>Fw Iq (Ga q) b a
def Ve:=Ga Cm
def Js(j8:Int->LI->Option (LI))(f:LI)(g:UInt64):Option (LI):=
(eF (Aq g:Int) (0:Int)).bind λk=>
(Ei (geq (Aq g:Int) (Aq g:Int))).bind λ_=>
j8 (Tt (Aa k) f.length) (PB k f)
def Uy:=Js Ve
def Ji(j7:LI->UInt64->Option (LI))(f:LI)(h:Int):Option (LI):=
(Vd (Aq (Aa f):UInt64) (Aq h:UInt64)).bind λ(m,g)=>
if((Dy m 0)||(Dy g 9223372036854775807))then
none
else
j7 f g
def Vg:=Ji Uy
def Jr(j6:LI->Int->Option (LI))(f:LI)(h:Int):Option (LI):=
if(Cf h 0)then
none
else
j6 f h
def Mg:=Jr Vg
def Sk:Option (LI):=
some D
def Iv:=Sk
def Ir(j16:LI->Option (LI))(CY:Int->LI->Option (LI))(a:List LI)(g:Int)(f:LI):Option (LI):=
if(Cf g (Aa a))then
(Ad a g).bind λn=>
(By f n).bind λo=>
CY (Ac g 1) o
else
j16 f
def Fp:Nat->Int->LI->Option (LI)
|0,_,_=>none
|z+1,c,d=>Ir Iv (Fp z) l8 c d
def Iu a:=Fp a Cm
def Is(j14:(List LI)->Int->LI->Option (LI))(a:List LI)(p:LI):Option (LI):=
j14 a 0 p
def Sm:=Is Iu
def It(j13:(List LI)->LI->Option (LI))(b:Int)(a:List LI):Option (LI):=
if(Dy (Ao b (Ao (0:Int) (0:Int))) 0)then
(KP 0 0 0).bind λ_=>
(eF (Ao b (Ao (0:Int) (0:Int))) (0:Int)).bind λu=>
(By ([]:LI) u).bind λk=>
(KP (Aa k) 0 0).bind λ_=>
j13 a (Rg k 0 ((0:Int)-(0:Int)))
else
j13 a ([]:LI)
def Sj:=It Sm
def Iw(j12:Int-> (List LI)->Option (LI))(a:List LI)(b:Int):Option (LI):=
if(Cf b 0)then
none
else
j12 b a
def Sf:=Iw Sj
def Jk(j11:(List LI)->Int->Option (LI))(qT:Int->Int->Option (LI))(a:List LI)(b h:Int):Option (LI):=
if(Cf h (Aa a))then
(Ad a h).bind λm=>
if(Cf (Ac b (Aa m)) 0)then
none
else
qT (Ac b (Aa m)) (Ac h 1)
else
j11 a b
def Fx:Nat->Int->Int->Option (LI)
|0,_,_=>none
|z+1,c,d=>Jk Sf (Fx z) l8 c d
def Uo a:=Fx a Cm
def Jo(j9:(List LI)->Int->Int->Option (LI))(a:List LI):Option (LI):=
j9 a 0 0
def Mf:=Jo Uo
def BL:Option (LI):=
(Mf ([D,R]:List LI)).bind λz=>
some z
def OH:Option (LI×Int):=
(Us c d).bind λ(z,e)=>
if(Bm e 0)then
some (([]:LI),e)
else
(La c).bind λ(i,j)=>
(Mg ([i]:LI) (Ao z 1)).bind λl=>
(BL l ([(Ao d (Ep (Ao z 1) i))]:LI)).bind λt=>
some (t,0)
def Eu:Option (LI×Int):=
(Xa c d l P ig).bind λz=>
if(Bm z 0)then
some (([]:LI),z)
else
(OH P ig).bind λ(e,i)=>
some (e,i)
def Lk(a f g h k:Int)(b:LB):Option Int:=
if((b==([]:LB)) !=(geq a 1))then
some 26
else
some 0
def PK(y:Int)(o p:LB)(h b f k m:Int)(g:LI)(a:Int)(n:LB)(u:Bool)(v:Int):Option Bool:=
some (aF (Aa n) y)
def Ze:=PK
def Yi(j8:Int->LB->LB->Int->Int->Int->Int->Int->LI->Int->LB->Bool->Int->Option Bool)(qS:Int->Int->Option Bool)(w:LI)(o p:LB)(h b f k m:Int)(g:LI)(a:Int)(n:LB)(u:Bool)(v y aa:Int):Option Bool:=
if(Cf aa (Aa w))then
(Ad w aa).bind λac=>
qS (Ac y (Gx (Ep (Ep ac b) f) 8)) (Ac aa 1)
else
j8 y o p h b f k m g a n u v
def Nw:Nat->Int->Int->Option Bool
|0,_,_=>none
|c+1,d,i=>Yi Ze (Nw c) D z A e t I V X R Y N C B d i
def QL w o p h b f k m g a n u v:=Nw w o p h b f k m g a n u v Cm
def Zd(j6:LI->LB->LB->Int->Int->Int->Int->Int->LI->Int->LB->Bool->Int->Int->Int->Option Bool)(o p:LB)(h b f k m:Int)(g:LI)(a:Int)(n:LB)(u:Bool)(v:Int)(ab:LI):Option Bool:=
if(geq (Aa g) 0)then
some ((geq a 0)&&(geq (Aa n) 0))
else
(Tz g).bind λad=>
if((((Bm ad 0)||(Bm (Aa g) (Aa ab)))||(Cf a 0))||(Dy a (Aa ab)))then
some false
else
(Bw ab 0 a).bind λw=>
j6 w o p h b f k m g a n u v 0 0
def QH:=Zd QL
def Zj(j5:LB->LB->Int->Int->Int->Int->Int->LI->Int->LB->Bool->Int->LI->Option Bool)(o p:LB)(h b f k m:Int)(g:LI)(a:Int)(n:LB)(u:Bool)(v:Int):Option Bool:=
if((geq h 0)&&((geq b 0)&&((geq f 0)&&((geq k 0)&&((geq m 0)&&true)))))then
some (((geq (Aa g) 0)&&(geq a 0))&&(geq (Aa n) 0))
else
(Eu h b f k m).bind λ(ab,ae)=>
if(Bm ae 0)then
some false
else
(Lk h b f k m o).bind λaf=>
if(Bm af 0)then
some false
else
j5 o p h b f k m g a n u v ab
def Xf:=Zj QH
def Ig:Option Bool:=
some (z==A)
def Gz:Option Bool:=
if(Gq (Aa z) (Aa A))then
(Bw z 0 (Aa A)).bind λc=>
(Ig c A).bind λd=>
some d
else
some false
abbrev El:=Option (Int×Int)
def MB:El:=
some (c,0)
def Wo:=MB
def Vv(j6:Int->El)(AA:Int->Int->El)(a:LB)(b f:Int):El:=
if(Cf f (Aa a))then
(Ad a f).bind λg=>
if(Dy g 127)then
some (0,12)
else
AA (iC (Gd b (GI.toZ (7:UInt64)).toNat) (Aq g:Int)) (Ac f 1)
else
j6 b
def Mk:Nat->Int->Int->El
|0,_,_=>none
|c+1,d,e=>Vv Wo (Mk c) z d e
def KU a:=Mk a Cm
def Wn(j4:LB->Int->Int->El)(a:LB):El:=
if(Bm (Aa a) 4)then
some (0,2)
else
j4 a 0 0
def ES:=Wn KU
abbrev Df:=Option (Int×Int)
def PW:Df:=
if(Dy eu 4000)then
some (0,4)
else
if(Cf (Aa z) eu)then
some (0,24)
else
if(geq jm 16)then
(Bw z (Ao eu 10) eu).bind λc=>
(Bw c 0 3).bind λd=>
if(d !=([51,68,73]:LB))then
some (0,12)
else
(Bw c 3 (Aa c)).bind λe=>
(Bw z 3 10).bind λi=>
(Ig e i).bind λj=>
if(!j)then
some (0,12)
else
some (eu,0)
else
some (eu,0)
def PQ:=PW
def QG(j8:LB->UInt8->Int->Df)(a:LB)(g:Int)(b:UInt8):Df:=
if(geq b 16)then
j8 a b (Ac (Ac g 10) 10)
else
j8 a b (Ac g 10)
def QO:=QG PQ
def PH(j7:LB->Int->UInt8->Df)(a:LB)(g:Int)(b:UInt8)(m:Bool):Df:=
if m then
some (0,12)
else
j7 a g b
def Yh:=PH QO
def Zn(j6:LB->Int->UInt8->Bool->Df)(a:LB)(f b:UInt8):Df:=
(Bw a 6 10).bind λaa=>
(ES aa).bind λ(g,ab)=>
if(Bm ab 0)then
if true then
j6 a g b true
else
if(geq b 0)then
j6 a g b (!((Gq f 2)&&(aF f 4)))
else
if(geq b 16)then
j6 a g b (!(geq f 4))
else
j6 a g b (!false)
else
(Ad a 4).bind λac=>
if(Bm ac 0)then
j6 a g b true
else
if(geq b 0)then
j6 a g b (!((Gq f 2)&&(aF f 4)))
else
if(geq b 16)then
j6 a g b (!(geq f 4))
else
j6 a g b (!false)
def Ys:=Zn Yh
def Oe(j5:LB->UInt8->UInt8->Df)(a:LB):Df:=
(Gz a ([(73:UInt8),(68:UInt8),(51:UInt8)]:LB)).bind λn=>
if(!n)then
some (0,6)
else
if(Cf (Aa a) 10)then
some (0,24)
else
(Ad a 3).bind λf=>
(Ad a 5).bind λb=>
(
(
(
j5 a f b)))
def HL:=Oe Ys
abbrev Kt:=Option (UInt64×Int)
def aQ:Kt:=
some (j,0)
def OJ:=aQ
def ON(j6:UInt64->Kt)(AA:UInt64->Int->Kt)(a:LB)(f:UInt64)(b:Int):Kt:=
if(Cf b (Aa a))then
(Ad a b).bind λg=>
(Ei (Gq (Ep 8 b) 0)).bind λ_=>
AA (iC f (Gd (Aq g:UInt64) (GI.toZ (Ep 8 b)).toNat)) (Ac b 1)
else
j6 f
def AG:Nat->UInt64->Int->Kt
|0,_,_=>none
|c+1,d,e=>ON OJ (AG c) z d e
def bT a:=AG a Cm
def PD(j4:LB->UInt64->Int->Kt)(a:LB):Kt:=
if((Cf (Aa a) 1)||(Dy (Aa a) 8))then
some (0,2)
else
j4 a 0 0
def SB:=PD bT
def UB:Option (UInt64×Int):=
if(((Cf t 1)||(Dy t 8))||(Cf e 0))then
some (0,2)
else
if(Dy e (Ao (Aa z) t))then
some (0,24)
else
(Bw z e (Ac e t)).bind λc=>
(SB c).bind λ(d,i)=>
some (d,i)
def dS:Option (LB):=
some z
def SV:=dS
def SZ(j6:LB->Option (LB))(AA:Int->LB->Option (LB))(a b:Int)(f:UInt64)(h:Int)(g:LB):Option (LB):=
if(Cf h (Aa ([(2000:UInt64),(Aq (Ac a 32):UInt64),(Aq b:UInt64),f,(0:UInt64),(0:UInt64)]:LQ)))then
(Ad ([(2000:UInt64),(Aq (Ac a 32):UInt64),(Aq b:UInt64),f,(0:UInt64),(0:UInt64)]:LQ) h).bind λ_=>
(Ad ([(2000:UInt64),(Aq (Ac a 32):UInt64),(Aq b:UInt64),f,(0:UInt64),(0:UInt64)]:LQ) h).bind λk=>
(Ni k 4).bind λ(m,o)=>
(By g m).bind λn=>
AA (Ac h 1) n
else
j6 g
def HB:Nat->Int->LB->Option (LB)
|0,_,_=>none
|z+1,e,i=>SZ SV (HB z) c d j e i
def dJ a b f:=HB a b f Cm
def UG(j4:Int->Int->UInt64->Int->LB->Option (LB))(a b:Int)(f:UInt64):Option (LB):=
j4 a b f 0 ([(65:UInt8),(80:UInt8),(69:UInt8),(84:UInt8),(65:UInt8),(71:UInt8),(69:UInt8),(88:UInt8)]:LB)
def QT:=UG dJ
def DB:Option (Int×Int×Bool):=
(UB z 12 4).bind λ(c,d)=>
(UB z 16 4).bind λ(e,i)=>
if(((Cf c 32)||(Dy c 3032))||(Dy e 1000))then
some (0,0,false)
else
(QT (Ao (Aq c:Int) 32) (Aq e:Int) j).bind λl=>
(Ig z l).bind λt=>
some ((Ao (Aq c:Int) 32),(Aq e:Int),t)
def WX:Option (Int×Int):=
(Gz z ([(65:UInt8),(80:UInt8),(69:UInt8),(84:UInt8),(65:UInt8),(71:UInt8),(69:UInt8),(88:UInt8)]:LB)).bind λc=>
if(!c)then
some (0,6)
else
if(Cf (Aa z) 32)then
some (0,24)
else
(Bw z 0 32).bind λd=>
(DB d 2684354560).bind λ(e,i,j)=>
if(!j)then
some (0,12)
else
if(Cf (Aa z) (Ac e 64))then
some (0,24)
else
(Bw z (Ao (Ac e 64) 32) (Ac e 64)).bind λl=>
(QT e i 2147483648).bind λt=>
(Ig l t).bind λA=>
if(!A)then
some (0,12)
else
some ((Ac e 64),0)
def Mo:Option (Int×Int):=
(HL z).bind λ(c,d)=>
if(Bm d 6)then
some (c,d)
else
(WX z).bind λ(e,i)=>
some (e,i)
def Nf(b:List UInt8):Nat->Int->Option (Int×Int)
  |0,_=>none
  |q+1,x=>Option.bind (Bw b x (Aa b)) λs=>Option.bind (Mo s) λr=>
    if geq r.2 (6:Int)=true then some (x,0)
    else if(geq r.2 (0:Int)&&Dy (Ac x r.1) (4000:Int))=true then some (0,4)
    else if Bm r.2 (0:Int)=true then some (0,r.2)
    else Nf b q (Ac x r.1)
def Fu(b:List UInt8):Option (Int×Int):=Nf b Cm 0
def Af:Option (Bool×Int):=
some (false,c)
def Gg:Option Bool:=
if(Gq (Aa z) (Aa A))then
(Bw z 0 (Aa A)).bind λc=>
some (c==A)
else
some false
def Lf:Option Bool:=
(Gg z A).bind λc=>
some c
def PT:Option Bool:=
some false
def Yr:=PT
def Ym(j6:Option Bool)(AA:Int->Option Bool)(a:LB)(b:Int):Option Bool:=
if(Cf b 2)then
(Ad ([([73,68,51]:LB),([65,80,69,84,65,71,69,88]:LB)]:List LB) b).bind λf=>
if(Cf (Aa a) (Aa f))then
(Lf f a).bind λg=>
if g then
some true
else
AA (Ac b 1)
else
AA (Ac b 1)
else
j6
def Oh:Nat->Int->Option Bool
|0,_=>none
|c+1,d=>Ym Yr (Oh c) z d
def PX a:=Oh a Cm
def Zg(j4:LB->Int->Option Bool)(a:LB):Option Bool:=
j4 a 0
def Ma:=Zg PX
abbrev Gb:=Option (Int×Int×Int×Int×Int×Int)
def UM:Gb:=
(Ad D 0).bind λ_=>
(Ad D 0).bind λz=>
(Ad D 1).bind λ_=>
(Ad D 1).bind λc=>
(Ad D 2).bind λ_=>
(Ad D 2).bind λd=>
(Ad D 3).bind λ_=>
(Ad D 3).bind λe=>
(Ad D 4).bind λ_=>
(Ad D 4).bind λi=>
(Ug z c d e i).bind λj=>
if(!j)then
some (0,0,0,0,0,12)
else
(CI z c d e i).bind λl=>
if(!l)then
some (0,0,0,0,0,4)
else
some (z,c,d,e,i,0)
def AL:=UM
def AM(j6:LI->Gb)(AA:Int->Int->LI->Gb)(b:LB)(g f:Int)(a:LI):Gb:=
if(Cf f 5)then
(Ad ([(2:Int),(2:Int),(2:Int),(4:Int),(4:Int)]:LI) f).bind λh=>
(UB b g h).bind λ(v,ae)=>
(Ad a f).bind λ_=>
(Io a f (Aq v:Int)).bind λw=>
AA (Ac g h) (Ac f 1) w
else
j6 a
def Qe:Nat->Int->Int->LI->Gb
|0,_,_,_=>none
|c+1,d,e,i=>AM AL (Qe c) z d e i
def SG b:=Qe b Cm
def CC(j4:LB->Int->Int->LI->Gb)(b:LB):Gb:=
(Bw b 0 (Cx 4 (Aa b))).bind λy=>
(Lf ([84,84,65,49]:LB) y).bind λaa=>
if(!aa)then
some (0,0,0,0,0,12)
else
if(Cf (Aa b) 22)then
some (0,0,0,0,0,24)
else
(UB b 18 4).bind λ(ab,af)=>
(Bw b 0 18).bind λac=>
(Ml ac).bind λ(ad,ag)=>
if(Bm (Aq ad:UInt64) ab)then
some (0,0,0,0,0,22)
else
j4 b 4 0 (List.replicate 5 (0:Int))
def Kw:=CC SG
def Xv:Option (Bool×Int):=
(Xp A).bind λ(c,d)=>
if((Bm d 0)||(Bm (Aa z) (Aa c)))then
some (false,2)
else
(Ig z c).bind λe=>
some (e,0)
abbrev Gs:=Option (LI×Int)
def WC:Gs:=
(Tz D).bind λz=>
if(Bm z 0)then
some (([]:LI),12)
else
some (D,0)
def EF:=WC
def ER(j6:LI->Gs)(AA:Int->LI->Gs)(a:LB)(f:LI)(g:Int)(b:LI):Gs:=
if(Cf g (Aa f))then
(UB a (Ep 4 g) 4).bind λ(k,u)=>
(Ad b g).bind λ_=>
(Io b g (Aq k:Int)).bind λm=>
AA (Ac g 1) m
else
j6 b
def Up:Nat->Int->LI->Gs
|0,_,_=>none
|c+1,d,e=>ER EF (Up c) z R d e
def VP a f:=Up a f Cm
def FG(j4:LB->LI->Int->LI->Gs)(a:LB)(h:Int):Gs:=
if((Cf h 1)||(Dy h 1000))then
some (([]:LI),2)
else
if(Cf (Aa a) (Ac (Ep 4 h) 4))then
some (([]:LI),24)
else
(UB a (Ep 4 h) 4).bind λ(n,v)=>
(Bw a 0 (Ep 4 h)).bind λo=>
(Ml o).bind λ(p,w)=>
if(Bm (Aq p:UInt64) n)then
some (([]:LI),22)
else
(eF h (0:Int)).bind λf=>
(Ei (geq h h)).bind λ_=>
j4 a f 0 f
def GA:=FG VP
def Ul(f a b g h:Int):Option (Int×Int):=
some (a,b)
def BM:Option (LB×Int):=
if(Cf (Aa z) 5)then
some (([]:LB),24)
else
if(Dy (Aa z) 41254)then
some (([]:LB),4)
else
(Bw z 0 (Ao (Aa z) 4)).bind λc=>
(Ml c).bind λ(d,e)=>
if(Bm e 0)then
some (([]:LB),e)
else
(Bw z (Ao (Aa z) 4) (Aa z)).bind λi=>
(SB i).bind λ(j,l)=>
if((Bm l 0)||(Bm j (Aq d:UInt64)))then
some (([]:LB),22)
else
(Bw z 0 (Ao (Aa z) 4)).bind λt=>
some (t,0)
def fO:Option (LB×Int×Int):=
if(Dy (Aa z) 41250)then
some (([]:LB),0,4)
else
(Bk z).bind λc=>
some (c,(Ep 8 (Aa z)),0)
def cO:Option UInt64:=
some j
def OW:=cO
def OR(j6:UInt64->Option UInt64)(AA:UInt64->Int->Option UInt64)(b f:Int)(h:LB)(k:Int)(g:UInt64)(a:Int):Option UInt64:=
if(Cf a f)then
(Ad h (gR (Ac b a) (GI.toZ (3:UInt64)).toNat)).bind λm=>
(Ei (Gq (Dt (Ac b a) 7) 0)).bind λ_=>
(Ei (Gq (Cx (Ao f a) (Ao 8 (Dt (Ac b a) 7))) 0)).bind λ_=>
(Ei (Gq a 0)).bind λ_=>
AA (iC g (Gd (Aq (Dt (Ch m (GI.toZ (Dt (Ac b a) 7)).toNat) (Ao (Gd (1:UInt8) (GI.toZ (Cx (Ao f a) (Ao 8 (Dt (Ac b a) 7)))).toNat) 1)):UInt64) (GI.toZ a).toNat)) (Ac a (Cx (Ao f a) (Ao 8 (Dt (Ac b a) 7))))
else
j6 g
def BN:Nat->UInt64->Int->Option UInt64
|0,_,_=>none
|i+1,j,l=>OR OW (BN i) c d z e j l
def bD b f h k:=BN b f h k Cm
def OA(j4:Int->Int->LB->Int->UInt64->Int->Option UInt64)(h:LB)(k b f:Int):Option UInt64:=
j4 b f h k 0 0
def UE:=OA bD
abbrev Cc:=Option (LB×Int×Int)
def ZK:Cc:=
some (z,c,0)
def IC:=ZK
def YJ(Ye:Int->Int->LB->Cc)(a:Int)(g:LB)(b f h:Int)(u:LB):Cc:=
Ye (Ac f 64) h u
def HG Ye:=YJ Ye
def YK(VA:UInt64->Int->Int->LB->Cc)(a f:Int)(g:LB)(b:Int)(m n:UInt64)(k h:Int)(w:LB):Cc:=
(Ei (Gq (Cx k (Ao 8 (Dt h 7))) 0)).bind λ_=>
VA (Ch n (GI.toZ (Cx k (Ao 8 (Dt h 7)))).toNat) (Ao k (Cx k (Ao 8 (Dt h 7)))) (Ac h (Cx k (Ao 8 (Dt h 7)))) w
def ZD VA:=YK VA
def ZZ(j48:UInt64->Int->Int->LB->Cc)(a f:Int)(g:LB)(b:Int)(m n:UInt64)(k h:Int)(v:LB):Cc:=
(Ad v (Ao (Aa v) 1)).bind λ_=>
(Ei (Gq (Cx k (Ao 8 (Dt h 7))) 0)).bind λ_=>
(Ei (Gq (Dt h 7) 0)).bind λ_=>
(Ad v (Ao (Aa v) 1)).bind λaa=>
(Ad v (Ao (Aa v) 1)).bind λ_=>
Option.bind (Io v (Ao (Aa v) 1) (iC aa (Gd (Aq (Dt n (Ao (Gd (1:UInt64) (GI.toZ (Cx k (Ao 8 (Dt h 7)))).toNat) 1)):UInt8) (GI.toZ (Dt h 7)).toNat))) λw=>
j48 n k h w
def IX VA a f g b m:=ZZ (ZD VA a f g b m) a f g b m
def II(j47:UInt64->Int->Int->LB->Cc)(j50:Int->Int->LB->Cc)(a:Int)(g:LB)(b f:Int)(m n:UInt64)(k h:Int)(u:LB):Cc:=
if(Dy k 0)then
if(geq (Dt h 7) 0)then
(By u ([(0:UInt8)]:LB)).bind λab=>
j47 n k h ab
else
j47 n k h u
else
j50 f h u
def Xh(Ye:Int->Int->LB->Cc)(a:Int)(g:LB)(b f:Int)(m:UInt64):Nat->UInt64->Int->Int->LB->Cc
|0,_,_,_,_=>none
|q+1,n,k,h,u=>II (IX (Xh Ye a g b f m q) a f g b m) (HG Ye a g b) a g b f m n k h u
def JR Ye a g b f m:=Xh Ye a g b f m Cm
def JN(j44:Int->UInt64->UInt64->Int->Int->LB->Cc)(j52:Int->LB->Cc)(a:Int)(g:LB)(b f o:Int)(p:LB):Cc:=
if(Cf f a)then
(UE g b f (Cx 64 (Ao a f))).bind λm=>
j44 f m m (Cx 64 (Ao a f)) o p
else
j52 o p
def Xd:Nat->Int->Int->LB->Cc
|0,_,_,_=>none
|d+1,i,j,l=>JN (JR (Xd d) c z e) IC c z e i j l
def XQ a g b:=Xd a g b Cm
def OU(j27:Int->LB->Int->Int->Int->LB->Cc)(g:LB)(b y a:Int):Cc:=
(Fj g b).bind λac=>
if(Bm ac 0)then
some (([]:LB),0,8)
else
if(((Cf y 0)||(Dy y a))||(Dy a b))then
some (([]:LB),0,2)
else
j27 a g b y 0 ([]:LB)
def TI:=OU XQ
def Rf:Option (UInt64×Int):=
(Fj z e).bind λc=>
if(Bm c 0)then
some (0,8)
else
if(((Cf I 0)||(Dy I 64))||(Cf t 0))then
some (0,2)
else
if(Dy t (Ao e I))then
some (0,24)
else
(UE z e t I).bind λd=>
some (d,0)
def Ip:Option Int:=
if(geq j 0)then
some 64
else
(Ad ([(0:UInt8),(1:UInt8),(56:UInt8),(2:UInt8),(57:UInt8),(49:UInt8),(28:UInt8),(3:UInt8),(61:UInt8),(58:UInt8),(42:UInt8),(50:UInt8),(38:UInt8),(29:UInt8),(17:UInt8),(4:UInt8),(62:UInt8),(47:UInt8),(59:UInt8),(36:UInt8),(45:UInt8),(43:UInt8),(51:UInt8),(22:UInt8),(53:UInt8),(39:UInt8),(33:UInt8),(30:UInt8),(24:UInt8),(18:UInt8),(12:UInt8),(5:UInt8),(63:UInt8),(55:UInt8),(48:UInt8),(27:UInt8),(60:UInt8),(41:UInt8),(37:UInt8),(16:UInt8),(46:UInt8),(35:UInt8),(44:UInt8),(21:UInt8),(52:UInt8),(32:UInt8),(23:UInt8),(11:UInt8),(54:UInt8),(26:UInt8),(40:UInt8),(15:UInt8),(34:UInt8),(20:UInt8),(31:UInt8),(10:UInt8),(25:UInt8),(14:UInt8),(19:UInt8),(9:UInt8),(13:UInt8),(8:UInt8),(7:UInt8),(6:UInt8)]:LB) (GI.toZ (Ch (Ep (Dt j (gB j)) 285870213051353865) (GI.toZ (58:UInt64)).toNat))).bind λz=>
some (Aq z:Int)
abbrev Dd:=Option (Int×Int×Int)
def SM:Dd:=
some (0,0,24)
def SK:=SM
def VY(j10:Dd):Dd:=
j10
def VI:=VY SK
def VK(j9:Dd)(f a:Int):Dd:=
if(geq f 48)then
some (f,(Ac 0 (Ac a f)),0)
else
j9
def VS:=VK VI
def VO(j8:Int->Int->Dd)(f b a:Int):Dd:=
if(Cf f (Cx 48 (Ao b a)))then
some (f,(Ac (Ac (0:Int) (1:Int)) (Ac a f)),0)
else
j8 f a
def VW:=VO VS
def VT(j7:Int->Int->Int->Dd)(h:Int)(k:UInt64)(a:Int)(g:LB)(b:Int):Dd:=
if(Bm h 0)then
some (0,0,h)
else
(Ip (jM k)).bind λf=>
j7 f b a
def EL:=VT VW
def Uz(j6:Int->UInt64->Int->LB->Int->Dd)(g:LB)(b a:Int):Dd:=
(Fj g b).bind λm=>
if(Bm m 0)then
some (0,0,m)
else
if(Cf a 0)then
some (0,0,2)
else
if(Gq a b)then
some (0,0,24)
else
(
(
(Rf g b a (Cx 48 (Ao b a))).bind λ(k,h)=>
j6 h k a g b))
def TM:=Uz EL
abbrev BZ:=Option (UInt32×Int×Int)
def YP:BZ:=
(Rf z e d t).bind λ(i,j)=>
if(Bm j 0)then
some (0,0,j)
else
if(Cf l 48)then
(Ei (Gq c 0)).bind λ_=>
some ((iC (Gd (Aq l:UInt32) (GI.toZ c).toNat) (Aq i:UInt32)),(Ac d t),0)
else
(Xy (Aq i:UInt32) c).bind λA=>
if(!A)then
some (0,0,12)
else
some ((Aq i:UInt32),(Ac d t),0)
def ZL:=YP
def YX(j2:Int->Int->Int->LB->Int->Int->BZ)(g:LB)(h v a:Int):BZ:=
(Fj g h).bind λo=>
if(Bm o 0)then
some (0,0,o)
else
if((Cf a 0)||(Dy a 24))then
some (0,0,2)
else
(TM g h v).bind λ(f,b,p)=>
if(Bm p 0)then
some (0,0,p)
else
if(geq f 48)then
j2 a b f g h 32
else
j2 a b f g h a
def XC:=YX ZL
abbrev Ea:=Option (UInt32×Int×Int×Int×UInt64×UInt64×Int)
def VG:Ea:=
some (T,G,l6,oh,(Ac l9 (Ao (Aq T:UInt64) (Ch l9 (GI.toZ (4:UInt64)).toNat))),om,0)
def VM:=VG
def ZJ(j10:UInt32->Int->Int->Int->UInt64->UInt64->Ea)(f:UInt32)(k m:Int)(b n:UInt64)(w:Int):Ea:=
j10 f k w m b n
def XT:=ZJ VM
def ZR(j9:UInt32->Int->Int->UInt64->UInt64->Int->Ea)(f:UInt32)(k a:Int)(b:UInt64)(m:Int)(n:UInt64):Ea:=
if(Dy a 0)then
(Ei (Gq a 0)).bind λ_=>
if(Cf (Ac b (Ao (Aq f:UInt64) (Ch b (GI.toZ (4:UInt64)).toNat))) (Gd (16:UInt64) (GI.toZ a).toNat))then
j9 f k m b n (Ao a 1)
else
if(Cf a 24)then
(Ei (Gq a 0)).bind λ_=>
if(Dy (Ac b (Ao (Aq f:UInt64) (Ch b (GI.toZ (4:UInt64)).toNat))) (Gd (32:UInt64) (GI.toZ a).toNat))then
j9 f k m b n (Ac a 1)
else
j9 f k m b n a
else
j9 f k m b n a
else
if(Cf a 24)then
(Ei (Gq a 0)).bind λ_=>
if(Dy (Ac b (Ao (Aq f:UInt64) (Ch b (GI.toZ (4:UInt64)).toNat))) (Gd (32:UInt64) (GI.toZ a).toNat))then
j9 f k m b n (Ac a 1)
else
j9 f k m b n a
else
j9 f k m b n a
def JX:=ZR XT
def ID(j8:UInt32->Int->Int->UInt64->Int->UInt64->Ea)(a h:Int)(b g:UInt64)(f:UInt32)(k:Int):Ea:=
(Xr a h b g f).bind λ(ad,o)=>
if(geq ad 1)then
if(Dy h 0)then
(Ei (Gq h 0)).bind λ_=>
if(Cf (Ac g (Ao (Aq o:UInt64) (Ch g (GI.toZ (4:UInt64)).toNat))) (Gd (16:UInt64) (GI.toZ h).toNat))then
j8 f k a b (Ao h 1) (Ac g (Ao (Aq o:UInt64) (Ch g (GI.toZ (4:UInt64)).toNat)))
else
if(Cf h 24)then
(Ei (Gq h 0)).bind λ_=>
if(Dy (Ac g (Ao (Aq o:UInt64) (Ch g (GI.toZ (4:UInt64)).toNat))) (Gd (32:UInt64) (GI.toZ h).toNat))then
j8 f k a b (Ac h 1) (Ac g (Ao (Aq o:UInt64) (Ch g (GI.toZ (4:UInt64)).toNat)))
else
j8 f k a b h (Ac g (Ao (Aq o:UInt64) (Ch g (GI.toZ (4:UInt64)).toNat)))
else
j8 f k a b h (Ac g (Ao (Aq o:UInt64) (Ch g (GI.toZ (4:UInt64)).toNat)))
else
if(Cf h 24)then
(Ei (Gq h 0)).bind λ_=>
if(Dy (Ac g (Ao (Aq o:UInt64) (Ch g (GI.toZ (4:UInt64)).toNat))) (Gd (32:UInt64) (GI.toZ h).toNat))then
j8 f k a b (Ac h 1) (Ac g (Ao (Aq o:UInt64) (Ch g (GI.toZ (4:UInt64)).toNat)))
else
j8 f k a b h (Ac g (Ao (Aq o:UInt64) (Ch g (GI.toZ (4:UInt64)).toNat)))
else
j8 f k a b h (Ac g (Ao (Aq o:UInt64) (Ch g (GI.toZ (4:UInt64)).toNat)))
else
j8 f k a b h g
def YD:=ID JX
def IP(j7:Int->Int->UInt64->UInt64->UInt32->Int->Ea)(p:Int)(u:LB)(v a h:Int)(b g:UInt64):Ea:=
(Rf u v p 1).bind λ(ae,aa)=>
if(Bm aa 0)then
some (0,0,0,0,0,0,aa)
else
if(geq ae 0)then
(Rf u v (Ac p 1) a).bind λ(af,ab)=>
if(Bm ab 0)then
some (0,0,0,0,0,0,ab)
else
j7 a h b g (Aq af:UInt32) (Ac (Ac p 1) a)
else
(XC u v (Ac p 1) h).bind λ(y,ag,ac)=>
if(Bm ac 0)then
some (0,0,0,0,0,0,ac)
else
(Ei (Gq a 0)).bind λ_=>
if(Cf (Ac y (Gd (1:UInt32) (GI.toZ a).toNat)) y)then
some (0,0,0,0,0,0,12)
else
j7 a h b g (Ac y (Gd (1:UInt32) (GI.toZ a).toNat)) ag
def ZX:=IP YD
def KM(j6:Int->LB->Int->Int->Int->UInt64->UInt64->Ea)(u:LB)(v p a h:Int)(b g:UInt64):Ea:=
(Fj u v).bind λah=>
if(Bm ah 0)then
some (0,0,0,0,0,0,8)
else
(GO a h b g).bind λai=>
if(Bm ai 0)then
some (0,0,0,0,0,0,8)
else
j6 p u v a h b g
def Vx:=KM ZX
abbrev Ba:=Option (LU×Int×Int)
def GF:Ba:=
some (Z,c,0)
def Rj:=GF
def GM(Du:Int->Int-> (List (Int×Int×UInt64×UInt64×Unit))->LU->Ba)(a f:Int)(g:LB)(b k v:Int)(w:UInt32)(h:Int)(ah:List (Int×Int×UInt64×UInt64×Unit))(n:LU):Ba:=
(By n ([w]:LU)).bind λak=>
Du (Ac k v) (Ac h 1) ah ak
def FP Du:=GM Du
def FY(j22:Int->Int->UInt32->Int-> (List (Int×Int×UInt64×UInt64×Unit))->LU->Ba)(a f:Int)(g:LB)(b k h y:Int)(w:UInt32)(v:Int)(m:List (Int×Int×UInt64×UInt64×Unit))(n:LU)(aa ab:Int)(ac ad:UInt64):Ba:=
if(Bm y 0)then
some (([]:LU),0,y)
else
(Ei (Bm a 0)).bind λ_=>
(Ad m (Ho h a)).bind λ_=>
(Io m (Ho h a) (aa,ab,ac,ad,())).bind λah=>
j22 k v w h ah n
def Qy Du a f g b:=FY (FP Du a f g b) a f g b
def Kr(j21:Int->Int->Int->UInt32->Int-> (List (Int×Int×UInt64×UInt64×Unit))->LU->Int->Int->UInt64->UInt64->Ba)(j24:Int->LU->Ba)(a f:Int)(g:LB)(b k h:Int)(m:List (Int×Int×UInt64×UInt64×Unit))(n:LU):Ba:=
if(Cf h (Ep f a))then
(TI g b k (Cx (Ac k 81) b)).bind λ(ag,ae,af)=>
if(Bm af 0)then
some (([]:LU),0,af)
else
(Ei (Bm a 0)).bind λ_=>
(Ad m (Ho h a)).bind λ_=>
(
(
(Ad m (Ho h a)).bind λo=>
(
(Vx ag ae 0 o.1 o.2.1 o.2.2.1 o.2.2.2.1).bind λ(w,v,aa,ab,ac,ad,y)=>
j21 k h y w v m n aa ab ac ad)))
else
j24 k n
def Ke:Nat->Int->Int-> (List (Int×Int×UInt64×UInt64×Unit))->LU->Ba
|0,_,_,_,_=>none
|i+1,j,l,t,A=>Kr (Qy (Ke i) c d z e) Rj c d z e j l t A
def Ru a f g b:=Ke a f g b Cm
def Qd(j16:Int->Int->LB->Int->Int->Int-> (List (Int×Int×UInt64×UInt64×Unit))->LU->Ba)(a f:Int)(g:LB)(b:Int)(p:List (Int×Int×UInt64×UInt64×Unit)):Ba:=
j16 a f g b 0 0 p ([]:LU)
def FK:=Qd Ru
def Qj(j15:Int->Int->LB->Int-> (List (Int×Int×UInt64×UInt64×Unit))->Ba)(kO:Int-> (List (Int×Int×UInt64×UInt64×Unit))->Ba)(a f:Int)(g:LB)(b u:Int)(p:List (Int×Int×UInt64×UInt64×Unit)):Ba:=
if(Cf u 6)then
(HC).bind λ(al,ae,af,am)=>
(Ad p u).bind λ_=>
(Io p u (al,ae,af,am,())).bind λan=>
kO (Ac u 1) an
else
j15 a f g b p
def Kg:Nat->Int-> (List (Int×Int×UInt64×UInt64×Unit))->Ba
|0,_,_=>none
|i+1,j,l=>Qj FK (Kg i) c d z e j l
def GY a f g b:=Kg a f g b Cm
def Tl(j13:Int->Int->LB->Int->Int-> (List (Int×Int×UInt64×UInt64×Unit))->Ba)(a f:Int)(g:LB)(b:Int):Ba:=
j13 a f g b 0 (List.replicate 6 ((0:Int),(0:Int),(0:UInt64),(0:UInt64),()))
def BJ:=Tl GY
def Mw:Option Int32:=
some (NF (Aq (Ch T (GI.toZ (1:UInt64)).toNat):Int32) (gB (Aq (Dt T 1):Int32)))
def UN:Option (Int32×Int×LX×LX×Int):=
(GC c i L).bind λ(z,d)=>
if(Bm d 0)then
some (0,0,(List.replicate 16 (0:Int32)),(List.replicate 16 (0:Int32)),d)
else
(FO c i L (Ac E z) E).bind λ(e,j,l)=>
some ((Ac E z),e,j,l,0)
def Fy:Option (Int32×Int×Int32×Int×LX×LX×Int):=
(Nk c E G je iy).bind λz=>
if(Bm z 0)then
some (0,0,0,0,(List.replicate 16 (0:Int32)),(List.replicate 16 (0:Int32)),z)
else
(Nn c E).bind λ(d,e)=>
(UN G je iy jh).bind λ(i,j,l,t,A)=>
(
some ((Ac i d),c,(Ac i d),j,l,t,A))
abbrev Cq:=Option (LX×Int)
def YG:Cq:=
some (i,0)
def IE:=YG
def YU(Se:Int->LX->Cq)(b a:Int)(h:LX):Cq:=
Se (Ac a b) h
def JC Se:=YU Se
def HS(j20:Int->LX->Cq)(rV:Int->LX->Cq)(b a g:Int)(h:LX):Cq:=
if(Gq g 0)then
(Ei (decide (0<= (Ac g 1)/\ (Ac g 1)<((Ac a b)-a)))).bind λ_=>
(Ei (decide (0<=g/\g<((Ac a b)-a)))).bind λ_=>
(Ad h (a+(Ac g 1))).bind λn=>
(Ad h (a+g)).bind λo=>
(Ei (decide (0<=g/\g<((Ac a b)-a)))).bind λ_=>
(Io h (a+g) (Ao n o)).bind λp=>
rV (Ao g 1) p
else
j20 a h
def Xs(Se:Int->LX->Cq)(b a:Int):Nat->Int->LX->Cq
|0,_,_=>none
|q+1,g,h=>HS (JC Se b) (Xs Se b a q) b a g h
def IA Se b a:=Xs Se b a Cm
def HF(j18:Int->Int->LX->Cq)(b a:Int)(u:LX):Cq:=
j18 a (Ao (Ao ((Ac a b)-a) 1) 1) u
def ZE Se b:=HF (IA Se b) b
def HU(j17:Int->LX->Cq)(j22:LX->Cq)(b a:Int)(f:LX):Cq:=
if(Cf a (Aa f))then
(KP (Aa f) a (Ac a b)).bind λ_=>
if(Dy (Ao ((Ac a b)-a) 1) 0)then
(Ei (decide (0<= (Ao ((Ac a b)-a) 1)/\ (Ao ((Ac a b)-a) 1)<((Ac a b)-a)))).bind λ_=>
Option.bind (Ei (decide (0<= (Ao (Ao ((Ac a b)-a) 1) 1)/\ (Ao (Ao ((Ac a b)-a) 1) 1)<((Ac a b)-a)))) λ_=>
(Ad f (a+(Ao ((Ac a b)-a) 1))).bind λv=>
(Ad f (a+(Ao (Ao ((Ac a b)-a) 1) 1))).bind λw=>
(Ei (decide (0<= (Ao ((Ac a b)-a) 1)/\ (Ao ((Ac a b)-a) 1)<((Ac a b)-a)))).bind λ_=>
(Io f (a+(Ao ((Ac a b)-a) 1)) (Ac v (Gx w 2))).bind λy=>
j17 a y
else
j17 a f
else
j22 f
def Xo:Nat->Int->LX->Cq
|0,_,_=>none
|z+1,d,e=>HU (ZE (Xo z) c) IE c d e
def ZB b:=Xo b Cm
def PC(j12:Int->Int->LX->Cq)(b:Int)(k:LX):Cq:=
(MX b k).bind λm=>
if(Bm m 0)then
some (([]:LX),m)
else
(Bz k).bind λaa=>
j12 b 0 aa
def bF:=PC ZB
abbrev Be:=Option (LX×Int)
def DK:Be:=
(bF c i).bind λ(z,e)=>
if(Bm e 0)then
some (([]:LX),e)
else
(Nl d z).bind λj=>
if(Bm j 0)then
some (([]:LX),j)
else
some (z,0)
def Oz:=DK
def DR(kO:Int-> (List (Int×Int32×(Int×LX×LX×Unit)×Unit))->LX->Be)(a:Int)(f:LU)(b g:Int)(y:Int32)(v:Int)(h:List (Int×Int32×(Int×LX×LX×Unit)×Unit))(k:LX)(aa:Int)(w:Int32)(ab:Int)(ac ad:LX):Be:=
if(Bm v 0)then
some (([]:LX),v)
else
(Io h (Ho g a) (aa,w,(ab,ac,ad,()),())).bind λai=>
(By k ([y]:LX)).bind λaj=>
kO (Ac g 1) ai aj
def Pg kO:=DR kO
def Iy(j16:Int->Int32->Int-> (List (Int×Int32×(Int×LX×LX×Unit)×Unit))->LX->Int->Int32->Int->LX->LX->Be)(j18:Int->Int->LX->Be)(f:LU)(a b g:Int)(h:List (Int×Int32×(Int×LX×LX×Unit)×Unit))(k:LX):Be:=
if(Cf g (Aa f))then
(Ad f g).bind λag=>
(Ei (Bm a 0)).bind λ_=>
(Ad h (Ho g a)).bind λ_=>
(
(Ad h (Ho g a)).bind λm=>
(
(Mw ag).bind λae=>
(
(Fy m.1 m.2.1 m.2.2.1.1 m.2.2.1.2.1 m.2.2.1.2.2.1 ae).bind λ(y,aa,w,ab,ac,ad,v)=>
j16 g y v h k aa w ab ac ad)))
else
j18 a b k
def Iz:Nat->Int-> (List (Int×Int32×(Int×LX×LX×Unit)×Unit))->LX->Be
|0,_,_,_=>none
|z+1,c,d,e=>Iy (Pg (Iz z) ji Z jk) Oz Z ji jk c d e
def Pn f a b:=Iz f a b Cm
def Ph(j13:LU->Int->Int->Int-> (List (Int×Int32×(Int×LX×LX×Unit)×Unit))->LX->Be)(f:LU)(a b:Int)(n:List (Int×Int32×(Int×LX×LX×Unit)×Unit)):Be:=
j13 f a b 0 n ([]:LX)
def EB:=Ph Pn
def Pm(j12:LU->Int->Int-> (List (Int×Int32×(Int×LX×LX×Unit)×Unit))->Be)(oU:Int-> (List (Int×Int32×(Int×LX×LX×Unit)×Unit))->Be)(f:LU)(a b:Int)(o:LX)(p:Int)(n:List (Int×Int32×(Int×LX×LX×Unit)×Unit)):Be:=
if(Cf p 6)then
(NQ b o).bind λ(ak,af,ae,al,am,w)=>
(Ad n p).bind λ_=>
(Io n p (ak,af,(ae,al,am,()),())).bind λan=>
oU (Ac p 1) an
else
j12 f a b n
def Je:Nat->Int-> (List (Int×Int32×(Int×LX×LX×Unit)×Unit))->Be
|0,_,_=>none
|z+1,c,d=>Pm EB (Je z) Z ji jk l7 c d
def DY f a b o:=Je f a b o Cm
def Rs(j10:LU->Int->Int->LX->Int-> (List (Int×Int32×(Int×LX×LX×Unit)×Unit))->Be)(a b:Int)(o:LX)(f:LU):Be:=
j10 f a b o 0 (List.replicate 6 ((0:Int),(0:Int32),((0:Int),(List.replicate 16 (0:Int32)),(List.replicate 16 (0:Int32)),()),()))
def Yt:=Rs DY
def Pz:Option (LX×Int):=
(Ng c d).bind λz=>
if(Bm z 0)then
some (([]:LX),z)
else
if(Cf J 1)then
some (([]:LX),2)
else
(Ei (Bm c 0)).bind λ_=>
if(Dy J (Gx 4000 c))then
some (([]:LX),2)
else
(BM jg).bind λ(e,j)=>
if(Bm j 0)then
some (([]:LX),j)
else
(fO e).bind λ(l,t,A)=>
if(Bm A 0)then
some (([]:LX),A)
else
(BJ c J l t).bind λ(B,C,D)=>
if(Bm D 0)then
some (([]:LX),D)
else
if(Gq (Ao t C) 8)then
some (([]:LX),12)
else
(Rf l t C (Ao t C)).bind λ(E,F)=>
if((Bm F 0)||(Bm E 0))then
some (([]:LX),12)
else
(Yt c d i B).bind λ(G,I)=>
some (G,I)
abbrev Bq:=Option (LB×Int)
def PN:Bq:=
some (z,0)
def Zq:=PN
def QI(Du:Int->LB->Bq)(b:Int)(a:LX)(f:Int)(h:LB):Bq:=
Du (Ac f 1) h
def Yz Du:=QI Du
def Yo(j28:Int->LB->Bq)(rW:Int->LB->Bq)(b:Int)(a:LX)(k:Int32)(f m:Int)(h:LB):Bq:=
if(Cf m (Gx b 8))then
(Ei (Gq (Ep 8 m) 0)).bind λ_=>
(By h ([(Aq (Ch k (GI.toZ (Ep 8 m)).toNat):UInt8)]:LB)).bind λp=>
rW (Ac m 1) p
else
j28 f h
def Om(Du:Int->LB->Bq)(b:Int)(a:LX)(k:Int32)(f:Int):Nat->Int->LB->Bq
|0,_,_=>none
|q+1,m,h=>Yo (Yz Du b a) (Om Du b a k f q) b a k f m h
def Zt Du b a k f:=Om Du b a k f Cm
def Yf(j26:Int32->Int->Int->LB->Bq)(b:Int)(a:LX)(f:Int)(g:LB)(k:Int32):Bq:=
j26 k f 0 g
def QP Du b a:=Yf (Zt Du b a) b a
def Zi(j25:Int->LB->Int32->Bq)(j30:LB->Bq)(b:Int)(a:LX)(f:Int)(g:LB):Bq:=
if(Cf f (Aa a))then
(Ad a f).bind λn=>
if(geq b 8)then
j25 f g (Ac n 128)
else
j25 f g n
else
j30 g
def On:Nat->Int->LB->Bq
|0,_,_=>none
|z+1,d,e=>Zi (QP (On z) c i) Zq c i d e
def QE b a:=On b a Cm
def BT(j16:Int->LX->Int->LB->Bq)(b:Int)(a:LX):Bq:=
(Nl b a).bind λo=>
if(Bm o 0)then
some (([]:LB),o)
else
j16 b a 0 ([]:LB)
def Nt:=BT QE
def Jq:Option Int:=
some (-1:Int)
def Es:=Jq
def Ex(j6:Option Int)(AA:Int->Option Int)(a:LI)(b f:Int):Option Int:=
if(Cf f (Aa a))then
(Ad a f).bind λg=>
if(geq b g)then
some f
else
AA (Ac f 1)
else
j6
def Ct:Nat->Int->Option Int
|0,_=>none
|z+1,c=>Ex Es (Ct z) D e c
def Jv a b:=Ct a b Cm
def Ew(j4:LI->Int->Int->Option Int)(a:LI)(b:Int):Option Int:=
j4 a b 0
def Ft:=Ew Jv
def Ev:Option Bool:=
(Ft D e).bind λz=>
some (Gq z 0)
def Jn:Option Bool:=
(Ev ([(4:Int),(12:Int),(16:Int),(22:Int),(24:Int),(26:Int),(38:Int)]:LI) c).bind λz=>
some z
def KF:Option Int:=
if(!jc)then
some 8
else
some 0
def Ec:=KF
def JH:Option Int:=
iq ((true==true)&&((geq (0:Int) (0:Int))&&true))
def Tq:=JH Ec
def HE:Option Int:=
iq ((jl==true)&&((geq jo 0)&&true))
def Lg:=HE Ec
def KH(j13:Bool->Int->Option Int)(g ax:LB)(ay az ab ba af b:Int)(n:Bool)(o:Int)(f:LI)(k:LB):Option Int:=
(Lk ay az ab ba af g).bind λdi=>
(Af di).bind λ(dj,ai)=>
j13 dj ai
def Ta:=KH Lg
def IF:Option Int:=
iq ((jl==true)&&((geq jo 0)&&true))
def Hx:=IF Ec
def HQ(j25:Bool->Int->Option Int)(g a:LB)(h p m u v b:Int)(n:Bool)(o:Int)(f:LI)(k:LB)(de:Int):Option Int:=
(Eu h p m u v).bind λ(dm,be)=>
if(Bm be 0)then
(Af be).bind λ(aj,bg)=>
j25 aj bg
else
(Bw a de (Aa a)).bind λdn=>
(GA dn (Aa dm)).bind λ(dp,ab)=>
if(geq ab 24)then
j25 true 0
else
if(Bm ab 0)then
(Af ab).bind λ(dq,af)=>
j25 dq af
else
(Bw a (Ac (Ac de (Ep 4 (Aa dp))) 4) (Aa a)).bind λfc=>
j25 false 0
def Mb:=HQ Hx
def HV(j25:Bool->Int->Option Int)(j24:LB->LB->Int->Int->Int->Int->Int->Int->Bool->Int->LI->LB->Int->Option Int)(bh:Bool)(bf:Int)(g a:LB)(h p m u v b:Int)(n:Bool)(o:Int)(f:LI)(k:LB):Option Int:=
if(Bm bf 0)then
(Af bf).bind λ(dr,be)=>
j25 dr be
else
if(!bh)then
(Af 26).bind λ(aj,bg)=>
j25 aj bg
else
j24 g a h p m u v b n o f k 8
def JU:=HV Hx Mb
def KB(j15:Bool->Int->LB->LB->Int->Int->Int->Int->Int->Int->Bool->Int->LI->LB->Option Int)(g a:LB)(h p m u v b:Int)(n:Bool)(o:Int)(f:LI)(k:LB):Option Int:=
(Bw a 0 8).bind λds=>
(Xv ds g).bind λ(bh,bf)=>
j15 bh bf g a h p m u v b n o f k
def Sy:=KB JU
def HP:Option Int:=
iq ((jl==true)&&((geq jo 0)&&true))
def Hr:=HP Ec
def Lw(j28:Bool->Int->Option Int)(y ac:Int)(g a:LB)(h p m u v b:Int)(n:Bool)(o:Int)(ak:LX)(f:LI)(k:LB):Option Int:=
if(Bm ac 0)then
(Af ac).bind λ(bi,bj)=>
j28 bi bj
else
(Nt m ak).bind λ(bk,bb)=>
if(Bm bb 0)then
(Af bb).bind λ(bl,bm)=>
j28 bl bm
else
(By k bk).bind λdv=>
(
(Bw a y (Aa a)).bind λdw=>
j28 false 0)
def Uf:=Lw Hr
def To(j27:Int->Int->LB->LB->Int->Int->Int->Int->Int->Int->Bool->Int->LX->LI->LB->Option Int)(y:Int)(g a:LB)(h p m u v b:Int)(n:Bool)(o:Int)(bc:LX)(ag f:LI)(k:LB):Option Int:=
(Ad ag b).bind λ_=>
(Bw a 0 y).bind λdx=>
(Ad ag b).bind λdy=>
(Ul h p m u v).bind λ(dz,bd)=>
(Pz dz bd bc dy dx).bind λ(ak,ac)=>
j27 y ac g a h p m u v b n o ak f k
def HK:=To Uf
def Mu(j13:Bool->Int->Option Int)(j12:LB->LB->Int->Int->Int->Int->Int->Int->Bool->Int->LI->LB->Option Int)(j25:Bool->Int->Option Int)(j23:LB->LB->Int->Int->Int->Int->Int->Int->Bool->Int->LI->LB->Option Int)(j24:LB->LB->Int->Int->Int->Int->Int->Int->Bool->Int->LI->LB->Int->Option Int)(j28:Bool->Int->Option Int)(j26:Int->LB->LB->Int->Int->Int->Int->Int->Int->Bool->Int->LX->LI->LI->LB->Option Int)(j22:Bool->Option Int)(j21:Option Int)(al am:LB)(an ao ap aq ar:Int)(au:LI)(ad:Int)(ae:LB)(aa:Bool)(w:Int):Option Int:=
if(Dy (Aa al) 64)then
some 8
else
if((geq w 0)&&(!aa))then
(Cw al am an ao ap aq ar au ad ae aa w).bind λ(g,a,h,p,m,u,v,f,b,k,n,o)=>
(Xf al am an ao ap aq ar au ad ae aa w).bind λbn=>
if bn then
if(geq h 0)then
(Fu a).bind λ(ah,av)=>
if(geq av 24)then
j13 true 0
else
if(Bm av 0)then
(Af av).bind λ(bp,bq)=>
j13 bp bq
else
(Bw a ah (Aa a)).bind λbr=>
(Ma br).bind λaj=>
if aj then
j13 true 0
else
(Bw a ah (Aa a)).bind λbs=>
(Kw bs).bind λ(ay,az,ab,ba,af,aw)=>
if(geq aw 24)then
j13 true 0
else
if(Bm aw 0)then
(Af aw).bind λ(bt,bu)=>
j13 bt bu
else
(
(Bw a (Ac ah 22) (Aa a)).bind λax=>
(
j12 g ax ay az ab ba af b n o f k))
else
if(geq (Aa f) 0)then
if(geq h 2)then
if(Cf (Aa a) 8)then
j25 true 0
else
j23 g a h p m u v b n o f k
else
j24 g a h p m u v b n o f k 0
else
if(Cf b (Aa f))then
(Ad f b).bind λ_=>
(Ad f b).bind λy=>
if(Cf (Aa a) y)then
j28 true 0
else
(My g).bind λ(bc,ai)=>
if(Bm ai 0)then
(Af ai).bind λ(bv,bw)=>
j28 bv bw
else
(Eu h p m u v).bind λ(ag,bx)=>
if((Bm bx 0)||(Gq b (Aa ag)))then
(Af 8).bind λ(bz,da)=>
j28 bz da
else
j26 y g a h p m u v b n o bc ag f k
else
if(Dy (Aa a) 4000)then
(Af 38).bind λ(db,bd)=>
j22 ((db==true)&&((geq bd 0)&&true))
else
j21
else
j22 false
else
if((geq (Aa am) 0)&&(geq (Aa au) 0))then
if((((geq an 0)&&((geq ao 0)&&((geq ap 0)&&((geq aq 0)&&((geq ar 0)&&true)))))&&(geq ad 0))&&(aF (Aa ae) 12000))then
if(geq w 0)then
j22 true
else
if(!aa)then
(Jn w).bind λdc=>
j22 dc
else
j22 false
else
j22 false
else
if((false&&(geq ad 0))&&(aF (Aa ae) 12000))then
if(geq w 0)then
j22 true
else
if(!aa)then
(Jn w).bind λdd=>
j22 dd
else
j22 false
else
j22 false
def Nh:=Mu Lg Ta Hx Sy Mb Hr HK Ec Tq
def Ju:Option (LB×LB×Int×Int×Int×Int×Int×LI×Int×LB×Bool×Int×Int):=
(Nh z A e t I V X R Y N C B).bind λc=>
if(Bm c 0)then
some (([]:LB),([]:LB),0,0,0,0,0,([]:LI),0,([]:LB),false,0,c)
else
if(Bm B 0)then
(
(
(Cw z A e t I V X R Y N C B).bind λ(d,i,j,l,D,E,F,G,J,L,M,O)=>
(
some (d,i,j,l,D,E,F,G,J,L,M,O,B))))
else
if C then
(Cw z A e t I V X R Y N C B).bind λ(P,T,U,Z,cu,eu,ig,iq,iw,iy,jc,jd)=>
some (P,T,U,Z,cu,eu,ig,iq,iw,iy,jc,jd,36)
else
(Cw z A e t I V X R Y N C B).bind λ(je,jf,jg,jh,ji,jk,jl,jm,jo,jq,jr,jv)=>
some (je,jf,jg,jh,ji,jk,jl,jm,jo,jq,jr,jv,0)
def Ya(b g:LB)(h k m n o:Int)(p:LI)(u:Int)(f:LB)(v:Bool)(w a:Int):Option (LB×LB×Int×Int×Int×Int×Int×LI×Int×LB×Bool×Int×Int):=
some (b,([]:LB),0,0,0,0,0,([]:LI),0,f,false,a,a)
abbrev Ae:=Option (LB×LB×Int×Int×Int×Int×Int×LI×Int×LB×Bool×Int×Int)
def KS(Pw:LB->Int->Int->Int->Int->Int->Int->LI->LB->Ae)(a:LB)(b:Bool)(f:Int)(av:LB)(aw ax ay az ba bb:Int)(dy:Bool)(dk:Int)(bc:LI)(bd:LB):Ae:=
if dy then
(Cw a av aw ax ay az ba bc bb bd b f).bind λ(dz,fa,fb,ap,be,ae,fc,fd,fe,ff,fg,af)=>
some (dz,fa,fb,ap,be,ae,fc,fd,fe,ff,fg,af,0)
else
if(Bm dk 0)then
(Ya a av aw ax ay az ba bc bb bd b f dk).bind λ(fh,fi,fj,fk,fl,fm,fn,fo,fp,fq,fs,ft,fu)=>
some (fh,fi,fj,fk,fl,fm,fn,fo,fp,fq,fs,ft,fu)
else
Pw av aw ax ay az ba bb bc bd
def Fa Pw:=KS Pw
def NN(j71:LB->Int->Int->Int->Int->Int->Int->Bool->Int->LI->LB->Ae)(a:LB)(b:Bool)(f:Int)(g:LB)(m o n p u h:Int)(k:LI)(v:LB):Ae:=
j71 g m o n p u h true 0 k v
def Wi Pw a b f:=NN (Fa Pw a b f) a b f
def MS(j71:LB->Int->Int->Int->Int->Int->Int->Bool->Int->LI->LB->Ae)(a:LB)(b:Bool)(f h:Int)(k:LI)(v:LB)(fv:Bool)(fw:Int)(fx:LB)(fy fz ga gb gc:Int):Ae:=
j71 fx fy fz ga gb gc h fv fw k v
def Mv Pw a b f:=MS (Fa Pw a b f) a b f
def NG(j62:Int->LI->LB->Bool->Int->LB->Int->Int->Int->Int->Int->Ae)(a:LB)(b:Bool)(f:Int)(ag:LB)(ah ai y aj aa h:Int)(k:LI)(v:LB):Ae:=
(Lk ah ai y aj aa a).bind λgd=>
(Af gd).bind λ(ge,ak)=>
j62 h k v ge ak ag ah ai y aj aa
def Vn Pw a b f:=NG (Mv Pw a b f) a b f
def MR(j71:LB->Int->Int->Int->Int->Int->Int->Bool->Int->LI->LB->Ae)(a:LB)(b:Bool)(f m o n p u h:Int)(v:LB)(bf:Bool)(bg:Int)(bh:LB)(bi:LI):Ae:=
j71 bh m o n p u h bf bg bi v
def Im Pw a b f:=MR (Fa Pw a b f) a b f
def Mz(j75:Int->Int->Int->Int->Int->Int->LB->Bool->Int->LB->LI->Ae)(a:LB)(b:Bool)(f:Int)(g:LB)(m o n p u h:Int)(k:LI)(v:LB)(dl:Int):Ae:=
(Eu m o n p u).bind λ(gf,ar)=>
if(Bm ar 0)then
(Af ar).bind λ(al,bj)=>
j75 m o n p u h v al bj g k
else
(Bw g dl (Aa g)).bind λgg=>
(GA gg (Aa gf)).bind λ(dm,y)=>
if(geq y 24)then
j75 m o n p u h v true 0 g k
else
if(Bm y 0)then
(Af y).bind λ(gh,aa)=>
j75 m o n p u h v gh aa g k
else
(Bw g (Ac (Ac dl (Ep 4 (Aa dm))) 4) (Aa g)).bind λgi=>
j75 m o n p u h v false 0 gi dm
def Wy Pw a b f:=Mz (Im Pw a b f) a b f
def Wp(j75:Int->Int->Int->Int->Int->Int->LB->Bool->Int->LB->LI->Ae)(j74:LB->Int->Int->Int->Int->Int->Int->LI->LB->Int->Ae)(a:LB)(b:Bool)(f:Int)(bk:Bool)(au:Int)(g:LB)(m o n p u h:Int)(k:LI)(v:LB):Ae:=
if(Bm au 0)then
(Af au).bind λ(gj,ar)=>
j75 m o n p u h v gj ar g k
else
if(!bk)then
(Af 26).bind λ(al,bj)=>
j75 m o n p u h v al bj g k
else
j74 g m o n p u h k v 8
def KQ Pw a b f:=Wp (Im Pw a b f) (Wy Pw a b f) a b f
def Vp(j64:Bool->Int->LB->Int->Int->Int->Int->Int->Int->LI->LB->Ae)(a:LB)(b:Bool)(f:Int)(g:LB)(m o n p u h:Int)(k:LI)(v:LB):Ae:=
(Bw g 0 8).bind λgk=>
(Xv gk a).bind λ(bk,au)=>
j64 bk au g m o n p u h k v
def KX Pw a b f:=Vp (KQ Pw a b f) a b f
def MI(j71:LB->Int->Int->Int->Int->Int->Int->Bool->Int->LI->LB->Ae)(a:LB)(b:Bool)(f m o n p u:Int)(k:LI)(bl:Bool)(bm:Int)(bn:LB)(bp:Int)(bq:LB):Ae:=
j71 bn m o n p u bp bl bm k bq
def Mt Pw a b f:=MI (Fa Pw a b f) a b f
def Ms(j78:Int->Int->Int->Int->Int->LI->Bool->Int->LB->Int->LB->Ae)(a:LB)(b:Bool)(f w ab:Int)(g:LB)(m o n p u h:Int)(am:LX)(k:LI)(v:LB):Ae:=
if(Bm ab 0)then
(Af ab).bind λ(br,bs)=>
j78 m o n p u k br bs g h v
else
(Nt n am).bind λ(bt,af)=>
if(Bm af 0)then
(Af af).bind λ(bu,bv)=>
j78 m o n p u k bu bv g h v
else
(By v bt).bind λbw=>
(
(Bw g w (Aa g)).bind λbx=>
j78 m o n p u k false 0 bx (Ac h 1) bw)
def Vz Pw a b f:=Ms (Mt Pw a b f) a b f
def Vo(j77:Int->Int->LB->Int->Int->Int->Int->Int->Int->LX->LI->LB->Ae)(a:LB)(b:Bool)(f w:Int)(g:LB)(m o n p u h:Int)(aq:LX)(ac k:LI)(v:LB):Ae:=
(Ad ac h).bind λ_=>
(Bw g 0 w).bind λgl=>
(Ad ac h).bind λgm=>
(Ul m o n p u).bind λ(be,ae)=>
(Pz be ae aq gm gl).bind λ(am,ab)=>
j77 w ab g m o n p u h am k v
def NR Pw a b f:=Vo (Vz Pw a b f) a b f
def Mi(j62:Int->LI->LB->Bool->Int->LB->Int->Int->Int->Int->Int->Ae)(j61:LB->Int->Int->Int->Int->Int->Int->LI->LB->Ae)(j75:Int->Int->Int->Int->Int->Int->LB->Bool->Int->LB->LI->Ae)(j73:LB->Int->Int->Int->Int->Int->Int->LI->LB->Ae)(j74:LB->Int->Int->Int->Int->Int->Int->LI->LB->Int->Ae)(j78:Int->Int->Int->Int->Int->LI->Bool->Int->LB->Int->LB->Ae)(j76:Int->LB->Int->Int->Int->Int->Int->Int->LX->LI->LI->LB->Ae)(j71:LB->Int->Int->Int->Int->Int->Int->Bool->Int->LI->LB->Ae)(j70:LB->Int->Int->Int->Int->Int->Int->LI->LB->Ae)(a:LB)(b:Bool)(f:Int)(g:LB)(m o n p u h:Int)(k:LI)(v:LB):Ae:=
if(geq m 0)then
(Fu g).bind λ(ad,an)=>
if(geq an 24)then
j62 h k v true 0 g m o n p u
else
if(Bm an 0)then
(Af an).bind λ(bz,da)=>
j62 h k v bz da g m o n p u
else
(Bw g ad (Aa g)).bind λdb=>
(Ma db).bind λal=>
if al then
j62 h k v true 0 g m o n p u
else
(Bw g ad (Aa g)).bind λdc=>
(Kw dc).bind λ(ah,ai,y,aj,aa,ao)=>
if(geq ao 24)then
j62 h k v true 0 g m o n p u
else
if(Bm ao 0)then
(Af ao).bind λ(dd,de)=>
j62 h k v dd de g m o n p u
else
(
(Bw g (Ac ad 22) (Aa g)).bind λag=>
(
j61 ag ah ai y aj aa h k v))
else
if(geq (Aa k) 0)then
if(geq m 2)then
if(Cf (Aa g) 8)then
j75 m o n p u h v true 0 g k
else
j73 g m o n p u h k v
else
j74 g m o n p u h k v 0
else
if(Cf h (Aa k))then
(Ad k h).bind λ_=>
(Ad k h).bind λw=>
if(Cf (Aa g) w)then
j78 m o n p u k true 0 g h v
else
(My a).bind λ(aq,ak)=>
if(Bm ak 0)then
(Af ak).bind λ(df,dg)=>
j78 m o n p u k df dg g h v
else
(Eu m o n p u).bind λ(ac,dh)=>
if((Bm dh 0)||(Gq h (Aa ac)))then
(Af 8).bind λ(di,ap)=>
j78 m o n p u k di ap g h v
else
j76 w g m o n p u h aq ac k v
else
if(Dy (Aa g) 4000)then
(Af 38).bind λ(dj,ae)=>
j71 g m o n p u h dj ae k v
else
j70 g m o n p u h k v
def Bu:Nat->LB->Int->Int->Int->Int->Int->Int->LI->LB->Ae
|0,_,_,_,_,_,_,_,_,_=>none
|c+1,d,e,i,j,l,t,A,D,E=>Mi (Mv (Bu c) z C B) (Vn (Bu c) z C B) (Im (Bu c) z C B) (KX (Bu c) z C B) (Wy (Bu c) z C B) (Mt (Bu c) z C B) (NR (Bu c) z C B) (Fa (Bu c) z C B) (Wi (Bu c) z C B) z C B d e i j l t A D E
def MK a b f:=Bu a b f Cm
def Zh(j37:LB->Bool->Int->LB->Int->Int->Int->Int->Int->Int->LI->LB->Ae)(gn go:LB)(gp gq gr gs gt:Int)(gu:LI)(gv:Int)(gw:LB)(gx:Bool)(gy:Int)(gz:LB):Ae:=
(Ju gn go gp gq gr gs gt gu gv gw gx gy).bind λ(a,dn,dp,dq,dr,ds,dt,du,dv,dw,b,f,dx)=>
if(Bm dx 0)then
some (a,dn,dp,dq,dr,ds,dt,du,dv,dw,b,f,dx)
else
(By dn gz).bind λha=>
j37 a b f ha dp dq dr ds dt dv du dw
def Gp:=Zh MK
def Uq:Option (LB×LB×Int×Int×Int×Int×Int×LI×Int×LB×Bool×Int×LB×Int):=
(Nh z A e t I V X R Y N C B).bind λc=>
if(Bm c 0)then
some (([]:LB),([]:LB),0,0,0,0,0,([]:LI),0,([]:LB),false,0,([]:LB),c)
else
if(Cf jf 0)then
some (([]:LB),([]:LB),0,0,0,0,0,([]:LI),0,([]:LB),false,0,([]:LB),2)
else
(Cw z A e t I V X R Y N C B).bind λ(d,i,j,l,D,E,F,G,J,L,M,O)=>
(Bw L 0 (Cx jf (Aa L))).bind λP=>
(Ky P).bind λT=>
(Bw L (Cx jf (Aa L)) (Aa L)).bind λU=>
some (d,i,j,l,D,E,F,G,J,U,M,O,T,0)
abbrev GW:=Option (Int×Int)
def bW:GW:=
(Bw z (Ao (Aa z) 32) (Aa z)).bind λc=>
(DB c 0).bind λ(d,e,i)=>
if i then
if(Cf (Ao (Aa z) 32) d)then
some (0,24)
else
some ((Ac d 32),0)
else
(Bw z (Ao (Aa z) 32) (Aa z)).bind λj=>
(DB j 2147483648).bind λ(l,t,A)=>
if(!A)then
some (0,12)
else
if(Cf (Aa z) (Ac l 64))then
some (0,24)
else
(Bw z (Ao (Aa z) (Ac l 64)) (Ac (Ao (Aa z) (Ac l 64)) 32)).bind λB=>
(QT l t 2684354560).bind λC=>
(Ig B C).bind λD=>
if(!D)then
some (0,12)
else
some ((Ac l 64),0)
def aG:=bW
def bK(j2:LB->GW)(a:LB):GW:=
if(Cf (Ao (Aa a) 32) 0)then
some (0,6)
else
(Bw a (Ao (Aa a) 32) (Aa a)).bind λv=>
(Gz v ([(65:UInt8),(80:UInt8),(69:UInt8),(84:UInt8),(65:UInt8),(71:UInt8),(69:UInt8),(88:UInt8)]:LB)).bind λw=>
if(!w)then
some (0,6)
else
j2 a
def aZ:=bK aG
abbrev Ck:=Option (Int×Int)
def MT:Ck:=
some (c,0)
def Ws:=MT
def NL(aD:Int->LB->Ck)(a:Int)(g:LB):Ck:=
aD (Ac a 1) g
def NI aD:=NL aD
def NH(j12:Int->LB->Ck)(a f:Int)(b:LB):Ck:=
if(geq f 0)then
some (0,38)
else
(Bw b 0 (Ao (Aa b) f)).bind λg=>
j12 a g
def Vy aD:=NH (NI aD)
def Zl(j11:Int->Int->LB->Ck)(j14:Int->Ck)(a:Int)(b:LB):Ck:=
if(Dy (Aa b) 0)then
(aZ b).bind λ(f,k)=>
j11 a f b
else
j14 a
def Ny:Nat->Int->LB->Ck
|0,_,_=>none
|q+1,a,b=>Zl (Vy (Ny q)) Ws a b
def QD:=Ny Cm
def Zf(j8:Int->LB->Ck)(h:LB):Ck:=
if(Dy (Aa h) 4000)then
some (0,38)
else
j8 0 h
def IG:=Zf QD
def AQ(p a:LB)(g u v w y:Int)(b:LI)(h:Int)(aa:LB)(ab:Bool)(ac:Int):Option Int:=
if(geq g 0)then
(Fu a).bind λ(k,f)=>
if(Bm f 0)then
some f
else
(Bw a k (Aa a)).bind λm=>
(Kw m).bind λ(ad,ae,af,ag,ah,n)=>
some n
else
if((Cf h (Aa b))||(geq (Aa b) 0))then
some 24
else
(IG a).bind λ(ai,o)=>
some o
def Ri:Option (LB×LB×Int×Int×Int×Int×Int×LI×Int×LB×Bool×Int×Int):=
(Ju z A e t I V X R Y N C B).bind λ(c,d,i,j,l,D,E,F,G,J,L,M,O)=>
if(Bm O 0)then
some (c,d,i,j,l,D,E,F,G,J,L,M,O)
else
(AQ c d i j l D E F G J L M).bind λP=>
if(Bm P 0)then
(Ya c d i j l D E F G J L M P).bind λ(T,U,Z,cu,eu,ig,iq,iw,iy,jc,jd,je,jf)=>
some (T,U,Z,cu,eu,ig,iq,iw,iy,jc,jd,je,jf)
else
some (c,([]:LB),0,0,0,0,0,([]:LI),0,J,true,0,0)
abbrev As:=Option (LB×LB×Int×Int×Int×Int×Int×LI×Int×LB×Bool×Int×(List (Int×LB×Unit))×Int)
def JJ(f:LB)(g h k m n o:Int)(p:LB)(u:Bool)(v:Int)(a:LB)(aa:List (Int×LB×Unit))(w:LB)(y:LI):As:=
some (f,w,g,h,k,m,n,y,o,p,u,v,aa,0)
def HT:=JJ
def JW(j32:LB->Int->Int->Int->Int->Int->Int->LB->Bool->Int->LB-> (List (Int×LB×Unit))->LB->LI->As)(aa:List (Int×LB×Unit))(f:LB)(g h k m n o:Int)(p:LB)(u:Bool)(v:Int)(a w:LB)(y:LI):As:=
j32 f g h k m n o p u v a aa w y
def Sp:=JW HT
def JD(Vh:Int->LB->Int->Int->Int->Int->Int->Int->LB->Bool->Int->LB-> (List (Int×LB×Unit))->LB->LI->As)(b:List (UInt8×Int×Unit))(ab:Int)(dm:LB)(dn dp dq dr ds dt:Int)(du:LB)(dv:Bool)(dw:Int)(dx:LB)(dy:List (Int×LB×Unit))(dz:LB)(fa:LI):As:=
Vh (Ac ab 1) dm dn dp dq dr ds dt du dv dw dx dy dz fa
def Eg Vh:=JD Vh
def Lq(j29:Int->LB->Int->Int->Int->Int->Int->Int->LB->Bool->Int->LB-> (List (Int×LB×Unit))->LB->LI->As)(b:List (UInt8×Int×Unit))(ac:UInt8×Int×Unit)(a:LB)(ad ab:Int)(f w:LB)(g h k m n:Int)(y:LI)(o:Int)(p:LB)(u:Bool)(v:Int)(ae:LB)(af ag ah ai aj ak:Int)(al:LB)(am:Bool)(an:Int)(aa:List (Int×LB×Unit))(ao:LB)(ap:LI):As:=
(
(Bw a (Cx ac.2.1 (Aa a)) (Aa a)).bind λbv=>
(By aa ([(ad,([]:LB),())]:List (Int×LB×Unit))).bind λar=>
j29 ab ae af ag ah ai aj ak al am an bv ar ao ap)
def Ue Vh b:=Lq (Eg Vh b) b
def KK(j29:Int->LB->Int->Int->Int->Int->Int->Int->LB->Bool->Int->LB-> (List (Int×LB×Unit))->LB->LI->As)(b:List (UInt8×Int×Unit))(au ab:Int)(f w:LB)(g h k m n:Int)(y:LI)(o:Int)(p:LB)(u:Bool)(v:Int)(a av:LB)(aw ax ay az ba bb:Int)(bc:LB)(bd:Bool)(be:Int)(bf:LB)(aa:List (Int×LB×Unit))(ar:LB)(bg:LI):As:=
(By aa ([(au,bf,())]:List (Int×LB×Unit))).bind λfb=>
j29 ab av aw ax ay az ba bb bc bd be a fb ar bg
def So Vh b:=KK (Eg Vh b) b
def KE(j29:Int->LB->Int->Int->Int->Int->Int->Int->LB->Bool->Int->LB-> (List (Int×LB×Unit))->LB->LI->As)(b:List (UInt8×Int×Unit))(bh ab:Int)(f w:LB)(g h k m n:Int)(y:LI)(o:Int)(p:LB)(u:Bool)(v:Int)(a bi:LB)(bj bk bl bm bn bp:Int)(bq:LB)(br:Bool)(bs:Int)(aa:List (Int×LB×Unit))(bt:LB)(bu:LI):As:=
(By aa ([(bh,([]:LB),())]:List (Int×LB×Unit))).bind λfc=>
j29 ab bi bj bk bl bm bn bp bq br bs a fc bt bu
def Tg Vh b:=KE (Eg Vh b) b
def Lo(j26:(UInt8×Int×Unit)->LB->Int->Int->LB->LB->Int->Int->Int->Int->Int->LI->Int->LB->Bool->Int->LB->Int->Int->Int->Int->Int->Int->LB->Bool->Int-> (List (Int×LB×Unit))->LB->LI->As)(j33:Int->Int->LB->LB->Int->Int->Int->Int->Int->LI->Int->LB->Bool->Int->LB->LB->Int->Int->Int->Int->Int->Int->LB->Bool->Int->LB-> (List (Int×LB×Unit))->LB->LI->As)(j34:Int->Int->LB->LB->Int->Int->Int->Int->Int->LI->Int->LB->Bool->Int->LB->LB->Int->Int->Int->Int->Int->Int->LB->Bool->Int-> (List (Int×LB×Unit))->LB->LI->As)(j29:Int->LB->Int->Int->Int->Int->Int->Int->LB->Bool->Int->LB-> (List (Int×LB×Unit))->LB->LI->As)(j31:(List (Int×LB×Unit))->LB->Int->Int->Int->Int->Int->Int->LB->Bool->Int->LB->LB->LI->As)(b:List (UInt8×Int×Unit))(ab:Int)(f:LB)(g h k m n o:Int)(p:LB)(u:Bool)(v:Int)(a:LB)(aa:List (Int×LB×Unit))(w:LB)(y:LI):As:=
if(Cf ab (Aa b))then
(Ad b ab).bind λac=>
if(geq ac.1 1)then
(
(
(
(Bw a 0 (Cx ac.2.1 (Aa a))).bind λaq=>
(
(Gp f w g h k m n y o p u v aq).bind λ(ae,ao,af,ag,ah,ai,aj,ap,ak,al,am,an,ad)=>
j26 ac a ad ab f w g h k m n y o p u v ae af ag ah ai aj ak al am an aa ao ap))))
else
if(geq ac.1 2)then
(
(
(
(Uq f w g h k m n y o p u v ac.2.1).bind λ(av,ar,aw,ax,ay,az,ba,bg,bb,bc,bd,be,bf,au)=>
j33 au ab f w g h k m n y o p u v a av aw ax ay az ba bb bc bd be bf aa ar bg)))
else
if(geq ac.1 3)then
(
(
(
(Ri f w g h k m n y o p u v).bind λ(bi,bt,bj,bk,bl,bm,bn,bu,bp,bq,br,bs,bh)=>
j34 bh ab f w g h k m n y o p u v a bi bj bk bl bm bn bp bq br bs aa bt bu)))
else
j29 ab f g h k m n o p u v a aa w y
else
j31 aa f g h k m n o p u v a w y
def Eb:Nat->Int->LB->Int->Int->Int->Int->Int->Int->LB->Bool->Int->LB-> (List (Int×LB×Unit))->LB->LI->As
|0,_,_,_,_,_,_,_,_,_,_,_,_,_,_,_=>none
|z+1,c,d,e,i,j,l,t,A,B,C,D,E,G,I,J=>Lo (Ue (Eb z) F) (So (Eb z) F) (Tg (Eb z) F) (Eg (Eb z) F) Sp F c d e i j l t A B C D E G I J
def JT b:=Eb b Cm
def Vt(j17:(List (UInt8×Int×Unit))->Int->LB->Int->Int->Int->Int->Int->Int->LB->Bool->Int->LB-> (List (Int×LB×Unit))->LB->LI->As)(fd fe:LB)(b:List (UInt8×Int×Unit)):As:=
(Il b).bind λbx=>
if(Bm bx 0)then
some (([]:LB),([]:LB),0,0,0,0,0,([]:LI),0,([]:LB),false,0,([]:List (Int×LB×Unit)),bx)
else
(OV fd).bind λ(ff,fg,fh,fi,fj,fk,fl,fm,fn,fo,fp,fq,bz)=>
if(Bm bz 0)then
some (([]:LB),([]:LB),0,0,0,0,0,([]:LI),0,([]:LB),false,0,([]:List (Int×LB×Unit)),bz)
else
j17 b 0 ff fh fi fj fk fl fn fo fp fq fe ([]:List (Int×LB×Unit)) fg fm
def Nc:=Vt JT
def If:Option Bool:=
(Jg 0 0 0 ([]:LB) ([]:LB) F).bind λ(z,d,e,i,j,l,t,A,B,C,D,E)=>
(eF (65:Int) (0:UInt8)).bind λG=>
(Ei (geq (65:Int) (65:Int))).bind λ_=>
(Nc G ([]:LB) F).bind λ(I,J,L,M,N,O,P,R,T,U,V,X,Y,Z)=>
(Il F).bind λcu=>
some (((geq cu c)&&(geq E c))&&(geq Z c))
abbrev Al:=Option ((List (UInt8×Int×Unit)))
def Jt:Al:=
some F
def Et:=Jt
def Cz(j10:(List (UInt8×Int×Unit))->Al)(aD:Int-> (List (UInt8×Int×Unit))->Al)(b:Int)(a:List (UInt8×Int×Unit)):Al:=
if(Cf b (Aa a))then
(
(KP (Aa a) b (Aa a)).bind λ_=>
(KP (Aa a) 0 b).bind λ_=>
aD (Ac b (Tt ((Aa a)-b) (Rg a 0 (b-(0:Int))).length)) (Hk a b ((Aa a)-b) (Rg a 0 (b-(0:Int)))))
else
j10 a
def Da:Nat->Int-> (List (UInt8×Int×Unit))->Al
|0,_,_=>none
|q+1,b,a=>Cz Et (Da q) b a
def Km:=Da Cm
def Fc(j8:Int-> (List (UInt8×Int×Unit))->Al)(f:List (UInt8×Int×Unit))(g:UInt64):Al:=
(eF (Aq g:Int) ((0:UInt8),(0:Int),())).bind λk=>
(Ei (geq (Aq g:Int) (Aq g:Int))).bind λ_=>
j8 (Tt (Aa k) f.length) (PB k f)
def Kf:=Fc Km
def Fh(j7:(List (UInt8×Int×Unit))->UInt64->Al)(f:List (UInt8×Int×Unit))(h:Int):Al:=
(Vd (Aq (Aa f):UInt64) (Aq h:UInt64)).bind λ(m,g)=>
if((Dy m 0)||(Dy g 9223372036854775807))then
none
else
j7 f g
def Kh:=Fh Kf
def Fb(j6:(List (UInt8×Int×Unit))->Int->Al)(f:List (UInt8×Int×Unit))(h:Int):Al:=
if(Cf h 0)then
none
else
j6 f h
def Gc:=Fb Kh
def Dx:Option ((List (UInt8×Int×Unit))×Int):=
if((((((Cf c 0)||(Dy c 100000))||(Cf d 1))||(Dy d 100000))||(Cf l 0))||(Dy l 100000))then
some (([]:List (UInt8×Int×Unit)),2)
else
(Ei (Bm d 0)).bind λ_=>
if(Dy (Ac (Ep 2 (Gx (Ao (Ac c d) 1) d)) 2) 200)then
some (([]:List (UInt8×Int×Unit)),4)
else
(Gc ([((1:UInt8),d,()),((2:UInt8),l,())]:List (UInt8×Int×Unit)) (Gx (Ao (Ac c d) 1) d)).bind λz=>
(By z ([((3:UInt8),(0:Int),()),((2:UInt8),(100000:Int),())]:List (UInt8×Int×Unit))).bind λe=>
some (e,0)
def Li:Option (Int×Int):=
some (1,8)
def MO:Option (LB):=
some z
def Vk:=MO
def Wk(j6:LB->Option (LB))(AA:Int->LB->Option (LB))(a:List (Int×LB×Unit))(f:Int)(b:LB):Option (LB):=
if(Cf f (Aa a))then
(Ad a f).bind λg=>
(By b g.2.1).bind λh=>
AA (Ac f 1) h
else
j6 b
def Mp(a:List (Int×LB×Unit)):Nat->Int->LB->Option (LB)
|0,_,_=>none
|q+1,f,b=>Wk Vk (Mp a q) a f b
def NK a:=Mp a Cm
def Vj(j4:(List (Int×LB×Unit))->Int->LB->Option (LB))(a:List (Int×LB×Unit)):Option (LB):=
j4 a 0 ([]:LB)
def Ag:=Vj NK
def Gu:Option Bool:=
(Li).bind λ(g,h)=>
(Jg g h 8000 ([]:LB) ([(128:UInt8)]:LB) ([((1:UInt8),(1:Int),()),((3:UInt8),(0:Int),()),((2:UInt8),(22:Int),()),((2:UInt8),(100:Int),())]:List (UInt8×Int×Unit))).bind λ(di,dj,dk,dl,dm,dn,dp,dq,k,dr,a,m)=>
(Dx 5 2 0).bind λ(b,f)=>
if(((geq m 0)&&k)&&(geq (Aa a) 4))then
(Ad a 0).bind λ_=>
(Ad a 0).bind λn=>
if(geq n.1 0)then
(Ad a 1).bind λ_=>
(Ad a 1).bind λo=>
if(geq o.1 0)then
(Ad a 1).bind λ_=>
(Ad a 1).bind λp=>
if(geq (Aa p.2.1) 0)then
(Ad a 2).bind λ_=>
(Ad a 2).bind λu=>
if(geq (Aa u.2.1) 22)then
(Ad a 3).bind λ_=>
(Ad a 3).bind λv=>
if(geq (Aa v.2.1) 14)then
(Ag a).bind λw=>
some (((geq (Aa w) 36)&&(geq f 0))&&(geq (Aa b) 8))
else
some ((false&&(geq f 0))&&(geq (Aa b) 8))
else
if false then
(Ag a).bind λy=>
some (((geq (Aa y) 36)&&(geq f 0))&&(geq (Aa b) 8))
else
some ((false&&(geq f 0))&&(geq (Aa b) 8))
else
if false then
(Ad a 3).bind λ_=>
(Ad a 3).bind λaa=>
if(geq (Aa aa.2.1) 14)then
(Ag a).bind λab=>
some (((geq (Aa ab) 36)&&(geq f 0))&&(geq (Aa b) 8))
else
some ((false&&(geq f 0))&&(geq (Aa b) 8))
else
if false then
(Ag a).bind λac=>
some (((geq (Aa ac) 36)&&(geq f 0))&&(geq (Aa b) 8))
else
some ((false&&(geq f 0))&&(geq (Aa b) 8))
else
if false then
(Ad a 2).bind λ_=>
(Ad a 2).bind λad=>
if(geq (Aa ad.2.1) 22)then
(Ad a 3).bind λ_=>
(Ad a 3).bind λae=>
if(geq (Aa ae.2.1) 14)then
(Ag a).bind λaf=>
some (((geq (Aa af) 36)&&(geq f 0))&&(geq (Aa b) 8))
else
some ((false&&(geq f 0))&&(geq (Aa b) 8))
else
if false then
(Ag a).bind λag=>
some (((geq (Aa ag) 36)&&(geq f 0))&&(geq (Aa b) 8))
else
some ((false&&(geq f 0))&&(geq (Aa b) 8))
else
if false then
(Ad a 3).bind λ_=>
(Ad a 3).bind λah=>
if(geq (Aa ah.2.1) 14)then
(Ag a).bind λai=>
some (((geq (Aa ai) 36)&&(geq f 0))&&(geq (Aa b) 8))
else
some ((false&&(geq f 0))&&(geq (Aa b) 8))
else
if false then
(Ag a).bind λaj=>
some (((geq (Aa aj) 36)&&(geq f 0))&&(geq (Aa b) 8))
else
some ((false&&(geq f 0))&&(geq (Aa b) 8))
else
if false then
(Ad a 1).bind λ_=>
(Ad a 1).bind λak=>
if(geq (Aa ak.2.1) 0)then
(Ad a 2).bind λ_=>
(Ad a 2).bind λal=>
if(geq (Aa al.2.1) 22)then
(Ad a 3).bind λ_=>
(Ad a 3).bind λam=>
if(geq (Aa am.2.1) 14)then
(Ag a).bind λan=>
some (((geq (Aa an) 36)&&(geq f 0))&&(geq (Aa b) 8))
else
some ((false&&(geq f 0))&&(geq (Aa b) 8))
else
if false then
(Ag a).bind λao=>
some (((geq (Aa ao) 36)&&(geq f 0))&&(geq (Aa b) 8))
else
some ((false&&(geq f 0))&&(geq (Aa b) 8))
else
if false then
(Ad a 3).bind λ_=>
(Ad a 3).bind λap=>
if(geq (Aa ap.2.1) 14)then
(Ag a).bind λaq=>
some (((geq (Aa aq) 36)&&(geq f 0))&&(geq (Aa b) 8))
else
some ((false&&(geq f 0))&&(geq (Aa b) 8))
else
if false then
(Ag a).bind λar=>
some (((geq (Aa ar) 36)&&(geq f 0))&&(geq (Aa b) 8))
else
some ((false&&(geq f 0))&&(geq (Aa b) 8))
else
if false then
(Ad a 2).bind λ_=>
(Ad a 2).bind λau=>
if(geq (Aa au.2.1) 22)then
(Ad a 3).bind λ_=>
(Ad a 3).bind λav=>
if(geq (Aa av.2.1) 14)then
(Ag a).bind λaw=>
some (((geq (Aa aw) 36)&&(geq f 0))&&(geq (Aa b) 8))
else
some ((false&&(geq f 0))&&(geq (Aa b) 8))
else
if false then
(Ag a).bind λax=>
some (((geq (Aa ax) 36)&&(geq f 0))&&(geq (Aa b) 8))
else
some ((false&&(geq f 0))&&(geq (Aa b) 8))
else
if false then
(Ad a 3).bind λ_=>
(Ad a 3).bind λay=>
if(geq (Aa ay.2.1) 14)then
(Ag a).bind λaz=>
some (((geq (Aa az) 36)&&(geq f 0))&&(geq (Aa b) 8))
else
some ((false&&(geq f 0))&&(geq (Aa b) 8))
else
if false then
(Ag a).bind λba=>
some (((geq (Aa ba) 36)&&(geq f 0))&&(geq (Aa b) 8))
else
some ((false&&(geq f 0))&&(geq (Aa b) 8))
else
if false then
(Ad a 1).bind λ_=>
(Ad a 1).bind λbb=>
if(geq bb.1 0)then
(Ad a 1).bind λ_=>
(Ad a 1).bind λbc=>
if(geq (Aa bc.2.1) 0)then
(Ad a 2).bind λ_=>
(Ad a 2).bind λbd=>
if(geq (Aa bd.2.1) 22)then
(Ad a 3).bind λ_=>
(Ad a 3).bind λbe=>
if(geq (Aa be.2.1) 14)then
(Ag a).bind λbf=>
some (((geq (Aa bf) 36)&&(geq f 0))&&(geq (Aa b) 8))
else
some ((false&&(geq f 0))&&(geq (Aa b) 8))
else
if false then
(Ag a).bind λbg=>
some (((geq (Aa bg) 36)&&(geq f 0))&&(geq (Aa b) 8))
else
some ((false&&(geq f 0))&&(geq (Aa b) 8))
else
if false then
(Ad a 3).bind λ_=>
(Ad a 3).bind λbh=>
if(geq (Aa bh.2.1) 14)then
(Ag a).bind λbi=>
some (((geq (Aa bi) 36)&&(geq f 0))&&(geq (Aa b) 8))
else
some ((false&&(geq f 0))&&(geq (Aa b) 8))
else
if false then
(Ag a).bind λbj=>
some (((geq (Aa bj) 36)&&(geq f 0))&&(geq (Aa b) 8))
else
some ((false&&(geq f 0))&&(geq (Aa b) 8))
else
if false then
(Ad a 2).bind λ_=>
(Ad a 2).bind λbk=>
if(geq (Aa bk.2.1) 22)then
(Ad a 3).bind λ_=>
(Ad a 3).bind λbl=>
if(geq (Aa bl.2.1) 14)then
(Ag a).bind λbm=>
some (((geq (Aa bm) 36)&&(geq f 0))&&(geq (Aa b) 8))
else
some ((false&&(geq f 0))&&(geq (Aa b) 8))
else
if false then
(Ag a).bind λbn=>
some (((geq (Aa bn) 36)&&(geq f 0))&&(geq (Aa b) 8))
else
some ((false&&(geq f 0))&&(geq (Aa b) 8))
else
if false then
(Ad a 3).bind λ_=>
(Ad a 3).bind λbp=>
if(geq (Aa bp.2.1) 14)then
(Ag a).bind λbq=>
some (((geq (Aa bq) 36)&&(geq f 0))&&(geq (Aa b) 8))
else
some ((false&&(geq f 0))&&(geq (Aa b) 8))
else
if false then
(Ag a).bind λbr=>
some (((geq (Aa br) 36)&&(geq f 0))&&(geq (Aa b) 8))
else
some ((false&&(geq f 0))&&(geq (Aa b) 8))
else
if false then
(Ad a 1).bind λ_=>
(Ad a 1).bind λbs=>
if(geq (Aa bs.2.1) 0)then
(Ad a 2).bind λ_=>
(Ad a 2).bind λbt=>
if(geq (Aa bt.2.1) 22)then
(Ad a 3).bind λ_=>
(Ad a 3).bind λbu=>
if(geq (Aa bu.2.1) 14)then
(Ag a).bind λbv=>
some (((geq (Aa bv) 36)&&(geq f 0))&&(geq (Aa b) 8))
else
some ((false&&(geq f 0))&&(geq (Aa b) 8))
else
if false then
(Ag a).bind λbw=>
some (((geq (Aa bw) 36)&&(geq f 0))&&(geq (Aa b) 8))
else
some ((false&&(geq f 0))&&(geq (Aa b) 8))
else
if false then
(Ad a 3).bind λ_=>
(Ad a 3).bind λbx=>
if(geq (Aa bx.2.1) 14)then
(Ag a).bind λbz=>
some (((geq (Aa bz) 36)&&(geq f 0))&&(geq (Aa b) 8))
else
some ((false&&(geq f 0))&&(geq (Aa b) 8))
else
if false then
(Ag a).bind λda=>
some (((geq (Aa da) 36)&&(geq f 0))&&(geq (Aa b) 8))
else
some ((false&&(geq f 0))&&(geq (Aa b) 8))
else
if false then
(Ad a 2).bind λ_=>
(Ad a 2).bind λdb=>
if(geq (Aa db.2.1) 22)then
(Ad a 3).bind λ_=>
(Ad a 3).bind λdc=>
if(geq (Aa dc.2.1) 14)then
(Ag a).bind λdd=>
some (((geq (Aa dd) 36)&&(geq f 0))&&(geq (Aa b) 8))
else
some ((false&&(geq f 0))&&(geq (Aa b) 8))
else
if false then
(Ag a).bind λde=>
some (((geq (Aa de) 36)&&(geq f 0))&&(geq (Aa b) 8))
else
some ((false&&(geq f 0))&&(geq (Aa b) 8))
else
if false then
(Ad a 3).bind λ_=>
(Ad a 3).bind λdf=>
if(geq (Aa df.2.1) 14)then
(Ag a).bind λdg=>
some (((geq (Aa dg) 36)&&(geq f 0))&&(geq (Aa b) 8))
else
some ((false&&(geq f 0))&&(geq (Aa b) 8))
else
if false then
(Ag a).bind λdh=>
some (((geq (Aa dh) 36)&&(geq f 0))&&(geq (Aa b) 8))
else
some ((false&&(geq f 0))&&(geq (Aa b) 8))
def Oa:Option Bool:=
(If mg 4).bind λz=>
if z then
(Il F).bind λe=>
if(geq e 0)then
(Il ([]:List (UInt8×Int×Unit))).bind λi=>
if((((((((((((((((geq i 0)&&(geq c 2))&&(geq d 2))&&(geq l 2))&&(geq P 2))&&(geq ig 2))&&(geq jr 2))&&(geq jv 2))&&(geq jw 2))&&(geq jy 4))&&(geq kg 0))&&(geq (Aa kr) 200))&&(geq ko 0))&&(geq (Aa ku) 2))&&jc)&&lg)then
(Ag ([]:List (Int×LB×Unit))).bind λj=>
if(geq (Aa j) 0)then
(Gu).bind λt=>
some t
else
some false
else
some false
else
if(((((((((((((((false&&(geq c 2))&&(geq d 2))&&(geq l 2))&&(geq P 2))&&(geq ig 2))&&(geq jr 2))&&(geq jv 2))&&(geq jw 2))&&(geq jy 4))&&(geq kg 0))&&(geq (Aa kr) 200))&&(geq ko 0))&&(geq (Aa ku) 2))&&jc)&&lg)then
(Ag ([]:List (Int×LB×Unit))).bind λA=>
if(geq (Aa A) 0)then
(Gu).bind λB=>
some B
else
some false
else
some false
else
if(((((((((((((((false&&(geq c 2))&&(geq d 2))&&(geq l 2))&&(geq P 2))&&(geq ig 2))&&(geq jr 2))&&(geq jv 2))&&(geq jw 2))&&(geq jy 4))&&(geq kg 0))&&(geq (Aa kr) 200))&&(geq ko 0))&&(geq (Aa ku) 2))&&jc)&&lg)then
(Ag ([]:List (Int×LB×Unit))).bind λC=>
if(geq (Aa C) 0)then
(Gu).bind λD=>
some D
else
some false
else
some false
def Ha:=Oa
def Hb(j16:(List (UInt8×Int×Unit))->Int->Int->Int->Int->Int->Int->Int->Int->Int->Int->Int->Bool-> (List (UInt8×Int×Unit))-> (List (UInt8×Int×Unit))-> (List (UInt8×Int×Unit))->Bool->Option Bool)(a:List (UInt8×Int×Unit))(f g h k m n o p u v w:Int)(b y aa:List (UInt8×Int×Unit))(ae:Bool):Option Bool:=
(Nc ([]:LB) ([(88:UInt8),(121:UInt8),(122:UInt8)]:LB) ([((1:UInt8),(1:Int),()),((1:UInt8),(1:Int),()),((3:UInt8),(0:Int),()),((2:UInt8),(9:Int),())]:List (UInt8×Int×Unit))).bind λ(bq,br,bs,bt,bu,bv,bw,bx,bz,da,db,aj,af,aw)=>
if((Bm aw 0)||(Bm (Aa af) 4))then
some false
else
(Ad af 0).bind λ_=>
(Ad af 0).bind λax=>
if(geq ax.1 12)then
(Ad af 1).bind λ_=>
(Ad af 1).bind λay=>
if(geq ay.1 12)then
(Ad af 2).bind λ_=>
(Ad af 2).bind λaz=>
if(geq az.1 12)then
(Ad af 3).bind λ_=>
(Ad af 3).bind λba=>
j16 a f g h k m n o p u v w ae b y aa ((geq ba.1 0)&&(geq aj 12))
else
j16 a f g h k m n o p u v w ae b y aa (false&&(geq aj 12))
else
j16 a f g h k m n o p u v w ae b y aa (false&&(geq aj 12))
else
j16 a f g h k m n o p u v w ae b y aa (false&&(geq aj 12))
def He:=Hb Ha
def Hc(j15:(List (UInt8×Int×Unit))->Int->Int->Int->Int->Int->Int->Int->Int->Int->Int->Int-> (List (UInt8×Int×Unit))-> (List (UInt8×Int×Unit))-> (List (UInt8×Int×Unit))->Bool->Option Bool)(b a:List (UInt8×Int×Unit)):Option Bool:=
(Jg 0 0 0 ([]:LB) ([]:LB) a).bind λ(dc,dd,de,df,dg,dh,di,dj,dk,dl,dm,f)=>
(eF (65:Int) (0:UInt8)).bind λbb=>
(Ei (geq (65:Int) (65:Int))).bind λ_=>
(Nc bb ([]:LB) a).bind λ(dn,dp,dq,dr,ds,dt,du,dv,dw,dx,dy,dz,fa,g)=>
(Dx (-1:Int) 1 0).bind λ(fb,h)=>
(Dx 100001 1 0).bind λ(fc,k)=>
(Dx 0 0 0).bind λ(fd,m)=>
(Dx 0 100001 0).bind λ(fe,n)=>
(Dx 0 1 (-1:Int)).bind λ(ff,o)=>
(Dx 0 1 100001).bind λ(fg,p)=>
(Dx 100 1 0).bind λ(fh,u)=>
(Dx 99 1 7).bind λ(y,v)=>
(Dx 0 1 0).bind λ(aa,w)=>
(Li).bind λ(bc,bd)=>
(Jg bc bd 8000 ([]:LB) ([(1:UInt8),(2:UInt8)]:LB) ([((1:UInt8),(1:Int),()),((1:UInt8),(9:Int),()),((1:UInt8),(9:Int),()),((2:UInt8),(5:Int),()),((3:UInt8),(0:Int),()),((3:UInt8),(0:Int),()),((1:UInt8),(0:Int),()),((2:UInt8),(5:Int),())]:List (UInt8×Int×Unit))).bind λ(fi,fj,fk,fl,fm,fn,fo,ag,ah,fp,ad,be)=>
if((Bm be 0)||(Bm (Aa ad) 8))then
some false
else
(Ad ad 0).bind λ_=>
(Ad ad 0).bind λbf=>
if(geq bf.1 0)then
(Ad ad 2).bind λ_=>
(Ad ad 2).bind λbg=>
if(geq bg.1 0)then
(Ad ad 3).bind λ_=>
(Ad ad 3).bind λbh=>
if(geq (Aa bh.2.1) 0)then
(Ad ad 4).bind λ_=>
(Ad ad 4).bind λbi=>
if(geq bi.1 0)then
(Ad ad 5).bind λ_=>
(Ad ad 5).bind λbj=>
if(geq bj.1 36)then
(Ad ad 6).bind λ_=>
(Ad ad 6).bind λbk=>
if(geq bk.1 36)then
(Ad ad 7).bind λ_=>
(Ad ad 7).bind λbl=>
j15 a f g h k m n o p u v w b y aa (((geq (Aa bl.2.1) 5)&&(Dy (Aa ag) 22))&&ah)
else
j15 a f g h k m n o p u v w b y aa ((false&&(Dy (Aa ag) 22))&&ah)
else
j15 a f g h k m n o p u v w b y aa ((false&&(Dy (Aa ag) 22))&&ah)
else
j15 a f g h k m n o p u v w b y aa ((false&&(Dy (Aa ag) 22))&&ah)
else
j15 a f g h k m n o p u v w b y aa ((false&&(Dy (Aa ag) 22))&&ah)
else
j15 a f g h k m n o p u v w b y aa ((false&&(Dy (Aa ag) 22))&&ah)
else
j15 a f g h k m n o p u v w b y aa ((false&&(Dy (Aa ag) 22))&&ah)
def Nv:=Hc He
def Hf(j14:(List (UInt8×Int×Unit))-> (List (UInt8×Int×Unit))->Option Bool)(Se:Int-> (List (UInt8×Int×Unit))->Option Bool)(b:List (UInt8×Int×Unit))(ab:Int)(a:List (UInt8×Int×Unit)):Option Bool:=
if(Cf ab 200)then
(Ad a ab).bind λ_=>
(Io a ab ((2:UInt8),(0:Int),())).bind λbm=>
Se (Ac ab 1) bm
else
j14 b a
def Ek:Nat->Int-> (List (UInt8×Int×Unit))->Option Bool
|0,_,_=>none
|z+1,c,d=>Hf Nv (Ek z) F c d
def Hg b:=Ek b Cm
def Gy(j12:(List (UInt8×Int×Unit))->Int-> (List (UInt8×Int×Unit))->Option Bool):Option Bool:=
(eF (201:Int) ((0:UInt8),(0:Int),())).bind λb=>
(Ei (geq (201:Int) (201:Int))).bind λ_=>
(eF (200:Int) ((0:UInt8),(0:Int),())).bind λbn=>
(Ei (geq (200:Int) (200:Int))).bind λ_=>
j12 b 0 bn
def Nx:=Gy Hg
def Ht(j11:Option Bool)(qT:Int->Option Bool)(ac:Int):Option Bool:=
if(Cf ac 6)then
(Ad ([((0:UInt8),(0:Int),()),((4:UInt8),(0:Int),()),((1:UInt8),(-1:Int),()),((2:UInt8),(100001:Int),()),((3:UInt8),(1:Int),()),((3:UInt8),(-1:Int),())]:List (UInt8×Int×Unit)) ac).bind λ_=>
(Ad ([((0:UInt8),(0:Int),()),((4:UInt8),(0:Int),()),((1:UInt8),(-1:Int),()),((2:UInt8),(100001:Int),()),((3:UInt8),(1:Int),()),((3:UInt8),(-1:Int),())]:List (UInt8×Int×Unit)) ac).bind λak=>
(If ([((3:UInt8),(0:Int),()),(ak.1,ak.2.1,())]:List (UInt8×Int×Unit)) 2).bind λbp=>
if(!bp)then
some false
else
qT (Ac ac 1)
else
j11
def Er:Nat->Int->Option Bool
|0,_=>none
|q+1,ac=>Ht Nx (Er q) ac
def Pq:=Er Cm
def Hw(j9:Int->Option Bool):Option Bool:=
j9 0
def Jl:=Hw Pq
end Go.Pl
