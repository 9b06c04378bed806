/- A part of a proof (see the text that ends in Proof). No conditions. -/
import Derived.Test.YtfndponlpdejaaaGreatDoorTpBA
set_option linter.unusedVariables false
namespace Go.Pl
open Go Go.Lv
abbrev Jz3(R:Type):=Int->Int->Int->R
abbrev Jz4(R:Type):=Int->Int->Int->Int->R
abbrev Jz5(R:Type):=Int->Int->Int->Int->Int->R
abbrev Jz6(R:Type):=Int->Int->Int->Int->Int->Int->R
abbrev Jz7(R:Type):=Int->Int->Int->Int->Int->Int->Int->R
abbrev Jz8(R:Type):=Int->Int->Int->Int->Int->Int->Int->Int->R
abbrev Jz9(R:Type):=Int->Int->Int->Int->Int->Int->Int->Int->Int->R
abbrev Jz10(R:Type):=Int->Int->Int->Int->Int->Int->Int->Int->Int->Int->R
abbrev LB:=List UInt8
abbrev LI:=List Int
abbrev LX:=List Int32
abbrev LU:=List UInt32
abbrev LQ:=List UInt64
abbrev Bt5:=List LB
abbrev Bv3:=LB->Option (LB)
abbrev Bwc:=Int->LB->Option (LB)
abbrev Bv8:=UInt64->Option UInt64
abbrev Bvv:=UInt64->Int->Option UInt64
abbrev Bt1:=Option Int
abbrev Bvc:=Int->Option Int
abbrev Bvq:=Int->Int->Option Int
abbrev Bvb:=Int->LI->Option (LI)
abbrev Bvx:=Bool->Option Int
abbrev Bt6:=List (UInt8×Int×Unit)
abbrev Bvs:=List LI
variable(c I Bs4:LB)(z d i F:Int)(B:LX)(E o7 Bsi Btj Btk Btl:Int)(A Bsb:LI)(R Bsj Bsk Bsl Bsm Bsn Bso Bte Btf Btg:Int)(V:LX)(Bsp:LI)(l9:Jz4 (LB->LB->LX-> (List LB)->LB->Bool->Int->Option Bool))(L U Z Br3:Int)(e N:LB)(J:LX)(G:Bt5)(O:LB)(C:Bool)(j M Brp Bs5 Bs6:Int)(Bs0:LI)(Bs7:Int)(Y:LB)(Bsc:Bool)(Bry:Int)(Bs8:LI)(Brz:LB)(Bsd:Int)(Btm:LI)(Btn:Bt5)(Bto Btp Btq:Int)(Bse:LB)(Btr:Bool)(Bts:Int)(Btt:LB)(Brm:LX)(Bs9:LB)(Btu:Bool)(Btv:Int)(Btw:LB)(Br0:Bt5)(Bsq:LB)(D:UInt64)(X:UInt32)(l6:UInt64)(Brn:LB)(Bsr:Bv3)(Bss:Bwc)(l5 Bst:Int)(Br4:UInt64)(Bsf:Int)(Bsg:LB)(Bru:Bv8)(Brv:Bvv)(Bta:Int)(Br1:LB)(Btx:Int)(o8:UInt64)(q9:Int)(Brw:Bt1)(Br5:Bvc)(P Bsu:Int32)(Brq:LX)(T:Int)(p8 p9:LX)(Bsh:Int32)(Bsv:UInt64)(Bs1:Int)(Bsw:Bt5)(Br6:Int)(Bsx:LB)(Br7:Bvq)(Br8:LI)(Br2 r9:Int)(Bty:Bvc)(Btb:LI)(Bsy Bs2:Int)(Brx:UInt8)(Bth:UInt64)(o9:Int)(l7:LU)(Brr Brs:Int)(Bs3:LX)(Btz:LQ)(Br9:Bool)(Bt0:Bvb)(Bti:LI)(Btc:UInt64)(Bro:Bvx)(Bsa:Bool)(Bsz:Int)(Brt:Bt6)(Btd:Bvs)
abbrev Bud:=Option (Int×Int)
def Kf(a b f:Int)(g:LX):Bud:=some (a,b)
def Hs:Bt1:=if(geq z 8)then
some 128
else
if(geq z 16)then
some 32768
else
if(geq z 24)then
some 8388608
else
some 0
def Cv:Bt1:=if((Cj z 1)||(Dz z 6))then
some 2
else(Hs d).bind λc=>if(geq c 0)then
some 2
else
some 0
def Bqg:Bt1:=some 0
def Afz:=Bqg
def Df:Bt1:=if(Cj Bs1 (Ac Brq))then(Ao Brq Bs1).bind λz=>if(Cj (Ag z:Int) (O0 T))then
some 16
else(Ao Brq Bs1).bind λc=>if(Le (Ag c:Int) T)then
some 16
else
Br5 (Ae Bs1 1)
else
Brw
def Be:Nat->Int->Option Int
|0,_=>none
|z+1,c=>Df Afz (Be z) B E c
def Bql a b:=Be a b Ax
def Ed(j4:LX->Int->Int->Option Int)(k:Int)(a:LX):Bt1:=(Hs k).bind λb=>if(geq b 0)then
some 2
else
if(Dz (Ac a) 4000)then
some 4
else
j4 a b 0
def Au:=Ed Bql
def Dk:Bt1:=(Cv z d).bind λc=>if(Bd c 0)then
some 2
else(Au d B).bind λe=>if(Bd e 0)then(Au d B).bind λi=>some i
else
if(Cj (Ac B) 1)then
some 2
else(Jb (Bd z 0)).bind λ_=>if(Dz (Ge (Ac B) z) 0)then
some 2
else
some 0
def Eu:Bt1:=(Cv z d).bind λc=>if((Bd c 0)||(Cj i 1))then
some 2
else(Jb (Bd z 0)).bind λ_=>if(Dz i (Ca 4000 z))then
some 2
else
some 0
def Gg:Bud:=if((Cj z 1)||(Dz z 1048576))then
some (0,2)
else
if(geq (Ca (Bm z 256) 245) 0)then
some (1,0)
else
some ((Ca (Bm z 256) 245),0)
abbrev Ki:=Option (LI×Int)
def Apx:Ki:=if(Dz (Ac A) 1000)then
some (([]:LI),4)
else
some (A,0)
def GK:=Apx
def Wo(j6:LI->Ki)(Tn:Int->LI->Ki)(b f:Int)(a:LI):Ki:=if(Dz f 0)then(Dm a ([(Fq f b)]:LI)).bind λh=>Tn (Aq f (Fq f b)) h
else
j6 a
def Mk:Nat->Int->LI->Ki
|0,_,_=>none
|c+1,d,e=>Wo GK (Mk c) z d e
def Aot b:=Mk b Ax
def Wp(j4:Int->Int->LI->Ki)(k g:Int):Ki:=(Gg k).bind λ(b,m)=>if(((Bd m 0)||(Cj g 1))||(Dz g 4000))then
some (([]:LI),2)
else
j4 b g ([]:LI)
def FN:=Wp Aot
def Nk:Bud:=(FN z d).bind λ(c,e)=>some ((Ac c),e)
abbrev Bt2:=Option Bool
def QV:Bt2:=(Kf z d i B).bind λ(c,e)=>(Eu c e E).bind λj=>if(Bd j 0)then
some false
else(Nk i E).bind λ(A,C)=>some (geq C 0)
def Ee:Bt1:=(Kf z d i B).bind λ(c,e)=>(Dk c e B).bind λj=>if(Bd j 0)then
some 8
else(Jb (Bd z 0)).bind λ_=>(QV z d i B (Ca (Ac B) z)).bind λA=>if(!A)then
some 8
else
some 0
abbrev Pr:=Option (LI×Int)
def Bp3:Pr:=some (A,0)
def Bd8:=Bp3
def FP(j6:LI->Pr)(Tn:Int->Int->LI->Pr)(b:Int)(g:UInt64)(h a:Int)(f:LI):Pr:=if(Cj a b)then
if(geq a (Aq b 1))then(Dm f ([(Aq (Ae a 1) h)]:LI)).bind λk=>Tn (Ae a 1) (Ae a 1) k
else(Jb (Le (Ge a 64) 0)).bind λ_=>if(geq (Fy (Cy g (GI.toZ (Ge a 64)).toNat) 1) 1)then(Dm f ([(Aq (Ae a 1) h)]:LI)).bind λm=>Tn (Ae a 1) (Ae a 1) m
else
Tn h (Ae a 1) f
else
j6 f
def Rh:Nat->Int->Int->LI->Pr
|0,_,_,_=>none
|c+1,d,e,i=>FP Bd8 (Rh c) z D d e i
def Bf3 b g:=Rh b g Ax
def SL(j4:Int->UInt64->Int->Int->LI->Pr)(b:Int)(g:UInt64):Pr:=if((Cj b 0)||(Dz b 100000))then
some (([]:LI),2)
else
j4 b g 0 0 ([]:LI)
def HD:=SL Bf3
def Li:Bud:=if((Cj z 1)||(Dz z 1048576))then
some (0,2)
else
some ((pJ 1 (Ca (Bm 256 z) 245)),0)
abbrev kL:=Option (Int32×Int32×Int)
def cQ:kL:=if C then(Jb (Le (Aq z 1) 0)).bind λ_=>some ((O0 (Eh (1:Int32) (GI.toZ (Aq z 1)).toNat)),(Aq (Eh (1:Int32) (GI.toZ (Aq z 1)).toNat) 1),0)
else
some (0,0,2)
def fI:=cQ
def dS(j2:Int->Bool->kL)(a:Int):kL:=if(geq a 8)then
j2 a (geq a 8)
else
if(geq a 16)then
j2 a (geq a 16)
else
j2 a (geq a 24)
def Pb:=dS fI
def Fl:Bt1:=(Pb d).bind λ(c,e,i)=>if(((Bd i 0)||(Cj z 1))||(Dz z 6))then
some 2
else
some 0
def AO:Option (Int×Bool):=(Li i).bind λ(c,j)=>(Fl z d).bind λA=>some (c,(((geq A 0)&&(geq j 0))&&(tZ (Ac e) 64)))
abbrev Buv:=Option (Int×Int×Int×LB×LB×LX×(List LB)×LB×Bool×Int×Int)
def WR:Buv:=(AO z d i e).bind λ(c,j)=>if(!j)then
some (0,0,0,([]:LB),([]:LB),([]:LX),([]:Bt5),([]:LB),false,0,2)
else
some (z,d,i,e,([]:LB),([]:LX),([]:Bt5),([]:LB),false,0,0)
def Xj:Bt1:=some (Ca (Bm z d) 8)
def Abd:Bt1:=some 0
def Bl7:=Abd
def NC:Bt1:=if(Cj T (Ac Brq))then(Ao Brq T).bind λz=>if((Cj z P)||(Dz z Bsu))then
some 16
else
Br5 (Ae T 1)
else
Brw
def Xd:Nat->Int->Option Int
|0,_=>none
|z+1,c=>NC Bl7 (Xd z) P Bsu Brq c
def Bni b f a:=Xd b f a Ax
def eE(j4:Int32->Int32->LX->Int->Option Int)(m:Int)(a:LX):Bt1:=(Pb m).bind λ(b,f,k)=>if(Bd k 0)then
some k
else
if(Dz (Ac a) 4000)then
some 4
else
j4 b f a 0
def Uq:=eE Bni
def Vj(a h k:Int)(m n:LB)(b:LX)(f:Bt5)(o:LB)(p:Bool)(u g:Int):Bt1:=(Jb (Bd a 0)).bind λ_=>some (Ae (Bm (Ac f) g) (Ca (Ac b) a))
def Vf(a g h:Int)(k m:LB)(n:LX)(o:Bt5)(p:LB)(u:Bool)(v b f:Int):Bt2:=some ((tZ b 1000)&&(tZ (Bm f a) 4000))
def Aou:Bt2:=some (!C)
def Aov:=Aou
abbrev Bvw:=Bool->Option Bool
def Anw(j24:Bvw)(y:Bool):Bt2:=j24 y
def GZ:=Anw Aov
def Brh(j23:Bvw):Bt2:=j23 (Le (-1:Int) (0:Int))
def Aof:=Brh GZ
abbrev Bvl:=Int->Option Bool
def GN(Jw:Bvl)(b:Bt5)(f a h:Int):Bt2:=Jw (Ae h 1)
def GJ Jw:=GN Jw
def GY(j23:Bvw)(j20:Bvl)(b:Bt5)(f a h:Int)(w:LB):Bt2:=if((Cj (Ac w) 5)||(Dz (Ac w) (Ae (Ca (Ae (Bm (Bm 81 f) a) 7) 8) 4)))then
j23 (Le h 0)
else
j20 h
def Wc Jw b f a:=GY GZ (GJ Jw b f a) b f a
def Mh(j19:Int->LB->Option Bool)(j22:Bt2)(b:Bt5)(f a h:Int):Bt2:=if(Cj h (Ac b))then(Ao b h).bind λw=>j19 h w
else
j22
def Fx:Nat->Int->Option Bool
|0,_=>none
|z+1,c=>Mh (Wc (Fx z) G j M) Aof G j M c
def Wd b f a:=Fx b f a Ax
def Py(j16:(List LB)->Jz3 (Option Bool))(f a k o:Int)(p m:LB)(g:LX)(b:Bt5)(n:LB)(u:Bool)(v:Int):Bt2:=j16 b f a 0
def Wr:=Py Wd
def Qb:Bt2:=(Vj U Z Br3 e N J G O C j L).bind λz=>(Vf U Z Br3 e N J G O C j M z).bind λc=>if(!c)then
some false
else
l9 L U Z Br3 e N J G O C j
def Qe:=Qb Wr
abbrev Bue:=Jz4 (LB->LB->LX-> (List LB)->LB->Bool->Int->Int->Option Bool)
def Wk(j14:Bue)(f a k o:Int)(p m:LB)(g:LX)(b:Bt5)(n:LB)(u:Bool)(v:Int):Bt2:=(Uq k g).bind λad=>if(Bd ad 0)then
some false
else
if(Dz (Ac g) 0)then
j14 f a k o p m g b n u v (Ae (Ac b) 1)
else
j14 f a k o p m g b n u v (Ac b)
def Wf:=Wk Qe
def Yw:Bt2:=if(Dz (Ac O) 0)then
if true then
if true then
if(true||(Dz (Ac G) 1000))then
some false
else
l9 M L U Z e N J G O C j
else(Jb (Bd L 0)).bind λ_=>if((Le (Ca (Ac J) L) M)||(Dz (Ac G) 1000))then
some false
else
l9 M L U Z e N J G O C j
else(Jb (Bd L 0)).bind λ_=>if(Bd (Ge (Ac J) L) 0)then
if(true||(Dz (Ac G) 1000))then
some false
else
l9 M L U Z e N J G O C j
else(Jb (Bd L 0)).bind λ_=>if((Le (Ca (Ac J) L) M)||(Dz (Ac G) 1000))then
some false
else
l9 M L U Z e N J G O C j
else(Xj L U).bind λz=>if(Le (Ac N) z)then
if true then
if(true||(Dz (Ac G) 1000))then
some false
else
l9 M L U Z e N J G O C j
else(Jb (Bd L 0)).bind λ_=>if((Le (Ca (Ac J) L) M)||(Dz (Ac G) 1000))then
some false
else
l9 M L U Z e N J G O C j
else(Jb (Bd L 0)).bind λ_=>if(Bd (Ge (Ac J) L) 0)then
if(true||(Dz (Ac G) 1000))then
some false
else
l9 M L U Z e N J G O C j
else(Jb (Bd L 0)).bind λ_=>if((Le (Ca (Ac J) L) M)||(Dz (Ac G) 1000))then
some false
else
l9 M L U Z e N J G O C j
def Uf:=Yw Wf
def Ij:Bt1:=(AO z d i e).bind λ(c,A)=>if(!A)then
some 8
else
if(Bd j 0)then
if(!(((((geq j 18)||(geq j 24))&&(!C))&&(geq (Ae (Ae (Ac N) (Ac J)) (Ac G)) 0))&&(geq (Ac O) 0)))then
some 8
else
some 0
else
if C then
if(!((geq (Ae (Ae (Ac N) (Ac J)) (Ac G)) 0)&&(tZ (Ac O) 100000)))then
some 8
else
some 0
else(Uf z d i e N J G O C j c).bind λB=>if(!B)then
some 8
else
some 0
abbrev Bt9:=Option (LB)
def Bz:Bt9:=(
(Dm ([]:LB) c).bind λz=>some z)
abbrev Bui:=Option (LX)
def Dy:Bui:=(
(Dm ([]:LX) B).bind λz=>some z)
abbrev Lw:=Option (Int×Int×Int×LB×LB×LX×(List LB)×LB×Bool×Int)
def Bnz(b f g:Int)(h:LB)(a:Bt5)(k:Bool)(m:Int)(u:Bt5)(n:LB)(o:LX)(p:LB):Lw:=some (b,f,g,h,n,o,u,p,k,m)
def Bhf:=Bnz
def JD(j8:Jz3 (LB-> (List LB)->Bool->Int-> (List LB)->LB->LX->LB->Lw))(M0:Int-> (List LB)->Lw)(w a:Bt5)(b f g:Int)(h:LB)(k:Bool)(m:Int)(n:LB)(o:LX)(p:LB)(v:Int)(u:Bt5):Lw:=if(Cj v (Ac (XS w a)))then(Ao u v).bind λ_=>(Ao u v).bind λy=>(Bz y).bind λaa=>(Ao u v).bind λ_=>(Pc u v aa).bind λab=>M0 (Ae v 1) ab
else
j8 b f g h a k m u n o p
def Uh:Nat->Int-> (List LB)->Lw
|0,_,_=>none
|z+1,c,d=>JD Bhf (Uh z) G Btn Bto Btp Btq Bse Btr Bts Btt Brm Bs9 c d
def Bnh w a b f g h k m n o p:=Uh w a b f g h k m n o p Ax
def YQ(j6:(List LB)-> (List LB)->Jz3 (LB->Bool->Int->LB->LX->LB->Int-> (List LB)->Lw))(b f g:Int)(h:LB)(a:Bt5)(k:Bool)(m:Int)(n:LB)(o:LX)(p:LB):Lw:=(mkI (Ac a) ([]:LB)).bind λw=>(Jb (geq (Ac a) (Ac a))).bind λ_=>j6 w a b f g h k m n o p 0 (XS w a)
def Bhh:=YQ Bnh
def YE(j5:Jz3 (LB-> (List LB)->Bool->Int->LB->LX->LB->Lw))(b f g:Int)(h ac:LB)(ad:LX)(a:Bt5)(ae:LB)(k:Bool)(m:Int):Lw:=(Bz ac).bind λn=>(Dy ad).bind λo=>(Bz ae).bind λp=>j5 b f g h a k m n o p
def PC:=YE Bhh
abbrev YJ:=Option (Int×Int×Int×LB×LB×LX×(List LB)×LB×Bool×Int×Int×Int)
def Bbm:YJ:=(PC d i F e N J G O C j).bind λ(c,A,B,D,E,I,L,P,R,T)=>some (c,A,B,D,E,I,L,P,R,T,z,M)
def Bff:=Bbm
def Baj(j2:Jz4 (LB->LB->LX-> (List LB)->LB->Bool->Int->Int->YJ))(g h b:Int)(k m:LB)(n:LX)(o:Bt5)(p:LB)(f:Bool)(a:Int):YJ:=(Ij g h b k m n o p f a).bind λv=>if(Bd v 0)then
some (0,0,0,([]:LB),([]:LB),([]:LX),([]:Bt5),([]:LB),false,0,0,v)
else(Li b).bind λ(u,aj)=>if(Bd a 0)then
j2 u g h b k m n o p f a a
else
if f then
j2 u g h b k m n o p f a 36
else
j2 u g h b k m n o p f a aj
def HY:=Baj Bff
abbrev Dp:=Option (LX×Int)
def Bnx:Dp:=some (B,0)
def Ayg:=Bnx
abbrev Bv6:=Int->LX->Dp
def BU(Jw:Bv6)(a:Int)(b:LB)(f:Int)(o:LX):Dp:=Jw (Ae f (Ca a 8)) o
def Lp Jw:=BU Jw
def MO(j28:Bv6)(a:Int)(b:LB)(f:Int)(k:Int32)(g:LX):Dp:=(Jb (Le (Aq 32 a) 0)).bind λ_=>(Jb (Le (Aq 32 a) 0)).bind λ_=>(Dm g ([(Cy (Eh k (GI.toZ (Aq 32 a)).toNat) (GI.toZ (Aq 32 a)).toNat)]:LX)).bind λp=>j28 f p
def BZ Jw a b:=MO (Lp Jw a b) a b
def Hn(j27:Int->Int32->LX->Dp)(Blr:Int32->Int->Dp)(a:Int)(b:LB)(f:Int)(g:LX)(k:Int32)(h:Int):Dp:=if(Cj h (Ca a 8))then(Ao b (Ae f h)).bind λm=>(Jb (Le (Bm 8 h) 0)).bind λ_=>Blr (I7 k (Eh (Ag m:Int32) (GI.toZ (Bm 8 h)).toNat)) (Ae h 1)
else
j27 f k g
def Gh(Jw:Bv6)(a:Int)(b:LB)(f:Int)(g:LX):Nat->Int32->Int->Dp
|0,_,_=>none
|q+1,k,h=>Hn (BZ Jw a b) (Gh Jw a b f g q) a b f g k h
def Pj Jw a b f g:=Gh Jw a b f g Ax
def Hu(j28:Bv6)(j25:Int->LX->Int32->Int->Dp)(j30:LX->Dp)(a:Int)(b:LB)(f:Int)(g:LX):Dp:=if(Cj f (Ac b))then
if(geq a 8)then(Ao b f).bind λm=>(Dm g ([(Aq (Ag m:Int32) 128)]:LX)).bind λu=>j28 f u
else
j25 f g 0 0
else
j30 g
def Fh:Nat->Int->LX->Dp
|0,_,_=>none
|c+1,d,i=>Hu (Lp (Fh c) z e) (Pj (Fh c) z e) Ayg z e d i
def Az9 a b:=Fh a b Ax
def TV(j16:Int->LB->Int->LX->Dp)(a:Int)(b:LB):Dp:=(Pb a).bind λ(v,w,n)=>if(Bd n 0)then
some (([]:LX),n)
else(Jb (Bd (Ca a 8) 0)).bind λ_=>if(Bd (Ge (Ac b) (Ca a 8)) 0)then
some (([]:LX),12)
else(Jb (Bd (Ca a 8) 0)).bind λ_=>if(Dz (Ca (Ac b) (Ca a 8)) 4000)then
some (([]:LX),4)
else
j16 a b 0 ([]:LX)
def UO:=TV Az9
abbrev Dd:=Option (UInt64×Int)
def Bkt:Dd:=some (D,0)
def Bku:=Bkt
def Bim(j30:UInt64->Dd)(h b:UInt64)(a:LB)(f:LQ):Dd:=j30 h
def eD:=Bim Bku
def OH(j29:UInt64->UInt64->LB->LQ->Dd)(rN:UInt64->Int->Dd)(a:LB)(b:UInt64)(f:LQ)(h:UInt64)(m:Int):Dd:=if(Cj m (Ac a))then(Ao a m).bind λp=>Option.bind (Ao f (GI.toZ (DY (Ag (Cy h (GI.toZ (56:UInt64)).toNat):UInt8) p))) λ_=>Option.bind (Ao f (GI.toZ (DY (Ag (Cy h (GI.toZ (56:UInt64)).toNat):UInt8) p))) λu=>rN (DY (Eh h (GI.toZ (8:UInt64)).toNat) u) (Ae m 1)
else
j29 h b a f
def Xk:Nat->UInt64->Int->Dd
|0,_,_=>none
|z+1,d,e=>OH eD (Xk z) c D Btz d e
def cR a b f:=Xk a b f Ax
def cC(j27:LB->UInt64->LQ->UInt64->Int->Dd)(b:UInt64)(a:LB)(f:LQ):Dd:=j27 a b f b 0
def dV:=cC cR
abbrev Bwe:=Int->LQ->Dd
def Bik(Jw:Bwe)(b:UInt64)(a:LB)(g:Int)(o:LQ):Dd:=Jw (Ae g 1) o
def Bk7 Jw:=Bik Jw
def Bk1(j24:Bwe)(b:UInt64)(a:LB)(g:Int)(k:UInt64)(f:LQ):Dd:=(Ao f g).bind λ_=>(Pc f g k).bind λo=>j24 g o
def NQ Jw b a:=Bk1 (Bk7 Jw b a) b a
def MU(j23:Int->UInt64->LQ->Dd)(S1:UInt64->Int->Dd)(b:UInt64)(a:LB)(g:Int)(f:LQ)(k:UInt64)(n:Int):Dd:=if(Cj n 8)then
S1 (DY (Eh k (GI.toZ (1:UInt64)).toNat) (Bm 4823603603198064275 (Cy k (GI.toZ (63:UInt64)).toNat))) (Ae n 1)
else
j23 g k f
def Xw(Jw:Bwe)(b:UInt64)(a:LB)(g:Int)(f:LQ):Nat->UInt64->Int->Dd
|0,_,_=>none
|q+1,k,n=>MU (NQ Jw b a) (Xw Jw b a g f q) b a g f k n
def fJ Jw b a g f:=Xw Jw b a g f Ax
def OJ(j21:Int->LQ->UInt64->Int->Dd)(j26:UInt64->LB->LQ->Dd)(b:UInt64)(a:LB)(g:Int)(f:LQ):Dd:=if(Cj g 256)then
j21 g f (Eh (Ag g:UInt64) (GI.toZ (56:UInt64)).toNat) 0
else
j26 b a f
def So:Nat->Int->LQ->Dd
|0,_,_=>none
|z+1,c,d=>OJ (fJ (So z) D Brn) dV D Brn c d
def Bko b a:=So b a Ax
def kM(j16:UInt64->LB->Int->LQ->Dd)(b:UInt64)(a:LB):Dd:=if(Dz (Ac a) 100000)then
some (0,4)
else
j16 b a 0 (List.replicate 256 (0:UInt64))
def qT:=kM Bko
abbrev Buz:=Option (UInt64×Int)
def mN:Buz:=(qT 0 c).bind λ(z,d)=>some (z,d)
def Aon:Bui:=some B
def Bex:=Aon
abbrev Bv4:=LX->Option (LX)
abbrev Bu5:=Int->LX->Option (LX)
def rL(j6:Bv4)(Tn:Bu5)(f:UInt64)(a:Int)(b:LX):Bui:=if(Cj a 8)then(Jb (Le (Bm 8 a) 0)).bind λ_=>(Ao b a).bind λ_=>(Pc b a (Ag (Ag (Cy f (GI.toZ (Bm 8 a)).toNat):Int8):Int32)).bind λg=>Tn (Ae a 1) g
else
j6 b
def TW:Nat->Int->LX->Option (LX)
|0,_,_=>none
|z+1,c,d=>rL Bex (TW z) D c d
def Aop f:=TW f Ax
abbrev Bva:=UInt64->Int->LX->Option (LX)
def wu(j4:Bva)(f:UInt64):Bui:=j4 f 0 (List.replicate 16 (0:Int32))
def pC:=wu Aop
abbrev Bvm:=Option (LX×Int)
def Nu:Bvm:=if(Dz (Ac c) 64)then
some (([(0:Int32),(0:Int32),(0:Int32),(0:Int32),(0:Int32),(0:Int32),(0:Int32),(0:Int32),(0:Int32),(0:Int32),(0:Int32),(0:Int32),(0:Int32),(0:Int32),(0:Int32),(0:Int32)]:LX),2)
else(mN c).bind λ(z,d)=>if(Bd d 0)then
some (([(0:Int32),(0:Int32),(0:Int32),(0:Int32),(0:Int32),(0:Int32),(0:Int32),(0:Int32),(0:Int32),(0:Int32),(0:Int32),(0:Int32),(0:Int32),(0:Int32),(0:Int32),(0:Int32)]:LX),d)
else(pC z).bind λe=>some (e,0)
def UN:Bt1:=(Fl z d).bind λc=>if(Bd c 0)then
some c
else(Uq d B).bind λe=>if(Bd e 0)then
some e
else
if(geq (Ac B) 0)then
some 2
else(Jb (Bd z 0)).bind λ_=>if(Bd (Ge (Ac B) z) 0)then
some 2
else
some 0
def nB:Bt1:=if((Cj z 1)||(Dz z 6))then
some 2
else
if(Dz (Ac B) 4000)then
some 4
else(Jb (Bd z 0)).bind λ_=>if(Bd (Ge (Ac B) z) 0)then
some 2
else
some 0
abbrev Mj:=Option (LX×Int)
def Aj4:Mj:=some (B,0)
def Bj6:=Aj4
abbrev Bvt:=Int->LX->Mj
def vA(kX:Bvt)(b a:Int)(u:LX):Mj:=kX (Ae a b) u
def xD kX:=vA kX
def Abb(j20:Bvt)(b a:Int)(g:LX):Mj:=if(Dz (Aq ((Ae a b)-a) 1) 0)then(Jb (decide (0<= (Aq ((Ae a b)-a) 1)/\ (Aq ((Ae a b)-a) 1)<((Ae a b)-a)))).bind λ_=>Option.bind (Jb (decide (0<= (Aq (Aq ((Ae a b)-a) 1) 1)/\ (Aq (Aq ((Ae a b)-a) 1) 1)<((Ae a b)-a)))) λ_=>(Ao g (a+(Aq ((Ae a b)-a) 1))).bind λk=>(Ao g (a+(Aq (Aq ((Ae a b)-a) 1) 1))).bind λm=>(Jb (decide (0<= (Aq ((Ae a b)-a) 1)/\ (Aq ((Ae a b)-a) 1)<((Ae a b)-a)))).bind λ_=>(Pc g (a+(Aq ((Ae a b)-a) 1)) (Aq k (Ca m 2))).bind λn=>j20 a n
else
j20 a g
def uS kX b:=Abb (xD kX b) b
def gC(j19:Bvt)(sw:Bvt)(b a f:Int)(g:LX):Mj:=if(Cj f (Aq ((Ae a b)-a) 1))then(Jb (decide (0<= (Ae f 1)/\ (Ae f 1)<((Ae a b)-a)))).bind λ_=>(Jb (decide (0<=f/\f<((Ae a b)-a)))).bind λ_=>(Ao g (a+(Ae f 1))).bind λk=>(Ao g (a+f)).bind λm=>(Jb (decide (0<=f/\f<((Ae a b)-a)))).bind λ_=>(Pc g (a+f) (Aq k m)).bind λn=>sw (Ae f 1) n
else
j19 a g
def MA(kX:Bvt)(b a:Int):Nat->Int->LX->Mj
|0,_,_=>none
|q+1,f,g=>gC (uS kX b) (MA kX b a q) b a f g
def Bm5 kX b a:=MA kX b a Ax
def uX(j17:Int->Int->LX->Mj)(j22:LX->Mj)(b a:Int)(h:LX):Mj:=if(Cj a (Ac h))then(dZ (Ac h) a (Ae a b)).bind λ_=>j17 a 0 h
else
j22 h
def MI:Nat->Int->LX->Mj
|0,_,_=>none
|c+1,d,e=>uX (Bm5 (MI c) z) Bj6 z d e
def Bju b:=MI b Ax
def I1(j12:Int->Int->LX->Mj)(b:Int)(o:LX):Mj:=(nB b o).bind λp=>if(Bd p 0)then
some (([]:LX),p)
else(Dy o).bind λv=>j12 b 0 v
def q_:=I1 Bju
abbrev G8:=Option (Int×LX×LX×Int)
def Alq:G8:=if C then
some (10,B,(List.replicate 16 (0:Int32)),0)
else
if(geq z 16)then
some (9,B,(List.replicate 16 (0:Int32)),0)
else
some (0,(List.replicate 16 (0:Int32)),(List.replicate 16 (0:Int32)),2)
def Ai5:=Alq
def Akk(j2:Int->LX->Bool->G8)(a:Int)(b:LX):G8:=if(geq a 8)then
j2 a b (geq a 8)
else
j2 a b (geq a 24)
def S5:=Akk Ai5
abbrev Bvd:=Option (Int×Int32×Int×LX×LX×Int)
def rz:Bvd:=(S5 z B).bind λ(c,d,e,i)=>if(Bd i 0)then
some (0,0,0,(List.replicate 16 (0:Int32)),(List.replicate 16 (0:Int32)),i)
else
some (z,0,c,d,e,0)
def DI(a:Int)(k:Int32)(b:Int)(f m:LX):Bt1:=(S5 a f).bind λ(g,n,o,h)=>if((Bd h 0)||(Bd g b))then
some 8
else
some 0
def wH:Bud:=if(geq z 8)then
some (4,0)
else
if(geq z 16)then
if(geq z 16)then
some (5,0)
else
some (0,2)
else
if(geq z 24)then
some (5,0)
else
some (0,2)
abbrev Bun:=Option Int32
def gG:Bun:=(Jb (Le z 0)).bind λ_=>(Jb (Le z 0)).bind λ_=>some (Ag (Q6 (Aq (Eh (Ag P:Int) (GI.toZ z).toNat) (Ag P:Int)) (GI.toZ z).toNat):Int32)
def DJ:Option (Int32×Int):=(wH z).bind λ(c,d)=>if(Bd d 0)then
some (0,d)
else(gG c P).bind λe=>some (e,0)
def TP(a:Int)(b f:LX):Bt1:=if((Bd a 9)&&(Bd a 10))then
some 8
else
some 0
abbrev Zi:=Option (Int32×Int)
def Aau(h:Int32)(a:Int)(b f:LX):Zi:=(Jb (Le a 0)).bind λ_=>some ((Cy h (GI.toZ a).toNat),0)
def jX:=Aau
def UR(j6:Int32->Int->LX->LX->Zi)(Tn:Int32->Int->Zi)(b:LX)(a:Int)(f:LX)(h:Int32)(g:Int):Zi:=if(Cj g 16)then(Ao b g).bind λm=>(Ao f g).bind λ_=>(Ao f g).bind λn=>Tn (Ae h (Bm m n)) (Ae g 1)
else
j6 h a b f
def AP:Nat->Int32->Int->Zi
|0,_,_=>none
|z+1,c,d=>UR jX (AP z) B E V c d
def Aah b a f:=AP b a f Ax
def jT(j4:LX->Int->LX->Int32->Int->Zi)(a:Int)(b f:LX):Zi:=(TP a b f).bind λk=>if(Bd k 0)then
some (0,k)
else(Jb (Le (Aq a 1) 0)).bind λ_=>j4 b a f (Eh (1:Int32) (GI.toZ (Aq a 1)).toNat) 0
def dW:=jT Aah
def mD:Bun:=if(geq z 0)then
some 4
else
if(Cj z 4)then
some 2
else
some 1
abbrev Ym:=Option (Int×LX×LX×Int)
def Acm:Ym:=some (z,B,V,0)
def Aal:=Acm
def US(j6:Int->LX->LX->Ym)(Tn:Int->LX->Ym)(h:Int32)(f:LX)(g a:Int)(b:LX):Ym:=if(Cj a 16)then(Ao f a).bind λm=>if(geq m 0)then
Tn (Ae a 1) b
else
if((Cj m 0)==(Cj h 0))then(Ao b a).bind λ_=>(Ao b a).bind λo=>(mD a).bind λp=>(Ao b a).bind λ_=>(Pc b a (Ae o p)).bind λu=>Tn (Ae a 1) u
else(Ao b a).bind λ_=>(Ao b a).bind λv=>(mD a).bind λw=>(Ao b a).bind λ_=>(Pc b a (Aq v w)).bind λy=>Tn (Ae a 1) y
else
j6 g b f
def AE:Nat->Int->LX->Ym
|0,_,_=>none
|z+1,c,d=>US Aal (AE z) P Brq T c d
def Aci h f g:=AE h f g Ax
def kK(j4:Int32->LX->Int->Int->LX->Ym)(g:Int)(k f:LX)(h:Int32):Ym:=(TP g k f).bind λn=>if(Bd n 0)then
some (0,(List.replicate 16 (0:Int32)),(List.replicate 16 (0:Int32)),n)
else
if(geq h 0)then
some (g,k,f,0)
else
j4 h f g 0 k
def rM:=kK Aci
abbrev xP:=Option (Int×LX×LX×Int)
def Acq:xP:=(Ao (Ww p9 1 ((16:Int)-(1:Int)) (QY p9 0 ((16:Int)-(0:Int)))) 0).bind λ_=>(Pc (Ww p9 1 ((16:Int)-(1:Int)) (QY p9 0 ((16:Int)-(0:Int)))) 0 P).bind λz=>some (T,p8,z,0)
def qL:=Acq
def aY(j2:Int32->Int->LX->LX->xP)(b:Int)(f a:LX)(g:Int32):xP:=(TP b f a).bind λh=>if(Bd h 0)then
some (0,(List.replicate 16 (0:Int32)),(List.replicate 16 (0:Int32)),h)
else(
(dZ 16 1 16).bind λ_=>(dZ 16 0 16).bind λ_=>j2 g b f a)
def zK:=aY qL
def cE:Option (Int×LX×LX):=(rM z B V Bsu).bind λ(c,d,e,i)=>(zK c d e P).bind λ(j,A,C,D)=>some (j,A,C)
abbrev Bvn:=Option (Int32×Int×LX×LX×Int)
def jL:Bvn:=(dW z B V).bind λ(c,d)=>if(Bd d 0)then
some (0,0,(List.replicate 16 (0:Int32)),(List.replicate 16 (0:Int32)),d)
else(cE z B V P (Aq P c)).bind λ(e,i,j)=>some ((Aq P c),e,i,j,0)
abbrev Bu9:=Option (Int32×Int×Int32×Int×LX×LX×Int)
def AB:Bu9:=(DI z P T p8 p9).bind λc=>if(Bd c 0)then
some (0,0,0,0,(List.replicate 16 (0:Int32)),(List.replicate 16 (0:Int32)),c)
else(DJ z P).bind λ(d,e)=>(jL T p8 p9 (Aq Bsh d)).bind λ(i,j,A,B,C)=>(
some (i,z,Bsh,j,A,B,C))
abbrev Bus:=Option UInt32
def yN:Bus:=some (DY (Eh (Ag P:UInt32) (GI.toZ (1:UInt64)).toNat) (Ag (Cy P (GI.toZ (31:UInt64)).toNat):UInt32))
abbrev Eo:=Option (LU×Int)
def Bnd:Eo:=some (l7,0)
def Avb:=Bnd
abbrev Bua:=List (Int×Int32×(Int×LX×LX×Unit)×Unit)
def Zl(j12:LU->Eo)(QB:Int-> (List (Int×Int32×(Int×LX×LX×Unit)×Unit))->LU->Eo)(b:LX)(a f g:Int)(k:Bua)(h:LU):Eo:=if(Cj g (Ac b))then(Ao b g).bind λ_=>(Ao b g).bind λac=>(Jb (Bd a 0)).bind λ_=>(Ao k (Ge g a)).bind λ_=>(Ao k (Ge g a)).bind λp=>(AB p.1 p.2.1 p.2.2.1.1 p.2.2.1.2.1 p.2.2.1.2.2.1 ac).bind λ(u,ad,ae,v,af,ag,w)=>if(Bd w 0)then
some (([]:LU),w)
else(Pc k (Ge g a) (ad,ae,(v,af,ag,()),())).bind λah=>(yN u).bind λai=>(Dm h ([ai]:LU)).bind λaj=>QB (Ae g 1) ah aj
else
j12 h
def Nr:Nat->Int-> (List (Int×Int32×(Int×LX×LX×Unit)×Unit))->LU->Eo
|0,_,_,_=>none
|z+1,c,d,e=>Zl Avb (Nr z) B E o7 c d e
def Arw b a f:=Nr b a f Ax
def Avd(j10:LX->Jz3 ( (List (Int×Int32×(Int×LX×LX×Unit)×Unit))->LU->Eo))(a f:Int)(b:LX)(m:Bua):Eo:=j10 b a f 0 m ([]:LU)
def Avv:=Avd Arw
def Avz(j9:Int->Int->LX-> (List (Int×Int32×(Int×LX×LX×Unit)×Unit))->Eo)(bk7:Int-> (List (Int×Int32×(Int×LX×LX×Unit)×Unit))->Eo)(a f:Int)(n b:LX)(o:Int)(m:Bua):Eo:=if(Cj o 6)then(rz f n).bind λ(ak,al,u,am,an,v)=>(Ao m o).bind λ_=>(Pc m o (ak,al,(u,am,an,()),())).bind λao=>bk7 (Ae o 1) ao
else
j9 a f b m
def OK:Nat->Int-> (List (Int×Int32×(Int×LX×LX×Unit)×Unit))->Eo
|0,_,_=>none
|c+1,e,i=>Avz Avv (OK c) z d B V e i
def QT a f n b:=OK a f n b Ax
def NV(j7:Int->Int->LX->LX->Int-> (List (Int×Int32×(Int×LX×LX×Unit)×Unit))->Eo)(a f:Int)(n y:LX):Eo:=(UN a f y).bind λaa=>if(Bd aa 0)then
some (([]:LU),aa)
else(q_ a y).bind λ(b,ab)=>if(Bd ab 0)then
some (([]:LU),ab)
else
j7 a f n b 0 (List.replicate 6 ((0:Int),(0:Int32),((0:Int),(List.replicate 16 (0:Int32)),(List.replicate 16 (0:Int32)),()),()))
def NU:=NV QT
abbrev Bvj:=Option (Int×Int×UInt64×UInt64)
def L8:Bvj:=some (10,10,16384,16384)
abbrev Np:=Option ((List (Int×Int×UInt64×UInt64×Unit)))
abbrev Bt3:=List (Int×Int×UInt64×UInt64×Unit)
def Bny(a:Bt3):Np:=some a
def Az7:=Bny
abbrev Bu6:=Int-> (List (Int×Int×UInt64×UInt64×Unit))->Np
def Bab(j6:(List (Int×Int×UInt64×UInt64×Unit))->Np)(Tn:Bu6)(b:Int)(a:Bt3):Np:=if(Cj b 6)then(L8).bind λ(f,g,h,k)=>(Ao a b).bind λ_=>(Pc a b (f,g,h,k,())).bind λm=>Tn (Ae b 1) m
else
j6 a
def MN:Nat->Int-> (List (Int×Int×UInt64×UInt64×Unit))->Np
|0,_,_=>none
|q+1,b,a=>Bab Az7 (MN q) b a
def Az4:=MN Ax
def NO(j4:Bu6):Np:=j4 0 (List.replicate 6 ((0:Int),(0:Int),(0:UInt64),(0:UInt64),()))
def PA:=NO Az4
def Mc:Bt1:=if(((Cj z 0)||(Dz z 330000))||(Bd (Ac c) (Q6 (Ae z 7) (GI.toZ (3:UInt64)).toNat)))then
some 8
else
if(Dz (Fy z 7) 0)then(Ao c (Aq (Ac c) 1)).bind λd=>(Jb (Le (Fy z 7) 0)).bind λ_=>if(Bd (Cy d (GI.toZ (Fy z 7)).toNat) 0)then
some 8
else
some 0
else
some 0
def Aa2:Bt1:=if(!((geq (Fq (pJ z 0) 24) z)&&((geq (Fq (pJ d 0) 24) d)&&((geq (Fq D 68719476735) D)&&((geq (Fq l6 68719476735) l6)&&true)))))then
some 8
else
some 0
def jO:=Aa2
abbrev Bvf:=Int->Int->UInt64->UInt64->Option Int
def UM(j4:Bvf)(a b:Int)(f g:UInt64):Bt1:=(
(
j4 a b f g))
def kQ:=UM jO
def UT(j3:Bvf)(a b:Int)(f g:UInt64):Bt1:=(
(
j3 a b f g))
def eY:=UT kQ
def TY(a f:Int)(g h:UInt64)(b:UInt32):Option (Int×UInt32):=(Jb (Le a 0)).bind λ_=>if(geq (Cy b (GI.toZ a).toNat) 0)then
some (0,b)
else(Jb (Le a 0)).bind λ_=>some (1,(Aq b (Eh (1:UInt32) (GI.toZ a).toNat)))
abbrev Bvo:=Option (LB×Int)
def mK:Bvo:=(Bz c).bind λd=>some (d,z)
abbrev Fi:=Option (LB×Int×Int)
def Ac7:Fi:=some (e,z,0)
def pD:=Ac7
abbrev Buq:=UInt64->Int->Int->LB->Fi
def Aft(ZX:Buq)(b:UInt64)(a:Int)(m:UInt64)(h f:Int)(w:LB):Fi:=(Jb (Le (Fq h (Aq 8 (Fy f 7))) 0)).bind λ_=>ZX (Cy m (GI.toZ (Fq h (Aq 8 (Fy f 7)))).toNat) (Aq h (Fq h (Aq 8 (Fy f 7)))) (Ae f (Fq h (Aq 8 (Fy f 7)))) w
def Amg ZX:=Aft ZX
def Agq(j19:Buq)(b:UInt64)(a:Int)(m:UInt64)(h f:Int)(u:LB):Fi:=(Ao u (Aq (Ac u) 1)).bind λ_=>(Jb (Le (Fq h (Aq 8 (Fy f 7))) 0)).bind λ_=>(Jb (Le (Fy f 7) 0)).bind λ_=>(Ao u (Aq (Ac u) 1)).bind λad=>(Ao u (Aq (Ac u) 1)).bind λ_=>Option.bind (Pc u (Aq (Ac u) 1) (I7 ad (Eh (Ag (Fy m (Aq (Eh (1:UInt64) (GI.toZ (Fq h (Aq 8 (Fy f 7)))).toNat) 1)):UInt8) (GI.toZ (Fy f 7)).toNat))) λw=>j19 m h f w
def aU ZX b a:=Agq (Amg ZX b a) b a
def aV(j18:Buq)(j21:Int->LB->Fi)(b:UInt64)(a:Int)(m:UInt64)(h f:Int)(o:LB):Fi:=if(Dz h 0)then
if(geq (Fy f 7) 0)then(Dm o ([(0:UInt8)]:LB)).bind λaa=>j18 m h f aa
else
j18 m h f o
else
j21 f o
def Um:Nat->UInt64->Int->Int->LB->Fi
|0,_,_,_,_=>none
|z+1,c,d,e,i=>aV (aU (Um z) D l5) pD D l5 c d e i
def Ag1 b a:=Um b a Ax
def Afm:Fi:=some (e,z,0)
def Ahm:=Afm
def Agb(A4:Buq)(b:UInt64)(a:Int)(n:UInt64)(k g:Int)(ab:LB):Fi:=(Jb (Le (Fq k (Aq 8 (Fy g 7))) 0)).bind λ_=>A4 (Cy n (GI.toZ (Fq k (Aq 8 (Fy g 7)))).toNat) (Aq k (Fq k (Aq 8 (Fy g 7)))) (Ae g (Fq k (Aq 8 (Fy g 7)))) ab
def Afx A4:=Agb A4
def Afn(j26:Buq)(b:UInt64)(a:Int)(n:UInt64)(k g:Int)(v:LB):Fi:=(Ao v (Aq (Ac v) 1)).bind λ_=>(Jb (Le (Fq k (Aq 8 (Fy g 7))) 0)).bind λ_=>(Jb (Le (Fy g 7) 0)).bind λ_=>(Ao v (Aq (Ac v) 1)).bind λae=>(Ao v (Aq (Ac v) 1)).bind λ_=>Option.bind (Pc v (Aq (Ac v) 1) (I7 ae (Eh (Ag (Fy n (Aq (Eh (1:UInt64) (GI.toZ (Fq k (Aq 8 (Fy g 7)))).toNat) 1)):UInt8) (GI.toZ (Fy g 7)).toNat))) λab=>j26 n k g ab
def Afq A4 b a:=Afn (Afx A4 b a) b a
def Ac8(j25:Buq)(j28:Int->LB->Fi)(b:UInt64)(a:Int)(n:UInt64)(k g:Int)(p:LB):Fi:=if(Dz k 0)then
if(geq (Fy g 7) 0)then(Dm p ([(0:UInt8)]:LB)).bind λw=>j25 n k g w
else
j25 n k g p
else
j28 g p
def pX:Nat->UInt64->Int->Int->LB->Fi
|0,_,_,_,_=>none
|z+1,c,d,e,i=>Ac8 (Afq (pX z) D l5) Ahm D l5 c d e i
def Af7 b a:=pX b a Ax
abbrev Bve:=UInt64->Int->UInt64->Int->Int->LB->Fi
def vD(j15:Bve)(j22:Bve)(ac:LB)(y:Int)(b:UInt64)(a:Int):Fi:=(Mc ac y).bind λaf=>if(Bd af 0)then
some (([]:LB),0,8)
else
if((Cj a 0)||(Dz a 64))then
some (([]:LB),0,2)
else
if(Cj a 64)then(Jb (Le a 0)).bind λ_=>if(Bd (Cy b (GI.toZ a).toNat) 0)then
some (([]:LB),0,16)
else
if(Dz (Ae y a) 330000)then
some (([]:LB),0,18)
else(mK ac y).bind λ(ag,ah)=>j15 b a b a ah ag
else
if(Dz (Ae y a) 330000)then
some (([]:LB),0,18)
else(mK ac y).bind λ(aa,ai)=>j22 b a b a ai aa
def eN:=vD Ag1 Af7
def FO:Bt2:=(Jb (Le l5 0)).bind λ_=>some (Le (Cy X (GI.toZ l5).toNat) 48)
def qW:Bud:=if((Cj z 0)||(Dz z 48))then
some (0,2)
else
some ((Fq (Ae z 1) 48),0)
abbrev Bv9:=Option (LB×Int×Int)
def iU:Bv9:=(Mc c z).bind λe=>if(Bd e 0)then
some (([]:LB),0,e)
else(qW d).bind λ(i,j)=>if(Bd j 0)then
some (([]:LB),0,j)
else(Jb (Le d 0)).bind λ_=>(eN c z (Aq (Eh (1:UInt64) (GI.toZ d).toNat) 1) i).bind λ(A,B,C)=>some (A,B,C)
abbrev oW:=Option (LB×Int×Int)
def kU:oW:=(iU c z d).bind λ(e,i,j)=>if(Bd j 0)then
some (([]:LB),0,j)
else(eN e i (Ag X:UInt64) l5).bind λ(A,B,C)=>some (A,B,C)
def kJ:=kU
def A8(j2:LB->Int->Int->UInt32->Int->oW)(b:LB)(f:Int)(g:UInt32)(a:Int):oW:=(Mc b f).bind λk=>if(Bd k 0)then
some (([]:LB),0,k)
else
if((Cj a 0)||(Dz a 24))then
some (([]:LB),0,2)
else(Jb (Le a 0)).bind λ_=>(Jb (Le a 0)).bind λ_=>(FO g a).bind λaa=>if aa then
j2 b f 48 g 32
else
j2 b f (Ag (Cy g (GI.toZ a).toNat):Int) (Fy g (Aq (Eh (1:UInt32) (GI.toZ a).toNat) 1)) a
def qC:=A8 kJ
abbrev Md:=Option (LB×Int×Int×Int×UInt64×UInt64×Int)
def QQ:Md:=(
(
some (Brn,z,d,i,(Ae D (Aq (Ag X:UInt64) (Cy D (GI.toZ (4:UInt64)).toNat))),l6,0)))
def fK:=QQ
def kD(j10:Jz3 (UInt64->UInt32->UInt64->LB->Md))(b:UInt32)(k n:Int)(a o:UInt64)(m:LB)(u:Int):Md:=j10 k u n a b o m
def Aat:=kD fK
def jR(j9:UInt32->Int->Int->UInt64->UInt64->LB->Int->Md)(b:UInt32)(f:Int)(a:UInt64)(k:Int)(m:LB)(n:Int)(o:UInt64):Md:=if(Dz f 0)then(Jb (Le f 0)).bind λ_=>if(Cj (Ae a (Aq (Ag b:UInt64) (Cy a (GI.toZ (4:UInt64)).toNat))) (Eh (16:UInt64) (GI.toZ f).toNat))then
j9 b k n a o m (Aq f 1)
else
if(Cj f 24)then(Jb (Le f 0)).bind λ_=>if(Dz (Ae a (Aq (Ag b:UInt64) (Cy a (GI.toZ (4:UInt64)).toNat))) (Eh (32:UInt64) (GI.toZ f).toNat))then
j9 b k n a o m (Ae f 1)
else
j9 b k n a o m f
else
j9 b k n a o m f
else
if(Cj f 24)then(Jb (Le f 0)).bind λ_=>if(Dz (Ae a (Aq (Ag b:UInt64) (Cy a (GI.toZ (4:UInt64)).toNat))) (Eh (32:UInt64) (GI.toZ f).toNat))then
j9 b k n a o m (Ae f 1)
else
j9 b k n a o m f
else
j9 b k n a o m f
def HI:=jR Aat
def jP(j8:UInt32->Int->UInt64->Int->LB->Int->UInt64->Md)(b:UInt32)(f h:Int)(a g:UInt64)(ac k:Int)(m:LB):Md:=if(Bd ac 0)then
some (([]:LB),0,0,0,0,0,ac)
else(TY f h a g b).bind λ(ag,p)=>if(geq ag 1)then
if(Dz h 0)then(Jb (Le h 0)).bind λ_=>if(Cj (Ae g (Aq (Ag p:UInt64) (Cy g (GI.toZ (4:UInt64)).toNat))) (Eh (16:UInt64) (GI.toZ h).toNat))then
j8 b f a k m (Aq h 1) (Ae g (Aq (Ag p:UInt64) (Cy g (GI.toZ (4:UInt64)).toNat)))
else
if(Cj h 24)then(Jb (Le h 0)).bind λ_=>if(Dz (Ae g (Aq (Ag p:UInt64) (Cy g (GI.toZ (4:UInt64)).toNat))) (Eh (32:UInt64) (GI.toZ h).toNat))then
j8 b f a k m (Ae h 1) (Ae g (Aq (Ag p:UInt64) (Cy g (GI.toZ (4:UInt64)).toNat)))
else
j8 b f a k m h (Ae g (Aq (Ag p:UInt64) (Cy g (GI.toZ (4:UInt64)).toNat)))
else
j8 b f a k m h (Ae g (Aq (Ag p:UInt64) (Cy g (GI.toZ (4:UInt64)).toNat)))
else
if(Cj h 24)then(Jb (Le h 0)).bind λ_=>if(Dz (Ae g (Aq (Ag p:UInt64) (Cy g (GI.toZ (4:UInt64)).toNat))) (Eh (32:UInt64) (GI.toZ h).toNat))then
j8 b f a k m (Ae h 1) (Ae g (Aq (Ag p:UInt64) (Cy g (GI.toZ (4:UInt64)).toNat)))
else
j8 b f a k m h (Ae g (Aq (Ag p:UInt64) (Cy g (GI.toZ (4:UInt64)).toNat)))
else
j8 b f a k m h (Ae g (Aq (Ag p:UInt64) (Cy g (GI.toZ (4:UInt64)).toNat)))
else
j8 b f a k m h g
def kH:=jP HI
def kO(j7:UInt32->Int->Int->UInt64->UInt64->Int->Int->LB->Md)(b:UInt32)(v:LB)(w f h:Int)(a g:UInt64):Md:=(TY f h a g b).bind λ(ad,ae)=>(eN v w (Ag ad:UInt64) 1).bind λ(y,aa,ab)=>if((geq ab 0)&&(geq ad 0))then(eN y aa (Ag ae:UInt64) f).bind λ(ah,ai,aj)=>j7 b f h a g aj ai ah
else
if(geq ab 0)then(qC y aa ae h).bind λ(ak,al,am)=>j7 b f h a g am al ak
else
j7 b f h a g ab aa y
def Aa0:=kO kH
def kW(j6:UInt32->LB->Jz3 (UInt64->UInt64->Md))(v:LB)(w f h:Int)(a g:UInt64)(b:UInt32):Md:=(Mc v w).bind λan=>if(Bd an 0)then
some (([]:LB),0,0,0,0,0,8)
else(eY f h a g).bind λao=>if(Bd ao 0)then
some (([]:LB),0,0,0,0,0,8)
else
j6 b v w f h a g
def pQ:=kW Aa0
abbrev Db:=Option (UInt32×Int)
def Bk8:Db:=some (X,0)
def cT:=Bk8
def PX(j30:UInt32->Db)(Bls:UInt32->Int->Db)(a:LB)(b:LU)(h:UInt32)(m:Int):Db:=if(Cj m (Ac a))then(Ao a m).bind λp=>(Ao b (GI.toZ (DY (Ag h:UInt8) p))).bind λ_=>(Ao b (GI.toZ (DY (Ag h:UInt8) p))).bind λu=>Bls (DY (Cy h (GI.toZ (8:UInt64)).toNat) u) (Ae m 1)
else
j30 h
def Xm:Nat->UInt32->Int->Db
|0,_,_=>none
|z+1,d,e=>PX cT (Xm z) c l7 d e
def dP a b:=Xm a b Ax
def dG(j28:LB->LU->UInt32->Int->Db)(f:UInt32)(a:LB)(b:LU):Db:=j28 a b f 0
def Bkf:=dG dP
def cX(j27:UInt32->LB->LU->Db)(f:UInt32)(a:LB)(b:LU):Db:=j27 f a b
def dM:=cX Bkf
abbrev Bwf:=Int->LU->Db
def Bjy(Jw:Bwf)(f:UInt32)(a:LB)(g:Int)(o:LU):Db:=Jw (Ae g 1) o
def Bm0 Jw:=Bjy Jw
def Bks(j24:Bwf)(f:UInt32)(a:LB)(g:Int)(k:UInt32)(b:LU):Db:=(Ao b g).bind λ_=>(Pc b g k).bind λo=>j24 g o
def OE Jw f a:=Bks (Bm0 Jw f a) f a
def NP(j23:Int->UInt32->LU->Db)(S1:UInt32->Int->Db)(f:UInt32)(a:LB)(g:Int)(b:LU)(k:UInt32)(n:Int):Db:=if(Cj n 8)then
S1 (DY (Cy k (GI.toZ (1:UInt64)).toNat) (Bm 3988292384 (Fy k 1))) (Ae n 1)
else
j23 g k b
def Wz(Jw:Bwf)(f:UInt32)(a:LB)(g:Int)(b:LU):Nat->UInt32->Int->Db
|0,_,_=>none
|q+1,k,n=>NP (OE Jw f a) (Wz Jw f a g b q) f a g b k n
def bW Jw f a g b:=Wz Jw f a g b Ax
def PZ(j21:Int->LU->UInt32->Int->Db)(j26:UInt32->LB->LU->Db)(f:UInt32)(a:LB)(g:Int)(b:LU):Db:=if(Cj g 256)then
j21 g b (Ag g:UInt32) 0
else
j26 f a b
def Ru:Nat->Int->LU->Db
|0,_,_=>none
|z+1,c,d=>PZ (bW (Ru z) X Brn) dM X Brn c d
def Bk4 f a:=Ru f a Ax
def kA(j16:UInt32->LB->Int->LU->Db)(f:UInt32)(a:LB):Db:=if(Dz (Ac a) 100000)then
some (0,4)
else
j16 f a 0 (List.replicate 256 (0:UInt32))
def rC:=kA Bk4
def EN:Option (UInt32×Int):=(rC 4294967295 c).bind λ(z,d)=>if(Bd d 0)then
some (0,d)
else
some ((N5 z),0)
def p_:Bt2:=if(geq l5 8)then
some true
else(Jb (Le (Bm 8 l5) 0)).bind λ_=>some (geq (Cy D (GI.toZ (Bm 8 l5)).toNat) 0)
abbrev KG:=Option (LB×Int)
def Bmk:KG:=some (c,0)
def uW:=Bmk
def gZ(j6:LB->KG)(Tn:Int->LB->KG)(f:UInt64)(g:LB)(a:Int)(b:LB):KG:=if(Cj a (Ac g))then(Jb (Le (Bm 8 a) 0)).bind λ_=>(Ao b a).bind λ_=>(Pc b a (Ag (Cy f (GI.toZ (Bm 8 a)).toNat):UInt8)).bind λk=>Tn (Ae a 1) k
else
j6 b
def LZ:Nat->Int->LB->KG
|0,_,_=>none
|z+1,c,d=>gZ uW (LZ z) D Brn c d
def Bml f g:=LZ f g Ax
def wN(j4:UInt64->LB->Int->LB->KG)(f:UInt64)(h:Int):KG:=if((Cj h 1)||(Dz h 8))then
some (([]:LB),2)
else(p_ f h).bind λm=>if(!m)then
some (([]:LB),16)
else(mkI h (0:UInt8)).bind λg=>(Jb (geq h h)).bind λ_=>j4 f g 0 g
def HF:=wN Bml
def Bof:Bt9:=some c
def Aa6:=Bof
def Ek:Bt9:=if(Cj Br6 (Ac Bsw))then(Ao Bsw Br6).bind λz=>(Dm Bsx z).bind λc=>Bss (Ae Br6 1) c
else
Bsr Bsx
def Dc:Nat->Int->LB->Option (LB)
|0,_,_=>none
|z+1,c,d=>Ek Aa6 (Dc z) G c d
def Ky a:=Dc a Ax
abbrev Bvp:=(List LB)->Int->LB->Option (LB)
def Kz(j14:Bvp)(a:Bt5)(p:LB):Bt9:=j14 a 0 p
def Hq:=Kz Ky
def Lb(j13:(List LB)->LB->Option (LB))(b:Int)(a:Bt5):Bt9:=if(Dz (Aq b (Aq (0:Int) (0:Int))) 0)then(dZ 0 0 0).bind λ_=>(mkI (Aq b (Aq (0:Int) (0:Int))) (0:UInt8)).bind λu=>(Dm ([]:LB) u).bind λk=>(dZ (Ac k) 0 0).bind λ_=>j13 a (QY k 0 ((0:Int)-(0:Int)))
else
j13 a ([]:LB)
def Qu:=Lb Hq
def La(j12:Int-> (List LB)->Option (LB))(a:Bt5)(b:Int):Bt9:=if(Cj b 0)then
none
else
j12 b a
def Ht:=La Qu
abbrev Bwa:=Int->Int->Option (LB)
def Er(j11:(List LB)->Int->Option (LB))(bk9:Bwa)(a:Bt5)(b h:Int):Bt9:=if(Cj h (Ac a))then(Ao a h).bind λm=>if(Cj (Ae b (Ac m)) 0)then
none
else
bk9 (Ae b (Ac m)) (Ae h 1)
else
j11 a b
def Dj:Nat->Int->Int->Option (LB)
|0,_,_=>none
|z+1,c,d=>Er Ht (Dj z) G c d
def Aai a:=Dj a Ax
def Sp(j9:(List LB)->Int->Int->Option (LB))(a:Bt5):Bt9:=j9 a 0 0
def Gd:=Sp Aai
abbrev Ci:=Option (LB×Int)
def Atx(v:Int)(p:LB):Ci:=(EN p).bind λ(af,ac)=>if(Bd ac 0)then
some (([]:LB),ac)
else(HF (Ag af:UInt64) 4).bind λ(m,h)=>if(Bd h 0)then
some (([]:LB),h)
else(Gd ([p,m]:Bt5)).bind λag=>some (ag,0)
def JR:=Atx
abbrev Bum:=Int-> (List (Int×Int×UInt64×UInt64×Unit))->Int->LB->Ci
def Asg(rN:Bum)(b:LU)(a g f:Int)(n:Bt3)(k:Int)(w:LB):Ci:=rN (Ae f 1) n k w
def KF rN:=Asg rN
abbrev Bvy:=Int->Int->LB->Ci
def Au9(NA:Bvy)(h:Int)(b:LU)(f a g:Int)(n:Bt3)(m:LB)(o k:Int)(ab:LB):Ci:=NA (Ae o 1) (Ae k 1) ab
def At9 NA:=Au9 NA
def As1(j48:Bvy)(h:Int)(b:LU)(f a g:Int)(n:Bt3)(m:LB)(o k:Int)(y:LB):Ci:=(Ao m (Ca o 8)).bind λ_=>(Ao m (Ca o 8)).bind λah=>(Jb (Le (Ge o 8) 0)).bind λ_=>(Ao y (Ca k 8)).bind λ_=>(Jb (Le (Ge k 8) 0)).bind λ_=>(Ao y (Ca k 8)).bind λai=>(Ao y (Ca k 8)).bind λ_=>Option.bind (Pc y (Ca k 8) (I7 ai (Eh (Fy (Cy ah (GI.toZ (Ge o 8)).toNat) 1) (GI.toZ (Ge k 8)).toNat))) λab=>j48 o k ab
def Yx NA h b f a g n m:=As1 (At9 NA h b f a g n m) h b f a g n m
def Zn(j47:Bvy)(j50:Bum)(b:LU)(a g h f:Int)(n:Bt3)(m:LB)(o k:Int)(w:LB):Ci:=if(Cj o h)then
if(geq (Ge k 8) 0)then(Dm w ([(0:UInt8)]:LB)).bind λaj=>j47 o k aj
else
j47 o k w
else
j50 f n k w
def Ih(rN:Bum)(b:LU)(a g h f:Int)(n:Bt3)(m:LB):Nat->Int->Int->LB->Ci
|0,_,_,_=>none
|q+1,o,k,w=>Zn (Yx (Ih rN b a g h f n m q) h b f a g n m) (KF rN b a g) b a g h f n m o k w
def Atg rN b a g h f n m:=Ih rN b a g h f n m Ax
def Zf(j44:Int->Int-> (List (Int×Int×UInt64×UInt64×Unit))->LB->Int->Int->LB->Ci)(j52:Int->LB->Ci)(b:LU)(a g f:Int)(u:Bt3)(v:Int)(p:LB):Ci:=if(Cj f (Ac b))then(Ao b f).bind λ_=>(Ao b f).bind λak=>(Jb (Bd a 0)).bind λ_=>(Ao u (Ge f a)).bind λ_=>(Ao u (Ge f a)).bind λaa=>(pQ ([]:LB) 0 aa.1 aa.2.1 aa.2.2.1 aa.2.2.2.1 ak).bind λ(m,h,al,am,an,ao,ad)=>if(Bd ad 0)then
some (([]:LB),ad)
else(Jb (Bd a 0)).bind λ_=>(Ao u (Ge f a)).bind λ_=>(Pc u (Ge f a) (al,am,an,ao,())).bind λn=>j44 h f n m 0 v p
else
j52 v p
def Kh:Nat->Int-> (List (Int×Int×UInt64×UInt64×Unit))->Int->LB->Ci
|0,_,_,_,_=>none
|z+1,c,d,e,i=>Zf (Atg (Kh z) l7 Brr Brs) JR l7 Brr Brs c d e i
def Ar0 b a g:=Kh b a g Ax
def NI(j27:LU->Jz3 ( (List (Int×Int×UInt64×UInt64×Unit))->Int->LB->Ci))(a g:Int)(ap aq:LX):Ci:=(NU a g ap aq).bind λ(b,ae)=>if(Bd ae 0)then
some (([]:LB),ae)
else(PA).bind λar=>j27 b a g 0 ar 0 ([]:LB)
def Oz:=NI Ar0
def Zk(b f g:Int)(h k:LB)(m:LX)(n:Bt5)(o:LB)(p:Bool)(u a:Int):Buv:=some (b,f,g,h,([]:LB),([]:LX),([]:Bt5),([]:LB),false,a,a)
abbrev Cr:=Option (Int×Int×Int×LB×LB×LX×(List LB)×LB×Bool×Int×Int)
def Bch:Cr:=some (z,d,i,e,Y,Brm,Br0,Bsq,C,j,0)
def UJ:=Bch
abbrev Bu4:=Int->LB->LX-> (List LB)->Cr
def EO(yE:Bu4)(p:Int)(n:LB)(a b g:Int)(f:LB)(h:Bool)(k o:Int)(m:LB)(u:Int)(ao:LB)(ap:LX)(aq:Bt5):Cr:=yE (Ae u 1) ao ap aq
def Re yE:=EO yE
def ER(j24:Bu4)(p:Int)(n:LB)(a b g:Int)(f:LB)(h:Bool)(k o:Int)(m:LB)(u ad:Int)(ae:LB)(af:LX)(ag:Bt5):Cr:=if(Bd ad 0)then(Zk a b g f ae af ag m h k ad).bind λ(ar,au,av,aw,ax,ay,az,ba,bb,bc,bd)=>some (ar,au,av,aw,ax,ay,az,ba,bb,bc,bd)
else
j24 u ae af ag
def Kx yE p n a b g f h k o m:=ER (Re yE p n a b g f h k o m) p n a b g f h k o m
abbrev Buw:=Int->Int->LB->LX-> (List LB)->Cr
def Bo9(j23:Buw)(p:Int)(n:LB)(a b g:Int)(f:LB)(h:Bool)(k o:Int)(m:LB)(u:Int)(ab:LX)(v:Bt5)(be:Int):Cr:=j23 u be ([]:LB) ab v
def Bpp yE p n a b g f h k o m:=Bo9 (Kx yE p n a b g f h k o m) p n a b g f h k o m
def Bef(j23:Buw)(p:Int)(n:LB)(a b g:Int)(f:LB)(h:Bool)(k o:Int)(m:LB)(u:Int)(ac:Bt5):Cr:=j23 u 0 ([]:LB) ([]:LX) ac
def Bd7 yE p n a b g f h k o m:=Bef (Kx yE p n a b g f h k o m) p n a b g f h k o m
def Bcn(j23:Buw)(j21:Int->LX-> (List LB)->Int->Cr)(j22:Int-> (List LB)->Cr)(p:Int)(n:LB)(a b g:Int)(f:LB)(h:Bool)(k o:Int)(m:LB)(u:Int)(aa:LB)(w:LX)(v:Bt5):Cr:=(UO b aa).bind λ(bf,ah)=>if(Bd ah 0)then
j23 u ah aa w v
else(Dm w bf).bind λab=>if(Cj (Ac ab) (Bm o a))then
j23 u 0 ([]:LB) ab v
else(Nu f).bind λ(bg,ai)=>if(Bd ai 0)then
j21 u ab v ai
else(Oz a b bg ab).bind λ(bh,aj)=>if(Bd aj 0)then
j21 u ab v aj
else(Dm v ([bh]:Bt5)).bind λac=>j22 u ac
def SZ yE p n a b g f h k o m:=Bcn (Kx yE p n a b g f h k o m) (Bpp yE p n a b g f h k o m) (Bd7 yE p n a b g f h k o m) p n a b g f h k o m
def FL(j24:Bu4)(j23:Buw)(j20:Bu4)(j26:Jz3 (LB->Bool->Int->LB->LX-> (List LB)->LB->Cr))(p:Int)(n:LB)(a b g:Int)(f:LB)(h:Bool)(k o:Int)(m:LB)(u:Int)(y:LB)(w:LX)(v:Bt5):Cr:=if(Cj u (Ac n))then(Ao n u).bind λbi=>(Dm y ([bi]:LB)).bind λaa=>if(Cj (Ac aa) p)then
j24 u aa w v
else(Vj a b g f aa w v m h k o).bind λbj=>(Vf a b g f aa w v m h k (Ae (Ac v) 1) (Ae bj 1)).bind λbk=>if(!bk)then
j23 u 18 aa w v
else
j20 u aa w v
else
j26 a b g f h k y w v m
def Km:Nat->Int->LB->LX-> (List LB)->Cr
|0,_,_,_,_=>none
|c+1,d,i,A,B=>FL (Re (Km c) z e j M Brp Y Bsc Bry Bsd Bse) (Kx (Km c) z e j M Brp Y Bsc Bry Bsd Bse) (SZ (Km c) z e j M Brp Y Bsc Bry Bsd Bse) UJ z e j M Brp Y Bsc Bry Bsd Bse d i A B
def Be4 p n a b g f h k o m:=Km p n a b g f h k o m Ax
def ZF(j14:Int->LB->Jz3 (LB->Bool->Int->Int->LB->Int->LB->LX-> (List LB)->Cr))(bl bm bn:Int)(bp bq:LB)(br:LX)(bs:Bt5)(bt:LB)(bu:Bool)(bv:Int)(n:LB):Cr:=(HY bl bm bn bp bq br bs bt bu bv).bind λ(a,b,g,f,ak,al,am,m,h,k,o,an)=>if(Bd an 0)then
some (a,b,g,f,ak,al,am,m,h,k,an)
else(Xj a b).bind λp=>j14 p n a b g f h k o m 0 ak al am
def MZ:=ZF Be4
def UZ:Bud:=if(Dz (Ac c) 64)then
some (0,2)
else
if(geq (Ac c) 0)then
some (1,0)
else
some (2,0)
def TH(b f a g h:Int):Bt2:=some (((((((geq b 1)||(geq b 2))&&(Dz f 0))&&(tZ f 6))&&(Dz g 0))&&(tZ g 1048576))&&(Dz h 0))
def Xs:=TH
def SY(j2:Jz5 (Option Bool))(b f a g h:Int):Bt2:=if(geq a 8)then
if(geq a 8)then
j2 b f a g h
else
some false
else
if(geq a 16)then
if(geq a 16)then
j2 b f a g h
else
some false
else
if(geq a 24)then
j2 b f a g h
else
some false
def Vh:=SY Xs
def Lh:Bud:=(Li z).bind λ(c,e)=>if(Bd e 0)then
some (0,e)
else
if((Cj d 1)||(Dz d 4000))then
some (0,2)
else(Jb (Bd c 0)).bind λ_=>if(Dz (Ca (Aq (Ae d c) 1) c) 1000)then
some (0,4)
else
some ((Ca (Aq (Ae d c) 1) c),0)
def XK(k a m f b:Int):Bt2:=(Jb (Bd a 0)).bind λ_=>if(Dz b (Ca 4000 a))then
some false
else(Lh f b).bind λ(g,h)=>some ((geq h 0)&&(tZ g 1000))
def Qk:Bt1:=(Vh z d i F E).bind λc=>if(!c)then
some 8
else(XK z d i F E).bind λe=>if(!e)then
some 8
else
some 0
abbrev Sj:=Option (LB×Int)
def Bgs:Sj:=(EN c).bind λ(z,d)=>(HF (Ag z:UInt64) 4).bind λ(e,i)=>(Dm c e).bind λj=>some (j,0)
def JC:=Bgs
def JA(j6:LB->Sj)(Tn:Int->LB->Sj)(b f g h k m:Int)(a:LB):Sj:=if(Cj m 5)then(Ao ([b,f,g,h,k]:LI) m).bind λw=>(Ao ([(2:Int),(2:Int),(2:Int),(4:Int),(4:Int)]:LI) m).bind λy=>(HF (Ag w:UInt64) y).bind λ(n,v)=>(Dm a n).bind λo=>Tn (Ae m 1) o
else
j6 a
def Po:Nat->Int->LB->Sj
|0,_,_=>none
|c+1,e,j=>JA JC (Po c) z d i F E e j
def Bhj b f g h k:=Po b f g h k Ax
def ZG(j4:Jz6 (LB->Sj))(b f g h k:Int):Sj:=(Qk b f g h k).bind λp=>if(Bd p 0)then
some (([]:LB),p)
else
j4 b f g h k 0 ([(84:UInt8),(84:UInt8),(65:UInt8),(49:UInt8)]:LB)
def OY:=ZG Bhj
def nu:Buz:=if(Dz (Ac c) 64)then
some (0,2)
else(mN c).bind λ(z,d)=>some (z,0)
def FF:Bvo:=(nu c).bind λ(z,d)=>if(Bd d 0)then
some (([]:LB),d)
else(HF z 8).bind λ(e,i)=>some (e,i)
def Aaj:Bt1:=some 0
def Bma:=Aaj
def QL:Bt1:=if(Cj r9 (Ac Br8))then(Ao Br8 r9).bind λz=>if((Cj z 5)||(Dz z Br2))then
some 8
else
Br7 (Aq Br2 z) (Ae r9 1)
else
Brw
def Xn:Nat->Int->Int->Option Int
|0,_,_=>none
|z+1,c,d=>QL Bma (Xn z) A c d
def Bl6 a:=Xn a Ax
abbrev Bvg:=LI->Int->Int->Option Int
def PM(j4:Bvg)(a:LI):Bt1:=if((geq (Ac a) 0)||(Dz (Ac a) 1000))then
some 8
else
j4 a 100000 0
def Ra:=PM Bl6
abbrev Js:=Option (LB×Int)
def Bmx:Js:=some (c,0)
def Bnr:=Bmx
def Bgu(j14:LB->Js)(b:LB):Js:=(EN b).bind λ(m,u)=>(HF (Ag m:UInt64) 4).bind λ(n,v)=>(Dm b n).bind λg=>j14 g
def YD:=Bgu Bnr
def Bhr(bk8:Int->LB->Js)(a:LI)(f:Int)(h:LB):Js:=bk8 (Ae f 1) h
def YM bk8:=Bhr bk8
def QJ(j11:Int->LB->Js)(j13:LB->Js)(a:LI)(f:Int)(b:LB):Js:=if(Cj f (Ac a))then(Ao a f).bind λo=>(HF (Ag o:UInt64) 4).bind λ(p,w)=>(Dm b p).bind λh=>j11 f h
else
j13 b
def Wu:Nat->Int->LB->Js
|0,_,_=>none
|z+1,c,d=>QJ (YM (Wu z) A) YD A c d
def Abl a:=Wu a Ax
def cW(j8:LI->Int->LB->Js)(a:LI):Js:=(Ra a).bind λk=>if(Bd k 0)then
some (([]:LB),k)
else
j8 a 0 ([]:LB)
def MG:=cW Abl
abbrev Ln:=Option (LB×Int)
def IM(f g h:Int)(b k:LB)(m:LX)(a:Bt5)(n:LB)(o:Bool)(p:Int)(u:LB)(v:LI):Ln:=(MG v).bind λ(aa,y)=>if(Bd y 0)then
some (([]:LB),y)
else(
(Dm u aa).bind λab=>(Gd a).bind λac=>(Dm ab ac).bind λad=>some (ad,0))
def Zv:=IM
def IP(j8:Jz3 (LB->LB->LX-> (List LB)->LB->Bool->Int->LB->LI->Ln))(M0:Int->LI->Ln)(a:Bt5)(f g h:Int)(b k:LB)(m:LX)(n:LB)(o:Bool)(p:Int)(u:LB)(w:Int)(v:LI):Ln:=if(Cj w (Ac a))then(Ao a w).bind λai=>(Dm v ([(Ac ai)]:LI)).bind λaj=>M0 (Ae w 1) aj
else
j8 f g h b k m a n o p u v
def Ug:Nat->Int->LI->Ln
|0,_,_=>none
|z+1,c,d=>IP Zv (Ug z) G j M Brp Y Brz Brm Bs9 Btu Btv Btw c d
def Bnm a f g h b k m n o p u:=Ug a f g h b k m n o p u Ax
def JE(j6:(List LB)->Jz3 (LB->LB->LX->LB->Bool->Int->LB->Int->LI->Ln))(f g h:Int)(b k:LB)(m:LX)(a:Bt5)(n:LB)(o:Bool)(p:Int)(u:LB):Ln:=j6 a f g h b k m n o p u 0 ([]:LI)
def XY:=JE Bnm
def YA(j5:Jz3 (LB->LB->LX-> (List LB)->LB->Bool->Int->LB->Ln))(f g h:Int)(b k:LB)(m:LX)(a:Bt5)(n:LB)(o:Bool)(p ak:Int):Ln:=(UZ b).bind λ(al,ae)=>if(Bd ae 0)then
some (([]:LB),ae)
else(OY al f g h ak).bind λ(af,ag)=>if(Bd ag 0)then
some (([]:LB),ag)
else
if(b !=([]:LB))then(FF b).bind λ(am,ah)=>if(Bd ah 0)then
some (([]:LB),ah)
else(Dm af am).bind λan=>j5 f g h b k m a n o p an
else
j5 f g h b k m a n o p af
def bE:=YA XY
abbrev Rl:=Option (Int×Int×Int×LB×LB×LX×(List LB)×LB×Bool×Int×Int)
def NL:Rl:=(bE d i F e Y Brm Br0 Brz C j z).bind λ(c,A)=>if(Bd A 0)then(Zk d i F e Y Brm Br0 Brz C j A).bind λ(B,D,E,G,I,J,L,M,N,O,P)=>some (B,D,E,G,I,J,L,M,N,O,P)
else
some (d,i,F,e,([]:LB),([]:LX),([]:Bt5),c,true,0,0)
def CC:=NL
abbrev Buy:=Jz4 (LB->Bool->Int->LB->LB->LX-> (List LB)->Rl)
def Axk(j4:Buy)(o a b g:Int)(f:LB)(k:Bool)(m:Int)(h n:LB)(ad:Int)(ae:LX)(af:Bt5):Rl:=if(Bd ad 0)then(Zk a b g f h ae af n k m ad).bind λ(au,v,w,av,aw,ax,y,aa,ay,az,ba)=>some (au,v,w,av,aw,ax,y,aa,ay,az,ba)
else
j4 o a b g f k m h n ae af
def Ay5:=Axk CC
def Azv(j3:Jz4 (LB->Bool->Int->LB->LB->Int->LX-> (List LB)->Rl))(j4:Buy)(bb bc bd:Int)(be bf:LB)(bg:LX)(bh:Bt5)(bi:LB)(bj:Bool)(bk:Int):Rl:=(HY bb bc bd be bf bg bh bi bj bk).bind λ(a,b,g,f,h,p,u,n,k,m,bl,ag)=>if(Bd ag 0)then
some (a,b,g,f,h,p,u,n,k,m,ag)
else(Vj a b g f h p u n k m bl).bind λo=>if((Dz (Ac h) 0)||(geq o 0))then(Zk a b g f h p u n k m 24).bind λ(bm,bn,bp,bq,br,bs,bt,bu,bv,bw,bx)=>some (bm,bn,bp,bq,br,bs,bt,bu,bv,bw,bx)
else
if(Dz (Ac p) 0)then(Nu f).bind λ(bz,ah)=>if(Bd ah 0)then
j3 o a b g f k m h n ah p u
else(Oz a b bz p).bind λ(da,ai)=>if(Bd ai 0)then
j3 o a b g f k m h n ai p u
else(Dm u ([da]:Bt5)).bind λdb=>j3 o a b g f k m h n 0 ([]:LX) db
else
j4 o a b g f k m h n p u
def CR:=Azv Ay5 CC
def HN:Option (Int×Int×Int×LB×LB×LX×(List LB)×LB×Bool×Int×LB×Int):=(Ij z d i e N J G O C j).bind λc=>if(Bd c 0)then
some (0,0,0,([]:LB),([]:LB),([]:LX),([]:Bt5),([]:LB),false,0,([]:LB),c)
else
if(Cj M 0)then
some (0,0,0,([]:LB),([]:LB),([]:LX),([]:Bt5),([]:LB),false,0,([]:LB),2)
else(PC z d i e N J G O C j).bind λ(A,B,D,E,F,I,L,P,R,T)=>(Bp P 0 (Fq M (Ac P))).bind λU=>(Bz U).bind λV=>(Bp P (Fq M (Ac P)) (Ac P)).bind λX=>some (A,B,D,E,F,I,L,X,R,T,V,0)
abbrev Jz:=Option (LB×Int)
def Az3:Jz:=(CR z d i e Y Brm Br0 Bsq C j).bind λ(c,A,B,D,E,F,G,I,J,L,M)=>if(Bd M 0)then
some (([]:LB),M)
else(HN c A B D E F G I J L 100000).bind λ(N,O,P,R,T,U,V,X,Z,l5,l6,l7)=>some (l6,l7)
def OW:=Az3
def UG(M0:LB->Jz4 (LB->Bool->Int->LB->LX-> (List LB)->LB->Jz))(a:LI)(f:LB)(ac ae b y af ag:Int)(ah:LB)(ai:Bool)(ad:Int)(aa:LB)(ab:LX)(aj:Bt5)(ak:LB):Jz:=if(Bd ac 0)then
some (([]:LB),ac)
else(Bp f ae (Ac f)).bind λba=>M0 ba (Ae b 1) y af ag ah ai ad aa ab aj ak
def EG M0:=UG M0
def EH(j8:LB->Jz6 (LB->Bool->Int->LB->LX-> (List LB)->LB->Jz))(j10:Jz3 (LB->Bool->Int->LB->LX-> (List LB)->LB->Jz))(a:LI)(f:LB)(b g h k:Int)(m:LB)(n:Bool)(o:Int)(p:LB)(u:LX)(v:Bt5)(w:LB):Jz:=if(Cj b (Ac a))then(Ao a b).bind λ_=>(Ao a b).bind λae=>(Bp f 0 ae).bind λbb=>(MZ g h k m p u v w n o bb).bind λ(y,af,ag,ah,aa,ab,aj,ak,ai,ad,ac)=>j8 f ac ae b y af ag ah ai ad aa ab aj ak
else
j10 g h k m n o p u v w
def Ro:Nat->LB->Jz4 (LB->Bool->Int->LB->LX-> (List LB)->LB->Jz)
|0,_,_,_,_,_,_,_,_,_,_,_,_=>none
|z+1,c,d,e,i,j,B,C,D,E,F,G,I=>EH (EG (Ro z) A) OW A c d e i j B C D E F G I
def Bod a:=Ro a Ax
def SU(j6:LI->LB->Jz4 (LB->Bool->Int->LB->LX-> (List LB)->LB->Jz))(bc bd be:Int)(bf am:LB)(bg:UInt64):Jz:=(HD (Ac am) bg).bind λ(a,an)=>if(Bd an 0)then
some (([]:LB),an)
else(WR bc bd be bf).bind λ(bh,bi,bj,bk,bl,bm,bn,bp,bq,br,ao)=>if(Bd ao 0)then
some (([]:LB),ao)
else
j6 a am 0 bh bi bj bk bq br bl bm bn bp
def IF:=SU Bod
abbrev Bv1:=Option (UInt64×UInt64)
def YR:Bv1:=some ((Ae (Ae (Bm (Cy D (GI.toZ (32:UInt64)).toNat) (Cy l6 (GI.toZ (32:UInt64)).toNat)) (Cy (Ae (Bm (Cy D (GI.toZ (32:UInt64)).toNat) (Fy l6 4294967295)) (Cy (Bm (Fy D 4294967295) (Fy l6 4294967295)) (GI.toZ (32:UInt64)).toNat)) (GI.toZ (32:UInt64)).toNat)) (Cy (Ae (Fy (Ae (Bm (Cy D (GI.toZ (32:UInt64)).toNat) (Fy l6 4294967295)) (Cy (Bm (Fy D 4294967295) (Fy l6 4294967295)) (GI.toZ (32:UInt64)).toNat)) 4294967295) (Bm (Fy D 4294967295) (Cy l6 (GI.toZ (32:UInt64)).toNat))) (GI.toZ (32:UInt64)).toNat)),(Bm D l6))
def IA:Bv1:=(YR D l6).bind λ(z,c)=>some (z,c)
abbrev Bl:=Option ((List (UInt8×Int×Unit)))
def Bnb:Bl:=some Brt
def Afo:=Bnb
abbrev Bvi:=Int-> (List (UInt8×Int×Unit))->Bl
def Kj(j10:(List (UInt8×Int×Unit))->Bl)(bk8:Bvi)(b:Int)(a:Bt6):Bl:=if(Cj b (Ac a))then(
(dZ (Ac a) b (Ac a)).bind λ_=>(dZ (Ac a) 0 b).bind λ_=>bk8 (Ae b (PO ((Ac a)-b) (QY a 0 (b-(0:Int))).length)) (Ww a b ((Ac a)-b) (QY a 0 (b-(0:Int)))))
else
j10 a
def Kk:Nat->Int-> (List (UInt8×Int×Unit))->Bl
|0,_,_=>none
|q+1,b,a=>Kj Afo (Kk q) b a
def Bng:=Kk Ax
def Agp(j8:Bvi)(f:Bt6)(g:UInt64):Bl:=(mkI (Ag g:Int) ((0:UInt8),(0:Int),())).bind λk=>(Jb (geq (Ag g:Int) (Ag g:Int))).bind λ_=>j8 (PO (Ac k) f.length) (XS k f)
def Bne:=Agp Bng
def Ahe(j7:(List (UInt8×Int×Unit))->UInt64->Bl)(f:Bt6)(h:Int):Bl:=(IA (Ag (Ac f):UInt64) (Ag h:UInt64)).bind λ(m,g)=>if((Dz m 0)||(Dz g 9223372036854775807))then
none
else
j7 f g
def Bnf:=Ahe Bne
def Ago(j6:(List (UInt8×Int×Unit))->Int->Bl)(f:Bt6)(h:Int):Bl:=if(Cj h 0)then
none
else
j6 f h
def Mn:=Ago Bnf
def LC:Option ((List (UInt8×Int×Unit))×Int):=if((((((Cj z 0)||(Dz z 100000))||(Cj d 1))||(Dz d 100000))||(Cj i 0))||(Dz i 100000))then
some (([]:Bt6),2)
else(Jb (Bd d 0)).bind λ_=>if(Dz (Ae (Bm 2 (Ca (Aq (Ae z d) 1) d)) 2) 200)then
some (([]:Bt6),4)
else(Mn ([((1:UInt8),d,()),((2:UInt8),i,())]:Bt6) (Ca (Aq (Ae z d) 1) d)).bind λc=>(Dm c ([((3:UInt8),(0:Int),()),((2:UInt8),(100000:Int),())]:Bt6)).bind λe=>some (e,0)
def IQ:Bt2:=if Br9 then
some ((Le o9 0)&&(tZ o9 100000))
else
if(geq Brx 3)then
some (geq o9 0)
else
some false
def Bhd:=IQ
def Bga(j2:UInt8->Int->Bool->Option Bool)(a:UInt8)(b:Int):Bt2:=if(geq a 1)then
j2 a b (geq a 1)
else
j2 a b (geq a 2)
def qQ:=Bga Bhd
def PB:Bt2:=(qQ Brx o9).bind λz=>some (!z)
def Boh:Bt1:=some 0
def Bpf:=Boh
def Bpo:Bt1:=if Br9 then
some 2
else
Brw
def Bpq:=Bpo Bpf
def Boi:Bt1:=Bro Bsa
def Bdn:=Boi Bpq
def Bow:Bt1:=Bro (Le (-1:Int) (0:Int))
def Bdr:=Bow Bdn
def Bd9(ZY:Bvc)(a:Bt6)(b:Int):Bt1:=ZY (Ae b 1)
def Bfc ZY:=Bd9 ZY
def Bea(j18:Bvx)(j15:Bvc)(a:Bt6)(b:Int)(g:Bool):Bt1:=if g then
j18 (Le b 0)
else
j15 b
def SS ZY a:=Bea Bdn (Bfc ZY a) a
def FC(j14:Int->Bool->Option Int)(j17:Bt1)(a:Bt6)(b:Int):Bt1:=if(Cj b (Ac a))then(Ao a b).bind λh=>(PB h.1 h.2.1).bind λg=>j14 b g
else
j17
def Rj:Nat->Int->Option Int
|0,_=>none
|z+1,c=>FC (SS (Rj z) Brt) Bdr Brt c
def Bp2 a:=Rj a Ax
def YS(j11:(List (UInt8×Int×Unit))->Int->Option Int)(a:Bt6):Bt1:=if(Dz (Ac a) 200)then
some 4
else
j11 a 0
def aZ:=YS Bp2
abbrev Bt7:=Option (LB×LB×Int×Int×Int×Int×Int×LI×Int×LB×Bool×Int×Int)
def Uw:Bt7:=if(Dz (Ac c) 64)then
some (([]:LB),([]:LB),0,0,0,0,0,([]:LI),0,([]:LB),false,0,2)
else
some (c,([]:LB),0,0,0,0,0,([]:LI),0,([]:LB),false,0,0)
def Ks:Bt9:=(
(Dm ([]:LB) c).bind λz=>some z)
abbrev Buk:=Option (LI)
def Ig:Buk:=(
(Dm ([]:LI) A).bind λz=>some z)
abbrev Bux:=Option (LB×LB×Int×Int×Int×Int×Int×LI×Int×LB×Bool×Int)
def Ev:Bux:=(Ks I).bind λB=>(Ks e).bind λD=>(Ig A).bind λG=>some (c,B,z,d,i,F,E,G,R,D,C,j)
def Tp:Buk:=some A
def Mq:=Tp
abbrev Bv5:=LI->Option (LI)
def Jt(j10:Bv5)(bk8:Bvb)(b:Int)(a:LI):Buk:=if(Cj b (Ac a))then(
(dZ (Ac a) b (Ac a)).bind λ_=>(dZ (Ac a) 0 b).bind λ_=>bk8 (Ae b (PO ((Ac a)-b) (QY a 0 (b-(0:Int))).length)) (Ww a b ((Ac a)-b) (QY a 0 (b-(0:Int)))))
else
j10 a
def Hb:Nat->Int->LI->Option (LI)
|0,_,_=>none
|q+1,b,a=>Jt Mq (Hb q) b a
def Abe:=Hb Ax
def Vt:Buk:=(mkI (Ag Btc:Int) (0:Int)).bind λz=>(Jb (geq (Ag Btc:Int) (Ag Btc:Int))).bind λ_=>Bt0 (PO (Ac z) Bti.length) (XS z Bti)
def Aba:=Vt Abe
def Vi(j7:LI->UInt64->Option (LI))(f:LI)(h:Int):Buk:=(IA (Ag (Ac f):UInt64) (Ag h:UInt64)).bind λ(m,g)=>if((Dz m 0)||(Dz g 9223372036854775807))then
none
else
j7 f g
def Abf:=Vi Aba
def Vq(j6:LI->Int->Option (LI))(f:LI)(h:Int):Buk:=if(Cj h 0)then
none
else
j6 f h
def Tj:=Vq Abf
def Bog:Buk:=some A
def Ab2:=Bog
def Jc(j16:Bv5)(yE:Bvb)(a:Bvs)(g:Int)(f:LI):Buk:=if(Cj g (Ac a))then(Ao a g).bind λn=>(Dm f n).bind λo=>yE (Ae g 1) o
else
j16 f
def Gm:Nat->Int->LI->Option (LI)
|0,_,_=>none
|z+1,c,d=>Jc Ab2 (Gm z) Btd c d
def Tt a:=Gm a Ax
def Tq(j14:(List LI)->Int->LI->Option (LI))(a:Bvs)(p:LI):Buk:=j14 a 0 p
def Tu:=Tq Tt
def Tr(j13:(List LI)->LI->Option (LI))(b:Int)(a:Bvs):Buk:=if(Dz (Aq b (Aq (0:Int) (0:Int))) 0)then(dZ 0 0 0).bind λ_=>(mkI (Aq b (Aq (0:Int) (0:Int))) (0:Int)).bind λu=>(Dm ([]:LI) u).bind λk=>(dZ (Ac k) 0 0).bind λ_=>j13 a (QY k 0 ((0:Int)-(0:Int)))
else
j13 a ([]:LI)
def Ab1:=Tr Tu
def Tw(j12:Int-> (List LI)->Option (LI))(a:Bvs)(b:Int):Buk:=if(Cj b 0)then
none
else
j12 b a
def Ab0:=Tw Ab1
def Jr(j11:(List LI)->Int->Option (LI))(bk9:Int->Int->Option (LI))(a:Bvs)(b h:Int):Buk:=if(Cj h (Ac a))then(Ao a h).bind λm=>if(Cj (Ae b (Ac m)) 0)then
none
else
bk9 (Ae b (Ac m)) (Ae h 1)
else
j11 a b
def Ha:Nat->Int->Int->Option (LI)
|0,_,_=>none
|z+1,c,d=>Jr Ab0 (Ha z) Btd c d
def Ab8 a:=Ha a Ax
def Vo(j9:(List LI)->Int->Int->Option (LI))(a:Bvs):Buk:=j9 a 0 0
def Ta:=Vo Ab8
def dQ:Buk:=(Ta ([A,Bsb]:Bvs)).bind λz=>some z
abbrev Bvz:=Option (LI×Int)
def CZ:Bvz:=(Lh z d).bind λ(c,e)=>if(Bd e 0)then
some (([]:LI),e)
else(Li z).bind λ(i,j)=>(Tj ([i]:LI) (Aq c 1)).bind λA=>(dQ A ([(Aq d (Bm (Aq c 1) i))]:LI)).bind λB=>some (B,0)
def Ec:Bvz:=(Qk z d i F E).bind λc=>if(Bd c 0)then
some (([]:LI),c)
else(CZ F E).bind λ(e,j)=>some (e,j)
def Se(a f g h k:Int)(b:LB):Bt1:=if((b==([]:LB)) !=(geq a 1))then
some 26
else
some 0
def Bg8(y:Int)(o p:LB)(h b f k m:Int)(g:LI)(a:Int)(n:LB)(u:Bool)(v:Int):Bt2:=some (tZ (Ac n) y)
def YU:=Bg8
def II(j8:Int->LB->LB->Jz5 (LI->Int->LB->Bool->Int->Option Bool))(M0:Int->Int->Option Bool)(w:LI)(o p:LB)(h b f k m:Int)(g:LI)(a:Int)(n:LB)(u:Bool)(v y aa:Int):Bt2:=if(Cj aa (Ac w))then(Ao w aa).bind λac=>M0 (Ae y (Ca (Bm (Bm ac b) f) 8)) (Ae aa 1)
else
j8 y o p h b f k m g a n u v
def Tz:Nat->Int->Int->Option Bool
|0,_,_=>none
|z+1,c,d=>II YU (Tz z) A e N j M Brp Bs5 Bs6 Bs0 Bs7 Y Bsc Bry c d
def Bho w o p h b f k m g a n u v:=Tz w o p h b f k m g a n u v Ax
def YT(j6:LI->LB->LB->Jz5 (LI->Int->LB->Bool->Int->Int->Int->Option Bool))(o p:LB)(h b f k m:Int)(g:LI)(a:Int)(n:LB)(u:Bool)(v:Int)(ab:LI):Bt2:=if(geq (Ac g) 0)then
some ((geq a 0)&&(geq (Ac n) 0))
else(Ra g).bind λad=>if((((Bd ad 0)||(Bd (Ac g) (Ac ab)))||(Cj a 0))||(Dz a (Ac ab)))then
some false
else(Bp ab 0 a).bind λw=>j6 w o p h b f k m g a n u v 0 0
def Bhm:=YT Bho
def ZA(j5:LB->LB->Jz5 (LI->Int->LB->Bool->Int->LI->Option Bool))(o p:LB)(h b f k m:Int)(g:LI)(a:Int)(n:LB)(u:Bool)(v:Int):Bt2:=if((geq h 0)&&((geq b 0)&&((geq f 0)&&((geq k 0)&&((geq m 0)&&true)))))then
some (((geq (Ac g) 0)&&(geq a 0))&&(geq (Ac n) 0))
else(Ec h b f k m).bind λ(ab,ae)=>if(Bd ae 0)then
some false
else(Se h b f k m o).bind λaf=>if(Bd af 0)then
some false
else
j5 o p h b f k m g a n u v ab
def EM:=ZA Bhm
def Jj:Bt2:=some (c==I)
def Pp:Bt2:=if(Le (Ac c) (Ac I))then(Bp c 0 (Ac I)).bind λz=>(Jj z I).bind λd=>some d
else
some false
abbrev Pu:=Option (Int×Int)
def Bok:Pu:=some (z,0)
def Bel:=Bok
def EU(j6:Int->Pu)(Tn:Int->Int->Pu)(a:LB)(b f:Int):Pu:=if(Cj f (Ac a))then(Ao a f).bind λg=>if(Dz g 127)then
some (0,12)
else
Tn (I7 (Eh b (GI.toZ (7:UInt64)).toNat) (Ag g:Int)) (Ae f 1)
else
j6 b
def Ri:Nat->Int->Int->Pu
|0,_,_=>none
|z+1,d,e=>EU Bel (Ri z) c d e
def Bbc a:=Ri a Ax
def UF(j4:LB->Int->Int->Pu)(a:LB):Pu:=if(Bd (Ac a) 4)then
some (0,2)
else
j4 a 0 0
def UQ:=UF Bbc
abbrev Ma:=Option (Int×Int)
def Bgz:Ma:=if(Dz o9 4000)then
some (0,4)
else
if(Cj (Ac c) o9)then
some (0,24)
else
if(geq Brx 16)then(Bp c (Aq o9 10) o9).bind λz=>(Bp z 0 3).bind λd=>if(d !=([51,68,73]:LB))then
some (0,12)
else(Bp z 3 (Ac z)).bind λe=>(Bp c 3 10).bind λi=>(Jj e i).bind λj=>if(!j)then
some (0,12)
else
some (o9,0)
else
some (o9,0)
def YI:=Bgz
def Bhl(j8:LB->UInt8->Int->Ma)(a:LB)(g:Int)(b:UInt8):Ma:=if(geq b 16)then
j8 a b (Ae (Ae g 10) 10)
else
j8 a b (Ae g 10)
def ZE:=Bhl YI
def Bg6(j7:LB->Int->UInt8->Ma)(a:LB)(g:Int)(b:UInt8)(m:Bool):Ma:=if m then
some (0,12)
else
j7 a g b
def YB:=Bg6 ZE
def ZC(j6:LB->Int->UInt8->Bool->Ma)(a:LB)(f b:UInt8):Ma:=(Bp a 6 10).bind λaa=>(UQ aa).bind λ(g,ab)=>if(Bd ab 0)then
if true then
j6 a g b true
else
if(geq b 0)then
j6 a g b (!((Le f 2)&&(tZ f 4)))
else
if(geq b 16)then
j6 a g b (!(geq f 4))
else
j6 a g b (!false)
else(Ao a 4).bind λac=>if(Bd ac 0)then
j6 a g b true
else
if(geq b 0)then
j6 a g b (!((Le f 2)&&(tZ f 4)))
else
if(geq b 16)then
j6 a g b (!(geq f 4))
else
j6 a g b (!false)
def YK:=ZC YB
def IL(j5:LB->UInt8->UInt8->Ma)(a:LB):Ma:=(Pp a ([(73:UInt8),(68:UInt8),(51:UInt8)]:LB)).bind λn=>if(!n)then
some (0,6)
else
if(Cj (Ac a) 10)then
some (0,24)
else(Ao a 3).bind λf=>(Ao a 5).bind λb=>(
(
(
j5 a f b)))
def aP:=IL YK
abbrev KI:=Option (UInt64×Int)
def Aih:KI:=some (D,0)
def Bm8:=Aih
def iD(j6:UInt64->KI)(Tn:UInt64->Int->KI)(a:LB)(f:UInt64)(b:Int):KI:=if(Cj b (Ac a))then(Ao a b).bind λg=>(Jb (Le (Bm 8 b) 0)).bind λ_=>Tn (I7 f (Eh (Ag g:UInt64) (GI.toZ (Bm 8 b)).toNat)) (Ae b 1)
else
j6 f
def KR:Nat->UInt64->Int->KI
|0,_,_=>none
|z+1,d,e=>iD Bm8 (KR z) c d e
def Bmo a:=KR a Ax
def yB(j4:LB->UInt64->Int->KI)(a:LB):KI:=if((Cj (Ac a) 1)||(Dz (Ac a) 8))then
some (0,2)
else
j4 a 0 0
def vQ:=yB Bmo
def nH:Buz:=if(((Cj d 1)||(Dz d 8))||(Cj z 0))then
some (0,2)
else
if(Dz z (Aq (Ac c) d))then
some (0,24)
else(Bp c z (Ae z d)).bind λe=>(vQ e).bind λ(i,j)=>some (i,j)
def xZ:Bt9:=some c
def H9:=xZ
def qA:Bt9:=if(Cj Bsf (Ac ([(2000:UInt64),(Ag (Ae l5 32):UInt64),(Ag Bst:UInt64),Br4,(0:UInt64),(0:UInt64)]:LQ)))then(Ao ([(2000:UInt64),(Ag (Ae l5 32):UInt64),(Ag Bst:UInt64),Br4,(0:UInt64),(0:UInt64)]:LQ) Bsf).bind λ_=>(Ao ([(2000:UInt64),(Ag (Ae l5 32):UInt64),(Ag Bst:UInt64),Br4,(0:UInt64),(0:UInt64)]:LQ) Bsf).bind λz=>(HF z 4).bind λ(c,d)=>(Dm Bsg c).bind λe=>Bss (Ae Bsf 1) e
else
Bsr Bsg
def KL:Nat->Int->LB->Option (LB)
|0,_,_=>none
|c+1,e,i=>qA H9 (KL c) z d D e i
def Bfj a b f:=KL a b f Ax
def J8(j4:Int->Int->UInt64->Int->LB->Option (LB))(a b:Int)(f:UInt64):Bt9:=j4 a b f 0 ([(65:UInt8),(80:UInt8),(69:UInt8),(84:UInt8),(65:UInt8),(71:UInt8),(69:UInt8),(88:UInt8)]:LB)
def yS:=J8 Bfj
abbrev Bv2:=Option (Int×Int×Bool)
def bK:Bv2:=(nH c 12 4).bind λ(z,d)=>(nH c 16 4).bind λ(e,i)=>if(((Cj z 32)||(Dz z 3032))||(Dz e 1000))then
some (0,0,false)
else(yS (Aq (Ag z:Int) 32) (Ag e:Int) D).bind λj=>(Jj c j).bind λA=>some ((Aq (Ag z:Int) 32),(Ag e:Int),A)
def yV:Bud:=(Pp c ([(65:UInt8),(80:UInt8),(69:UInt8),(84:UInt8),(65:UInt8),(71:UInt8),(69:UInt8),(88:UInt8)]:LB)).bind λz=>if(!z)then
some (0,6)
else
if(Cj (Ac c) 32)then
some (0,24)
else(Bp c 0 32).bind λd=>(bK d 2684354560).bind λ(e,i,j)=>if(!j)then
some (0,12)
else
if(Cj (Ac c) (Ae e 64))then
some (0,24)
else(Bp c (Aq (Ae e 64) 32) (Ae e 64)).bind λA=>(yS e i 2147483648).bind λB=>(Jj A B).bind λC=>if(!C)then
some (0,12)
else
some ((Ae e 64),0)
def DH:Bud:=(aP c).bind λ(z,d)=>if(Bd d 6)then
some (z,d)
else(yV c).bind λ(e,i)=>some (e,i)
def AN(b:List UInt8):Nat->Int->Option (Int×Int)
  |0,_=>none
  |q+1,x=>Option.bind (Bp b x (Ac b)) λs=>Option.bind (DH s) λr=>
    if geq r.2 (6:Int)=true then some (x,0)
    else if(geq r.2 (0:Int)&&Dz (Ae x r.1) (4000:Int))=true then some (0,4)
    else if Bd r.2 (0:Int)=true then some (0,r.2)
    else AN b q (Ae x r.1)
def Ku(b:List UInt8):Bud:=AN b Ax 0
def Am:Option (Bool×Int):=some (false,z)
def Iu:Bt2:=if(Le (Ac c) (Ac I))then(Bp c 0 (Ac I)).bind λz=>some (z==I)
else
some false
def Lk:Bt2:=(Iu c I).bind λz=>some z
def Bnc:Bt2:=some false
def Bgy:=Bnc
def Zt(j6:Bt2)(Tn:Bvl)(a:LB)(b:Int):Bt2:=if(Cj b 2)then(Ao ([([73,68,51]:LB),([65,80,69,84,65,71,69,88]:LB)]:Bt5) b).bind λf=>if(Cj (Ac a) (Ac f))then(Lk f a).bind λg=>if g then
some true
else
Tn (Ae b 1)
else
Tn (Ae b 1)
else
j6
def Ml:Nat->Int->Option Bool
|0,_=>none
|z+1,d=>Zt Bgy (Ml z) c d
def Bh0 a:=Ml a Ax
def YY(j4:LB->Int->Option Bool)(a:LB):Bt2:=j4 a 0
def Vg:=YY Bh0
abbrev Vv:=Option (Int×Int×Int×Int×Int×Int)
def Bm2:Vv:=(Ao A 0).bind λ_=>(Ao A 0).bind λz=>(Ao A 1).bind λ_=>(Ao A 1).bind λc=>(Ao A 2).bind λ_=>(Ao A 2).bind λd=>(Ao A 3).bind λ_=>(Ao A 3).bind λe=>(Ao A 4).bind λ_=>(Ao A 4).bind λi=>(Vh z c d e i).bind λj=>if(!j)then
some (0,0,0,0,0,12)
else(XK z c d e i).bind λB=>if(!B)then
some (0,0,0,0,0,4)
else
some (z,c,d,e,i,0)
def NG:=Bm2
def NH(j6:LI->Vv)(Tn:Int->Int->LI->Vv)(b:LB)(g f:Int)(a:LI):Vv:=if(Cj f 5)then(Ao ([(2:Int),(2:Int),(2:Int),(4:Int),(4:Int)]:LI) f).bind λh=>(nH b g h).bind λ(v,ae)=>(Ao a f).bind λ_=>(Pc a f (Ag v:Int)).bind λw=>Tn (Ae g h) (Ae f 1) w
else
j6 a
def Rt:Nat->Int->Int->LI->Vv
|0,_,_,_=>none
|z+1,d,e,i=>NH NG (Rt z) c d e i
def dE b:=Rt b Ax
def eS(j4:LB->Int->Int->LI->Vv)(b:LB):Vv:=(Bp b 0 (Fq 4 (Ac b))).bind λy=>(Lk ([84,84,65,49]:LB) y).bind λaa=>if(!aa)then
some (0,0,0,0,0,12)
else
if(Cj (Ac b) 22)then
some (0,0,0,0,0,24)
else(nH b 18 4).bind λ(ab,af)=>(Bp b 0 18).bind λac=>(EN ac).bind λ(ad,ag)=>if(Bd (Ag ad:UInt64) ab)then
some (0,0,0,0,0,22)
else
j4 b 4 0 (List.replicate 5 (0:Int))
def Ok:=eS dE
def Qt:Option (Bool×Int):=(FF I).bind λ(z,d)=>if((Bd d 0)||(Bd (Ac c) (Ac z)))then
some (false,2)
else(Jj c z).bind λe=>some (e,0)
abbrev Zg:=Option (LI×Int)
def Aay:Zg:=(Ra A).bind λz=>if(Bd z 0)then
some (([]:LI),12)
else
some (A,0)
def UL:=Aay
def UP(j6:LI->Zg)(Tn:Int->LI->Zg)(a:LB)(f:LI)(g:Int)(b:LI):Zg:=if(Cj g (Ac f))then(nH a (Bm 4 g) 4).bind λ(k,u)=>(Ao b g).bind λ_=>(Pc b g (Ag k:Int)).bind λm=>Tn (Ae g 1) m
else
j6 b
def AI:Nat->Int->LI->Zg
|0,_,_=>none
|z+1,d,e=>UP UL (AI z) c A d e
def Aae a f:=AI a f Ax
def kV(j4:LB->LI->Int->LI->Zg)(a:LB)(h:Int):Zg:=if((Cj h 1)||(Dz h 1000))then
some (([]:LI),2)
else
if(Cj (Ac a) (Ae (Bm 4 h) 4))then
some (([]:LI),24)
else(nH a (Bm 4 h) 4).bind λ(n,v)=>(Bp a 0 (Bm 4 h)).bind λo=>(EN o).bind λ(p,w)=>if(Bd (Ag p:UInt64) n)then
some (([]:LI),22)
else(mkI h (0:Int)).bind λf=>(Jb (geq h h)).bind λ_=>j4 a f 0 f
def JT:=kV Aae
def HK(f a b g h:Int):Bud:=some (a,b)
def OP:Bvo:=if(Cj (Ac c) 5)then
some (([]:LB),24)
else
if(Dz (Ac c) 41254)then
some (([]:LB),4)
else(Bp c 0 (Aq (Ac c) 4)).bind λz=>(EN z).bind λ(d,e)=>if(Bd e 0)then
some (([]:LB),e)
else(Bp c (Aq (Ac c) 4) (Ac c)).bind λi=>(vQ i).bind λ(j,A)=>if((Bd A 0)||(Bd j (Ag d:UInt64)))then
some (([]:LB),22)
else(Bp c 0 (Aq (Ac c) 4)).bind λB=>some (B,0)
def rS:Bv9:=if(Dz (Ac c) 41250)then
some (([]:LB),0,4)
else(Bz c).bind λz=>some (z,(Bm 8 (Ac c)),0)
abbrev Buc:=Option UInt64
def Alv:Buc:=some D
def Bmn:=Alv
def wS(j6:Bv8)(Tn:Bvv)(b f:Int)(h:LB)(k:Int)(g:UInt64)(a:Int):Buc:=if(Cj a f)then(Ao h (Q6 (Ae b a) (GI.toZ (3:UInt64)).toNat)).bind λm=>(Jb (Le (Fy (Ae b a) 7) 0)).bind λ_=>(Jb (Le (Fq (Aq f a) (Aq 8 (Fy (Ae b a) 7))) 0)).bind λ_=>(Jb (Le a 0)).bind λ_=>Tn (I7 g (Eh (Ag (Fy (Cy m (GI.toZ (Fy (Ae b a) 7)).toNat) (Aq (Eh (1:UInt8) (GI.toZ (Fq (Aq f a) (Aq 8 (Fy (Ae b a) 7)))).toNat) 1)):UInt64) (GI.toZ a).toNat)) (Ae a (Fq (Aq f a) (Aq 8 (Fy (Ae b a) 7))))
else
j6 g
def WI:Nat->UInt64->Int->Option UInt64
|0,_,_=>none
|c+1,i,A=>wS Bmn (WI c) z d e j i A
def Aja b f h k:=WI b f h k Ax
def Bja(j4:Int->Int->LB->Int->UInt64->Int->Option UInt64)(h:LB)(k b f:Int):Buc:=j4 b f h k 0 0
def T5:=Bja Aja
abbrev Hj:=Option (LB×Int×Int)
def Ahh:Hj:=some (e,z,0)
def pF:=Ahh
abbrev Bv0:=Int->Int->LB->Hj
def Aez(rN:Bv0)(a:Int)(g:LB)(b f h:Int)(u:LB):Hj:=rN (Ae f 64) h u
def aO rN:=Aez rN
abbrev Bvh:=UInt64->Int->Int->LB->Hj
def Afb(NA:Bvh)(a f:Int)(g:LB)(b:Int)(m n:UInt64)(k h:Int)(w:LB):Hj:=(Jb (Le (Fq k (Aq 8 (Fy h 7))) 0)).bind λ_=>NA (Cy n (GI.toZ (Fq k (Aq 8 (Fy h 7)))).toNat) (Aq k (Fq k (Aq 8 (Fy h 7)))) (Ae h (Fq k (Aq 8 (Fy h 7)))) w
def Ags NA:=Afb NA
def Amj(j48:Bvh)(a f:Int)(g:LB)(b:Int)(m n:UInt64)(k h:Int)(v:LB):Hj:=(Ao v (Aq (Ac v) 1)).bind λ_=>(Jb (Le (Fq k (Aq 8 (Fy h 7))) 0)).bind λ_=>(Jb (Le (Fy h 7) 0)).bind λ_=>(Ao v (Aq (Ac v) 1)).bind λaa=>(Ao v (Aq (Ac v) 1)).bind λ_=>Option.bind (Pc v (Aq (Ac v) 1) (I7 aa (Eh (Ag (Fy n (Aq (Eh (1:UInt64) (GI.toZ (Fq k (Aq 8 (Fy h 7)))).toNat) 1)):UInt8) (GI.toZ (Fy h 7)).toNat))) λw=>j48 n k h w
def aW NA a f g b m:=Amj (Ags NA a f g b m) a f g b m
def aT(j47:Bvh)(j50:Bv0)(a:Int)(g:LB)(b f:Int)(m n:UInt64)(k h:Int)(u:LB):Hj:=if(Dz k 0)then
if(geq (Fy h 7) 0)then(Dm u ([(0:UInt8)]:LB)).bind λab=>j47 n k h ab
else
j47 n k h u
else
j50 f h u
def Up(rN:Bv0)(a:Int)(g:LB)(b f:Int)(m:UInt64):Nat->UInt64->Int->Int->LB->Hj
|0,_,_,_,_=>none
|q+1,n,k,h,u=>aT (aW (Up rN a g b f m q) a f g b m) (aO rN a g b) a g b f m n k h u
def qU rN a g b f m:=Up rN a g b f m Ax
def qR(j44:Int->UInt64->UInt64->Int->Int->LB->Hj)(j52:Int->LB->Hj)(a:Int)(g:LB)(b f o:Int)(p:LB):Hj:=if(Cj f a)then(T5 g b f (Fq 64 (Aq a f))).bind λm=>j44 f m m (Fq 64 (Aq a f)) o p
else
j52 o p
def EL:Nat->Int->Int->LB->Hj
|0,_,_,_=>none
|c+1,d,i,A=>qR (qU (EL c) z e j) pF z e j d i A
def Ac6 a g b:=EL a g b Ax
def wV(j27:Int->LB->Jz3 (LB->Hj))(g:LB)(b y a:Int):Hj:=(Mc g b).bind λac=>if(Bd ac 0)then
some (([]:LB),0,8)
else
if(((Cj y 0)||(Dz y a))||(Dz a b))then
some (([]:LB),0,2)
else
j27 a g b y 0 ([]:LB)
def wP:=wV Ac6
def PJ:Buz:=(Mc c z).bind λe=>if(Bd e 0)then
some (0,8)
else
if(((Cj i 0)||(Dz i 64))||(Cj d 0))then
some (0,2)
else
if(Dz d (Aq z i))then
some (0,24)
else(T5 c z d i).bind λj=>some (j,0)
def Ja:Bt1:=if(geq D 0)then
some 64
else(Ao ([(0:UInt8),(1:UInt8),(56:UInt8),(2:UInt8),(57:UInt8),(49:UInt8),(28:UInt8),(3:UInt8),(61:UInt8),(58:UInt8),(42:UInt8),(50:UInt8),(38:UInt8),(29:UInt8),(17:UInt8),(4:UInt8),(62:UInt8),(47:UInt8),(59:UInt8),(36:UInt8),(45:UInt8),(43:UInt8),(51:UInt8),(22:UInt8),(53:UInt8),(39:UInt8),(33:UInt8),(30:UInt8),(24:UInt8),(18:UInt8),(12:UInt8),(5:UInt8),(63:UInt8),(55:UInt8),(48:UInt8),(27:UInt8),(60:UInt8),(41:UInt8),(37:UInt8),(16:UInt8),(46:UInt8),(35:UInt8),(44:UInt8),(21:UInt8),(52:UInt8),(32:UInt8),(23:UInt8),(11:UInt8),(54:UInt8),(26:UInt8),(40:UInt8),(15:UInt8),(34:UInt8),(20:UInt8),(31:UInt8),(10:UInt8),(25:UInt8),(14:UInt8),(19:UInt8),(9:UInt8),(13:UInt8),(8:UInt8),(7:UInt8),(6:UInt8)]:LB) (GI.toZ (Cy (Bm (Fy D (O0 D)) 285870213051353865) (GI.toZ (58:UInt64)).toNat))).bind λz=>some (Ag z:Int)
abbrev Lr:=Option (Int×Int×Int)
def Bn4 :Lr:=some (0,0,24)
def Bmw :=Bn4
def Acl(j10:Lr):Lr:=j10
def Acg:=Acl Bmw
def Aa4(j9:Lr)(f a:Int):Lr:=if(geq f 48)then
some (f,(Ae 0 (Ae a f)),0)
else
j9
def Aao:=Aa4 Acg
def Aad(j8:Int->Int->Lr)(f b a:Int):Lr:=if(Cj f (Fq 48 (Aq b a)))then
some (f,(Ae (Ae (0:Int) (1:Int)) (Ae a f)),0)
else
j8 f a
def Aar:=Aad Aao
def Aaq(j7:Jz3 Lr)(h:Int)(k:UInt64)(a:Int)(g:LB)(b:Int):Lr:=if(Bd h 0)then
some (0,0,h)
else(Ja (N5 k)).bind λf=>j7 f b a
def jV:=Aaq Aar
def HX(j6:Int->UInt64->Int->LB->Int->Lr)(g:LB)(b a:Int):Lr:=(Mc g b).bind λm=>if(Bd m 0)then
some (0,0,m)
else
if(Cj a 0)then
some (0,0,2)
else
if(Le a b)then
some (0,0,24)
else(
(
(PJ g b a (Fq 48 (Aq b a))).bind λ(k,h)=>j6 h k a g b))
def TU:=HX jV
abbrev wX:=Option (UInt32×Int×Int)
def qE:wX:=(PJ e j d M).bind λ(c,A)=>if(Bd A 0)then
some (0,0,A)
else
if(Cj i 48)then(Jb (Le z 0)).bind λ_=>some ((I7 (Eh (Ag i:UInt32) (GI.toZ z).toNat) (Ag c:UInt32)),(Ae d M),0)
else(FO (Ag c:UInt32) z).bind λB=>if(!B)then
some (0,0,12)
else
some ((Ag c:UInt32),(Ae d M),0)
def rA:=qE
def Afr(j2:Jz3 (LB->Int->Int->wX))(g:LB)(h v a:Int):wX:=(Mc g h).bind λo=>if(Bd o 0)then
some (0,0,o)
else
if((Cj a 0)||(Dz a 24))then
some (0,0,2)
else(TU g h v).bind λ(f,b,p)=>if(Bd p 0)then
some (0,0,p)
else
if(geq f 48)then
j2 a b f g h 32
else
j2 a b f g h a
def zA:=Afr rA
abbrev Oy:=Option (UInt32×Int×Int×Int×UInt64×UInt64×Int)
def Aa1:Oy:=some (X,l5,Bst,Bsf,(Ae o8 (Aq (Ag X:UInt64) (Cy o8 (GI.toZ (4:UInt64)).toNat))),Bsv,0)
def Aac:=Aa1
def Ahg(j10:UInt32->Jz3 (UInt64->UInt64->Oy))(f:UInt32)(k m:Int)(b n:UInt64)(w:Int):Oy:=j10 f k w m b n
def Ac9:=Ahg Aac
def Amf(j9:UInt32->Int->Int->UInt64->UInt64->Int->Oy)(f:UInt32)(k a:Int)(b:UInt64)(m:Int)(n:UInt64):Oy:=if(Dz a 0)then(Jb (Le a 0)).bind λ_=>if(Cj (Ae b (Aq (Ag f:UInt64) (Cy b (GI.toZ (4:UInt64)).toNat))) (Eh (16:UInt64) (GI.toZ a).toNat))then
j9 f k m b n (Aq a 1)
else
if(Cj a 24)then(Jb (Le a 0)).bind λ_=>if(Dz (Ae b (Aq (Ag f:UInt64) (Cy b (GI.toZ (4:UInt64)).toNat))) (Eh (32:UInt64) (GI.toZ a).toNat))then
j9 f k m b n (Ae a 1)
else
j9 f k m b n a
else
j9 f k m b n a
else
if(Cj a 24)then(Jb (Le a 0)).bind λ_=>if(Dz (Ae b (Aq (Ag f:UInt64) (Cy b (GI.toZ (4:UInt64)).toNat))) (Eh (32:UInt64) (GI.toZ a).toNat))then
j9 f k m b n (Ae a 1)
else
j9 f k m b n a
else
j9 f k m b n a
def QF:=Amf Ac9
def pG(j8:UInt32->Int->Int->UInt64->Int->UInt64->Oy)(a h:Int)(b g:UInt64)(f:UInt32)(k:Int):Oy:=(TY a h b g f).bind λ(ad,o)=>if(geq ad 1)then
if(Dz h 0)then(Jb (Le h 0)).bind λ_=>if(Cj (Ae g (Aq (Ag o:UInt64) (Cy g (GI.toZ (4:UInt64)).toNat))) (Eh (16:UInt64) (GI.toZ h).toNat))then
j8 f k a b (Aq h 1) (Ae g (Aq (Ag o:UInt64) (Cy g (GI.toZ (4:UInt64)).toNat)))
else
if(Cj h 24)then(Jb (Le h 0)).bind λ_=>if(Dz (Ae g (Aq (Ag o:UInt64) (Cy g (GI.toZ (4:UInt64)).toNat))) (Eh (32:UInt64) (GI.toZ h).toNat))then
j8 f k a b (Ae h 1) (Ae g (Aq (Ag o:UInt64) (Cy g (GI.toZ (4:UInt64)).toNat)))
else
j8 f k a b h (Ae g (Aq (Ag o:UInt64) (Cy g (GI.toZ (4:UInt64)).toNat)))
else
j8 f k a b h (Ae g (Aq (Ag o:UInt64) (Cy g (GI.toZ (4:UInt64)).toNat)))
else
if(Cj h 24)then(Jb (Le h 0)).bind λ_=>if(Dz (Ae g (Aq (Ag o:UInt64) (Cy g (GI.toZ (4:UInt64)).toNat))) (Eh (32:UInt64) (GI.toZ h).toNat))then
j8 f k a b (Ae h 1) (Ae g (Aq (Ag o:UInt64) (Cy g (GI.toZ (4:UInt64)).toNat)))
else
j8 f k a b h (Ae g (Aq (Ag o:UInt64) (Cy g (GI.toZ (4:UInt64)).toNat)))
else
j8 f k a b h (Ae g (Aq (Ag o:UInt64) (Cy g (GI.toZ (4:UInt64)).toNat)))
else
j8 f k a b h g
def pI:=pG QF
def pP(j7:Int->Int->UInt64->UInt64->UInt32->Int->Oy)(p:Int)(u:LB)(v a h:Int)(b g:UInt64):Oy:=(PJ u v p 1).bind λ(ae,aa)=>if(Bd aa 0)then
some (0,0,0,0,0,0,aa)
else
if(geq ae 0)then(PJ u v (Ae p 1) a).bind λ(af,ab)=>if(Bd ab 0)then
some (0,0,0,0,0,0,ab)
else
j7 a h b g (Ag af:UInt32) (Ae (Ae p 1) a)
else(zA u v (Ae p 1) h).bind λ(y,ag,ac)=>if(Bd ac 0)then
some (0,0,0,0,0,0,ac)
else(Jb (Le a 0)).bind λ_=>if(Cj (Ae y (Eh (1:UInt32) (GI.toZ a).toNat)) y)then
some (0,0,0,0,0,0,12)
else
j7 a h b g (Ae y (Eh (1:UInt32) (GI.toZ a).toNat)) ag
def Amh:=pP pI
def rJ(j6:Int->LB->Jz3 (UInt64->UInt64->Oy))(u:LB)(v p a h:Int)(b g:UInt64):Oy:=(Mc u v).bind λah=>if(Bd ah 0)then
some (0,0,0,0,0,0,8)
else(eY a h b g).bind λai=>if(Bd ai 0)then
some (0,0,0,0,0,0,8)
else
j6 p u v a h b g
def TK:=rJ Amh
abbrev Cz:=Option (LU×Int×Int)
def Bn8:Cz:=some (l7,z,0)
def Au5:=Bn8
def Au3(Jw:Int->Int-> (List (Int×Int×UInt64×UInt64×Unit))->LU->Cz)(a f:Int)(g:LB)(b k v:Int)(w:UInt32)(h:Int)(ah:Bt3)(n:LU):Cz:=(Dm n ([w]:LU)).bind λak=>Jw (Ae k v) (Ae h 1) ah ak
def Arl Jw:=Au3 Jw
def JN(j22:Int->Int->UInt32->Int-> (List (Int×Int×UInt64×UInt64×Unit))->LU->Cz)(a f:Int)(g:LB)(b k h y:Int)(w:UInt32)(v:Int)(m:Bt3)(n:LU)(aa ab:Int)(ac ad:UInt64):Cz:=if(Bd y 0)then
some (([]:LU),0,y)
else(Jb (Bd a 0)).bind λ_=>(Ao m (Ge h a)).bind λ_=>(Pc m (Ge h a) (aa,ab,ac,ad,())).bind λah=>j22 k v w h ah n
def Zb Jw a f g b:=JN (Arl Jw a f g b) a f g b
def Zo(j21:Jz3 (UInt32->Int-> (List (Int×Int×UInt64×UInt64×Unit))->LU->Int->Int->UInt64->UInt64->Cz))(j24:Int->LU->Cz)(a f:Int)(g:LB)(b k h:Int)(m:Bt3)(n:LU):Cz:=if(Cj h (Bm f a))then(wP g b k (Fq (Ae k 81) b)).bind λ(ag,ae,af)=>if(Bd af 0)then
some (([]:LU),0,af)
else(Jb (Bd a 0)).bind λ_=>(Ao m (Ge h a)).bind λ_=>(
(
(Ao m (Ge h a)).bind λo=>(
(TK ag ae 0 o.1 o.2.1 o.2.2.1 o.2.2.2.1).bind λ(w,v,aa,ab,ac,ad,y)=>j21 k h y w v m n aa ab ac ad)))
else
j24 k n
def Rs:Nat->Int->Int-> (List (Int×Int×UInt64×UInt64×Unit))->LU->Cz
|0,_,_,_,_=>none
|c+1,i,A,B,C=>Zo (Zb (Rs c) z d e j) Au5 z d e j i A B C
def Auu a f g b:=Rs a f g b Ax
def Aqq(j16:Int->Int->LB->Jz3 ( (List (Int×Int×UInt64×UInt64×Unit))->LU->Cz))(a f:Int)(g:LB)(b:Int)(p:Bt3):Cz:=j16 a f g b 0 0 p ([]:LU)
def Aqn:=Aqq Auu
def Arx(j15:Int->Int->LB->Int-> (List (Int×Int×UInt64×UInt64×Unit))->Cz)(ZZ:Int-> (List (Int×Int×UInt64×UInt64×Unit))->Cz)(a f:Int)(g:LB)(b u:Int)(p:Bt3):Cz:=if(Cj u 6)then(L8).bind λ(al,ae,af,am)=>(Ao p u).bind λ_=>(Pc p u (al,ae,af,am,())).bind λan=>ZZ (Ae u 1) an
else
j15 a f g b p
def JL:Nat->Int-> (List (Int×Int×UInt64×UInt64×Unit))->Cz
|0,_,_=>none
|c+1,i,A=>Arx Aqn (JL c) z d e j i A
def KH a f g b:=JL a f g b Ax
def OM(j13:Int->Int->LB->Int->Int-> (List (Int×Int×UInt64×UInt64×Unit))->Cz)(a f:Int)(g:LB)(b:Int):Cz:=j13 a f g b 0 (List.replicate 6 ((0:Int),(0:Int),(0:UInt64),(0:UInt64),()))
def ON:=OM KH
def FM:Bun:=some (DY (Ag (Cy X (GI.toZ (1:UInt64)).toNat):Int32) (O0 (Ag (Fy X 1):Int32)))
def xV:Bvn:=(dW z B V).bind λ(c,d)=>if(Bd d 0)then
some (0,0,(List.replicate 16 (0:Int32)),(List.replicate 16 (0:Int32)),d)
else(cE z B V (Ae P c) P).bind λ(e,i,j)=>some ((Ae P c),e,i,j,0)
def Ps:Bu9:=(DI z P T p8 p9).bind λc=>if(Bd c 0)then
some (0,0,0,0,(List.replicate 16 (0:Int32)),(List.replicate 16 (0:Int32)),c)
else(DJ z P).bind λ(d,e)=>(xV T p8 p9 Bsh).bind λ(i,j,A,B,C)=>(
some ((Ae i d),z,(Ae i d),j,A,B,C))
abbrev Jg:=Option (LX×Int)
def Afy:Jg:=some (B,0)
def Ad2:=Afy
abbrev Bvu:=Int->LX->Jg
def Afp(kX:Bvu)(b a:Int)(h:LX):Jg:=kX (Ae a b) h
def qI kX:=Afp kX
def aR(j20:Bvu)(OZ:Bvu)(b a g:Int)(h:LX):Jg:=if(Le g 0)then(Jb (decide (0<= (Ae g 1)/\ (Ae g 1)<((Ae a b)-a)))).bind λ_=>(Jb (decide (0<=g/\g<((Ae a b)-a)))).bind λ_=>(Ao h (a+(Ae g 1))).bind λn=>(Ao h (a+g)).bind λo=>(Jb (decide (0<=g/\g<((Ae a b)-a)))).bind λ_=>(Pc h (a+g) (Aq n o)).bind λp=>OZ (Aq g 1) p
else
j20 a h
def FH(kX:Bvu)(b a:Int):Nat->Int->LX->Jg
|0,_,_=>none
|q+1,g,h=>aR (qI kX b) (FH kX b a q) b a g h
def pE kX b a:=FH kX b a Ax
def oS(j18:Int->Int->LX->Jg)(b a:Int)(u:LX):Jg:=j18 a (Aq (Aq ((Ae a b)-a) 1) 1) u
def qS kX b:=oS (pE kX b) b
def oZ(j17:Bvu)(j22:LX->Jg)(b a:Int)(f:LX):Jg:=if(Cj a (Ac f))then(dZ (Ac f) a (Ae a b)).bind λ_=>if(Dz (Aq ((Ae a b)-a) 1) 0)then(Jb (decide (0<= (Aq ((Ae a b)-a) 1)/\ (Aq ((Ae a b)-a) 1)<((Ae a b)-a)))).bind λ_=>Option.bind (Jb (decide (0<= (Aq (Aq ((Ae a b)-a) 1) 1)/\ (Aq (Aq ((Ae a b)-a) 1) 1)<((Ae a b)-a)))) λ_=>(Ao f (a+(Aq ((Ae a b)-a) 1))).bind λv=>(Ao f (a+(Aq (Aq ((Ae a b)-a) 1) 1))).bind λw=>(Jb (decide (0<= (Aq ((Ae a b)-a) 1)/\ (Aq ((Ae a b)-a) 1)<((Ae a b)-a)))).bind λ_=>(Pc f (a+(Aq ((Ae a b)-a) 1)) (Ae v (Ca w 2))).bind λy=>j17 a y
else
j17 a f
else
j22 f
def Ze:Nat->Int->LX->Jg
|0,_,_=>none
|c+1,d,e=>oZ (qS (Ze c) z) Ad2 z d e
def Agr b:=Ze b Ax
def xY(j12:Int->Int->LX->Jg)(b:Int)(k:LX):Jg:=(nB b k).bind λm=>if(Bd m 0)then
some (([]:LX),m)
else(Dy k).bind λaa=>j12 b 0 aa
def P6:=xY Agr
abbrev Dl:=Option (LX×Int)
def Ane:Dl:=(P6 z B).bind λ(c,e)=>if(Bd e 0)then
some (([]:LX),e)
else(Uq d c).bind λi=>if(Bd i 0)then
some (([]:LX),i)
else
some (c,0)
def Qa:=Ane
def Aoi(ZZ:Int-> (List (Int×Int32×(Int×LX×LX×Unit)×Unit))->LX->Dl)(a:Int)(f:LU)(b g:Int)(y:Int32)(v:Int)(h:Bua)(k:LX)(aa:Int)(w:Int32)(ab:Int)(ac ad:LX):Dl:=if(Bd v 0)then
some (([]:LX),v)
else(Pc h (Ge g a) (aa,w,(ab,ac,ad,()),())).bind λai=>(Dm k ([y]:LX)).bind λaj=>ZZ (Ae g 1) ai aj
def GM ZZ:=Aoi ZZ
def Pz(j16:Int->Int32->Int-> (List (Int×Int32×(Int×LX×LX×Unit)×Unit))->LX->Int->Int32->Int->LX->LX->Dl)(j18:Int->Int->LX->Dl)(f:LU)(a b g:Int)(h:Bua)(k:LX):Dl:=if(Cj g (Ac f))then(Ao f g).bind λag=>(Jb (Bd a 0)).bind λ_=>(Ao h (Ge g a)).bind λ_=>(
(Ao h (Ge g a)).bind λm=>(
(FM ag).bind λae=>(
(Ps m.1 m.2.1 m.2.2.1.1 m.2.2.1.2.1 m.2.2.1.2.2.1 ae).bind λ(y,aa,w,ab,ac,ad,v)=>j16 g y v h k aa w ab ac ad)))
else
j18 a b k
def Mg:Nat->Int-> (List (Int×Int32×(Int×LX×LX×Unit)×Unit))->LX->Dl
|0,_,_,_=>none
|z+1,c,d,e=>Pz (GM (Mg z) Brr l7 Brs) Qa l7 Brr Brs c d e
def Aqd f a b:=Mg f a b Ax
def Ap5(j13:LU->Jz3 ( (List (Int×Int32×(Int×LX×LX×Unit)×Unit))->LX->Dl))(f:LU)(a b:Int)(n:Bua):Dl:=j13 f a b 0 n ([]:LX)
def Aq0:=Ap5 Aqd
def Apy(j12:LU->Int->Int-> (List (Int×Int32×(Int×LX×LX×Unit)×Unit))->Dl)(QB:Int-> (List (Int×Int32×(Int×LX×LX×Unit)×Unit))->Dl)(f:LU)(a b:Int)(o:LX)(p:Int)(n:Bua):Dl:=if(Cj p 6)then(rz b o).bind λ(ak,af,ae,al,am,w)=>(Ao n p).bind λ_=>(Pc n p (ak,af,(ae,al,am,()),())).bind λan=>QB (Ae p 1) an
else
j12 f a b n
def GW:Nat->Int-> (List (Int×Int32×(Int×LX×LX×Unit)×Unit))->Dl
|0,_,_=>none
|z+1,c,d=>Apy Aq0 (GW z) l7 Brr Brs Bs3 c d
def GQ f a b o:=GW f a b o Ax
def KE(j10:LU->Int->Int->LX->Int-> (List (Int×Int32×(Int×LX×LX×Unit)×Unit))->Dl)(a b:Int)(o:LX)(f:LU):Dl:=j10 f a b o 0 (List.replicate 6 ((0:Int),(0:Int32),((0:Int),(List.replicate 16 (0:Int32)),(List.replicate 16 (0:Int32)),()),()))
def Zu:=KE GQ
def Jn:Bvm:=(Fl z d).bind λc=>if(Bd c 0)then
some (([]:LX),c)
else
if(Cj E 1)then
some (([]:LX),2)
else(Jb (Bd z 0)).bind λ_=>if(Dz E (Ca 4000 z))then
some (([]:LX),2)
else(OP e).bind λ(i,j)=>if(Bd j 0)then
some (([]:LX),j)
else(rS i).bind λ(A,C,D)=>if(Bd D 0)then
some (([]:LX),D)
else(ON z E A C).bind λ(F,G,I)=>if(Bd I 0)then
some (([]:LX),I)
else
if(Le (Aq C G) 8)then
some (([]:LX),12)
else(PJ A C G (Aq C G)).bind λ(J,L)=>if((Bd L 0)||(Bd J 0))then
some (([]:LX),12)
else(Zu z d B F).bind λ(M,N)=>some (M,N)
abbrev Ey:=Option (LB×Int)
def Bn1:Ey:=some (c,0)
def Bhu:=Bn1
abbrev Bv7:=Int->LB->Ey
def Bhn(Jw:Bv7)(b:Int)(a:LX)(f:Int)(h:LB):Ey:=Jw (Ae f 1) h
def YO Jw:=Bhn Jw
def IK(j28:Bv7)(S4:Bv7)(b:Int)(a:LX)(k:Int32)(f m:Int)(h:LB):Ey:=if(Cj m (Ca b 8))then(Jb (Le (Bm 8 m) 0)).bind λ_=>(Dm h ([(Ag (Cy k (GI.toZ (Bm 8 m)).toNat):UInt8)]:LB)).bind λp=>S4 (Ae m 1) p
else
j28 f h
def Mm(Jw:Bv7)(b:Int)(a:LX)(k:Int32)(f:Int):Nat->Int->LB->Ey
|0,_,_=>none
|q+1,m,h=>IK (YO Jw b a) (Mm Jw b a k f q) b a k f m h
def ZH Jw b a k f:=Mm Jw b a k f Ax
def XZ(j26:Int32->Int->Int->LB->Ey)(b:Int)(a:LX)(f:Int)(g:LB)(k:Int32):Ey:=j26 k f 0 g
def Ui Jw b a:=XZ (ZH Jw b a) b a
def IZ(j25:Int->LB->Int32->Ey)(j30:LB->Ey)(b:Int)(a:LX)(f:Int)(g:LB):Ey:=if(Cj f (Ac a))then(Ao a f).bind λn=>if(geq b 8)then
j25 f g (Ae n 128)
else
j25 f g n
else
j30 g
def Il:Nat->Int->LB->Ey
|0,_,_=>none
|c+1,d,e=>IZ (Ui (Il c) z B) Bhu z B d e
def Bnq b a:=Il b a Ax
def eG(j16:Int->LX->Int->LB->Ey)(b:Int)(a:LX):Ey:=(Uq b a).bind λo=>if(Bd o 0)then
some (([]:LB),o)
else
j16 b a 0 ([]:LB)
def Kw:=eG Bnq
def Bn6:Bt1:=some (-1:Int)
def Afl:=Bn6
def Gi:Bt1:=if(Cj r9 (Ac Br8))then(Ao Br8 r9).bind λz=>if(geq Br2 z)then
some r9
else
Br5 (Ae r9 1)
else
Brw
def Cq:Nat->Int->Option Int
|0,_=>none
|z+1,c=>Gi Afl (Cq z) A R c
def Agn a b:=Cq a b Ax
def Ju(j4:Bvg)(a:LI)(b:Int):Bt1:=j4 a b 0
def Ls:=Ju Agn
def Jp:Bt2:=(Ls A R).bind λz=>some (Le z 0)
def Vn:Bt2:=(Jp ([(4:Int),(12:Int),(16:Int),(22:Int),(24:Int),(26:Int),(38:Int)]:LI) z).bind λc=>some c
def Baa:Bt1:=if(!C)then
some 8
else
some 0
def Ch:=Baa
def Ayy:Bt1:=Bro ((true==true)&&((geq (0:Int) (0:Int))&&true))
def CB:=Ayy Ch
def Avc:Bt1:=Bro ((Bsa==true)&&((geq Bsz 0)&&true))
def Gf:=Avc Ch
abbrev Bup:=Bool->Int->Option Int
def Bac(j13:Bup)(g ax:LB)(ay az ab ba af b:Int)(n:Bool)(o:Int)(f:LI)(k:LB):Bt1:=(Se ay az ab ba af g).bind λdi=>(Am di).bind λ(dj,ai)=>j13 dj ai
def BT:=Bac Gf
def Axq:Bt1:=Bro ((Bsa==true)&&((geq Bsz 0)&&true))
def Lt:=Axq Ch
def Awd(j25:Bup)(g a:LB)(h p m u v b:Int)(n:Bool)(o:Int)(f:LI)(k:LB)(de:Int):Bt1:=(Ec h p m u v).bind λ(dm,be)=>if(Bd be 0)then(Am be).bind λ(aj,bg)=>j25 aj bg
else(Bp a de (Ac a)).bind λdn=>(JT dn (Ac dm)).bind λ(dp,ab)=>if(geq ab 24)then
j25 true 0
else
if(Bd ab 0)then(Am ab).bind λ(dq,af)=>j25 dq af
else(Bp a (Ae (Ae de (Bm 4 (Ac dp))) 4) (Ac a)).bind λfc=>j25 false 0
def Mf:=Awd Lt
abbrev Bur:=LB->LB->Jz6 (Bool->Int->LI->LB->Int->Option Int)
def Axe(j25:Bup)(j24:Bur)(bh:Bool)(bf:Int)(g a:LB)(h p m u v b:Int)(n:Bool)(o:Int)(f:LI)(k:LB):Bt1:=if(Bd bf 0)then(Am bf).bind λ(dr,be)=>j25 dr be
else
if(!bh)then(Am 26).bind λ(aj,bg)=>j25 aj bg
else
j24 g a h p m u v b n o f k 8
def Az6:=Axe Lt Mf
def Ba5(j15:Bool->Int->LB->LB->Jz6 (Bool->Int->LI->LB->Option Int))(g a:LB)(h p m u v b:Int)(n:Bool)(o:Int)(f:LI)(k:LB):Bt1:=(Bp a 0 8).bind λds=>(Qt ds g).bind λ(bh,bf)=>j15 bh bf g a h p m u v b n o f k
def BR:=Ba5 Az6
def Aw2:Bt1:=Bro ((Bsa==true)&&((geq Bsz 0)&&true))
def Hm:=Aw2 Ch
def CF(j28:Bup)(y ac:Int)(g a:LB)(h p m u v b:Int)(n:Bool)(o:Int)(ak:LX)(f:LI)(k:LB):Bt1:=if(Bd ac 0)then(Am ac).bind λ(bi,bj)=>j28 bi bj
else(Kw m ak).bind λ(bk,bb)=>if(Bd bb 0)then(Am bb).bind λ(bl,bm)=>j28 bl bm
else(Dm k bk).bind λdv=>(
(Bp a y (Ac a)).bind λdw=>j28 false 0)
def QS:=CF Hm
def OS(j27:Int->Int->LB->LB->Jz6 (Bool->Int->LX->LI->LB->Option Int))(y:Int)(g a:LB)(h p m u v b:Int)(n:Bool)(o:Int)(bc:LX)(ag f:LI)(k:LB):Bt1:=(Ao ag b).bind λ_=>(Bp a 0 y).bind λdx=>(Ao ag b).bind λdy=>(HK h p m u v).bind λ(dz,bd)=>(Jn dz bd bc dy dx).bind λ(ak,ac)=>j27 y ac g a h p m u v b n o ak f k
def MX:=OS QS
abbrev Buu:=LB->LB->Jz6 (Bool->Int->LI->LB->Option Int)
def FD(j13:Bup)(j12:Buu)(j25:Bup)(j23:Buu)(j24:Bur)(j28:Bup)(j26:Int->LB->LB->Jz6 (Bool->Int->LX->LI->LI->LB->Option Int))(j22:Bvx)(j21:Bt1)(al am:LB)(an ao ap aq ar:Int)(au:LI)(ad:Int)(ae:LB)(aa:Bool)(w:Int):Bt1:=if(Dz (Ac al) 64)then
some 8
else
if((geq w 0)&&(!aa))then(Ev al am an ao ap aq ar au ad ae aa w).bind λ(g,a,h,p,m,u,v,f,b,k,n,o)=>(EM al am an ao ap aq ar au ad ae aa w).bind λbn=>if bn then
if(geq h 0)then(Ku a).bind λ(ah,av)=>if(geq av 24)then
j13 true 0
else
if(Bd av 0)then(Am av).bind λ(bp,bq)=>j13 bp bq
else(Bp a ah (Ac a)).bind λbr=>(Vg br).bind λaj=>if aj then
j13 true 0
else(Bp a ah (Ac a)).bind λbs=>(Ok bs).bind λ(ay,az,ab,ba,af,aw)=>if(geq aw 24)then
j13 true 0
else
if(Bd aw 0)then(Am aw).bind λ(bt,bu)=>j13 bt bu
else(
(Bp a (Ae ah 22) (Ac a)).bind λax=>(
j12 g ax ay az ab ba af b n o f k))
else
if(geq (Ac f) 0)then
if(geq h 2)then
if(Cj (Ac a) 8)then
j25 true 0
else
j23 g a h p m u v b n o f k
else
j24 g a h p m u v b n o f k 0
else
if(Cj b (Ac f))then(Ao f b).bind λ_=>(Ao f b).bind λy=>if(Cj (Ac a) y)then
j28 true 0
else(Nu g).bind λ(bc,ai)=>if(Bd ai 0)then(Am ai).bind λ(bv,bw)=>j28 bv bw
else(Ec h p m u v).bind λ(ag,bx)=>if((Bd bx 0)||(Le b (Ac ag)))then(Am 8).bind λ(bz,da)=>j28 bz da
else
j26 y g a h p m u v b n o bc ag f k
else
if(Dz (Ac a) 4000)then(Am 38).bind λ(db,bd)=>j22 ((db==true)&&((geq bd 0)&&true))
else
j21
else
j22 false
else
if((geq (Ac am) 0)&&(geq (Ac au) 0))then
if((((geq an 0)&&((geq ao 0)&&((geq ap 0)&&((geq aq 0)&&((geq ar 0)&&true)))))&&(geq ad 0))&&(tZ (Ac ae) 12000))then
if(geq w 0)then
j22 true
else
if(!aa)then(Vn w).bind λdc=>j22 dc
else
j22 false
else
j22 false
else
if((false&&(geq ad 0))&&(tZ (Ac ae) 12000))then
if(geq w 0)then
j22 true
else
if(!aa)then(Vn w).bind λdd=>j22 dd
else
j22 false
else
j22 false
def Jv:=FD Gf BT Lt BR Mf Hm MX Ch CB
def Vw:Bt7:=(Jv c I z d i F E A R e C j).bind λB=>if(Bd B 0)then
some (([]:LB),([]:LB),0,0,0,0,0,([]:LI),0,([]:LB),false,0,B)
else
if(Bd j 0)then(
(
(Ev c I z d i F E A R e C j).bind λ(D,G,J,L,M,N,O,P,T,U,V,X)=>(
some (D,G,J,L,M,N,O,P,T,U,V,X,j))))
else
if C then(Ev c I z d i F E A R e C j).bind λ(Y,Z,l5,l6,l7,l9,o7,o8,o9,p8,p9,q9)=>some (Y,Z,l5,l6,l7,l9,o7,o8,o9,p8,p9,q9,36)
else(Ev c I z d i F E A R e C j).bind λ(r9,Brm,Brn,Bro,Brp,Brq,Brr,Brs,Brt,Bru,Brv,Brw)=>some (r9,Brm,Brn,Bro,Brp,Brq,Brr,Brs,Brt,Bru,Brv,Brw,0)
def bC(b g:LB)(h k m n o:Int)(p:LI)(u:Int)(f:LB)(v:Bool)(w a:Int):Bt7:=some (b,([]:LB),0,0,0,0,0,([]:LI),0,f,false,a,a)
abbrev Ay:=Option (LB×LB×Int×Int×Int×Int×Int×LI×Int×LB×Bool×Int×Int)
abbrev Bul:=LB->Jz6 (LI->LB->Ay)
def SO(bH:Bul)(a:LB)(b:Bool)(f:Int)(av:LB)(aw ax ay az ba bb:Int)(dy:Bool)(dk:Int)(bc:LI)(bd:LB):Ay:=if dy then(Ev a av aw ax ay az ba bc bb bd b f).bind λ(dz,fa,fb,ap,be,ae,fc,fd,fe,ff,fg,af)=>some (dz,fa,fb,ap,be,ae,fc,fd,fe,ff,fg,af,0)
else
if(Bd dk 0)then(bC a av aw ax ay az ba bc bb bd b f dk).bind λ(fh,fi,fj,fk,fl,fm,fn,fo,fp,fq,fs,ft,fu)=>some (fh,fi,fj,fk,fl,fm,fn,fo,fp,fq,fs,ft,fu)
else
bH av aw ax ay az ba bb bc bd
def Da bH:=SO bH
abbrev Bub:=LB->Jz6 (Bool->Int->LI->LB->Ay)
def Bpu(j71:Bub)(a:LB)(b:Bool)(f:Int)(g:LB)(m o n p u h:Int)(k:LI)(v:LB):Ay:=j71 g m o n p u h true 0 k v
def FJ bH a b f:=Bpu (Da bH a b f) a b f
def Bpd(j71:Bub)(a:LB)(b:Bool)(f h:Int)(k:LI)(v:LB)(fv:Bool)(fw:Int)(fx:LB)(fy fz ga gb gc:Int):Ay:=j71 fx fy fz ga gb gc h fv fw k v
def Rp bH a b f:=Bpd (Da bH a b f) a b f
abbrev Bu2:=Int->LI->LB->Bool->Int->LB->Jz5 Ay
def Bep(j62:Bu2)(a:LB)(b:Bool)(f:Int)(ag:LB)(ah ai y aj aa h:Int)(k:LI)(v:LB):Ay:=(Se ah ai y aj aa a).bind λgd=>(Am gd).bind λ(ge,ak)=>j62 h k v ge ak ag ah ai y aj aa
def Xc bH a b f:=Bep (Rp bH a b f) a b f
def Bpc(j71:Bub)(a:LB)(b:Bool)(f m o n p u h:Int)(v:LB)(bf:Bool)(bg:Int)(bh:LB)(bi:LI):Ay:=j71 bh m o n p u h bf bg bi v
def Ns bH a b f:=Bpc (Da bH a b f) a b f
abbrev Buo:=Jz6 (LB->Bool->Int->LB->LI->Ay)
def FR(j75:Buo)(a:LB)(b:Bool)(f:Int)(g:LB)(m o n p u h:Int)(k:LI)(v:LB)(dl:Int):Ay:=(Ec m o n p u).bind λ(gf,ar)=>if(Bd ar 0)then(Am ar).bind λ(al,bj)=>j75 m o n p u h v al bj g k
else(Bp g dl (Ac g)).bind λgg=>(JT gg (Ac gf)).bind λ(dm,y)=>if(geq y 24)then
j75 m o n p u h v true 0 g k
else
if(Bd y 0)then(Am y).bind λ(gh,aa)=>j75 m o n p u h v gh aa g k
else(Bp g (Ae (Ae dl (Bm 4 (Ac dm))) 4) (Ac g)).bind λgi=>j75 m o n p u h v false 0 gi dm
def Rq bH a b f:=FR (Ns bH a b f) a b f
abbrev Bu7:=LB->Jz6 (LI->LB->Int->Ay)
def UH(j75:Buo)(j74:Bu7)(a:LB)(b:Bool)(f:Int)(bk:Bool)(au:Int)(g:LB)(m o n p u h:Int)(k:LI)(v:LB):Ay:=if(Bd au 0)then(Am au).bind λ(gj,ar)=>j75 m o n p u h v gj ar g k
else
if(!bk)then(Am 26).bind λ(al,bj)=>j75 m o n p u h v al bj g k
else
j74 g m o n p u h k v 8
def Bai bH a b f:=UH (Ns bH a b f) (Rq bH a b f) a b f
def SX(j64:Bool->Int->LB->Jz6 (LI->LB->Ay))(a:LB)(b:Bool)(f:Int)(g:LB)(m o n p u h:Int)(k:LI)(v:LB):Ay:=(Bp g 0 8).bind λgk=>(Qt gk a).bind λ(bk,au)=>j64 bk au g m o n p u h k v
def EK bH a b f:=SX (Bai bH a b f) a b f
def Bon(j71:Bub)(a:LB)(b:Bool)(f m o n p u:Int)(k:LI)(bl:Bool)(bm:Int)(bn:LB)(bp:Int)(bq:LB):Ay:=j71 bn m o n p u bp bl bm k bq
def Rn bH a b f:=Bon (Da bH a b f) a b f
abbrev Bu3:=Jz5 (LI->Bool->Int->LB->Int->LB->Ay)
def FB(j78:Bu3)(a:LB)(b:Bool)(f w ab:Int)(g:LB)(m o n p u h:Int)(am:LX)(k:LI)(v:LB):Ay:=if(Bd ab 0)then(Am ab).bind λ(br,bs)=>j78 m o n p u k br bs g h v
else(Kw n am).bind λ(bt,af)=>if(Bd af 0)then(Am af).bind λ(bu,bv)=>j78 m o n p u k bu bv g h v
else(Dm v bt).bind λbw=>(
(Bp g w (Ac g)).bind λbx=>j78 m o n p u k false 0 bx (Ae h 1) bw)
def TN bH a b f:=FB (Rn bH a b f) a b f
def SW(j77:Int->Int->LB->Jz6 (LX->LI->LB->Ay))(a:LB)(b:Bool)(f w:Int)(g:LB)(m o n p u h:Int)(aq:LX)(ac k:LI)(v:LB):Ay:=(Ao ac h).bind λ_=>(Bp g 0 w).bind λgl=>(Ao ac h).bind λgm=>(HK m o n p u).bind λ(be,ae)=>(Jn be ae aq gm gl).bind λ(am,ab)=>j77 w ab g m o n p u h am k v
def FQ bH a b f:=SW (TN bH a b f) a b f
def Kl(j62:Bu2)(j61:Bul)(j75:Buo)(j73:Bul)(j74:Bu7)(j78:Bu3)(j76:Int->LB->Jz6 (LX->LI->LI->LB->Ay))(j71:Bub)(j70:Bul)(a:LB)(b:Bool)(f:Int)(g:LB)(m o n p u h:Int)(k:LI)(v:LB):Ay:=if(geq m 0)then(Ku g).bind λ(ad,an)=>if(geq an 24)then
j62 h k v true 0 g m o n p u
else
if(Bd an 0)then(Am an).bind λ(bz,da)=>j62 h k v bz da g m o n p u
else(Bp g ad (Ac g)).bind λdb=>(Vg db).bind λal=>if al then
j62 h k v true 0 g m o n p u
else(Bp g ad (Ac g)).bind λdc=>(Ok dc).bind λ(ah,ai,y,aj,aa,ao)=>if(geq ao 24)then
j62 h k v true 0 g m o n p u
else
if(Bd ao 0)then(Am ao).bind λ(dd,de)=>j62 h k v dd de g m o n p u
else(
(Bp g (Ae ad 22) (Ac g)).bind λag=>(
j61 ag ah ai y aj aa h k v))
else
if(geq (Ac k) 0)then
if(geq m 2)then
if(Cj (Ac g) 8)then
j75 m o n p u h v true 0 g k
else
j73 g m o n p u h k v
else
j74 g m o n p u h k v 0
else
if(Cj h (Ac k))then(Ao k h).bind λ_=>(Ao k h).bind λw=>if(Cj (Ac g) w)then
j78 m o n p u k true 0 g h v
else(Nu a).bind λ(aq,ak)=>if(Bd ak 0)then(Am ak).bind λ(df,dg)=>j78 m o n p u k df dg g h v
else(Ec m o n p u).bind λ(ac,dh)=>if((Bd dh 0)||(Le h (Ac ac)))then(Am 8).bind λ(di,ap)=>j78 m o n p u k di ap g h v
else
j76 w g m o n p u h aq ac k v
else
if(Dz (Ac g) 4000)then(Am 38).bind λ(dj,ae)=>j71 g m o n p u h dj ae k v
else
j70 g m o n p u h k v
def Bj:Nat->LB->Jz6 (LI->LB->Ay)
|0,_,_,_,_,_,_,_,_,_=>none
|z+1,d,e,i,A,B,D,E,F,G=>Kl (Rp (Bj z) c C j) (Xc (Bj z) c C j) (Ns (Bj z) c C j) (EK (Bj z) c C j) (Rq (Bj z) c C j) (Rn (Bj z) c C j) (FQ (Bj z) c C j) (Da (Bj z) c C j) (FJ (Bj z) c C j) c C j d e i A B D E F G
def Bos a b f:=Bj a b f Ax
def Zx(j37:LB->Bool->Int->LB->Jz6 (LI->LB->Ay))(gn go:LB)(gp gq gr gs gt:Int)(gu:LI)(gv:Int)(gw:LB)(gx:Bool)(gy:Int)(gz:LB):Ay:=(Vw gn go gp gq gr gs gt gu gv gw gx gy).bind λ(a,dn,dp,dq,dr,ds,dt,du,dv,dw,b,f,dx)=>if(Bd dx 0)then
some (a,dn,dp,dq,dr,ds,dt,du,dv,dw,b,f,dx)
else(Dm dn gz).bind λha=>j37 a b f ha dp dq dr ds dt dv du dw
def Di:=Zx Bos
def Vk:Option (LB×LB×Int×Int×Int×Int×Int×LI×Int×LB×Bool×Int×LB×Int):=(Jv c I z d i F E A R e C j).bind λB=>if(Bd B 0)then
some (([]:LB),([]:LB),0,0,0,0,0,([]:LI),0,([]:LB),false,0,([]:LB),B)
else
if(Cj M 0)then
some (([]:LB),([]:LB),0,0,0,0,0,([]:LI),0,([]:LB),false,0,([]:LB),2)
else(Ev c I z d i F E A R e C j).bind λ(D,G,J,L,N,O,P,T,U,V,X,Y)=>(Bp V 0 (Fq M (Ac V))).bind λZ=>(Ks Z).bind λl5=>(Bp V (Fq M (Ac V)) (Ac V)).bind λl6=>some (D,G,J,L,N,O,P,T,U,l6,X,Y,l5,0)
abbrev K9:=Option (Int×Int)
def Bmp:K9:=(Bp c (Aq (Ac c) 32) (Ac c)).bind λz=>(bK z 0).bind λ(d,e,i)=>if i then
if(Cj (Aq (Ac c) 32) d)then
some (0,24)
else
some ((Ae d 32),0)
else(Bp c (Aq (Ac c) 32) (Ac c)).bind λj=>(bK j 2147483648).bind λ(A,B,C)=>if(!C)then
some (0,12)
else
if(Cj (Ac c) (Ae A 64))then
some (0,24)
else(Bp c (Aq (Ac c) (Ae A 64)) (Ae (Aq (Ac c) (Ae A 64)) 32)).bind λD=>(yS A B 2684354560).bind λE=>(Jj D E).bind λF=>if(!F)then
some (0,12)
else
some ((Ae A 64),0)
def Bhw:=Bmp
def Bmf(j2:LB->K9)(a:LB):K9:=if(Cj (Aq (Ac a) 32) 0)then
some (0,6)
else(Bp a (Aq (Ac a) 32) (Ac a)).bind λv=>(Pp v ([(65:UInt8),(80:UInt8),(69:UInt8),(84:UInt8),(65:UInt8),(71:UInt8),(69:UInt8),(88:UInt8)]:LB)).bind λw=>if(!w)then
some (0,6)
else
j2 a
def P2:=Bmf Bhw
abbrev Ia:=Option (Int×Int)
def Bpe:Ia:=some (z,0)
def Bev:=Bpe
abbrev Bwg:=Int->LB->Ia
def Bf2(bk8:Bwg)(a:Int)(g:LB):Ia:=bk8 (Ae a 1) g
def Bf1 bk8:=Bf2 bk8
def Bes(j12:Bwg)(a f:Int)(b:LB):Ia:=if(geq f 0)then
some (0,38)
else(Bp b 0 (Aq (Ac b) f)).bind λg=>j12 a g
def TM bk8:=Bes (Bf1 bk8)
def ZB(j11:Int->Int->LB->Ia)(j14:Int->Ia)(a:Int)(b:LB):Ia:=if(Dz (Ac b) 0)then(P2 b).bind λ(f,k)=>j11 a f b
else
j14 a
def Zs:Nat->Int->LB->Ia
|0,_,_=>none
|q+1,a,b=>ZB (TM (Zs q)) Bev a b
def Bno:=Zs Ax
def YW(j8:Bwg)(h:LB):Ia:=if(Dz (Ac h) 4000)then
some (0,38)
else
j8 0 h
def Za:=YW Bno
def DD(p a:LB)(g u v w y:Int)(b:LI)(h:Int)(aa:LB)(ab:Bool)(ac:Int):Bt1:=if(geq g 0)then(Ku a).bind λ(k,f)=>if(Bd f 0)then
some f
else(Bp a k (Ac a)).bind λm=>(Ok m).bind λ(ad,ae,af,ag,ah,n)=>some n
else
if((Cj h (Ac b))||(geq (Ac b) 0))then
some 24
else(Za a).bind λ(ai,o)=>some o
def Cg:Bt7:=(Vw c I z d i F E A R e C j).bind λ(B,D,G,J,L,M,N,O,P,T,U,V,X)=>if(Bd X 0)then
some (B,D,G,J,L,M,N,O,P,T,U,V,X)
else(DD B D G J L M N O P T U V).bind λY=>if(Bd Y 0)then(bC B D G J L M N O P T U V Y).bind λ(Z,l5,l6,l7,l9,o7,o8,o9,p8,p9,q9,r9,Brm)=>some (Z,l5,l6,l7,l9,o7,o8,o9,p8,p9,q9,r9,Brm)
else
some (B,([]:LB),0,0,0,0,0,([]:LI),0,T,true,0,0)
abbrev Cl:=Option (LB×LB×Int×Int×Int×Int×Int×LI×Int×LB×Bool×Int×(List (Int×LB×Unit))×Int)
abbrev Bt8:=List (Int×LB×Unit)
def Az2(f:LB)(g h k m n o:Int)(p:LB)(u:Bool)(v:Int)(a:LB)(aa:Bt8)(w:LB)(y:LI):Cl:=some (f,w,g,h,k,m,n,y,o,p,u,v,aa,0)
def Ax2:=Az2
def Az8(j32:LB->Jz6 (LB->Bool->Int->LB-> (List (Int×LB×Unit))->LB->LI->Cl))(aa:Bt8)(f:LB)(g h k m n o:Int)(p:LB)(u:Bool)(v:Int)(a w:LB)(y:LI):Cl:=j32 f g h k m n o p u v a aa w y
def MW:=Az8 Ax2
abbrev Bt4:=Int->LB->Jz6 (LB->Bool->Int->LB-> (List (Int×LB×Unit))->LB->LI->Cl)
def CD(sw:Bt4)(b:Bt6)(ab:Int)(dm:LB)(dn dp dq dr ds dt:Int)(du:LB)(dv:Bool)(dw:Int)(dx:LB)(dy:Bt8)(dz:LB)(fa:LI):Cl:=sw (Ae ab 1) dm dn dp dq dr ds dt du dv dw dx dy dz fa
def Hr sw:=CD sw
def CA(j29:Bt4)(b:Bt6)(ac:UInt8×Int×Unit)(a:LB)(ad ab:Int)(f w:LB)(g h k m n:Int)(y:LI)(o:Int)(p:LB)(u:Bool)(v:Int)(ae:LB)(af ag ah ai aj ak:Int)(al:LB)(am:Bool)(an:Int)(aa:Bt8)(ao:LB)(ap:LI):Cl:=(
(Bp a (Fq ac.2.1 (Ac a)) (Ac a)).bind λbv=>(Dm aa ([(ad,([]:LB),())]:Bt8)).bind λar=>j29 ab ae af ag ah ai aj ak al am an bv ar ao ap)
def QR sw b:=CA (Hr sw b) b
def Bae(j29:Bt4)(b:Bt6)(au ab:Int)(f w:LB)(g h k m n:Int)(y:LI)(o:Int)(p:LB)(u:Bool)(v:Int)(a av:LB)(aw ax ay az ba bb:Int)(bc:LB)(bd:Bool)(be:Int)(bf:LB)(aa:Bt8)(ar:LB)(bg:LI):Cl:=(Dm aa ([(au,bf,())]:Bt8)).bind λfb=>j29 ab av aw ax ay az ba bb bc bd be a fb ar bg
def MS sw b:=Bae (Hr sw b) b
def Ba7(j29:Bt4)(b:Bt6)(bh ab:Int)(f w:LB)(g h k m n:Int)(y:LI)(o:Int)(p:LB)(u:Bool)(v:Int)(a bi:LB)(bj bk bl bm bn bp:Int)(bq:LB)(br:Bool)(bs:Int)(aa:Bt8)(bt:LB)(bu:LI):Cl:=(Dm aa ([(bh,([]:LB),())]:Bt8)).bind λfc=>j29 ab bi bj bk bl bm bn bp bq br bs a fc bt bu
def NT sw b:=Ba7 (Hr sw b) b
def Us(j26:(UInt8×Int×Unit)->LB->Int->Int->LB->LB->Jz5 (LI->Int->LB->Bool->Int->LB->Int->Int->Int->Int->Int->Int->LB->Bool->Int-> (List (Int×LB×Unit))->LB->LI->Cl))(j33:Int->Int->LB->LB->Jz5 (LI->Int->LB->Bool->Int->LB->LB->Int->Int->Int->Int->Int->Int->LB->Bool->Int->LB-> (List (Int×LB×Unit))->LB->LI->Cl))(j34:Int->Int->LB->LB->Jz5 (LI->Int->LB->Bool->Int->LB->LB->Int->Int->Int->Int->Int->Int->LB->Bool->Int-> (List (Int×LB×Unit))->LB->LI->Cl))(j29:Bt4)(j31:(List (Int×LB×Unit))->LB->Jz6 (LB->Bool->Int->LB->LB->LI->Cl))(b:Bt6)(ab:Int)(f:LB)(g h k m n o:Int)(p:LB)(u:Bool)(v:Int)(a:LB)(aa:Bt8)(w:LB)(y:LI):Cl:=if(Cj ab (Ac b))then(Ao b ab).bind λac=>if(geq ac.1 1)then(
(
(
(Bp a 0 (Fq ac.2.1 (Ac a))).bind λaq=>(
(Di f w g h k m n y o p u v aq).bind λ(ae,ao,af,ag,ah,ai,aj,ap,ak,al,am,an,ad)=>j26 ac a ad ab f w g h k m n y o p u v ae af ag ah ai aj ak al am an aa ao ap))))
else
if(geq ac.1 2)then(
(
(
(Vk f w g h k m n y o p u v ac.2.1).bind λ(av,ar,aw,ax,ay,az,ba,bg,bb,bc,bd,be,bf,au)=>j33 au ab f w g h k m n y o p u v a av aw ax ay az ba bb bc bd be bf aa ar bg)))
else
if(geq ac.1 3)then(
(
(
(Cg f w g h k m n y o p u v).bind λ(bi,bt,bj,bk,bl,bm,bn,bu,bp,bq,br,bs,bh)=>j34 bh ab f w g h k m n y o p u v a bi bj bk bl bm bn bp bq br bs aa bt bu)))
else
j29 ab f g h k m n o p u v a aa w y
else
j31 aa f g h k m n o p u v a w y
def Hl:Nat->Int->LB->Jz6 (LB->Bool->Int->LB-> (List (Int×LB×Unit))->LB->LI->Cl)
|0,_,_,_,_,_,_,_,_,_,_,_,_,_,_,_=>none
|z+1,c,d,e,i,j,A,B,C,D,E,F,G,I,J,L=>Us (QR (Hl z) Brt) (MS (Hl z) Brt) (NT (Hl z) Brt) (Hr (Hl z) Brt) MW Brt c d e i j A B C D E F G I J L
def Bo0 b:=Hl b Ax
def TD(j17:(List (UInt8×Int×Unit))->Int->LB->Jz6 (LB->Bool->Int->LB-> (List (Int×LB×Unit))->LB->LI->Cl))(fd fe:LB)(b:Bt6):Cl:=(aZ b).bind λbx=>if(Bd bx 0)then
some (([]:LB),([]:LB),0,0,0,0,0,([]:LI),0,([]:LB),false,0,([]:Bt8),bx)
else(Uw fd).bind λ(ff,fg,fh,fi,fj,fk,fl,fm,fn,fo,fp,fq,bz)=>if(Bd bz 0)then
some (([]:LB),([]:LB),0,0,0,0,0,([]:LI),0,([]:LB),false,0,([]:Bt8),bz)
else
j17 b 0 ff fh fi fj fk fl fn fo fp fq fe ([]:Bt8) fg fm
def AL:=TD Bo0
def Bdp:Bt9:=some c
def SM:=Bdp
def FK(j6:Bv3)(Tn:Bwc)(a:Bt8)(f:Int)(b:LB):Bt9:=if(Cj f (Ac a))then(Ao a f).bind λg=>(Dm b g.2.1).bind λh=>Tn (Ae f 1) h
else
j6 b
def Rk(a:Bt8):Nat->Int->LB->Option (LB)
|0,_,_=>none
|q+1,f,b=>FK SM (Rk a q) a f b
def Bps a:=Rk a Ax
def Bah(j4:(List (Int×LB×Unit))->Int->LB->Option (LB))(a:Bt8):Bt9:=j4 a 0 ([]:LB)
def AR:=Bah Bps
def Yu:Bt2:=(IF 1 8 8000 ([]:LB) ([(129:UInt8)]:LB) 1).bind λ(a,b)=>(LC (Ac a) 5 1).bind λ(f,g)=>(AL ([]:LB) a f).bind λ(n,o,p,u,v,w,y,aa,ab,ac,ad,ae,h,k)=>if((((geq b 0)&&(geq (Ac a) 36))&&(geq g 0))&&(geq k 0))then(AR h).bind λm=>some (m==([129]:LB))
else
some false
def TA(a b f:Int)(g:LX):Bud:=some (a,b)
def SV:Bt1:=(TA z d i B).bind λ(c,e)=>(Fl c e).bind λj=>if((Bd j 0)||(Cj E 1))then
some 8
else(Jb (Bd z 0)).bind λ_=>if(Dz E (Ca 4000 z))then
some 8
else(Lh i E).bind λ(A,C)=>if(Bd C 0)then
some 8
else
some 0
def Ga:Bt1:=if(Cj z 1)then
some 8
else(Jb (Bd z 0)).bind λ_=>if(Bd (Ge (Ac B) z) 0)then
some 8
else(Jb (Bd z 0)).bind λ_=>(SV z d i B (Ca (Ac B) z)).bind λc=>if(Bd c 0)then
some c
else(Uq d B).bind λe=>if(Bd e 0)then
some 8
else
some 0
abbrev kP:=Option (Int×Int×Int×Int×Int×Int)
def Bkr:kP:=if(c !=([]:LB))then
some (2,z,d,i,(Ca (Ac B) z),0)
else
some (1,z,d,i,(Ca (Ac B) z),0)
def dO:=Bkr
def MP(j2:LB->Jz3 (LX->kP))(a b f:Int)(g:LX)(h:LB):kP:=(Ga a b f g).bind λk=>if(Bd k 0)then
some (0,0,0,0,0,k)
else
if(Dz (Ac h) 64)then
some (0,0,0,0,0,2)
else(Jb (Bd a 0)).bind λ_=>(
j2 h a b f g)
def iQ:=MP dO
def Vx(a:Int)(b:LX):LI->Int->Option (List LX)
  |[],_=>some []
  |n::l,x=>Option.bind (Bp b x (Ae x (Bm n a))) λp=>Option.bind (Vx a b l (Ae x (Bm n a))) λps=>some (p::ps)
def Vs(a f:Int)(t:LX):List LX->List LB->Option (List LB×Int)
  |[],o=>some (o,0)
  |x::xs,o=>Option.bind (Oz a f t x) λy=>
    if(Bd y.2 0)=true then some ([],y.2)
    else Option.bind (Dm o [y.1]) λo'=>Vs a f t xs o'
def eW:Option (List LX):=
  Option.bind (Jb (Bd z 0)) λ_=>Option.bind (CZ d (Ca (Ac B) z)) λc=>Option.bind (Jb (decide (Ac c.1<=17179869184))) λ_=>Vx z B c.1 0
def VV:Option (List LB×Int):=
  Option.bind (Ga z d i B) λc=>
    if(Bd c 0)=true then some ([],c)
    else Option.bind (Nu e) λj=>
      if(Bd j.2 0)=true then some ([],j.2)
      else Option.bind (eW z i B) λA=>Vs z d j.1 A []
def jU:Bt1:=some (Ac c)
def Bn0 (b:LB):Bt9:=some b
def Bm1:=Bn0
def PH:Bt9:=if(Cj Br6 (Ac Bsw))then(Ao Bsw Br6).bind λz=>(Dm Bsx z).bind λc=>Bss (Ae Br6 1) c
else
Bsr Bsx
def Ye:Nat->Int->LB->Option (LB)
|0,_,_=>none
|z+1,c,d=>PH Bm1 (Ye z) G c d
def Aab a:=Ye a Ax
def Bk5(j4:Bvp)(a:Bt5):Bt9:=j4 a 0 ([]:LB)
def xU:=Bk5 Aab
abbrev Gy:=Option (LB×Int)
def Bg9:Gy:=if(Bd z 0)then
some (([]:LB),z)
else(Dm ([O,Y,Brz]:Bt5) G).bind λc=>(xU c).bind λd=>some (d,0)
def Bht:=Bg9
def Bgj(j14:Int-> (List LB)->LB->LB->LB->Gy)(h:LI)(a:Bt5)(b f:LB):Gy:=(MG h).bind λ(n,k)=>j14 k a b f n
def Zz:=Bgj Bht
def Bfm(bk9:Int->LI->Gy)(a:Bt5)(b f:LB)(g:Int)(m:LI):Gy:=bk9 (Ae g 1) m
def YL bk9:=Bfm bk9
def OT(j11:Int->LI->Gy)(j13:LI-> (List LB)->LB->LB->Gy)(a:Bt5)(b f:LB)(g:Int)(h:LI):Gy:=if(Cj g (Ac a))then(Ao a g).bind λ_=>(Ao a g).bind λae=>(jU ae).bind λk=>(Ao h g).bind λ_=>(Pc h g k).bind λm=>j11 g m
else
j13 h a b f
def Yd:Nat->Int->LI->Gy
|0,_,_=>none
|z+1,c,d=>OT (YL (Yd z) G O Y) Zz G O Y c d
def Aax a b f:=Yd a b f Ax
def bX(j9:(List LB)->LB->LB->Int->LI->Gy)(a:Bt5)(b f:LB):Gy:=(mkI (Ac a) (0:Int)).bind λaf=>(Jb (geq (Ac a) (Ac a))).bind λ_=>j9 a b f 0 af
def dH:=bX Aax
def cP(j8:(List LB)->LB->LB->Gy)(p u v:Int)(w:LX)(o:LB):Gy:=(iQ p u v w o).bind λ(y,ag,ah,ai,aj,aa)=>if(Bd aa 0)then
some (([]:LB),aa)
else(VV p u v w o).bind λ(a,ab)=>if(Bd ab 0)then
some (([]:LB),ab)
else(OY y ag ah ai aj).bind λ(b,ac)=>if(Bd ac 0)then
some (([]:LB),ac)
else
if(geq y 2)then(FF o).bind λ(ak,al)=>j8 a b ak
else
j8 a b ([]:LB)
def jC:=cP dH
def JV:Bt1:=(Gg i).bind λ(c,j)=>(Cv z d).bind λA=>if(((Bd A 0)||(Bd j 0))||(Dz (Ac e) 64))then
some 2
else
some 0
def Va(f g a:Int)(h k:LB)(m:LX)(n:Bt5)(o:LB)(p:Bool)(u:Int):Bt1:=(Gg a).bind λ(b,v)=>some b
def Fw:Bt1:=some (Ca (Bm z d) 8)
def KD:Bt1:=(Jb (Bd z 0)).bind λ_=>(Va z d i e N J G O C j).bind λc=>some (Ae (Bm (Ac G) c) (Ca (Ac J) z))
def PT(a g h:Int)(k m:LB)(n:LX)(o:Bt5)(p:LB)(u:Bool)(v b f:Int):Bt2:=if(tZ b 1000)then(Jb (Bd a 0)).bind λ_=>some (tZ f (Ca 4000 a))
else
some false
def Bol:Bt2:=some true
def Abg:=Bol
def Oe(j12:Bt2)(QB:Bvl)(h f g n:Int)(o k:LB)(b:LX)(a:Bt5)(m:LB)(p:Bool)(u v:Int):Bt2:=if(Cj v (Ac a))then(Ao a v).bind λw=>if(Cj (Ac w) 5)then
some false
else(Ao a v).bind λy=>if(Dz (Ac y) (Ae (Ca (Ae (Bm (Bm 81 h) f) 7) 8) 4))then
some false
else
QB (Ae v 1)
else
j12
def Gx:Nat->Int->Option Bool
|0,_=>none
|c+1,A=>Oe Abg (Gx c) z d i F e N J G O C j A
def Ab6 h f g n o k b a m p u:=Gx h f g n o k b a m p u Ax
def Xt(j10:Bue)(h f g n:Int)(o k:LB)(b:LX)(a:Bt5)(m:LB)(p:Bool)(u:Int):Bt2:=j10 h f g n o k b a m p u 0
def Abo:=Xt Ab6
def Xi:Bt2:=(KD U Z Br3 e N J G O C j).bind λz=>(PT U Z Br3 e N J G O C j M z).bind λc=>if(!c)then
some false
else
l9 L U Z Br3 e N J G O C j
def Xo:=Xi Abo
def Wy(j8:Bue)(h f g n:Int)(o k:LB)(b:LX)(a:Bt5)(m:LB)(p:Bool)(u:Int):Bt2:=if(Dz (Ac b) 0)then
j8 h f g n o k b a m p u (Ae (Ac a) 1)
else
j8 h f g n o k b a m p u (Ac a)
def Xa:=Wy Xo
def Xx:Bt2:=(Va L U Z e N J G O C j).bind λz=>if(Dz (Ac O) 0)then
if true then
if(true||(Le (Ac J) (Bm z L)))then
if(true||(Dz (Ac G) 1000))then
some false
else
l9 z L U Z e N J G O C j
else(Au U J).bind λc=>if((Bd c 0)||(Dz (Ac G) 1000))then
some false
else
l9 z L U Z e N J G O C j
else(Jb (Bd L 0)).bind λ_=>if((Bd (Ge (Ac J) L) 0)||(Le (Ac J) (Bm z L)))then
if(true||(Dz (Ac G) 1000))then
some false
else
l9 z L U Z e N J G O C j
else(Au U J).bind λd=>if((Bd d 0)||(Dz (Ac G) 1000))then
some false
else
l9 z L U Z e N J G O C j
else(Fw L U).bind λi=>if(Le (Ac N) i)then
if(true||(Le (Ac J) (Bm z L)))then
if(true||(Dz (Ac G) 1000))then
some false
else
l9 z L U Z e N J G O C j
else(Au U J).bind λA=>if((Bd A 0)||(Dz (Ac G) 1000))then
some false
else
l9 z L U Z e N J G O C j
else(Jb (Bd L 0)).bind λ_=>if((Bd (Ge (Ac J) L) 0)||(Le (Ac J) (Bm z L)))then
if(true||(Dz (Ac G) 1000))then
some false
else
l9 z L U Z e N J G O C j
else(Au U J).bind λB=>if((Bd B 0)||(Dz (Ac G) 1000))then
some false
else
l9 z L U Z e N J G O C j
def Uk:=Xx Xa
def Yn:Bt1:=(JV z d i e).bind λc=>if(Bd c 0)then
some 8
else
if(Bd j 0)then
if(((((Bd j 18)&&(Bd j 24))||C)||(!(((geq (Ac N) 0)&&(geq (Ac J) 0))&&(geq (Ac G) 0))))||(Dz (Ac O) 0))then
some 8
else
some 0
else
if C then
if((!(((geq (Ac N) 0)&&(geq (Ac J) 0))&&(geq (Ac G) 0)))||(Dz (Ac O) 100000))then
some 8
else
some 0
else(Uk z d i e N J G O C j).bind λA=>if(!A)then
some 8
else
some 0
def Acf:Bt2:=(CR z d i e Y Brm Br0 Bsq C j).bind λ(A,B,D,E,F,G,I,J,L,M,N)=>(HN A B D E F G I J L M 100000).bind λ(O,P,R,T,U,V,X,Z,l5,l6,l7,l9)=>some (((geq N 0)&&(geq l9 0))&&(l7==c))
def Ace:=Acf
def Abw(j12:LB->Jz3 (LB->Bool->Int->LB->LX-> (List LB)->LB->Option Bool))(a:LB)(ab b f g:Int)(h:LB)(k:Bool)(m:Int)(n:LB)(o:LX)(p:Bt5)(u:LB):Bt2:=if(Bd ab 0)then
some false
else(Yn b f g h n o p u k m).bind λar=>if(Bd ar 0)then
some false
else
j12 a b f g h k m n o p u
def Yf:=Abw Ace
def Ady(bk7:Jz6 (LB->Bool->Int->LB->LX-> (List LB)->LB->Option Bool))(v a:LB)(w:LI)(y aa b f g:Int)(h:LB)(k:Bool)(m:Int)(n:LB)(o:LX)(p:Bt5)(u:LB)(aj:Int):Bt2:=(Bp v y (Ae y aj)).bind λau=>(MZ b f g h n o p u k m au).bind λ(ac,ad,av,aw,ae,af,ag,ax,ay,ah,ai)=>bk7 ai (Ae y aj) (Ae aa 1) ac ad av aw ay ah ae af ag ax
def Ql bk7:=Ady bk7
def Qo(j9:Jz5 (LB->Bool->Int->LB->LX-> (List LB)->LB->Int->Option Bool))(j11:LB->Jz4 (LB->Bool->Int->LB->LX-> (List LB)->LB->Option Bool))(v a:LB)(w:LI)(ab y aa b f g:Int)(h:LB)(k:Bool)(m:Int)(n:LB)(o:LX)(p:Bt5)(u:LB):Bt2:=if((tZ aa (Ac w))&&(geq ab 0))then
if(Cj aa (Ac w))then(Ao w aa).bind λaz=>j9 y aa b f g h k m n o p u (Fq (Aq (Ac v) y) (pJ 0 az))
else
j9 y aa b f g h k m n o p u (Aq (Ac v) y)
else
j11 a ab b f g h k m n o p u
def Gs:Nat->Jz6 (LB->Bool->Int->LB->LX-> (List LB)->LB->Option Bool)
|0,_,_,_,_,_,_,_,_,_,_,_,_,_=>none
|z+1,d,e,i,j,B,C,D,E,F,G,J,L,M=>Qo (Ql (Gs z) c I A) Yf c I A d e i j B C D E F G J L M
def Bpg v a w:=Gs v a w Ax
def Zr(j7:LB->LB->LI->Jz6 (LB->Bool->Int->LB->LX-> (List LB)->LB->Option Bool))(ba bb bc:Int)(bd v a:LB)(w:LI):Bt2:=(WR ba bb bc bd).bind λ(be,bf,bg,bh,bi,bj,bk,bl,bm,bn,bp)=>j7 v a w bp 0 0 be bf bg bh bm bn bi bj bk bl
def We:=Zr Bpg
abbrev Em:=Option (LB×LB×Int×Int×Int×Int×Int×LI×Int×LB×Bool×Int×LB)
def Ab9:Em:=(Cg c Y z d i F E Bs8 o7 e C j).bind λ(A,B,D,G,I,J,L,M,N,O,P,R,T)=>(Vk A B D G I J L M N O P R 100000).bind λ(U,V,X,Z,l5,l6,l7,l9,o8,o9,p8,p9,q9,r9)=>some (A,B,D,G,I,J,L,M,N,O,P,R,q9)
def Vl:=Ab9
def Ab7(bk7:Int->Int->LB->Jz6 (LB->Bool->Int->LB->LI->Em))(a:LB)(b:LI)(f ab:Int)(g:LB)(h k m n o p:Int)(u:LB)(v:Bool)(w:Int)(y:LB)(aa:LI)(ao:Int):Em:=(Bp a f (Ae f ao)).bind λaq=>(Di g y h k m n o aa p u v w aq).bind λ(ar,au,ac,ad,ae,av,af,ag,aw,ax,ay,az,de)=>bk7 (Ae f ao) (Ae ab 1) ar ac ad ae av af aw ax ay az au ag
def Oc bk7:=Ab7 bk7
def Pg(j10:Int->Int->LB->Jz6 (LB->Bool->Int->LB->LI->Int->Em))(j12:LB->Jz6 (LB->Bool->Int->LB->LI->Em))(a:LB)(b:LI)(f ab:Int)(g:LB)(h k m n o p:Int)(u:LB)(v:Bool)(w:Int)(y:LB)(aa:LI):Em:=if(tZ ab (Ac b))then
if(Cj ab (Ac b))then(Ao b ab).bind λba=>j10 f ab g h k m n o p u v w y aa (Fq (Aq (Ac a) f) (pJ 0 ba))
else
j10 f ab g h k m n o p u v w y aa (Aq (Ac a) f)
else
j12 g h k m n o p u v w y aa
def Gc:Nat->Int->Int->LB->Jz6 (LB->Bool->Int->LB->LI->Em)
|0,_,_,_,_,_,_,_,_,_,_,_,_,_,_=>none
|z+1,d,e,i,j,B,C,D,E,F,G,I,J,L,M=>Pg (Oc (Gc z) c A) Vl c A d e i j B C D E F G I J L M
def Bp4 a b:=Gc a b Ax
def Xb(j7:LB->LI->Int->Int->LB->Jz6 (LB->Bool->Int->LB->LI->Em))(bb a:LB)(b:LI):Em:=(Uw bb).bind λ(bc,bd,be,bf,bg,bh,bi,bj,bk,bl,bm,bn,df)=>j7 a b 0 0 bc be bf bg bh bi bk bl bm bn bd bj
def Pa:=Xb Bp4
abbrev Jy:=Option (LB×Int)
def Avo:Jy:=(Cg c Y z d i F E Bs8 o7 e C j).bind λ(A,B,D,G,I,J,L,M,N,O,P,R,T)=>some (O,T)
def NM:=Avo
def Ayv(bk7:LB->Int->LB->Jz6 (LB->Bool->Int->LB->LI->Jy))(a:LI)(b:LB)(ag ah f:Int)(aj:LB)(ac ad ae ak af al:Int)(ai:LB)(am:Bool)(an:Int)(ao:LB)(ab:LI):Jy:=if(Bd ag 0)then
some (ai,ag)
else(Bp b ah (Ac b)).bind λau=>bk7 au (Ae f 1) aj ac ad ae ak af al ai am an ao ab
def QN bk7:=Ayv bk7
def UD(j10:LB->Jz3 (LB->Int->Int->Int->Int->Int->Int->LB->Bool->Int->LB->LI->Jy))(j12:LB->Jz6 (LB->Bool->Int->LB->LI->Jy))(a:LI)(b:LB)(f:Int)(g:LB)(h k m n o p:Int)(u:LB)(v:Bool)(w:Int)(y:LB)(aa:LI):Jy:=if(Cj f (Ac a))then(Ao a f).bind λah=>(Bp b 0 ah).bind λap=>(Di g y h k m n o aa p u v w ap).bind λ(aj,ao,ac,ad,ae,ak,af,ab,al,ai,am,an,ag)=>j10 b ag ah f aj ac ad ae ak af al ai am an ao ab
else
j12 g h k m n o p u v w y aa
def Yh:Nat->LB->Int->LB->Jz6 (LB->Bool->Int->LB->LI->Jy)
|0,_,_,_,_,_,_,_,_,_,_,_,_,_,_=>none
|z+1,c,d,e,i,j,B,C,D,E,F,G,I,J,L=>UD (QN (Yh z) A) NM A c d e i j B C D E F G I J L
def Bpn a:=Yh a Ax
def UI(j7:LI->LB->Int->LB->Jz6 (LB->Bool->Int->LB->LI->Jy))(av aw:LB)(a:LI):Jy:=(Uw av).bind λ(ax,ay,az,ba,bb,bc,bd,be,bf,bg,bh,bi,aq)=>if(Bd aq 0)then
some (([]:LB),aq)
else
j7 a aw 0 ax az ba bb bc bd bf bg bh bi ay be
def UK:=UI Bpn
def HS:Bvo:=(HD (Ac I) D).bind λ(z,d)=>if(Bd d 0)then
some (([]:LB),d)
else(UK c I z).bind λ(e,i)=>some (e,i)
abbrev jQ:=Option (Int×Int×Int×Int×Int×Int×LI×Int)
def Bki:jQ:=(Ec z d i F E).bind λ(e,j)=>if(Bd j 0)then
some (0,0,0,0,0,0,([]:LI),j)
else(Bp c o7 (Ac c)).bind λA=>(JT A (Ac e)).bind λ(B,C)=>if(Bd C 0)then
some (0,0,0,0,0,0,([]:LI),C)
else
some (z,d,i,F,E,(Ae (Ae o7 (Bm 4 (Ac B))) 4),B,0)
def On:=Bki
def Of(j2:LB->Jz6 jQ)(a n:LB):jQ:=if(Dz (Ac n) 64)then
some (0,0,0,0,0,0,([]:LI),2)
else
if(Dz (Ac a) 100000)then
some (0,0,0,0,0,0,([]:LI),4)
else(Ku a).bind λ(f,w)=>if(Bd w 0)then
some (0,0,0,0,0,0,([]:LI),w)
else(Bp a f (Ac a)).bind λad=>(Ok ad).bind λ(b,g,h,k,m,y)=>if(Bd y 0)then
some (0,0,0,0,0,0,([]:LI),y)
else
if((n==([]:LB)) !=(geq b 1))then
some (0,0,0,0,0,0,([]:LI),26)
else
if(n !=([]:LB))then
if(Cj (Ac a) (Ae (Ae f 22) 8))then
some (0,0,0,0,0,0,([]:LI),24)
else(Bp a (Ae f 22) (Ae (Ae f 22) 8)).bind λae=>(Qt ae n).bind λ(af,aa)=>if(Bd aa 0)then
some (0,0,0,0,0,0,([]:LI),aa)
else
if(!af)then
some (0,0,0,0,0,0,([]:LI),26)
else
j2 a b g h k m (Ae (Ae f 22) 8)
else
j2 a b g h k m (Ae f 22)
def Cf:=Of On
def Ur:Bt1:=some (pJ 1 (Ca (Bm 256 z) 245))
def Te:Buk:=some A
def Nj:=Te
def Jk(j6:Bv5)(Tn:Bvb)(a f:Int)(b:LI):Buk:=if(Dz f 0)then(Ur a).bind λg=>(Dm b ([(Fq f g)]:LI)).bind λh=>(Ur a).bind λk=>Tn (Aq f k) h
else
j6 b
def Fs:Nat->Int->LI->Option (LI)
|0,_,_=>none
|c+1,d,e=>Jk Nj (Fs c) z d e
def Afw a:=Fs a Ax
def BI(j4:Int->Int->LI->Option (LI))(a m:Int):Buk:=j4 a m ([]:LI)
def Et:=BI Afw
abbrev Ka:=Option (LI×Int)
def Bnn:Ka:=some (A,0)
def Awg:=Bnn
def Bds(M0:Int->Int->LI->Ka)(a:LI)(b g h:Int)(k:LI):Ka:=M0 (Ae b 1) (Ae g h) k
def TS M0:=Bds M0
def EW(j8:Jz3 (LI->Ka))(j10:LI->Ka)(a:LI)(b g:Int)(f:LI):Ka:=if(Cj b (Ac a))then(Ao a b).bind λh=>(Dm f ([(Ae g h)]:LI)).bind λk=>j8 b g h k
else
j10 f
def Rr:Nat->Int->Int->LI->Ka
|0,_,_,_=>none
|z+1,c,d,e=>EW (TS (Rr z) A) Awg A c d e
def Bpr a:=Rr a Ax
def TX(j6:LI->Int->Int->LI->Ka)(a:LI):Ka:=(Ra a).bind λm=>if(Bd m 0)then
some (([]:LI),m)
else
j6 a 0 0 ([(0:Int)]:LI)
def UY:=TX Bpr
abbrev Ce:=Option (LB×Int)
def Bmt:Ce:=(Bp c 0 (Ac c)).bind λz=>(Za z).bind λ(d,e)=>if(Bd e 0)then
some (([]:LB),38)
else
some (([]:LB),0)
def Bhi:=Bmt
def Bfw(j21:LB->Ce)(a:LB)(y:Int):Ce:=if(Cj y 0)then
none
else
j21 a
def Bge:Nat->Ce
|0=>none
|d+1=>Bfw Bhi c z
def Bo4 a y:=Bge a y Ax
def Bhv(j19:LB->Int->Ce)(a:LB)(y ah:Int):Ce:=if(Bd ah 0)then
some (([]:LB),ah)
else
if((Cj y 0)||(Le y 0))then
some (([]:LB),2)
else
j19 a y
def Bo3:=Bhv Bo4
def Bfl:Ce:=(Bp c (Ae z d) (Ac c)).bind λi=>(Za i).bind λ(j,A)=>if(Bd A 0)then
some (([]:LB),38)
else
some (e,0)
def ZI:=Bfl
def Bgf(A4:Int->LB->Ce)(a:LB)(f:LI)(b k n m h o p:Int)(u:LX)(v g:LI)(w:Int)(ad:LB):Ce:=A4 (Ae w 1) ad
def Bgi A4:=Bgf A4
def Bg5(j30:Int->LB->Ce)(a:LB)(f:LI)(b k n m h o p:Int)(u:LX)(v g:LI)(w:Int)(aa:LB)(ai:Int)(ar:LB):Ce:=if(Bd ai 0)then
some (([]:LB),ai)
else(Dm aa ar).bind λad=>j30 w ad
def IV A4 a f b k n m h o p u v g:=Bg5 (Bgi A4 a f b k n m h o p u v g) a f b k n m h o p u v g
abbrev Bwd:=Int->LB->Int->LB->Ce
def Bgk(j29:Bwd)(a:LB)(f:LI)(b k m h n o p:Int)(u:LX)(v g:LI)(ab w:Int)(ae:LX)(aa:LB):Ce:=if(Bd ab 0)then
j29 w aa ab ([]:LB)
else(Kw h ae).bind λ(au,av)=>j29 w aa av au
def Bgp A4 a f b k m h n o p u v g:=Bgk (IV A4 a f b k n m h o p u v g) a f b k m h n o p u v g
def Bgw(j29:Bwd)(j28:Int->Int->LX->LB->Ce)(b:Int)(a:LB)(f:LI)(k m h:Int)(u:LX)(n o p:Int)(v g:LI)(w af ac:Int)(aa:LB):Ce:=if(Dz (Ae b ac) (Ac a))then
j29 w aa 24 ([]:LB)
else(Ao f w).bind λ_=>(Bp a (Ae b af) (Ae b ac)).bind λaw=>(Ao f w).bind λax=>(Jn m h u ax aw).bind λ(ae,ab)=>j28 ab w ae aa
def IU A4 b a f k m h u n o p v g:=Bgw (IV A4 a f b k n m h o p u v g) (Bgp A4 a f b k m h n o p u v g) b a f k m h u n o p v g
def IJ(j27:Jz3 (LB->Ce))(j32:LB->Int->Int->LB->Ce)(a:LB)(f:LI)(b k n m h o p:Int)(u:LX)(v g:LI)(w:Int)(aa:LB):Ce:=if(Cj w (Ac f))then(Ao g w).bind λ_=>(Ao g (Ae w 1)).bind λ_=>(Ao g w).bind λaf=>(Ao g (Ae w 1)).bind λac=>j27 w af ac aa
else
j32 a b k aa
def Ub:Nat->Int->LB->Ce
|0,_,_=>none
|z+1,d,e=>IJ (IU (Ub z) R c A Bsj Bsl Bsm V Bsk Bsn Bso Bsp Bs0) ZI c A R Bsj Bsk Bsl Bsm Bsn Bso V Bsp Bs0 d e
def Bmv a f b k n m h o p u v g:=Ub a f b k n m h o p u v g Ax
def ZD(j22:LB->LI->Jz7 (LX->LI->LI->Int->LB->Ce))(a:LB)(y:Int)(f:LI)(b k n m h o p:Int)(u:LX)(v g:LI):Ce:=if(Bd (0:Int) (0:Int))then
some (([]:LB),0)
else
if((Cj y 0)||(Le y (Ac f)))then
some (([]:LB),2)
else
j22 a f b k n m h o p u v g y ([]:LB)
def Bhq:=ZD Bmv
def cL(j17:LB->Int->Int->Ce)(j18:LB->Int->LI->Jz7 (LX->LI->LI->Ce))(a aj:LB)(y:Int):Ce:=(Cf a aj).bind λ(n,m,h,o,p,b,v,ak)=>if(Bd ak 0)then
j17 a y ak
else(Ec n m h o p).bind λ(f,al)=>if(Bd al 0)then
j17 a y al
else(UY v).bind λ(g,am)=>if(Bd am 0)then
j17 a y am
else(Nu aj).bind λ(u,an)=>if(Bd an 0)then
j17 a y an
else(Ao g (Ac f)).bind λ_=>(Ao g (Ac f)).bind λk=>j18 a y f b k n m h o p u v g
def VU:=cL Bo3 Bhq
def Acy(g b a:LB)(f h af ag:Int)(aj:LB)(ak al am an ao ap:Int)(ah:LB)(aq:Bool)(ar:Int)(au:LB)(av:LI):Bt2:=(VU b g f).bind λ(aw,ax)=>if(((geq af 0)&&(geq ag 0))&&(geq ax 0))then(Bp a 0 h).bind λay=>if(ah==ay)then(Bp a h (Ac a)).bind λaz=>some (aw==az)
else
some false
else
if false then(Bp a h (Ac a)).bind λba=>some (aw==ba)
else
some false
def Afa:=Acy
def Afh(j8:LB->LB->LB->Jz4 (LB->Int->Int->Int->Int->Int->Int->LB->Bool->Int->LB->LI->Option Bool))(g b a:LB)(f p h:Int):Bt2:=if((Dz p (Ac b))||(Dz h (Ac a)))then
some false
else(Uw g).bind λ(bb,bc,ai,bd,be,bf,bg,bh,bi,bj,bk,bl,af)=>(Bp b 0 p).bind λbm=>(Di bb bc ai bd be bf bg bh bi bj bk bl bm).bind λ(aj,au,ak,al,am,an,ao,av,ap,ah,aq,ar,ag)=>j8 g b a f h af ag aj ak al am an ao ap ah aq ar au av
def Qq:=Afh Afa
def Qp(j7:LB->LB->LB->Jz3 (Option Bool))(bk5:Jz3 (Option Bool))(g b a:LB)(f m v w:Int)(y:LX)(aa ab ac ad ae u:Int)(k n:LI)(p h o:Int):Bt2:=if(Cj o f)then(Ao n o).bind λ_=>(Ao n o).bind λbn=>(Ao k o).bind λ_=>(Ao k o).bind λbp=>(Fw m v).bind λai=>bk5 (Ae p (pJ 0 bn)) (Ae h (Bm bp ai)) (Ae o 1)
else
j7 g b a f p h
def Io:Nat->Jz3 (Option Bool)
|0,_,_,_=>none
|e+1,j,C,D=>Qp Qq (Io e) c I Bs4 z d i F B E o7 Bsi Btj Btk Btl A Bsb j C D
def Bpw g b a f m v w y aa ab ac ad ae u k n:=Io g b a f m v w y aa ab ac ad ae u k n Ax
def Ys(j5:LB->LB->LB->Jz4 (LX->Int->Int->Int->Int->Int->Int->LI->LI->Int->Int->Int->Option Bool))(m v w:Int)(y:LX)(g b a:LB)(f:Int):Bt2:=(Cf b g).bind λ(aa,ab,ac,ad,ae,u,n,bq)=>(Jb (Bd m 0)).bind λ_=>(Et w (Ca (Ac y) m)).bind λk=>if(((Bd bq 0)||(Bd (Ac n) (Ac k)))||(Cj u 0))then
some false
else
if((Cj f 0)||(Le f (Ac k)))then
some true
else
j5 g b a f m v w y aa ab ac ad ae u k n u 0 0
def Wb:=Ys Bpw
def Wl:Bt2:=(LC (Ac I) (Ae 1 (Ca (Ac I) 50)) 3).bind λ(z,d)=>(AL c I z).bind λ(e,i,j,A,B,C,D,E,F,G,J,L,M,N)=>(
if(((geq d 0)&&(geq N 0))&&(geq L 24))then(AR M).bind λO=>(
some (O==Bs4))
else
some false)
def GU:=Wl
def GA(j2:LB->LB->LB->Option Bool)(f a p:LB)(ah:LI)(ai:UInt64):Bt2:=(Pa f a ah).bind λ(an,ao,ap,aq,ar,au,av,aw,ax,ay,az,aj,b)=>(HS f a ai).bind λ(ak,al)=>if((((Bd aj 24)||(Bd al 24))||(b !=ak))||(Dz (Ac b) (Ac p)))then
some false
else(Bp p 0 (Ac b)).bind λam=>if(b !=am)then
some false
else
j2 f a b
def EZ:=GA GU
def Agy:Bt2:=if((Cj l5 1)||(Dz l5 (Ac Bsg)))then
some true
else(Bp Bsg 0 (Aq (Ac Bsg) l5)).bind λz=>(EZ c z Br1 A D).bind λd=>some d
def Aha:=Agy
def Ag6(j4:LB->LI->UInt64->Int->LB->LB->Option Bool)(a:LB)(g:LI)(k:UInt64)(u m n h o:Int)(p:LX)(f b:LB):Bt2:=(Pa a b g).bind λ(am,an,ao,ap,aq,ar,au,av,aw,ax,y,aa,ab)=>(HS a b k).bind λ(ac,ad)=>if(((((Bd aa 0)||(!y))||(ab !=f))||(Bd ad 0))||(ac !=f))then
some false
else(Wb n h o p a b f u).bind λae=>if(!ae)then
some false
else
j4 a g k m b f
def Ag8:=Ag6 Aha
def Agx(j3:LB->LI->UInt64->Jz5 (LX->LB->LB->Option Bool))(n h o:Int)(p:LX)(a:LB)(g:LI)(k:UInt64)(u m:Int):Bt2:=(Ee n h o p).bind λaf=>if((((Bd af 0)||(Dz (Ac p) 200))||(Dz (Ac a) 64))||(Dz (Ac g) 40))then
some true
else(Yu).bind λag=>if(!ag)then
some false
else(Kw h p).bind λ(f,ah)=>(jC n h o p a).bind λ(b,ai)=>(IF n h o a f k).bind λ(aj,ak)=>if((((Bd ah 0)||(Bd ai 0))||(Bd ak 0))||(aj !=b))then
some false
else(We n h o a f b g).bind λal=>if(!al)then
some false
else
j3 a g k u m n h o p f b
def Yv:=Agx Ag8
def Mi:Bt2:=if((((geq z 1)||(geq z 2))&&(Le d 1))&&(tZ d 6))then
some ((((((geq i 8)||(geq i 16))||(geq i 24))&&(Le F 1))&&(tZ F 1048576))&&(Le E 1))
else
some (((false&&(Le F 1))&&(tZ F 1048576))&&(Le E 1))
def CG(h a k f b:Int):Bt2:=(
(Jb (Bd a 0)).bind λ_=>(
if(Dz b (Ca 4000 a))then
some true
else(Et f b).bind λg=>some (Dz (Ac g) 1000)))
def Nv:Bt1:=(Mi z d i F E).bind λc=>if(!c)then
some 8
else(CG z d i F E).bind λe=>if e then
some 8
else
some 0
def Es(a f g h k:Int)(b:LB):Bt1:=if((b==([]:LB)) !=(geq a 1))then
some 26
else
some 0
def Aff:Bt1:=if(Dz z 100000)then
some 8
else
some 0
def Af5:=Aff
def Age:Bt1:=(Ao Br8 r9).bind λz=>Br7 (Ae Br2 z) (Ae r9 1)
def Agi M0:=Age M0
def BJ:Bt1:=if(Cj Bs2 (Ac Btb))then(Ao Btb Bs2).bind λz=>if(Cj z 5)then
some 8
else(Ao Btb Bs2).bind λc=>if(Dz c 100000)then
some 8
else
Br7 Bsy Bs2
else
Bty Bsy
def Nh:Nat->Int->Int->Option Int
|0,_,_=>none
|z+1,c,d=>BJ (Agi (Nh z) A) Af5 A c d
def Agv a:=Nh a Ax
def AU(j6:Bvg)(a:LI):Bt1:=if((Cj (Ac a) 1)||(Dz (Ac a) 1000))then
some 8
else
j6 a 0 0
def Kb:=AU Agv
def Ic(g h k a b:Int):Buk:=(Et a b).bind λf=>some f
def Gq(f a b g h:Int):Bud:=some (a,b)
def Amc:Bt1:=(Gq d i F E o7).bind λ(c,e)=>(Fw c e).bind λj=>some (Bm z j)
def Ahs:=Amc
def DB(j6:Jz6 (Option Int))(Tn:Bvq)(n a b f g h:Int)(k:LI)(m o:Int):Bt1:=if(Cj o n)then(Ao k o).bind λ_=>(Ao k o).bind λw=>Tn (Ae m w) (Ae o 1)
else
j6 m a b f g h
def Oo:Nat->Int->Int->Option Int
|0,_,_=>none
|c+1,e,j=>DB Ahs (Oo c) z d i F E o7 A e j
def Bqp n a b f g h k:=Oo n a b f g h k Ax
def Alx(j4:Jz6 (LI->Int->Int->Option Int))(a b f g h n:Int):Bt1:=(Ic a b f g h).bind λk=>j4 n a b f g h k 0 0
def CE:=Alx Bqp
abbrev Hz:=Option (Int×Int)
def Bqa:Hz:=some (z,0)
def Bqm:=Bqa
def BH(j6:Int->Hz)(Tn:Int->Int->Hz)(a:LB)(b f:Int):Hz:=if(Cj f 4)then(Ao a f).bind λg=>if(Le g 128)then
some (0,12)
else(Ao a f).bind λh=>Tn (Ae (Bm 128 b) (Ag h:Int)) (Ae f 1)
else
j6 b
def Ng:Nat->Int->Int->Hz
|0,_,_=>none
|z+1,d,e=>BH Bqm (Ng z) c d e
def Ag7 a:=Ng a Ax
def Agm(j4:LB->Int->Int->Hz)(a:LB):Hz:=if(Bd (Ac a) 4)then
some (0,2)
else
j4 a 0 0
def JZ:=Agm Ag7
abbrev Ji:=Option (Int×Int)
def Am7:Ji:=if(Dz z 4000)then
some (0,4)
else
if(Cj (Ac c) z)then
some (0,24)
else(Ao c 5).bind λd=>if(geq d 16)then(Bp c (Aq z 10) z).bind λe=>(Bp c 3 10).bind λi=>(Dm ([51,68,73]:LB) i).bind λj=>if(e !=j)then
some (0,12)
else
some (z,0)
else
some (z,0)
def CK:=Am7
def Ai9(j6:LB->Int->Ji)(a:LB)(b:Int):Ji:=(Ao a 5).bind λo=>if(geq o 16)then
j6 a (Ae (Ae 10 b) 10)
else
j6 a (Ae 10 b)
def CV:=Ai9 CK
def Alj(j5:LB->Int->Ji)(a:LB):Ji:=if(Cj (Ac a) 10)then
some (0,24)
else(Bp a 6 10).bind λp=>(JZ p).bind λ(b,f)=>(Ao a 3).bind λu=>if(Cj u 2)then
if true then
if true then
if(true||(Bd f 0))then
some (0,12)
else
j5 a b
else(Ao a 5).bind λv=>if(Bd v 0)then(Ao a 5).bind λw=>if(Bd w 16)then
if(true||(Bd f 0))then
some (0,12)
else
j5 a b
else(Ao a 3).bind λy=>if((Bd y 4)||(Bd f 0))then
some (0,12)
else
j5 a b
else
if(false||(Bd f 0))then
some (0,12)
else
j5 a b
else(Ao a 4).bind λaa=>if(Bd aa 0)then
if(true||(Bd f 0))then
some (0,12)
else
j5 a b
else(Ao a 5).bind λab=>if(Bd ab 0)then(Ao a 5).bind λac=>if(Bd ac 16)then
if(true||(Bd f 0))then
some (0,12)
else
j5 a b
else(Ao a 3).bind λad=>if((Bd ad 4)||(Bd f 0))then
some (0,12)
else
j5 a b
else
if(false||(Bd f 0))then
some (0,12)
else
j5 a b
else(Ao a 3).bind λae=>if(Dz ae 4)then
if true then
if(true||(Bd f 0))then
some (0,12)
else
j5 a b
else(Ao a 5).bind λaf=>if(Bd af 0)then(Ao a 5).bind λag=>if(Bd ag 16)then
if(true||(Bd f 0))then
some (0,12)
else
j5 a b
else(Ao a 3).bind λah=>if((Bd ah 4)||(Bd f 0))then
some (0,12)
else
j5 a b
else
if(false||(Bd f 0))then
some (0,12)
else
j5 a b
else(Ao a 4).bind λai=>if(Bd ai 0)then
if(true||(Bd f 0))then
some (0,12)
else
j5 a b
else(Ao a 5).bind λaj=>if(Bd aj 0)then(Ao a 5).bind λak=>if(Bd ak 16)then
if(true||(Bd f 0))then
some (0,12)
else
j5 a b
else(Ao a 3).bind λal=>if((Bd al 4)||(Bd f 0))then
some (0,12)
else
j5 a b
else
if(false||(Bd f 0))then
some (0,12)
else
j5 a b
def An9:=Alj CV
def Ajz(j4:LB->Ji)(a:LB):Ji:=if(Cj (Ac a) 3)then
some (0,6)
else(Bp a 0 3).bind λam=>if(am !=([73,68,51]:LB))then
some (0,6)
else
j4 a
def NS:=Ajz An9
def Ark:Buc:=some D
def Atv:=Ark
def KJ:Buc:=if(Le q9 0)then(Ao Br1 q9).bind λz=>Brv (Ae (Bm 256 o8) (Ag z:UInt64)) (Aq q9 1)
else
Bru o8
def Sn:Nat->UInt64->Int->Option UInt64
|0,_,_=>none
|z+1,d,e=>KJ Atv (Sn z) c d e
def Ast a:=Sn a Ax
abbrev Bvr:=LB->UInt64->Int->Option UInt64
def Ass(j4:Bvr)(a:LB):Buc:=j4 a 0 (Aq (Ac a) 1)
def Fb:=Ass Ast
def BQ:Bv2:=(Bp c 12 16).bind λz=>(Fb z).bind λd=>(Bp c 16 20).bind λe=>(Fb e).bind λi=>if(((Cj d 32)||(Dz d 3032))||(Dz i 1000))then
some (0,0,false)
else
some ((Aq (Ag d:Int) 32),(Ag i:Int),true)
def Abx:Bt9:=some c
def Abn:=Abx
def Ya(j6:Bv3)(Tn:UInt64->Int->LB->Option (LB))(b:Int)(f:UInt64)(g:Int)(a:LB):Bt9:=if(Cj g b)then(Dm a ([(Ag (MM f 256):UInt8)]:LB)).bind λh=>Tn (Ca f 256) (Ae g 1) h
else
j6 a
def Kn:Nat->UInt64->Int->LB->Option (LB)
|0,_,_,_=>none
|c+1,d,e,i=>Ya Abn (Kn c) z d e i
def Abv b:=Kn b Ax
def Ac3(j4:Int->UInt64->Int->LB->Option (LB))(k:UInt64)(b:Int):Bt9:=j4 b k 0 ([]:LB)
def Gl:=Ac3 Abv
def Xq:Bt9:=(Gl 2000 4).bind λc=>(Dm ([(65:UInt8),(80:UInt8),(69:UInt8),(84:UInt8),(65:UInt8),(71:UInt8),(69:UInt8),(88:UInt8)]:LB) c).bind λe=>(Gl (Ag (Ae z 32):UInt64) 4).bind λi=>(Dm e i).bind λj=>(Gl (Ag d:UInt64) 4).bind λA=>(Dm j A).bind λB=>(Gl D 4).bind λC=>(Dm B C).bind λE=>(mkI (8:Int) (0:UInt8)).bind λF=>(Dm E F).bind λG=>some G
def BY:Bt9:=(Xq z d 2684354560).bind λc=>some c
def Pk:Bt9:=if C then(Xq z d 2147483648).bind λc=>some c
else(Xq z d 0).bind λe=>some e
abbrev Oq:=Option (Int×Int)
def Agh:Oq:=if(Cj (Ac c) (Ae 64 z))then
some (0,24)
else(Bp c (Aq (Ae 64 z) 32) (Ae 64 z)).bind λe=>(Pk z d true).bind λi=>if(e !=i)then
some (0,12)
else
some ((Ae 64 z),0)
def Ahc:=Agh
def Ag9(j4:LB->Int->Int->Oq)(a:LB):Oq:=if(Cj (Ac a) 32)then
some (0,24)
else(Bp a 0 32).bind λk=>(BQ k).bind λ(b,f,m)=>if(!m)then
some (0,12)
else(Bp a 0 32).bind λn=>(BY b f).bind λo=>if(n !=o)then
some (0,12)
else
j4 a b f
def Agg:=Ag9 Ahc
def Ag2(j3:LB->Oq)(a:LB):Oq:=if(Cj (Ac a) 8)then
some (0,6)
else(Bp a 0 8).bind λp=>if(p !=([65,80,69,84,65,71,69,88]:LB))then
some (0,6)
else
j3 a
def JU:=Ag2 Agg
abbrev Ib:=Option (LI×Int)
def Agf(M0:Int->LI->Ib)(a:LB)(b:Int)(f:LI)(g h:Int):Ib:=if(geq h 6)then
some (f,0)
else
if(Bd h 0)then
some (([]:LI),h)
else
if(Dz (Ae b g) 4000)then
some (([]:LI),4)
else(Dm f ([g]:LI)).bind λm=>M0 (Ae b g) m
def Tl M0:=Agf M0
def BM(j9:Int->LI->Int->Int->Ib)(a:LB)(b:Int)(f:LI):Ib:=(Bp a b (Ac a)).bind λn=>(NS n).bind λ(o,k)=>if(geq k 6)then(Bp a b (Ac a)).bind λp=>(JU p).bind λ(u,v)=>j9 b f u v
else
j9 b f o k
def Sy:Nat->Int->LI->Ib
|0,_,_=>none
|z+1,d,e=>BM (Tl (Sy z) c) c d e
def Bqo a:=Sy a Ax
def Bq3(j6:LB->Int->LI->Ib)(a:LB):Ib:=j6 a 0 ([]:LI)
def As9:=Bq3 Bqo
abbrev Ii:=Option (Int×Int)
def Ag0:Ii:=some (d,z)
def Ahb:=Ag0
def AT(j6:Int->Int->Ii)(Tn:Int->Int->Ii)(a:Int)(b:LI)(f g:Int):Ii:=if(Cj g (Ac b))then(Ao b g).bind λ_=>(Ao b g).bind λh=>Tn (Ae f h) (Ae g 1)
else
j6 a f
def Mw:Nat->Int->Int->Ii
|0,_,_=>none
|c+1,d,e=>AT Ahb (Mw c) z A d e
def AV a b:=Mw a b Ax
def Agd(j4:Int->LI->Int->Int->Ii)(k:LB):Ii:=(As9 k).bind λ(b,a)=>j4 a b 0 0
def Nx:=Agd AV
def Wn:Bt2:=if(Cj (Ac c) (Ac I))then(Bp I 0 (Ac c)).bind λz=>some (c==z)
else
some false
def Am3:Bus:=if Br9 then
some (DY (Ca X 2) 3988292384)
else
some (Ca X 2)
def Aiu:=Am3
def Ahp(j2:UInt32->Bool->Option UInt32)(a:UInt32)(f:Int):Bus:=if(geq f 1)then
j2 a (!(geq (MM a 2) 1))
else
j2 a (geq (MM a 2) 1)
def PQ:=Ahp Aiu
def Amw:Bus:=some X
def Ana:=Amw
abbrev Bwb:=UInt32->Option UInt32
abbrev Bvk:=UInt32->UInt8->Int->Option UInt32
def DV(j6:Bwb)(Tn:Bvk)(a:UInt32)(b:UInt8)(f:Int):Bus:=if(Cj f 8)then(PQ a (Ag (MM b 2):Int)).bind λg=>Tn g (Ca b 2) (Ae f 1)
else
j6 a
def Oi:Nat->UInt32->UInt8->Int->Option UInt32
|0,_,_,_=>none
|q+1,a,b,f=>DV Ana (Oi q) a b f
def Bqr:=Oi Ax
def Brc(j4:Bvk)(h:UInt32)(k:UInt8):Bus:=j4 h k 0
def Az5:=Brc Bqr
def Ae0:Bus:=some X
def Afj:=Ae0
def Yq(j6:Bwb)(Tn:UInt32->Int->Option UInt32)(a:LB)(b:UInt32)(f:Int):Bus:=if(Cj f (Ac a))then(Ao a f).bind λg=>(Az5 b g).bind λh=>Tn h (Ae f 1)
else
j6 b
def Lz:Nat->UInt32->Int->Option UInt32
|0,_,_=>none
|z+1,d,e=>Yq Afj (Lz z) c d e
def Af3 a:=Lz a Ax
def Adz(j4:LB->UInt32->Int->Option UInt32)(k:UInt32)(a:LB):Bus:=j4 a k 0
def Ani:=Adz Af3
def Zw:Bus:=(Ani 4294967295 c).bind λz=>some (Aq 4294967295 z)
abbrev Jh:=Option (Int×Int×Int×Int×Int×Int)
def Am0:Jh:=(Mi (Ag D:Int) (Ag l6:Int) (Ag Br4:Int) (Ag o8:Int) (Ag Bsv:Int)).bind λz=>if(!z)then
some (0,0,0,0,0,12)
else(CG (Ag D:Int) (Ag l6:Int) (Ag Br4:Int) (Ag o8:Int) (Ag Bsv:Int)).bind λc=>if c then
some (0,0,0,0,0,4)
else
some ((Ag D:Int),(Ag l6:Int),(Ag Br4:Int),(Ag o8:Int),(Ag Bsv:Int),0)
def Amd:=Am0
def Am1(j6:UInt64->UInt64->UInt64->UInt64->UInt64->Jh)(a:LB):Jh:=(Bp a 4 6).bind λu=>(Bp a 6 8).bind λp=>(Bp a 8 10).bind λo=>(Bp a 10 14).bind λn=>(Bp a 14 18).bind λm=>(
(Fb u).bind λk=>(
(Fb p).bind λh=>(
(Fb o).bind λg=>(
(Fb n).bind λf=>(
(Fb m).bind λb=>(
j6 k h g f b))))))
def Amz:=Am1 Amd
def Al8(j5:LB->Jh)(a:LB):Jh:=if(Cj (Ac a) 22)then
some (0,0,0,0,0,24)
else(Bp a 18 22).bind λy=>(Bp a 0 18).bind λaa=>(Fb y).bind λab=>(Zw aa).bind λac=>if(Bd ab (Ag ac:UInt64))then
some (0,0,0,0,0,22)
else
j5 a
def Amv:=Al8 Amz
def Aks(j4:LB->Jh)(a:LB):Jh:=(Bp a 0 (Fq 4 (Ac a))).bind λad=>(Bp ([84,84,65,49]:LB) 0 (Fq 4 (Ac a))).bind λae=>if(ad !=ae)then
some (0,0,0,0,0,12)
else
j4 a
def Pf:=Aks Amv
abbrev Yp:=Option (Int×Int×Int×Int×Int×Int×Int)
def Abu:Yp:=(Pf e).bind λ(c,d,i,j,A,B)=>if(geq B 24)then
some (0,0,0,0,0,0,(-1:Int))
else
some ((Ae z 22),c,d,i,j,A,B)
def Abk:=Abu
def Abp(j2:Int->LB->Yp)(f:LB):Yp:=(Nx f).bind λ(b,g)=>if(geq g 24)then
some (0,0,0,0,0,0,(-1:Int))
else
if(Bd g 0)then
some (0,0,0,0,0,0,g)
else(Bp f b (Ac f)).bind λa=>(Wn a ([73,68,51]:LB)).bind λu=>if u then
some (0,0,0,0,0,0,(-1:Int))
else(Wn a ([65,80,69,84,65,71,69,88]:LB)).bind λv=>if v then
some (0,0,0,0,0,0,(-1:Int))
else
j2 b a
def DQ:=Abp Abk
def Amy:Buc:=if Br9 then
some (DY (Bm D 2) 4823603603198064275)
else
some (Bm D 2)
def CM:=Amy
def Alu(j2:UInt64->Bool->Option UInt64)(a:UInt64)(f:Int):Buc:=if(geq f 1)then
j2 a (!(Le a 9223372036854775808))
else
j2 a (Le a 9223372036854775808)
def PR:=Alu CM
def An4:Buc:=some D
def Ahr:=An4
def ED:Buc:=if(Dz o9 0)then(Jb (Bd o9 0)).bind λ_=>(PR Bth (Ge (Ca (Ag Brx:Int) o9) 2)).bind λz=>Brv z (Ca o9 2)
else
Bru Bth
def Om:Nat->UInt64->Int->Option UInt64
|0,_,_=>none
|z+1,c,d=>ED Ahr (Om z) Brx c d
def Bqq b:=Om b Ax
def Bqt(j4:UInt8->UInt64->Int->Option UInt64)(h:UInt64)(b:UInt8):Buc:=j4 b h 128
def Avx:=Bqt Bqq
def Af2:Buc:=some D
def Ae7:=Af2
def Zd:Buc:=if(Cj q9 (Ac Br1))then(Ao Br1 q9).bind λz=>(Avx o8 z).bind λc=>Brv c (Ae q9 1)
else
Bru o8
def Ly:Nat->UInt64->Int->Option UInt64
|0,_,_=>none
|z+1,d,e=>Zd Ae7 (Ly z) c d e
def Bpl a:=Ly a Ax
def Bpb(j4:Bvr)(k:UInt64)(a:LB):Buc:=j4 a k 0
def GD:=Bpb Bpl
def Ayi:Buc:=(GD 0 c).bind λz=>some z
def Ou:Bt9:=(Ayi c).bind λz=>(Gl z 8).bind λd=>some d
abbrev Ft:=Option (LI×Int)
def Amb:Ft:=(Kb A).bind λz=>if(Bd z 0)then
some (([]:LI),12)
else
some (A,0)
def DM:=Amb
def DG(j8:LI->Ft)(M0:Int->LI->Ft)(b:LB)(a g:Int)(f:LI):Ft:=if(Cj g a)then(Bp b (Bm 4 g) (Ae (Bm 4 g) 4)).bind λk=>(Fb k).bind λm=>(Dm f ([(Ag m:Int)]:LI)).bind λn=>M0 (Ae g 1) n
else
j8 f
def Og:Nat->Int->LI->Ft
|0,_,_=>none
|d+1,e,i=>DG DM (Og d) c z e i
def An2 b a:=Og b a Ax
def Aht(j6:LB->Int->Int->LI->Ft)(b:LB)(a:Int):Ft:=j6 b a 0 ([]:LI)
def Al0:=Aht An2
def Ahu(j5:LB->Int->Ft)(b:LB)(a:Int):Ft:=if((Cj a 1)||(Dz a 1000))then
some (([]:LI),2)
else
if(Cj (Ac b) (Ae (Bm 4 a) 4))then
some (([]:LI),24)
else(Bp b (Bm 4 a) (Ae (Bm 4 a) 4)).bind λo=>(Bp b 0 (Bm 4 a)).bind λp=>(Fb o).bind λu=>(Zw p).bind λv=>if(Bd u (Ag v:UInt64))then
some (([]:LI),22)
else
j5 b a
def Uy:=Ahu Al0
abbrev Ni:=Option (Int×LI×Int)
def Afg:Ni:=if(geq d 24)then
some (0,([]:LI),(-1:Int))
else
some ((Ae (Ae z (Bm 4 (Ac A))) 4),A,d)
def Af4:=Afg
def Afi(j4:Int->Int->LI->Ni)(a:LB)(b k m n o f:Int):Ni:=(Bp a f (Ac a)).bind λp=>(Ic b k m n o).bind λu=>(Uy p (Ac u)).bind λ(h,g)=>j4 f g h
def El:=Afi Af4
def Iy(j3:LB->Jz6 Ni)(a:LB)(b k m n o:Int)(v:LB):Ni:=if(geq b 2)then
if(Cj (Ac a) 8)then
some (0,([]:LI),(-1:Int))
else(Bp a 0 8).bind λw=>(Ou v).bind λy=>if(w !=y)then
some (0,([]:LI),26)
else
j3 a b k m n o 8
else
j3 a b k m n o 0
def Fv:=Iy El
def Ay9:Buz:=if(Dz (Ac Brn) 100000)then
some (0,4)
else(GD D Brn).bind λz=>some (z,0)
def Beb:Buz:=(Ay9 0 c).bind λ(z,d)=>some (z,d)
def Brj:Bui:=some B
def Brg:=Brj
def Atr(M0:Bva)(b:UInt64)(f:Int)(a:LX)(g:Int32):Bui:=(Ao a f).bind λ_=>(Pc a f g).bind λh=>M0 (Ca b 256) (Ae f 1) h
def JW M0:=Atr M0
def JM(j8:UInt64->Int->LX->Int32->Option (LX))(j10:Bv4)(b:UInt64)(f:Int)(a:LX):Bui:=if(Cj f 8)then
if(Dz (Ag (MM b 256):Int32) 127)then
j8 b f a (Aq (Ag (MM b 256):Int32) 256)
else
j8 b f a (Ag (MM b 256):Int32)
else
j10 a
def Ny:Nat->UInt64->Int->LX->Option (LX)
|0,_,_,_=>none
|q+1,b,f,a=>JM (JW (Ny q)) Brg b f a
def Bn3:=Ny Ax
def Bnk(j6:Bva)(k:UInt64):Bui:=j6 k 0 (List.replicate 16 (0:Int32))
def Bh9:=Bnk Bn3
def Pe:Bvm:=if(Dz (Ac c) 64)then
some (([(0:Int32),(0:Int32),(0:Int32),(0:Int32),(0:Int32),(0:Int32),(0:Int32),(0:Int32),(0:Int32),(0:Int32),(0:Int32),(0:Int32),(0:Int32),(0:Int32),(0:Int32),(0:Int32)]:LX),2)
else(Beb c).bind λ(z,d)=>(Bh9 z).bind λe=>some (e,0)
def GG:Bt9:=(Zw c).bind λz=>(Dm ([]:LB) c).bind λd=>(Dm d ([(Ag z:UInt8),(Ag (Cy z (GI.toZ (8:UInt64)).toNat):UInt8),(Ag (Cy z (GI.toZ (16:UInt64)).toNat):UInt8),(Ag (Cy z (GI.toZ (24:UInt64)).toNat):UInt8)]:LB)).bind λe=>some e
def Wj:Bt1:=if(Cj (Ac c) 5)then
some 24
else
if(Dz (Ac c) 41254)then
some 4
else(Bp c 0 (Aq (Ac c) 4)).bind λz=>(GG z).bind λd=>if(d !=c)then
some 22
else
some 0
def Rz:Bvj:=some (10,10,16384,16384)
def Bqf:Buc:=some D
def Bq2:=Bqf
def BK:Buc:=if(Cj q9 Bta)then
Brv (Bm o8 2) (Ae q9 1)
else
Bru o8
def Mt:Nat->UInt64->Int->Option UInt64
|0,_,_=>none
|c+1,d,e=>BK Bq2 (Mt c) z d e
def Bqc b:=Mt b Ax
def Bq0(j4:Int->UInt64->Int->Option UInt64)(b:Int):Buc:=j4 b 1 0
def Ie:=Bq0 Bqc
def TI(a g:Int)(h k:UInt64)(b:UInt32):Bt2:=(Ie a).bind λf=>some (Cj (Ag b:UInt64) f)
def OQ(a g:Int)(h k:UInt64)(b:UInt32):Bus:=(Ie a).bind λf=>some (Ag (Aq (Ag b:UInt64) f):UInt32)
abbrev HA:=Option (Int×UInt64)
def An6:HA:=if(Cj z 24)then(Ie (Ae z 5)).bind λc=>if(Dz (Aq (Ae D l6) (Ca D 16)) c)then
some ((Ae z 1),(Aq (Ae D l6) (Ca D 16)))
else
some (z,(Aq (Ae D l6) (Ca D 16)))
else
some (z,(Aq (Ae D l6) (Ca D 16)))
def CN:=An6
def All(j2:Int->UInt64->UInt64->HA)(b:Int)(a f:UInt64):HA:=if(Dz b 0)then(Ie (Ae b 4)).bind λh=>if(Cj (Aq (Ae a f) (Ca a 16)) h)then
some ((Aq b 1),(Aq (Ae a f) (Ca a 16)))
else
j2 b a f
else
j2 b a f
def BW:=All CN
abbrev BD:=Option (Int×Int×UInt64×UInt64)
def Af8(f:UInt32)(g a:Int)(h b:UInt64)(w:Int)(y:UInt64):BD:=(BW g h (Ag f:UInt64)).bind λ(aa,ab)=>some (aa,w,ab,y)
def Yy:=Af8
def Acu(j2:UInt32->Int->Int->UInt64->UInt64->Int->UInt64->BD)(g a:Int)(h b:UInt64)(f:UInt32):BD:=(TI g a h b f).bind λo=>if(!o)then(
(
(OQ g a h b f).bind λk=>(BW a b (Ag k:UInt64)).bind λ(m,n)=>j2 f g a h b m n))
else
j2 f g a h b a b
def FZ:=Acu Yy
abbrev Hh:=Option (Int×Int×UInt64×UInt64)
def Bpj:Hh:=some (z,d,D,l6)
def Bpa:=Bpj
def Af6(j6:Int->Int->UInt64->UInt64->Hh)(Tn:Jz3 (UInt64->UInt64->Hh))(a:Int)(b:LU)(m f g:Int)(h k:UInt64):Hh:=if(Cj m (Ac b))then(Ao b m).bind λn=>(FZ f g h k n).bind λ(o,p,u,v)=>Tn (Ae m a) o p u v
else
j6 f g h k
def Qr:Nat->Jz3 (UInt64->UInt64->Hh)
|0,_,_,_,_,_=>none
|c+1,d,e,i,j,A=>Af6 Bpa (Qr c) z l7 d e i j A
def Bpx a b:=Qr a b Ax
def Adj(j4:Int->LU->Jz3 (UInt64->UInt64->Hh))(a:Int)(b:LU):Hh:=(Rz).bind λ(w,y,aa,ab)=>(Jb (Bd a 0)).bind λ_=>j4 a b (Ge (Ac b) a) w y aa ab
def Wh:=Adj Bpx
def Au6:Bt1:=some (Ge z 2)
def Ava:=Au6
def JX:Bt1:=if(Cj Bsy (Ge Br2 8))then
Br7 (Ca r9 2) (Ae Bsy 1)
else
Br5 r9
def Sr:Nat->Int->Int->Option Int
|0,_,_=>none
|c+1,d,e=>JX Ava (Sr c) z d e
def Au7 a:=Sr a Ax
def Au8(j4:Jz3 (Option Int))(g:LB)(k a:Int):Bt1:=(Ao g (Ca a 8)).bind λh=>j4 a (Ag h:Int) 0
def Pq:=Au8 Au7
abbrev Gp:=Option (LB×Int)
def Aob:Gp:=(Ao e (Ca i 8)).bind λ_=>(Ao e (Ca i 8)).bind λc=>(Ao e (Ca i 8)).bind λ_=>(Pc e (Ca i 8) (Ae c (Ag (Bm z d):UInt8))).bind λj=>some (j,(Ae i 1))
def GB:=Aob
def HC(j8:Jz3 (LB->Gp))(M0:Int->Int->Gp)(b a:Int)(f:LB)(g h:Int):Gp:=if(Cj h (Ge a 8))then
M0 (Bm g 2) (Ae h 1)
else
j8 b g a f
def Qi:Nat->Int->Int->Gp
|0,_,_=>none
|c+1,i,j=>HC GB (Qi c) z d e i j
def Anv b a f:=Qi b a f Ax
def Aoz(j6:Int->Int->LB->Int->Int->Gp)(b a:Int)(f:LB):Gp:=j6 b a f 1 0
def GF:=Aoz Anv
def Aog(j5:Int->Int->LB->Gp)(k:LB)(a b:Int):Gp:=if(geq (Ge a 8) 0)then(Dm k ([(0:UInt8)]:LB)).bind λo=>j5 b a o
else
j5 b a k
def EP:=Aog GF
abbrev Gu:=Option (LB×Int)
def Bp6:Gu:=some (e,z)
def Bp0:=Bp6
def Xz(j6:Int->LB->Gu)(Tn:Int->Int->LB->Gu)(f:Int)(g:LB)(h k a:Int)(b:LB):Gu:=if(Cj k f)then(Pq g h k).bind λm=>(EP b a m).bind λ(n,o)=>Tn (Ae k 1) o n
else
j6 a b
def Kq:Nat->Int->Int->LB->Gu
|0,_,_,_=>none
|c+1,d,i,A=>Xz Bp0 (Kq c) z e j d i A
def Boz f g h:=Kq f g h Ax
def Bp7(j4:Int->LB->Jz3 (LB->Gu))(g:LB)(h p f:Int):Gu:=j4 f g h p 0 ([]:LB)
def Am2:=Bp7 Boz
def Bqj:Buc:=some D
def Bq7:=Bqj
def BF:Buc:=if(Le q9 0)then(Pq Br1 Btx (Ae Bta q9)).bind λz=>Brv (Ae (Bm 2 o8) (Ag z:UInt64)) (Aq q9 1)
else
Bru o8
def Mv:Nat->UInt64->Int->Option UInt64
|0,_,_=>none
|c+1,d,i=>BF Bq7 (Mv c) z e j d i
def Aga b f g:=Mv b f g Ax
def Agj(j4:Int->LB->Int->UInt64->Int->Option UInt64)(f:LB)(g b m:Int):Buc:=j4 b f g 0 (Aq m 1)
def Zj:=Agj Aga
abbrev Ke:=Option (Int×Int)
def Apb(b a:Int)(g:LB)(f:Int):Ke:=if(geq a 48)then
some (a,(Ae b a))
else
if(Le (Ae b a) f)then
some ((-1:Int),0)
else
some (a,(Ae (Ae b a) 1))
def HB:=Apb
def GV(j6:Int->Int->LB->Int->Ke)(Tn:Int->Ke)(b:Int)(g:LB)(f a:Int):Ke:=if((Cj (Ae b a) f)&&(Cj a 48))then(Pq g f (Ae b a)).bind λh=>if(geq h 1)then
Tn (Ae a 1)
else
j6 b a g f
else
j6 b a g f
def Pw:Nat->Int->Ke
|0,_=>none
|c+1,d=>GV HB (Pw c) z e j d
def Brf b g f:=Pw b g f Ax
def Brl(j4:Int->LB->Int->Int->Ke)(g:LB)(f b:Int):Ke:=j4 b g f 0
def Bd6:=Brl Brf
def MY:Bt1:=(Ie l5).bind λz=>(Jb (Bd z 0)).bind λ_=>some (Ag (Fq 48 (Ca (Ag X:UInt64) z)):Int)
abbrev JP:=Option (UInt32×Int×Int)
def GL:JP:=if((Cj d 0)||(Cj (Aq j i) M))then
some (0,0,24)
else(Zj e j i M).bind λc=>if(Cj d 48)then(Ie z).bind λA=>some ((Ag (Ae (Bm (Ag d:UInt64) A) c):UInt32),(Ae i M),0)
else(MY (Ag c:UInt32) z).bind λB=>if(Cj B d)then
some (0,0,12)
else
some ((Ag c:UInt32),(Ae i M),0)
def GX:=GL
def Anq(j2:Jz3 (LB->Int->Int->JP))(h:LB)(f n g:Int):JP:=if(Le n f)then
some (0,0,24)
else(Bd6 h f n).bind λ(a,b)=>if(geq a 48)then
j2 g a b h f 32
else
j2 g a b h f g
def TO:=Anq GX
def TL(g:LB)(b a f n:Int)(v w:UInt64):Option (UInt32×Int×Int):=if(Le a b)then
some (0,0,24)
else(Pq g b a).bind λo=>if(geq o 0)then
if(Cj (Aq (Aq b a) 1) f)then
some (0,0,24)
else(Zj g b (Ae a 1) f).bind λp=>some ((Ag p:UInt32),(Ae (Ae a 1) f),0)
else(TO g b (Ae a 1) n).bind λ(h,u,k)=>if(Bd k 0)then
some (0,0,k)
else(Ie f).bind λm=>if(Dz (Ae (Ag h:UInt64) m) 4294967295)then
some (0,0,12)
else
some ((Ag (Ae (Ag h:UInt64) m):UInt32),u,0)
abbrev Cm:=Option (LU×Int)
def Bqk:Cm:=some (l7,0)
def Bq9:=Bqk
def BA(j18:LU->Cm)(Jw:Int->Cm)(a:LB)(b:LU)(m:Int):Cm:=if(Cj m (Bm 8 (Ac a)))then(Pq a (Bm 8 (Ac a)) m).bind λn=>if(Bd n 0)then
some (b,12)
else
Jw (Ae m 1)
else
j18 b
def Na:Nat->Int->Cm
|0,_=>none
|z+1,d=>BA Bq9 (Na z) c l7 d
def Agc a b:=Na a b Ax
def Ag4(j16:LB->LU->Int->Cm)(f:Int)(a:LB)(b:LU):Cm:=if(Dz (Aq (Bm 8 (Ac a)) f) 7)then
some (b,12)
else
j16 a b f
def BN:=Ag4 Agc
def Agk(QB:Int->Int->LU->Cm)(g h:Int)(a:LB)(f k:Int)(b:LU)(p u:Int)(v w:UInt64):Cm:=(Am2 a (Bm 8 (Ac a)) f (Fq (Ae f 81) (Bm 8 (Ac a)))).bind λ(y,aa)=>(TL y aa 0 p u v w).bind λ(ab,ac,o)=>if(Bd o 0)then
some (b,o)
else(Dm b ([ab]:LU)).bind λad=>QB (Ae f ac) (Ae k 1) ad
def Mx QB:=Agk QB
def Agw(j13:Int->Int->LU->Int->Int->UInt64->UInt64->Cm)(j15:Int->LB->LU->Cm)(g h:Int)(a:LB)(f k:Int)(b:LU):Cm:=if(Cj k (Bm h g))then(Rz).bind λ(n,ae,af,ag)=>if(Le k g)then(Wh g b).bind λ(ah,ai,aj,ak)=>j13 f k b ah ai aj ak
else
j13 f k b n ae af ag
else
j15 f a b
def Hi:Nat->Int->Int->LU->Cm
|0,_,_,_=>none
|c+1,i,j,A=>Agw (Mx (Hi c) z d e) BN z d e i j A
def Bq4 g h a:=Hi g h a Ax
def Amq(j10:Int->Int->LB->Int->Int->LU->Cm)(g h:Int)(a:LB):Cm:=j10 g h a 0 0 ([]:LU)
def NB:=Amq Bq4
def Bnl:Bud:=if(geq z 8)then
some (4,0)
else
if((geq z 16)||(geq z 24))then
some (5,0)
else
some (0,2)
def Bo6:Option (Int×LX×LX×Int):=(Bnl z).bind λ(c,d)=>if(Bd d 0)then
some (0,(List.replicate 16 (0:Int32)),(List.replicate 16 (0:Int32)),2)
else
if(geq z 16)then
some (9,B,(List.replicate 16 (0:Int32)),0)
else
some (10,B,(List.replicate 16 (0:Int32)),0)
def Bag:Bvd:=(Bo6 z B).bind λ(c,d,e,i)=>if(Bd i 0)then
some (0,0,0,(List.replicate 16 (0:Int32)),(List.replicate 16 (0:Int32)),2)
else
some (z,0,c,d,e,0)
def NY:Bun:=if(geq (MM X 2) 0)then
some (Ag (Ca X 2):Int32)
else
some (Ag (Ca (O0 (Ae (Ag X:Int) 1)) 2):Int32)
def Eb:Bun:=some (Ag (Ag (Ag z:UInt64):UInt32):Int32)
def Apz:Bun:=some (Ag z:Int32)
def Anr:=Apz
def FY(j6:Int->Option Int32)(Tn:Int->Int->Option Int32)(h:Int)(b f:LX)(g a:Int):Bun:=if(Cj a 16)then(Ao b a).bind λ_=>(Ao f a).bind λ_=>(Ao b a).bind λk=>(Ao f a).bind λm=>(Eb (Bm (Ag k:Int) (Ag m:Int))).bind λn=>(Eb (Ae g (Ag n:Int))).bind λo=>Tn (Ag o:Int) (Ae a 1)
else
j6 g
def Qc:Nat->Int->Int->Option Int32
|0,_,_=>none
|c+1,d,e=>FY Anr (Qc c) z B V d e
def Brd h b f:=Qc h b f Ax
def Brk(j4:Int->LX->LX->Int->Int->Option Int32)(h:Int)(b f:LX):Bun:=j4 h b f 0 0
def Bak:=Brk Brd
def Ai8:Bun:=(Bak z B V).bind λc=>(Eb (Ae (Ag c:Int) (Ca L 2))).bind λd=>(Jb (Bd L 0)).bind λ_=>(Jb (Bd L 0)).bind λ_=>if(Cj (Ge (Ag d:Int) L) 0)then
some (Ag (Aq (Ca (Ag d:Int) L) 1):Int32)
else
some (Ag (Ca (Ag d:Int) L):Int32)
def DX:=Ai8
def Aji(j2:Int->LX->LX->Int->Option Int32)(b:Int)(f g:LX):Bun:=if(geq b 9)then
j2 b f g 512
else
j2 b f g 1024
def OI:=Aji DX
def QE:Bun:=if(geq z 0)then
some 4
else
if(tZ z 3)then
some 2
else
some 1
def BP:Bun:=if(Cj P 0)then
some (-1:Int32)
else
if(Dz P 0)then
some 1
else
some 0
abbrev Gt:=Option (Int×LX×LX)
def Bp8:Gt:=some (z,B,V)
def Bp5:=Bp8
def Xe(j6:Int->LX->LX->Gt)(Tn:Int->LX->Gt)(h:Int32)(g:Int)(b:LX)(a:Int)(f:LX):Gt:=if(Cj a 16)then(Ao f a).bind λ_=>(Ao b a).bind λ_=>(Ao f a).bind λk=>(Ao b a).bind λm=>(QE a).bind λn=>(BP m).bind λo=>(BP h).bind λp=>(Ao f a).bind λ_=>(Pc f a (Ae k (Bm (Bm n o) p))).bind λu=>Tn (Ae a 1) u
else
j6 g f b
def Kv:Nat->Int->LX->Gt
|0,_,_=>none
|z+1,c,d=>Xe Bp5 (Kv z) P T p8 c d
def Box h g b:=Kv h g b Ax
def Bov(j4:Int32->Int->LX->Int->LX->Gt)(g:Int)(v b:LX)(h:Int32):Gt:=j4 h g b 0 v
def Ai7:=Bov Box
abbrev Hf:=Option (Int×LX×LX)
def Adc:Hf:=(Ao p9 0).bind λ_=>(Pc p9 0 P).bind λz=>some (T,p8,z)
def Acn:=Adc
def Zm(j6:Int32->Int->LX->LX->Hf)(Tn:Int->LX->Hf)(b:Int32)(f:Int)(g:LX)(h:Int)(a:LX):Hf:=if(Dz h 0)then(Ao a (Aq h 1)).bind λ_=>(Ao a (Aq h 1)).bind λm=>(Ao a h).bind λ_=>(Pc a h m).bind λn=>Tn (Aq h 1) n
else
j6 b f g a
def Mb:Nat->Int->LX->Hf
|0,_,_=>none
|z+1,c,d=>Zm Acn (Mb z) P T p8 c d
def Bpm b f g:=Mb b f g Ax
def Bpi(j4:Int32->Int->LX->Int->LX->Hf)(f:Int)(g o:LX)(b:Int32):Hf:=j4 b f g 15 o
def Anc:=Bpi Bpm
def CY:Option (Int32×Int×LX×LX):=(OI z B V).bind λc=>(Eb (Ae (Ag P:Int) (Ag c:Int))).bind λd=>(Ai7 z B V P).bind λ(e,i,j)=>(Anc e i j d).bind λ(A,C,D)=>some (d,A,C,D)
def Acr:Bun:=(Jb (Bd T 0)).bind λ_=>(Jb (Bd T 0)).bind λ_=>if(Cj (Ge (Bm (Aq T 1) (Ag P:Int)) T) 0)then
some (Ag (Aq (Ca (Bm (Aq T 1) (Ag P:Int)) T) 1):Int32)
else
some (Ag (Ca (Bm (Aq T 1) (Ag P:Int)) T):Int32)
def Zh:=Acr
def Af9(j2:Int32->Int->Option Int32)(f:Int)(b:Int32):Bun:=if(geq f 5)then
j2 b 32
else
j2 b 16
def Wm:=Af9 Zh
def GO(b:Int)(a:Int32)(h:Int)(k m:LX):Bt1:=if(geq b 8)then(Wm 4 a).bind λf=>some (Ag f:Int)
else(Wm 5 a).bind λg=>some (Ag g:Int)
def CQ:Option (Int32×Int×Int32×Int×LX×LX):=(CY T p8 p9 Bsh).bind λ(c,d,e,i)=>(GO z P T p8 p9).bind λj=>(Eb (Ae (Ag c:Int) j)).bind λA=>some (A,z,A,d,e,i)
def Yz:Bt1:=if((Cj z 1)||(Dz z 6))then
some 2
else
if(Dz (Ac B) 4000)then
some 4
else(Jb (Bd z 0)).bind λ_=>if(Dz (Ge (Ac B) z) 0)then
some 2
else
some 0
def Bp1:Bui:=some B
def Boy:=Bp1
def Xv(j8:Bv4)(M0:Bu5)(a:LX)(f:Int)(b:LX):Bui:=if(Le f 0)then(Ao b (Ae f 1)).bind λ_=>(Ao a f).bind λk=>(Ao b (Ae f 1)).bind λm=>(Eb (Aq (Ag m:Int) (Ag k:Int))).bind λn=>(Ao b f).bind λ_=>(Pc b f n).bind λo=>M0 (Aq f 1) o
else
j8 b
def Ko:Nat->Int->LX->Option (LX)
|0,_,_=>none
|z+1,c,d=>Xv Boy (Ko z) B c d
def Boq a:=Ko a Ax
def Acj(j6:LX->Int->LX->Option (LX))(a p:LX):Bui:=j6 a (Aq (Ac a) 2) p
def Xh:=Acj Boq
def Abq(j5:LX->LX->Option (LX))(a:LX):Bui:=(mkI (Ac a) (0:Int32)).bind λh=>(Jb (geq (Ac a) (Ac a))).bind λ_=>(Ao a (Aq (Ac a) 1)).bind λu=>(Ao h (Aq (Ac a) 1)).bind λ_=>(Pc h (Aq (Ac a) 1) u).bind λg=>if(Dz (Ac a) 1)then(Ao a (Aq (Ac a) 1)).bind λv=>(Ao a (Aq (Ac a) 2)).bind λw=>(Eb (Ae (Ag v:Int) (Ca (Ag w:Int) 2))).bind λy=>(Ao g (Aq (Ac a) 1)).bind λ_=>(Pc g (Aq (Ac a) 1) y).bind λaa=>j5 a aa
else
j5 a g
def DU:=Abq Xh
abbrev Je:=Option (LX×Int)
def Bqx:Je:=some (B,0)
def Bra:=Bqx
def An8(j6:LX->Je)(Tn:Int->LX->Je)(a:Int)(b:LX)(g:Int)(f:LX):Je:=if(Cj g (Ac b))then(Bp b g (Ae g a)).bind λh=>(DU h).bind λk=>(Dm f k).bind λm=>Tn (Ae g a) m
else
j6 f
def Ut:Nat->Int->LX->Je
|0,_,_=>none
|c+1,d,e=>An8 Bra (Ut c) z B d e
def Bqv a b:=Ut a b Ax
def Aik(j4:Int->LX->Int->LX->Je)(a:Int)(b:LX):Je:=(Yz a b).bind λn=>if(Bd n 0)then(Yz a b).bind λo=>some (([]:LX),o)
else
j4 a b 0 ([]:LX)
def OA:=Aik Bqv
def Ac0(b f:Int)(w:LX):Bui:=(OA b w).bind λ(aj,ai)=>some aj
def Xf:=Ac0
def Ac2(OZ:Bu5)(a:LU)(b f:Int)(g:LX)(h:Int)(m:LX):Bui:=OZ (Ae h 1) m
def Abr OZ:=Ac2 OZ
abbrev Bu8:=Int->LX->Int->Int32->Int->LX->LX->Option (LX)
def Abs(S4:Bu8)(a:LU)(h b f:Int)(g:LX)(k:Int)(ah:LX)(y:Int)(aa:Int32)(ab:Int)(ac ad:LX):Bui:=S4 (Ae k b) ah y aa ab ac ad
def Abm S4:=Abs S4
def Abz(j30:Bu8)(a:LU)(h b f:Int)(g:LX)(k:Int)(ae:Int32)(m:LX)(n:Int)(o:Int32)(p:Int)(u v:LX)(y:Int)(aa:Int32)(ab:Int)(ac ad:LX):Bui:=(Ao m k).bind λ_=>(Pc m k ae).bind λah=>j30 k ah y aa ab ac ad
def Ac4 S4 a h b f g:=Abz (Abm S4 a h b f g) a h b f g
def Aby(j29:Int->Int32->LX->Int->Int32->Int->LX->LX->Int->Int32->Int->LX->LX->Option (LX))(j32:Bu5)(a:LU)(b f:Int)(g:LX)(h k:Int)(m:LX)(n:Int)(o:Int32)(p:Int)(u v:LX):Bui:=if(Cj k (Ac a))then(Ao a k).bind λag=>(
(NY ag).bind λaf=>(
(CQ n o p u v af).bind λ(ae,y,aa,ab,ac,ad)=>j29 k ae m n o p u v y aa ab ac ad))
else
j32 h m
def Ph(OZ:Bu5)(a:LU)(b f:Int)(g:LX)(h:Int):Nat->Int->LX->Int->Int32->Int->LX->LX->Option (LX)
|0,_,_,_,_,_,_,_=>none
|q+1,k,m,n,o,p,u,v=>Aby (Ac4 (Ph OZ a b f g h q) a h b f g) (Abr OZ a b f g) a b f g h k m n o p u v
def Ac1 OZ a b f g h:=Ph OZ a b f g h Ax
def Xg(j26:Int->Int->LX->Int->Int32->Int->LX->LX->Option (LX))(j34:Int->Int->LX->Option (LX))(a:LU)(b f:Int)(g:LX)(h:Int)(w:LX):Bui:=if(Cj h b)then(Bag f g).bind λ(ak,ai,al,am,an,aq)=>j26 h h w ak ai al am an
else
j34 b f w
def Hw:Nat->Int->LX->Option (LX)
|0,_,_=>none
|z+1,c,d=>Xg (Ac1 (Hw z) l7 Brr Brs Bs3) Xf l7 Brr Brs Bs3 c d
def Ack a b f g:=Hw a b f g Ax
def Acx(j18:LU->Int->Int->LX->Int->LX->Option (LX))(b f:Int)(g:LX)(a:LU):Bui:=(mkI (Ac a) (0:Int32)).bind λao=>(Jb (geq (Ac a) (Ac a))).bind λ_=>j18 a b f g 0 ao
def Wi:=Acx Ack
def Wq(g f:Int)(a:LX):Bvm:=(Au f a).bind λb=>if(Bd b 0)then
some (([]:LX),b)
else
some (a,0)
abbrev AW:=Option (LX×Int)
def Iz:AW:=if(Bd z 0)then
some (([]:LX),z)
else(
(
(Wi d i B l7).bind λc=>(Wq d i c).bind λ(e,j)=>some (e,j)))
def Ir:=Iz
def Qx(j2:Jz3 (LX->LU->AW))(a b:Int)(g:LX)(p:Int)(k:LB):AW:=(Eu a b p).bind λy=>if(Bd y 0)then
some (([]:LX),2)
else(Wj k).bind λaa=>if(Bd aa 0)then(Wj k).bind λab=>some (([]:LX),ab)
else(Bp k 0 (Aq (Ac k) 4)).bind λac=>(NB a p ac).bind λ(h,f)=>j2 f a b g h
def Dx:=Qx Ir
def GP:Bt9:=if(geq z 24)then(Dm ([(Ag (Ge d 256):UInt8),(Ag (Ge (Ca d 256) 256):UInt8)]:LB) ([(Ag (Ca d 65536):UInt8)]:LB)).bind λc=>some c
else
some ([(Ag (Ge d 256):UInt8),(Ag (Ge (Ca d 256) 256):UInt8)]:LB)
def Qd:=GP
def Aow(j2:Bwa)(a:Int)(f:Int32):Bt9:=if(geq a 8)then
some ([(Ag (Ae (Ag f:Int) 128):UInt8)]:LB)
else
if(Cj (Ag f:Int) 0)then(Hs a).bind λh=>j2 a (Ae (Ag f:Int) (Bm 2 h))
else
j2 a (Ag f:Int)
def SP:=Aow Qd
abbrev If:=Option (LB×Int)
def Bq8:If:=some (c,0)
def Bqb:=Bq8
def BE(j6:LB->If)(Tn:Int->LB->If)(b:Int)(a:LX)(g:Int)(f:LB):If:=if(Cj g (Ac a))then(Ao a g).bind λh=>(SP b h).bind λk=>(Dm f k).bind λm=>Tn (Ae g 1) m
else
j6 f
def Nb:Nat->Int->LB->If
|0,_,_=>none
|c+1,d,e=>BE Bqb (Nb c) z B d e
def Bqh b a:=Nb b a Ax
def Agl(j4:Int->LX->Int->LB->If)(b:Int)(a:LX):If:=(Au b a).bind λn=>if(Bd n 0)then(Au b a).bind λo=>some (([]:LB),o)
else
j4 b a 0 ([]:LB)
def Yr:=Agl Bqh
abbrev BC:=Option (LB×Int)
def Fc(o:LX)(f:Int)(p g:LB)(h k a m n:Int)(u:LI)(b:Int)(v:LB)(w:Bool)(y:Int):BC:=if(Bd f 0)then
some (([]:LB),f)
else(Yr a o).bind λ(ac,ai)=>some (ac,0)
def Fg:=Fc
def Fe(j2:LX->Int->LB->LB->Jz5 (LI->Int->LB->Bool->Int->BC))(p g:LB)(h k a m n:Int)(u:LI)(b:Int)(v:LB)(w:Bool)(y:Int):BC:=(Ao u b).bind λaa=>if(Cj (Ac g) aa)then
some (([]:LB),(-1:Int))
else(Pe p).bind λ(ad,aj)=>(Bp g 0 aa).bind λae=>(Gq h k a m n).bind λ(af,ag)=>(Ic h k a m n).bind λab=>(Ao ab b).bind λ_=>(Ao ab b).bind λah=>(Dx af ag ad ah ae).bind λ(o,f)=>j2 o f p g h k a m n u b v w y
def Cw:=Fe Fg
abbrev Px:=Option (LB×LB×Int×Int×Int×Int×Int×LI×Int×LB×Bool×Int×Int)
def Ba:Px:=if(geq (Ac A) 0)then(Fv I z d i F E c).bind λ(B,D,G)=>if(Bd G 0)then
some (c,I,z,d,i,F,E,A,R,e,C,j,G)
else(Bp I B (Ac I)).bind λJ=>some (c,J,z,d,i,F,E,D,R,e,C,j,0)
else
if(geq R (Ac A))then
if(Dz (Ac I) 4000)then
some (c,I,z,d,i,F,E,A,R,e,C,j,38)
else
some (c,I,z,d,i,F,E,A,R,e,C,j,(-1:Int))
else(Cw c I z d i F E A R e C j).bind λ(L,M)=>if(Bd M 0)then
some (c,I,z,d,i,F,E,A,R,e,C,j,M)
else(Dm ([]:LB) e).bind λN=>(Dm N L).bind λO=>(
(
(
(Ao A R).bind λP=>(
(Bp I P (Ac I)).bind λT=>some (c,T,z,d,i,F,E,A,(Ae R 1),O,C,j,0)))))
def Bt:=Ba
def Gj:Px:=(Es z d i F E c).bind λB=>some (c,I,z,d,i,F,E,A,R,e,C,j,B)
def Gk:=Gj
abbrev Bu0:=LB->LB->Jz5 (LI->Int->LB->Bool->Int->Px)
def Bo(j3:Bu0)(j4:Bu0)(g a:LB)(m n o p u:Int)(b:LI)(f:Int)(v:LB)(h:Bool)(k:Int):Px:=if(geq m 0)then(DQ a).bind λ(ac,ae,w,af,ag,y,ai)=>if(Bd ai 0)then
some (g,a,m,n,o,p,u,b,f,v,h,k,ai)
else(
(Bp a ac (Ac a)).bind λad=>(
j3 g ad ae w af ag y b f v h k))
else
j4 g a m n o p u b f v h k
def Af:=Bo Gk Bt
def BO:Bt2:=(Af c I z d i F E A R e C j).bind λ(B,D,G,J,L,M,N,O,P,T,U,V,X)=>some (geq X (-1:Int))
def De:=BO
abbrev Buj:=LB->LB->Jz5 (LI->Int->LB->Bool->Int->Option Bool)
def Tf(j4:Buj)(o p:LB)(b f g h k:Int)(m:LI)(a:Int)(n:LB)(u:Bool)(v:Int):Bt2:=if(geq (Ac m) 0)then
if((Bd a 0)||(Dz (Ac n) 0))then
some false
else
j4 o p b f g h k m a n u v
else(Kb m).bind λy=>if(Bd y 0)then
if((true||(Cj a 0))||(Dz a (Ac m)))then
some false
else(CE b f g h k a).bind λaa=>if(Dz (Ac n) aa)then
some false
else
j4 o p b f g h k m a n u v
else(Ic b f g h k).bind λab=>if(((Bd (Ac m) (Ac ab))||(Cj a 0))||(Dz a (Ac m)))then
some false
else(CE b f g h k a).bind λac=>if(Dz (Ac n) ac)then
some false
else
j4 o p b f g h k m a n u v
def Th:=Tf De
def BL(j4:Buj)(j3:Buj)(o p:LB)(b f g h k:Int)(m:LI)(a:Int)(n:LB)(u:Bool)(v:Int):Bt2:=if((geq b 0)&&((geq f 0)&&((geq g 0)&&((geq h 0)&&((geq k 0)&&true)))))then
if(((Dz (Ac m) 0)||(Bd a 0))||(Dz (Ac n) 0))then
some false
else
j4 o p b f g h k m a n u v
else(Nv b f g h k).bind λad=>if(Bd ad 0)then
some false
else(Es b f g h k o).bind λae=>if(Bd ae 0)then
some false
else
j3 o p b f g h k m a n u v
def Nt:=BL De Th
def DP:Bt2:=some (((((((geq z 4)||(geq z 12))||(geq z 16))||(geq z 22))||(geq z 24))||(geq z 26))||(geq z 38))
def Ef:Bt1:=if(Dz (Ac c) 64)then
some 8
else
if((geq j 0)&&(!C))then(Nt c I z d i F E A R e C j).bind λB=>if(!B)then
some 8
else
some 0
else
if((geq (Ac I) 0)&&(geq (Ac A) 0))then
if((!(((geq z 0)&&((geq d 0)&&((geq i 0)&&((geq F 0)&&((geq E 0)&&true)))))&&(geq R 0)))||(Dz (Ac e) 12000))then
some 8
else
if(Bd j 0)then
if C then
some 8
else(DP j).bind λD=>if(!D)then
some 8
else
some 0
else
some 0
else
if((!(false&&(geq R 0)))||(Dz (Ac e) 12000))then
some 8
else
if(Bd j 0)then
if C then
some 8
else(DP j).bind λG=>if(!G)then
some 8
else
some 0
else
some 0
abbrev GC:=Option (LB×LB×Int×Int×Int×Int×Int×LI×Int×LB×Bool×Int)
def Un:GC:=(Dm ([]:LI) A).bind λe=>some (c,Y,z,d,i,F,E,e,R,Brz,C,j)
def Uo:=Un
def Uj(j2:LB->Jz5 (LI->Int->Bool->Int->LB->LB->GC))(f w:LB)(g h k m n:Int)(o:LI)(p:Int)(y:LB)(u:Bool)(v:Int):GC:=(
(
(
(Dm ([]:LB) w).bind λa=>(
(Dm ([]:LB) y).bind λb=>j2 f g h k m n o p u v a b))))
def Pd:=Uj Uo
def Uv(f g:LB)(h k m n o:Int)(p:LI)(u:Int)(v:LB)(b:Bool)(a:Int):Bt1:=if(Bd a 0)then
some a
else
if b then
some 36
else
some 0
def CH(a m:LB)(n o p u v:Int)(w:LI)(y:Int)(b:LB)(aa:Bool)(ab:Int):Bux:=(
(
(Dm ([]:LB) b).bind λf=>some (a,([]:LB),0,0,0,0,0,([]:LI),0,f,false,0)))
def Qj:Bt7:=(CH c I z d i F E A R e C j).bind λ(B,D,G,J,L,N,O,P,T,U,V,X)=>some (B,D,G,J,L,N,O,P,T,U,V,M,M)
abbrev Qg:=Option (LB×LB×Int×Int×Int×Int×Int×LI×Int×LB×Bool×Int×Int)
abbrev Bu1:=LB->LB->Jz5 (LI->Int->LB->Bool->Int->Qg)
def Bv(bk3:Bu1)(a b:LB)(f g h k m:Int)(n:LI)(o:Int)(p:LB)(u:Bool)(v:Int):Qg:=(Af a b f g h k m n o p u v).bind λ(bb,bc,bd,be,bf,bg,bh,bi,bj,bk,bl,bm,w)=>if(geq w (-1:Int))then(Pd a b f g h k m n o p u v).bind λ(bn,bp,bq,br,bs,bt,bu,bv,bw,bx,bz,da)=>some (bn,bp,bq,br,bs,bt,bu,bv,bw,bx,bz,da,0)
else
if(Bd w 0)then(Qj a b f g h k m n o p u v w).bind λ(db,dc,dd,de,df,dg,dh,di,dj,dk,dl,dm,dn)=>some (db,dc,dd,de,df,dg,dh,di,dj,dk,dl,dm,dn)
else
bk3 bb bc bd be bf bg bh bi bj bk bl bm
def Bb:Nat->LB->LB->Jz5 (LI->Int->LB->Bool->Int->Qg)
|0,_,_,_,_,_,_,_,_,_,_,_,_=>none
|q+1,a,b,f,g,h,k,m,n,o,p,u,v=>Bv (Bb q) a b f g h k m n o p u v
def Bqu:=Bb Ax
def Ux(j3:Bu1)(al am:LB)(an ao ap aq ar:Int)(au:LI)(av:Int)(aw:LB)(ax:Bool)(ay:Int)(dp:LB):Qg:=(Ef al am an ao ap aq ar au av aw ax ay).bind λaz=>if(Bd az 0)then
some (([]:LB),([]:LB),0,0,0,0,0,([]:LI),0,([]:LB),false,0,az)
else(Pd al am an ao ap aq ar au av aw ax ay).bind λ(y,aa,ab,ac,ad,ae,af,ag,ah,ai,aj,ak)=>(Uv y aa ab ac ad ae af ag ah ai aj ak).bind λba=>if(Bd ba 0)then
some (y,aa,ab,ac,ad,ae,af,ag,ah,ai,aj,ak,ba)
else(Dm aa dp).bind λdq=>j3 y dq ab ac ad ae af ag ah ai aj ak
def Lo:=Ux Bqu
abbrev Jf:=Option (Int×Int)
def EB:Jf:=if(Cj (Ac c) j)then
some (0,24)
else
if(e==N)then(Bp c (Aq (Ac c) j) (Ae (Aq (Ac c) j) 32)).bind λi=>(BY z d).bind λA=>if(i !=A)then
some (0,12)
else
some (j,0)
else
some (j,0)
def DW:=EB
def CT(j6:LB->Int->Int->LB->LB->Int->Jf)(a:LB)(f g:Int)(b h:LB):Jf:=if(b==h)then
j6 a f g b h (Ae (Ae 32 f) 32)
else
j6 a f g b h (Ae 32 f)
def DN:=CT DW
def Amx(j5:LB->Int->Int->LB->LB->Jf)(a:LB):Jf:=(Bp a (Aq (Ac a) 32) (Ac a)).bind λb=>(BQ b).bind λ(f,g,n)=>if(!n)then
some (0,12)
else(Pk f g true).bind λh=>(
if(!(b==h))then(Pk f g false).bind λm=>if(b !=m)then
some (0,12)
else
j5 a f g b h
else
j5 a f g b h)
def An0:=Amx DN
def Ahq(j4:LB->Jf)(a:LB):Jf:=if(Cj (Ac a) 32)then
some (0,6)
else(Bp a (Aq (Ac a) 32) (Ae (Aq (Ac a) 32) 8)).bind λu=>if(u !=([65,80,69,84,65,71,69,88]:LB))then
some (0,6)
else
j4 a
def NX:=Ahq An0
abbrev Hk:=Option (Int×Int)
def Bph:Hk:=some (z,0)
def Bp9:=Bph
def Afk(j6:Int->Hk)(Tn:LB->Int->Hk)(b:LB)(a:Int):Hk:=if(Dz (Ac b) 0)then(NX b).bind λ(g,h)=>if(Bd h 0)then
some (0,38)
else(Bp b 0 (Aq (Ac b) g)).bind λk=>Tn k (Ae a 1)
else
j6 a
def Qv:Nat->LB->Int->Hk
|0,_,_=>none
|q+1,b,a=>Afk Bp9 (Qv q) b a
def Bpk:=Qv Ax
def Acs(j4:LB->Int->Hk)(f:LB):Hk:=if(Dz (Ac f) 4000)then
some (0,38)
else
j4 f 0
def Wg:=Acs Bpk
def Dn(p a:LB)(g u v w y:Int)(b:LI)(h:Int)(aa:LB)(ab:Bool)(ac:Int):Bt1:=if(geq g 0)then(Nx a).bind λ(k,f)=>if(Bd f 0)then
some f
else(Bp a k (Ac a)).bind λm=>(Pf m).bind λ(ad,ae,af,ag,ah,n)=>some n
else
if((geq (Ac b) 0)||(Cj h (Ac b)))then
some 24
else(Wg a).bind λ(ai,o)=>if(Bd o 0)then
some 38
else
some 0
abbrev Ms:=Option (Int×Int×Int×Int×Int×Int×LI×Int)
def Acz:Ms:=if(Bd d 0)then
some (0,0,0,0,0,0,([]:LI),d)
else
some (i,F,E,o7,Bsi,(Ae (Ae z (Bm 4 (Ac A))) 4),A,0)
def Acv:=Acz
def Acw(j4:Jz7 (LI->Ms))(a:LB)(b h k f g n:Int):Ms:=(Bp a n (Ac a)).bind λy=>(Et f g).bind λaa=>(Uy y (Ac aa)).bind λ(p,o)=>j4 n o b h k f g p
def Qn:=Acw Acv
def Yo(j3:LB->Jz6 Ms)(a u:LB):Ms:=if(Dz (Ac a) 100000)then
some (0,0,0,0,0,0,([]:LI),4)
else(Nx a).bind λ(m,v)=>if(Bd v 0)then
some (0,0,0,0,0,0,([]:LI),v)
else(Bp a m (Ac a)).bind λab=>(Pf ab).bind λ(b,h,k,f,g,w)=>if(Bd w 0)then
some (0,0,0,0,0,0,([]:LI),w)
else
if((u==([]:LB)) !=(geq b 1))then
some (0,0,0,0,0,0,([]:LI),26)
else
if(geq b 2)then
if(Cj (Aq (Ac a) (Ae m 22)) 8)then
some (0,0,0,0,0,0,([]:LI),24)
else(Bp a (Ae m 22) (Ae (Ae m 22) 8)).bind λac=>(Ou u).bind λad=>if(ac !=ad)then
some (0,0,0,0,0,0,([]:LI),26)
else
j3 a b h k f g (Ae (Ae m 22) 8)
else
j3 a b h k f g (Ae m 22)
def Fz:=Yo Qn
def Bqn:Bt1:=some z
def Bqe:=Bqn
def AZ(j6:Bvc)(Tn:Bvq)(b h k m n o f:Int)(g:LI)(a p:Int):Bt1:=if(Cj p b)then(Ao g p).bind λu=>Tn (Ae a u) (Ae p 1)
else
j6 a
def Nd:Nat->Int->Int->Option Int
|0,_,_=>none
|c+1,e,j=>AZ Bqe (Nd c) z d i F E o7 Bsi A e j
def Bq1 b h k m n o f g:=Nd b h k m n o f g Ax
def Bqd(j4:Jz7 (LI->Int->Int->Option Int))(h k m n o f:Int)(g:LI)(b:Int):Bt1:=j4 b h k m n o f g f 0
def Aqp:=Bqd Bq1
abbrev KC:=Option (LB×Int)
def Ap4(u:LX)(n o g f h k p:Int)(b:LI):KC:=if(Bd n 0)then
some (([]:LB),n)
else(Yr f u).bind λ(af,ai)=>some (af,0)
def Aoo:=Ap4
def Aoh(j2:LX->Jz7 (LI->KC))(v y:LB)(o g f h k p:Int)(b:LI)(a:Int):KC:=(Aqp o g f h k p b a).bind λm=>(Ao b a).bind λaa=>if(Cj (Aq (Ac v) m) aa)then
some (([]:LB),24)
else(Pe y).bind λ(ab,ag)=>(Ao b a).bind λac=>(Bp v m (Ae m ac)).bind λad=>(
(Et h k).bind λw=>(Ao w a).bind λ_=>(Ao w a).bind λae=>(Dx g f ab ae ad).bind λ(u,n)=>j2 u n o g f h k p b)
def Xr:=Aoh Aoo
def Bj5:Option (Int×Int×Int×Int×Int×Int×Int×Int×Int×Int×LI×Int):=if(Dz (Ac c) 100000)then
some (0,0,0,0,0,0,0,0,0,0,([]:LI),4)
else(Ku c).bind λ(z,d)=>if(Bd d 0)then
some (0,0,0,0,0,0,0,0,0,0,([]:LI),d)
else(Bp c z (Ac c)).bind λe=>(Ok e).bind λ(i,j,A,B,C,D)=>if(Bd D 0)then
some (i,j,A,B,C,0,0,0,0,0,([]:LI),D)
else(Ec i j A B C).bind λ(E,F)=>if(geq i 2)then
some (i,j,A,B,C,z,(Ae z 22),(Ae (Ae z 22) 8),0,0,E,0)
else
some (i,j,A,B,C,z,(Ae z 22),(Ae z 22),0,0,E,0)
abbrev Ct:=Option (Int×Int×Int×LX×Int)
def Big:Ct:=(Bp c z (Ac c)).bind λe=>(Za e).bind λ(j,A)=>if(Bd A 0)then
some (0,0,0,([]:LX),38)
else
some (d,i,F,B,0)
def Bkn:=Big
def Bkg(S1:Int->Int->LX->Ct)(a:LB)(w:LI)(m f g h o p n b ab ae:Int)(ac:LX)(k:LI)(y aj ak aa:Int)(an ad:LX):Ct:=if(Bd ak 0)then
some (0,0,0,([]:LX),ak)
else(Dm ad an).bind λau=>S1 (Ae y aj) (Ae aa 1) au
def Bkh S1:=Bkg S1
def eJ(j24:Jz4 (LX->LX->Ct))(j26:LB->Jz4 (LX->Ct))(a:LB)(w:LI)(m f g h o p n b ab ae:Int)(ac:LX)(k:LI)(y aa:Int)(ad:LX):Ct:=if(Cj aa (Ac w))then(Ao w aa).bind λ_=>(Ao w aa).bind λaj=>if(Cj (Ac a) (Ae y aj))then
some (0,0,0,([]:LX),24)
else(Ao k aa).bind λ_=>(Bp a y (Ae y aj)).bind λav=>(Ao k aa).bind λaw=>(Jn f g ac aw av).bind λ(an,ak)=>j24 y aj ak aa an ad
else
j26 a y f g h ad
def DA:Nat->Int->Int->LX->Ct
|0,_,_,_=>none
|z+1,d,e,i=>eJ (Bkh (DA z) c A R Bsj Bsk Bsl Bsm Bsn Bso Bte Btf Btg V Bsp) Bkn c A R Bsj Bsk Bsl Bsm Bsn Bso Bte Btf Btg V Bsp d e i
def Bmu a w m f g h o p n b ab ae ac k:=DA a w m f g h o p n b ab ae ac k Ax
def dU(j21:LB->LI->Jz10 (LX->LI->Int->Int->LX->Ct))(a u:LB)(m f g h o p n b:Int)(k:LI)(ao ab ae:Int)(w:LI):Ct:=if(Bd ao 0)then
some (0,0,0,([]:LX),ao)
else(Nu u).bind λ(ac,bc)=>j21 a w m f g h o p n b ab ae ac k ab 0 ([]:LX)
def Xl:=dU Bmu
abbrev Buh:=LB->LB->Jz8 (LI->Int->Int->Int->LI->Ct)
def Bjx(j20:Buh)(a u:LB)(v:LI)(m f g h o p n b af:Int)(k:LI):Ct:=j20 a u m f g h o p n b k 0 (Ae (Ae b (Bm 4 (Ac v))) 4) af v
def dB:=Bjx Xl
def dK(j19:LB->LB->LI->Jz9 (LI->Ct))(sw:Int->Int->Ct)(v:LI)(a u:LB)(m f g h o p n b:Int)(k:LI)(ag af:Int):Ct:=if(Cj ag (Ac v))then(Ao v ag).bind λ_=>(Ao v ag).bind λax=>sw (Ae ag 1) (Ae af ax)
else
j19 a u v m f g h o p n b af k
def CP:Nat->Int->Int->Ct
|0,_,_=>none
|z+1,c,d=>dK dB (CP z) A e N j M Brp Bs5 Bs6 Bs7 Bry Bsd Btm c d
def Bie v a u m f g h o p n b k:=CP v a u m f g h o p n b k Ax
def cI(j20:Buh)(j17:LI->LB->LB->Jz8 (LI->Int->Int->Ct))(al:Int)(a u:LB)(m f g h o p n b ah ai:Int)(v k:LI):Ct:=if(Bd al 0)then
j20 a u m f g h o p n b k al ah ai ([]:LI)
else
j17 v a u m f g h o p n b k 0 (Ae (Ae b (Bm 4 (Ac v))) 4)
def bO:=cI Xl Bie
def Bky(j20:Buh)(j16:Int->LB->LB->Jz10 (LI->LI->Ct))(a u:LB)(m f g h o p n b ah ai:Int)(k:LI):Ct:=if(Cj (Ac a) b)then
j20 a u m f g h o p n b k 24 ah ai ([]:LI)
else(Bp a b (Ac a)).bind λay=>(JT ay (Ac k)).bind λ(v,al)=>j16 al a u m f g h o p n b ah ai v k
def OX:=Bky Xl bO
def dY(j15:LB->LB->Jz10 (LI->Ct))(a u:LB)(m f g h o p n b ah ai:Int)(k:LI)(am:Int):Ct:=if(Bd am 0)then
some (0,0,0,([]:LX),am)
else
j15 a u m f g h o p n b ah ai k
def DC:=dY OX
def A9(j14:LB->LB->Jz10 (LI->Int->Ct))(a u:LB):Ct:=if(Dz (Ac u) 64)then
some (0,0,0,([]:LX),2)
else(Bj5 a).bind λ(m,f,g,h,o,p,n,b,ah,ai,k,ap)=>if(Bd ap 0)then
some (0,0,0,([]:LX),ap)
else
if((u==([]:LB)) !=(geq m 1))then
j14 a u m f g h o p n b ah ai k 26
else
if(geq m 1)then
j14 a u m f g h o p n b ah ai k 0
else
if(Cj (Ac a) b)then
j14 a u m f g h o p n b ah ai k 24
else(Bp a n b).bind λaz=>(Qt az u).bind λ(ba,bd)=>if(!ba)then
j14 a u m f g h o p n b ah ai k 26
else
j14 a u m f g h o p n b ah ai k 0
def Sm:=A9 DC
def Ati:Option (Int×Int×Int×Int×Int×Int×Int):=if(Dz (Ac c) 100000)then
some (0,0,0,0,0,0,4)
else(Nx c).bind λ(z,d)=>if(Bd d 0)then
some (0,0,0,0,0,0,d)
else(Bp c z (Ac c)).bind λe=>(Pf e).bind λ(i,j,A,B,C,D)=>some (z,i,j,A,B,C,D)
def Aor(f:LB)(a g m n o p:Int)(b:LB):Bud:=if((b==([]:LB)) !=(geq g 1))then
some (0,26)
else
if(b==([]:LB))then
some (a,0)
else
if(Cj (Ac f) (Ae a 8))then
some (0,24)
else(Bp f a (Ae a 8)).bind λh=>(Ou b).bind λk=>if(h !=k)then
some (0,26)
else
some ((Ae a 8),0)
def JQ(a:LB)(b o p u f g:Int):Bvz:=(Bp a b (Ac a)).bind λh=>(Et f g).bind λk=>(Uy h (Ac k)).bind λ(m,n)=>some (m,n)
abbrev Fu:=Option (Int×Int×Int×LX×Int)
def Ag3:Fu:=(Bp c z (Ac c)).bind λe=>(Wg e).bind λ(j,A)=>if(Bd A 0)then
some (0,0,0,([]:LX),38)
else
some (d,i,F,B,0)
def Agz:=Ag3
def Ag5(bk7:Int->Int->LX->Fu)(a:LB)(o f g h n:Int)(b p:LI)(u:LX)(m k:Int)(y:LX)(w:Int)(v:LX):Fu:=if(Bd w 0)then
some (0,0,0,([]:LX),w)
else(Dm v y).bind λah=>(Ao b k).bind λ_=>(Ao b k).bind λai=>bk7 (Ae m ai) (Ae k 1) ah
def Ah5 bk7:=Ag5 bk7
def EA(j10:Int->Int->LX->Int->LX->Fu)(j12:LB->Jz4 (LX->Fu))(a:LB)(o f g h n:Int)(b p:LI)(u:LX)(m k:Int)(v:LX):Fu:=if(Cj k (Ac b))then(Ao b k).bind λ_=>(Ao b k).bind λaj=>if(Cj (Aq (Ac a) m) aj)then
some (0,0,0,([]:LX),24)
else(Ao p k).bind λ_=>(Ao b k).bind λ_=>(Ao p k).bind λak=>(Ao b k).bind λal=>(Bp a m (Ae m al)).bind λam=>(Dx f g u ak am).bind λ(y,w)=>j10 m k y w v
else
j12 a m f g h v
def Ot:Nat->Int->Int->LX->Fu
|0,_,_,_=>none
|e+1,j,B,C=>EA (Ah5 (Ot e) c z d i F E A Bsb V) Agz c z d i F E A Bsb V j B C
def Ak1 a o f g h n b p u:=Ot a o f g h n b p u Ax
def Akq(j7:LB->Jz5 (LI->LI->LX->Int->Int->LX->Fu))(a aa:LB):Fu:=if(Dz (Ac aa) 64)then
some (0,0,0,([]:LX),2)
else(Ati a).bind λ(an,o,f,g,h,n,ab)=>if(Bd ab 0)then
some (0,0,0,([]:LX),ab)
else(Aor a (Ae an 22) o f g h n aa).bind λ(ac,ad)=>if(Bd ad 0)then
some (0,0,0,([]:LX),ad)
else(JQ a ac o f g h n).bind λ(b,ae)=>if(Bd ae 0)then
some (0,0,0,([]:LX),ae)
else(Et h n).bind λp=>(Pe aa).bind λ(u,ap)=>j7 a o f g h n b p u (Ae ac (Ae (Bm 4 (Ac b)) 4)) 0 ([]:LX)
def Lu:=Akq Ak1
def MF:Bt1:=(Sm c I).bind λ(z,d,e,i,j)=>some j
end Go.Pl
