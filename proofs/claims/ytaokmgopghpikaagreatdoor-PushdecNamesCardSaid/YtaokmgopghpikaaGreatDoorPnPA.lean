/- A part of a proof (see the text that ends in Proof). No conditions. -/
import Derived.Test.YtaokmgopghpikaaGreatDoorPnBA
set_option linter.unusedVariables false
namespace Go.Pl
open Go Go.Lv
abbrev J3(R:Type):=Int->Int->Int->R
abbrev J4(R:Type):=Int->Int->Int->Int->R
abbrev J5(R:Type):=Int->Int->Int->Int->Int->R
abbrev J6(R:Type):=Int->Int->Int->Int->Int->Int->R
abbrev J7(R:Type):=Int->Int->Int->Int->Int->Int->Int->R
abbrev LB:=List UInt8
abbrev LI:=List Int
abbrev LX:=List Int32
abbrev LU:=List UInt32
abbrev LQ:=List UInt64
abbrev L_:=List LB
abbrev L!:=List LI
variable(c i:Int)(z:LB)(O jm:Bool)(C:LB)(d A D I J jo:Int)(jq:Bool)(jr:Int)(iw jv l9:LB)(j:LI)(iy o7:LB)(E jf o8 o9 p8:Int)(jw:LI)(p9:Int)(P:LB)(M:Bool)(L jy:Int)(B:UInt64)(R:UInt32)(V:UInt64)(Z:LB)(N:Int32)(F:Int)(e G:LX)(T:Int32)(U l5:Int)(l8 qb:UInt64)(qc:Int32)(l6:LB)(Y:L_)(jk jl qd:LB)(X:LU)(cu eu:Int)(jg:LX)(qg:LQ)(qh:Bool)(qj:UInt8)(iq:Int)(ig:Bool->Option Int)(jh:Bool)(ji:Int)(l7:L!)
abbrev D_:=Option (LB×LB×Int×Int×Int×Int×Int×LI×Int×LB×Bool×Int×Int)
def Ko:D_:=if(Gc (Aa z) 64)then
some (([]:LB),([]:LB),0,0,0,0,0,([]:LI),0,([]:LB),false,0,2)
else
some (z,([]:LB),0,0,0,0,0,([]:LI),0,([]:LB),false,0,0)
abbrev Q_:=Option (Int×Int)
def DR(a b f:Int)(g:LX):Q_:=some (a,b)
abbrev Tj:=Option (Int32×Int32×Int)
def OF:Tj:=if O then(Ef (Ja (Al c 1) 0)).bind λ_=>some ((eY (Gd (1:Int32) (GI.toZ (Al c 1)).toNat)),(Al (Gd (1:Int32) (GI.toZ (Al c 1)).toNat) 1),0)
else
some (0,0,2)
def RM:=OF
def PW(j2:Int->Bool->Tj)(a:Int):Tj:=if(geq a 8)then
j2 a (geq a 8)
else
if(geq a 16)then
j2 a (geq a 16)
else
j2 a (geq a 24)
def AT:=PW RM
abbrev B_:=Option Int
def Ms:B_:=(AT i).bind λ(z,d,e)=>if(((Bm e 0)||(Cn c 1))||(Gc c 6))then
some 2
else
some 0
def Uz:Q_:=if((Cn c 1)||(Gc c 1048576))then
some (0,2)
else
some ((YJ 1 (Oc (Ew 256 c) 245)),0)
def Mp:Q_:=(Uz c).bind λ(z,d)=>if(Bm d 0)then
some (0,d)
else
if((Cn i 1)||(Gc i 4000))then
some (0,2)
else(Ef (Bm z 0)).bind λ_=>if(Gc (Oc (Al (Ac i z) 1) z) 1000)then
some (0,4)
else
some ((Oc (Al (Ac i z) 1) z),0)
def TK:B_:=(DR c i d e).bind λ(z,j)=>(Ms z j).bind λA=>if((Bm A 0)||(Cn U 1))then
some 8
else(Ef (Bm c 0)).bind λ_=>if(Gc U (Oc 4000 c))then
some 8
else(Mp d U).bind λ(B,C)=>if(Bm C 0)then
some 8
else
some 0
def RI:B_:=some 0
def Zt:=RI
def Yd(j6:B_)(Xv:Int->Option Int)(b f:Int32)(a:LX)(g:Int):B_:=if(Cn g (Aa a))then(Ag a g).bind λh=>if((Cn h b)||(Gc h f))then
some 16
else
Xv (Ac g 1)
else
j6
def Pq:Nat->Int->Option Int
|0,_=>none
|z+1,c=>Yd Zt (Pq z) N T jg c
def NM b f a:=Pq b f a Cu
def Zp(j4:Int32->Int32->LX->Int->Option Int)(m:Int)(a:LX):B_:=(AT m).bind λ(b,f,k)=>if(Bm k 0)then
some k
else
if(Gc (Aa a) 4000)then
some 4
else
j4 b f a 0
def Na:=Zp NM
def Ly:B_:=if(Cn c 1)then
some 8
else(Ef (Bm c 0)).bind λ_=>if(Bm (Hw (Aa e) c) 0)then
some 8
else(Ef (Bm c 0)).bind λ_=>(TK c i d e (Oc (Aa e) c)).bind λz=>if(Bm z 0)then
some z
else(Na i e).bind λj=>if(Bm j 0)then
some 8
else
some 0
abbrev To:=Option (Int×Int×Int×Int×Int×Int)
def PF:To:=if(z !=([]:LB))then
some (2,d,A,D,(Oc (Aa e) d),0)
else
some (1,d,A,D,(Oc (Aa e) d),0)
def Zf:=PF
def Pf(j2:LB->J3 (LX->To))(a b f:Int)(g:LX)(h:LB):To:=(Ly a b f g).bind λk=>if(Bm k 0)then
some (0,0,0,0,0,k)
else
if(Gc (Aa h) 64)then
some (0,0,0,0,0,2)
else(Ef (Bm a 0)).bind λ_=>(
j2 h a b f g)
def KZ:=Pf Zf
abbrev Ay:=Option (UInt64×Int)
def PN:Ay:=some (B,0)
def PT:=PN
def NQ(j30:UInt64->Ay)(h b:UInt64)(a:LB)(f:LQ):Ay:=j30 h
def Zo:=NQ PT
def Yz(j29:UInt64->UInt64->LB->LQ->Ay)(Wl:UInt64->Int->Ay)(a:LB)(b:UInt64)(f:LQ)(h:UInt64)(m:Int):Ay:=if(Cn m (Aa a))then(Ag a m).bind λp=>Option.bind (Ag f (GI.toZ (Fe (Aq (Cd h (GI.toZ (56:UInt64)).toNat):UInt8) p))) λ_=>Option.bind (Ag f (GI.toZ (Fe (Aq (Cd h (GI.toZ (56:UInt64)).toNat):UInt8) p))) λu=>Wl (Fe (Gd h (GI.toZ (8:UInt64)).toNat) u) (Ac m 1)
else
j29 h b a f
def Pu:Nat->UInt64->Int->Ay
|0,_,_=>none
|c+1,d,e=>Yz Zo (Pu c) z B qg d e
def Yn a b f:=Pu a b f Cu
def Yc(j27:LB->UInt64->LQ->UInt64->Int->Ay)(b:UInt64)(a:LB)(f:LQ):Ay:=j27 a b f b 0
def PY:=Yc Yn
abbrev Z!:=Int->LQ->Ay
def NJ(Hf:Z!)(b:UInt64)(a:LB)(g:Int)(o:LQ):Ay:=Hf (Ac g 1) o
def OI Hf:=NJ Hf
def NY(j24:Z!)(b:UInt64)(a:LB)(g:Int)(k:UInt64)(f:LQ):Ay:=(Ag f g).bind λ_=>(Ee f g k).bind λo=>j24 g o
def Yk Hf b a:=NY (OI Hf b a) b a
def Xw(j23:Int->UInt64->LQ->Ay)(kD:UInt64->Int->Ay)(b:UInt64)(a:LB)(g:Int)(f:LQ)(k:UInt64)(n:Int):Ay:=if(Cn n 8)then
kD (Fe (Gd k (GI.toZ (1:UInt64)).toNat) (Ew 4823603603198064275 (Cd k (GI.toZ (63:UInt64)).toNat))) (Ac n 1)
else
j23 g k f
def Qi(Hf:Z!)(b:UInt64)(a:LB)(g:Int)(f:LQ):Nat->UInt64->Int->Ay
|0,_,_=>none
|q+1,k,n=>Xw (Yk Hf b a) (Qi Hf b a g f q) b a g f k n
def AN Hf b a g f:=Qi Hf b a g f Cu
def Zb(j21:Int->LQ->UInt64->Int->Ay)(j26:UInt64->LB->LQ->Ay)(b:UInt64)(a:LB)(g:Int)(f:LQ):Ay:=if(Cn g 256)then
j21 g f (Gd (Aq g:UInt64) (GI.toZ (56:UInt64)).toNat) 0
else
j26 b a f
def Qu:Nat->Int->LQ->Ay
|0,_,_=>none
|z+1,c,d=>Zb (AN (Qu z) B Z) PY B Z c d
def OZ b a:=Qu b a Cu
def CW(j16:UInt64->LB->Int->LQ->Ay)(b:UInt64)(a:LB):Ay:=if(Gc (Aa a) 100000)then
some (0,4)
else
j16 b a 0 (List.replicate 256 (0:UInt64))
def QZ:=CW OZ
abbrev C!:=Option (UInt64×Int)
def IW:C!:=(QZ 0 z).bind λ(c,d)=>some (c,d)
abbrev U!:=Option (LX)
def cE:U!:=some e
def OG:=cE
def RZ(j6:LX->Option (LX))(Xv:Int->LX->Option (LX))(f:UInt64)(a:Int)(b:LX):U!:=if(Cn a 8)then(Ef (Ja (Ew 8 a) 0)).bind λ_=>(Ag b a).bind λ_=>(Ee b a (Aq (Aq (Cd f (GI.toZ (Ew 8 a)).toNat):Int8):Int32)).bind λg=>Xv (Ac a 1) g
else
j6 b
def ED:Nat->Int->LX->Option (LX)
|0,_,_=>none
|z+1,c,d=>RZ OG (ED z) B c d
def cG f:=ED f Cu
def RA(j4:UInt64->Int->LX->Option (LX))(f:UInt64):U!:=j4 f 0 (List.replicate 16 (0:Int32))
def cU:=RA cG
def Kr:Option (LX×Int):=if(Gc (Aa z) 64)then
some (([(0:Int32),(0:Int32),(0:Int32),(0:Int32),(0:Int32),(0:Int32),(0:Int32),(0:Int32),(0:Int32),(0:Int32),(0:Int32),(0:Int32),(0:Int32),(0:Int32),(0:Int32),(0:Int32)]:LX),2)
else(IW z).bind λ(c,d)=>if(Bm d 0)then
some (([(0:Int32),(0:Int32),(0:Int32),(0:Int32),(0:Int32),(0:Int32),(0:Int32),(0:Int32),(0:Int32),(0:Int32),(0:Int32),(0:Int32),(0:Int32),(0:Int32),(0:Int32),(0:Int32)]:LX),d)
else(cU c).bind λe=>some (e,0)
abbrev S!:=Option (UInt64×UInt64)
def Xc:S!:=some ((Ac (Ac (Ew (Cd B (GI.toZ (32:UInt64)).toNat) (Cd V (GI.toZ (32:UInt64)).toNat)) (Cd (Ac (Ew (Cd B (GI.toZ (32:UInt64)).toNat) (Dr V 4294967295)) (Cd (Ew (Dr B 4294967295) (Dr V 4294967295)) (GI.toZ (32:UInt64)).toNat)) (GI.toZ (32:UInt64)).toNat)) (Cd (Ac (Dr (Ac (Ew (Cd B (GI.toZ (32:UInt64)).toNat) (Dr V 4294967295)) (Cd (Ew (Dr B 4294967295) (Dr V 4294967295)) (GI.toZ (32:UInt64)).toNat)) 4294967295) (Ew (Dr B 4294967295) (Cd V (GI.toZ (32:UInt64)).toNat))) (GI.toZ (32:UInt64)).toNat)),(Ew B V))
def DA:S!:=(Xc B V).bind λ(z,c)=>some (z,c)
abbrev O_:=Option (LI)
def Ri:O_:=some j
def Ik:=Ri
abbrev J!:=Int->LI->Option (LI)
def Fp(j10:LI->Option (LI))(eP:J!)(b:Int)(a:LI):O_:=if(Cn b (Aa a))then(
(SD (Aa a) b (Aa a)).bind λ_=>(SD (Aa a) 0 b).bind λ_=>eP (Ac b (CR ((Aa a)-b) (Zq a 0 (b-(0:Int))).length)) (Jw a b ((Aa a)-b) (Zq a 0 (b-(0:Int)))))
else
j10 a
def Fu:Nat->Int->LI->Option (LI)
|0,_,_=>none
|q+1,b,a=>Fp Ik (Fu q) b a
def Tp:=Fu Cu
def Jn(j8:J!)(f:LI)(g:UInt64):O_:=(TC (Aq g:Int) (0:Int)).bind λk=>(Ef (geq (Aq g:Int) (Aq g:Int))).bind λ_=>j8 (CR (Aa k) f.length) (eB k f)
def Tk:=Jn Tp
def Jd(j7:LI->UInt64->Option (LI))(f:LI)(h:Int):O_:=(DA (Aq (Aa f):UInt64) (Aq h:UInt64)).bind λ(m,g)=>if((Gc m 0)||(Gc g 9223372036854775807))then
none
else
j7 f g
def Tr:=Jd Tk
def Jm(j6:LI->Int->Option (LI))(f:LI)(h:Int):O_:=if(Cn h 0)then
none
else
j6 f h
def Lu:=Jm Tr
def Rk:O_:=some j
def Ir:=Rk
def Il(j16:LI->Option (LI))(pD:J!)(a:L!)(g:Int)(f:LI):O_:=if(Cn g (Aa a))then(Ag a g).bind λn=>(Bb f n).bind λo=>pD (Ac g 1) o
else
j16 f
def Fg:Nat->Int->LI->Option (LI)
|0,_,_=>none
|z+1,c,d=>Il Ir (Fg z) l7 c d
def Ip a:=Fg a Cu
def Im(j14:(List LI)->Int->LI->Option (LI))(a:L!)(p:LI):O_:=j14 a 0 p
def Rl:=Im Ip
def Io(j13:(List LI)->LI->Option (LI))(b:Int)(a:L!):O_:=if(Gc (Al b (Al (0:Int) (0:Int))) 0)then(SD 0 0 0).bind λ_=>(TC (Al b (Al (0:Int) (0:Int))) (0:Int)).bind λu=>(Bb ([]:LI) u).bind λk=>(SD (Aa k) 0 0).bind λ_=>j13 a (Zq k 0 ((0:Int)-(0:Int)))
else
j13 a ([]:LI)
def Rj:=Io Rl
def Is(j12:Int-> (List LI)->Option (LI))(a:L!)(b:Int):O_:=if(Cn b 0)then
none
else
j12 b a
def Rh:=Is Rj
def Jf(j11:(List LI)->Int->Option (LI))(pE:Int->Int->Option (LI))(a:L!)(b h:Int):O_:=if(Cn h (Aa a))then(Ag a h).bind λm=>if(Cn (Ac b (Aa m)) 0)then
none
else
pE (Ac b (Aa m)) (Ac h 1)
else
j11 a b
def Fq:Nat->Int->Int->Option (LI)
|0,_,_=>none
|z+1,c,d=>Jf Rh (Fq z) l7 c d
def Td a:=Fq a Cu
def Jj(j9:(List LI)->Int->Int->Option (LI))(a:L!):O_:=j9 a 0 0
def Ls:=Jj Td
def Zh:O_:=(Ls ([j,jw]:L!)).bind λz=>some z
def Mx:Option (LI×Int):=(Mp c i).bind λ(z,d)=>if(Bm d 0)then
some (([]:LI),d)
else(Uz c).bind λ(e,j)=>(Lu ([e]:LI) (Al z 1)).bind λA=>(Zh A ([(Al i (Ew (Al z 1) e))]:LI)).bind λB=>some (B,0)
def CE:B_:=(Ms c i).bind λz=>if(Bm z 0)then
some z
else(Na i e).bind λd=>if(Bm d 0)then
some d
else
if(geq (Aa e) 0)then
some 2
else(Ef (Bm c 0)).bind λ_=>if(Bm (Hw (Aa e) c) 0)then
some 2
else
some 0
def JK:B_:=if((Cn c 1)||(Gc c 6))then
some 2
else
if(Gc (Aa e) 4000)then
some 4
else(Ef (Bm c 0)).bind λ_=>if(Bm (Hw (Aa e) c) 0)then
some 2
else
some 0
def Cq:U!:=(
(Bb ([]:LX) e).bind λz=>some z)
abbrev Df:=Option (LX×Int)
def ZC:Df:=some (e,0)
def KA:=ZC
abbrev M!:=Int->LX->Df
def XX(Ts:M!)(b a:Int)(u:LX):Df:=Ts (Ac a b) u
def ZM Ts:=XX Ts
def aF(j20:M!)(b a:Int)(g:LX):Df:=if(Gc (Al ((Ac a b)-a) 1) 0)then(Ef (decide (0<= (Al ((Ac a b)-a) 1)/\ (Al ((Ac a b)-a) 1)<((Ac a b)-a)))).bind λ_=>Option.bind (Ef (decide (0<= (Al (Al ((Ac a b)-a) 1) 1)/\ (Al (Al ((Ac a b)-a) 1) 1)<((Ac a b)-a)))) λ_=>(Ag g (a+(Al ((Ac a b)-a) 1))).bind λk=>(Ag g (a+(Al (Al ((Ac a b)-a) 1) 1))).bind λm=>(Ef (decide (0<= (Al ((Ac a b)-a) 1)/\ (Al ((Ac a b)-a) 1)<((Ac a b)-a)))).bind λ_=>(Ee g (a+(Al ((Ac a b)-a) 1)) (Al k (Oc m 2))).bind λn=>j20 a n
else
j20 a g
def KC Ts b:=aF (ZM Ts b) b
def JY(j19:M!)(sI:M!)(b a f:Int)(g:LX):Df:=if(Cn f (Al ((Ac a b)-a) 1))then(Ef (decide (0<= (Ac f 1)/\ (Ac f 1)<((Ac a b)-a)))).bind λ_=>(Ef (decide (0<=f/\f<((Ac a b)-a)))).bind λ_=>(Ag g (a+(Ac f 1))).bind λk=>(Ag g (a+f)).bind λm=>(Ef (decide (0<=f/\f<((Ac a b)-a)))).bind λ_=>(Ee g (a+f) (Al k m)).bind λn=>sI (Ac f 1) n
else
j19 a g
def Zs(Ts:M!)(b a:Int):Nat->Int->LX->Df
|0,_,_=>none
|q+1,f,g=>JY (KC Ts b) (Zs Ts b a q) b a f g
def KL Ts b a:=Zs Ts b a Cu
def KI(j17:Int->Int->LX->Df)(j22:LX->Df)(b a:Int)(h:LX):Df:=if(Cn a (Aa h))then(SD (Aa h) a (Ac a b)).bind λ_=>j17 a 0 h
else
j22 h
def AQ:Nat->Int->LX->Df
|0,_,_=>none
|z+1,d,e=>KI (KL (AQ z) c) KA c d e
def XT b:=AQ b Cu
def PM(j12:Int->Int->LX->Df)(b:Int)(o:LX):Df:=(JK b o).bind λp=>if(Bm p 0)then
some (([]:LX),p)
else(Cq o).bind λv=>j12 b 0 v
def eH:=PM XT
abbrev DQ:=Option (Int×LX×LX×Int)
def aD:DQ:=if qh then
some (10,e,(List.replicate 16 (0:Int32)),0)
else
if(geq c 16)then
some (9,e,(List.replicate 16 (0:Int32)),0)
else
some (0,(List.replicate 16 (0:Int32)),(List.replicate 16 (0:Int32)),2)
def YK:=aD
def ZJ(j2:Int->LX->Bool->DQ)(a:Int)(b:LX):DQ:=if(geq a 8)then
j2 a b (geq a 8)
else
j2 a b (geq a 24)
def QY:=ZJ YK
def JU:Option (Int×Int32×Int×LX×LX×Int):=(QY c e).bind λ(z,d,i,j)=>if(Bm j 0)then
some (0,0,0,(List.replicate 16 (0:Int32)),(List.replicate 16 (0:Int32)),j)
else
some (c,0,z,d,i,0)
def Mz(a:Int)(k:Int32)(b:Int)(f m:LX):B_:=(QY a f).bind λ(g,n,o,h)=>if((Bm h 0)||(Bm g b))then
some 8
else
some 0
def KS:Q_:=if(geq c 8)then
some (4,0)
else
if(geq c 16)then
if(geq c 16)then
some (5,0)
else
some (0,2)
else
if(geq c 24)then
some (5,0)
else
some (0,2)
abbrev Y!:=Option Int32
def JZ:Y!:=(Ef (Ja c 0)).bind λ_=>(Ef (Ja c 0)).bind λ_=>some (Aq (fT (Al (Gd (Aq N:Int) (GI.toZ c).toNat) (Aq N:Int)) (GI.toZ c).toNat):Int32)
def Nb:Option (Int32×Int):=(KS c).bind λ(z,d)=>if(Bm d 0)then
some (0,d)
else(JZ z N).bind λe=>some (e,0)
def Qh(a:Int)(b f:LX):B_:=if((Bm a 9)&&(Bm a 10))then
some 8
else
some 0
abbrev Gy:=Option (Int32×Int)
def TB(h:Int32)(a:Int)(b f:LX):Gy:=(Ef (Ja a 0)).bind λ_=>some ((Cd h (GI.toZ a).toNat),0)
def CI:=TB
def CN(j6:Int32->Int->LX->LX->Gy)(Xv:Int32->Int->Gy)(b:LX)(a:Int)(f:LX)(h:Int32)(g:Int):Gy:=if(Cn g 16)then(Ag b g).bind λm=>(Ag f g).bind λ_=>(Ag f g).bind λn=>Xv (Ac h (Ew m n)) (Ac g 1)
else
j6 h a b f
def Tm:Nat->Int32->Int->Gy
|0,_,_=>none
|z+1,c,d=>CN CI (Tm z) e U jg c d
def SS b a f:=Tm b a f Cu
def CC(j4:LX->Int->LX->Int32->Int->Gy)(a:Int)(b f:LX):Gy:=(Qh a b f).bind λk=>if(Bm k 0)then
some (0,k)
else(Ef (Ja (Al a 1) 0)).bind λ_=>j4 b a f (Gd (1:Int32) (GI.toZ (Al a 1)).toNat) 0
def EA:=CC SS
def II:Y!:=if(geq c 0)then
some 4
else
if(Cn c 4)then
some 2
else
some 1
abbrev Gu:=Option (Int×LX×LX×Int)
def TE:Gu:=some (c,e,G,0)
def CP:=TE
def CO(j6:Int->LX->LX->Gu)(Xv:Int->LX->Gu)(h:Int32)(f:LX)(g a:Int)(b:LX):Gu:=if(Cn a 16)then(Ag f a).bind λm=>if(geq m 0)then
Xv (Ac a 1) b
else
if((Cn m 0)==(Cn h 0))then(Ag b a).bind λ_=>(Ag b a).bind λo=>(II a).bind λp=>(Ag b a).bind λ_=>(Ee b a (Ac o p)).bind λu=>Xv (Ac a 1) u
else(Ag b a).bind λ_=>(Ag b a).bind λv=>(II a).bind λw=>(Ag b a).bind λ_=>(Ee b a (Al v w)).bind λy=>Xv (Ac a 1) y
else
j6 g b f
def Ta:Nat->Int->LX->Gu
|0,_,_=>none
|z+1,c,d=>CO CP (Ta z) N e U c d
def SM h f g:=Ta h f g Cu
def CV(j4:Int32->LX->Int->Int->LX->Gu)(g:Int)(k f:LX)(h:Int32):Gu:=(Qh g k f).bind λn=>if(Bm n 0)then
some (0,(List.replicate 16 (0:Int32)),(List.replicate 16 (0:Int32)),n)
else
if(geq h 0)then
some (g,k,f,0)
else
j4 h f g 0 k
def SA:=CV SM
abbrev AL:=Option (Int×LX×LX×Int)
def UW:AL:=(Ag (Jw G 1 ((16:Int)-(1:Int)) (Zq G 0 ((16:Int)-(0:Int)))) 0).bind λ_=>(Ee (Jw G 1 ((16:Int)-(1:Int)) (Zq G 0 ((16:Int)-(0:Int)))) 0 N).bind λz=>some (F,e,z,0)
def GZ:=UW
def Vs(j2:Int32->Int->LX->LX->AL)(b:Int)(f a:LX)(g:Int32):AL:=(Qh b f a).bind λh=>if(Bm h 0)then
some (0,(List.replicate 16 (0:Int32)),(List.replicate 16 (0:Int32)),h)
else(
(SD 16 1 16).bind λ_=>(SD 16 0 16).bind λ_=>j2 g b f a)
def UI:=Vs GZ
def DJ:Option (Int×LX×LX):=(SA c e G qc).bind λ(z,d,i,j)=>(UI z d i T).bind λ(A,B,C,D)=>some (A,B,C)
abbrev G!:=Option (Int32×Int×LX×LX×Int)
def AY:G!:=(EA c e G).bind λ(z,d)=>if(Bm d 0)then
some (0,0,(List.replicate 16 (0:Int32)),(List.replicate 16 (0:Int32)),d)
else(DJ c e G T (Al T z)).bind λ(i,j,A)=>some ((Al T z),i,j,A,0)
abbrev B!:=Option (Int32×Int×Int32×Int×LX×LX×Int)
def Mn:B!:=(Mz c N F e G).bind λz=>if(Bm z 0)then
some (0,0,0,0,(List.replicate 16 (0:Int32)),(List.replicate 16 (0:Int32)),z)
else(Nb c N).bind λ(d,i)=>(AY F e G (Al T d)).bind λ(j,A,B,C,D)=>(
some (j,c,T,A,B,C,D))
def TO:Option UInt32:=some (Fe (Gd (Aq N:UInt32) (GI.toZ (1:UInt64)).toNat) (Aq (Cd N (GI.toZ (31:UInt64)).toNat):UInt32))
abbrev Bj:=Option (LU×Int)
def EP:Bj:=some (X,0)
def Re:=EP
abbrev E_:=List (Int×Int32×(Int×LX×LX×Unit)×Unit)
def Qv(j12:LU->Bj)(pF:Int-> (List (Int×Int32×(Int×LX×LX×Unit)×Unit))->LU->Bj)(b:LX)(a f g:Int)(k:E_)(h:LU):Bj:=if(Cn g (Aa b))then(Ag b g).bind λ_=>(Ag b g).bind λac=>(Ef (Bm a 0)).bind λ_=>(Ag k (Hw g a)).bind λ_=>(Ag k (Hw g a)).bind λp=>(Mn p.1 p.2.1 p.2.2.1.1 p.2.2.1.2.1 p.2.2.1.2.2.1 ac).bind λ(u,ad,ae,v,af,ag,w)=>if(Bm w 0)then
some (([]:LU),w)
else(Ee k (Hw g a) (ad,ae,(v,af,ag,()),())).bind λah=>(TO u).bind λai=>(Bb h ([ai]:LU)).bind λaj=>pF (Ac g 1) ah aj
else
j12 h
def Ka:Nat->Int-> (List (Int×Int32×(Int×LX×LX×Unit)×Unit))->LU->Bj
|0,_,_,_=>none
|z+1,c,d,i=>Qv Re (Ka z) e U l5 c d i
def Po b a f:=Ka b a f Cu
def Rn(j10:LX->J3 ( (List (Int×Int32×(Int×LX×LX×Unit)×Unit))->LU->Bj))(a f:Int)(b:LX)(m:E_):Bj:=j10 b a f 0 m ([]:LU)
def FG:=Rn Po
def Rq(j9:Int->Int->LX-> (List (Int×Int32×(Int×LX×LX×Unit)×Unit))->Bj)(tW:Int-> (List (Int×Int32×(Int×LX×LX×Unit)×Unit))->Bj)(a f:Int)(n b:LX)(o:Int)(m:E_):Bj:=if(Cn o 6)then(JU f n).bind λ(ak,al,u,am,an,v)=>(Ag m o).bind λ_=>(Ee m o (ak,al,(u,am,an,()),())).bind λao=>tW (Ac o 1) ao
else
j9 a f b m
def Le:Nat->Int-> (List (Int×Int32×(Int×LX×LX×Unit)×Unit))->Bj
|0,_,_=>none
|z+1,d,j=>Rq FG (Le z) c i e G d j
def HV a f n b:=Le a f n b Cu
def Ry(j7:Int->Int->LX->LX->Int-> (List (Int×Int32×(Int×LX×LX×Unit)×Unit))->Bj)(a f:Int)(n y:LX):Bj:=(CE a f y).bind λaa=>if(Bm aa 0)then
some (([]:LU),aa)
else(eH a y).bind λ(b,ab)=>if(Bm ab 0)then
some (([]:LU),ab)
else
j7 a f n b 0 (List.replicate 6 ((0:Int),(0:Int32),((0:Int),(List.replicate 16 (0:Int32)),(List.replicate 16 (0:Int32)),()),()))
def Yq:=Ry HV
def FB:Option (Int×Int×UInt64×UInt64):=some (10,10,16384,16384)
abbrev Dn:=Option ((List (Int×Int×UInt64×UInt64×Unit)))
abbrev A_:=List (Int×Int×UInt64×UInt64×Unit)
def HF(a:A_):Dn:=some a
def Sf:=HF
abbrev Z_:=Int-> (List (Int×Int×UInt64×UInt64×Unit))->Dn
def Sj(j6:(List (Int×Int×UInt64×UInt64×Unit))->Dn)(Xv:Z_)(b:Int)(a:A_):Dn:=if(Cn b 6)then(FB).bind λ(f,g,h,k)=>(Ag a b).bind λ_=>(Ee a b (f,g,h,k,())).bind λm=>Xv (Ac b 1) m
else
j6 a
def Kx:Nat->Int-> (List (Int×Int×UInt64×UInt64×Unit))->Dn
|0,_,_=>none
|q+1,b,a=>Sj Sf (Kx q) b a
def HG:=Kx Cu
def Rv(j4:Z_):Dn:=j4 0 (List.replicate 6 ((0:Int),(0:Int),(0:UInt64),(0:UInt64),()))
def Zl:=Rv HG
def Fc:B_:=if(((Cn d 0)||(Gc d 330000))||(Bm (Aa z) (fT (Ac d 7) (GI.toZ (3:UInt64)).toNat)))then
some 8
else
if(Gc (Dr d 7) 0)then(Ag z (Al (Aa z) 1)).bind λc=>(Ef (Ja (Dr d 7) 0)).bind λ_=>if(Bm (Cd c (GI.toZ (Dr d 7)).toNat) 0)then
some 8
else
some 0
else
some 0
def SI:B_:=if(!((geq (Fm (YJ c 0) 24) c)&&((geq (Fm (YJ i 0) 24) i)&&((geq (Fm B 68719476735) B)&&((geq (Fm V 68719476735) V)&&true)))))then
some 8
else
some 0
def BW:=SI
abbrev E!:=Int->Int->UInt64->UInt64->Option Int
def Sr(j4:E!)(a b:Int)(f g:UInt64):B_:=(
(
j4 a b f g))
def DB:=Sr BW
def Tf(j3:E!)(a b:Int)(f g:UInt64):B_:=(
(
j3 a b f g))
def EM:=Tf DB
def Vv(a f:Int)(g h:UInt64)(b:UInt32):Option (Int×UInt32):=(Ef (Ja a 0)).bind λ_=>if(geq (Cd b (GI.toZ a).toNat) 0)then
some (0,b)
else(Ef (Ja a 0)).bind λ_=>some (1,(Al b (Gd (1:UInt32) (GI.toZ a).toNat)))
abbrev M_:=Option (LB)
def De:M_:=(
(Bb ([]:LB) z).bind λc=>some c)
abbrev O!:=Option (LB×Int)
def IV:O!:=(De z).bind λc=>some (c,d)
abbrev Bn:=Option (LB×Int×Int)
def UO:Bn:=some (z,c,0)
def FW:=UO
abbrev U_:=UInt64->Int->Int->LB->Bn
def VX(cK:U_)(b:UInt64)(a:Int)(m:UInt64)(h f:Int)(w:LB):Bn:=(Ef (Ja (Fm h (Al 8 (Dr f 7))) 0)).bind λ_=>cK (Cd m (GI.toZ (Fm h (Al 8 (Dr f 7)))).toNat) (Al h (Fm h (Al 8 (Dr f 7)))) (Ac f (Fm h (Al 8 (Dr f 7)))) w
def WW cK:=VX cK
def VY(j19:U_)(b:UInt64)(a:Int)(m:UInt64)(h f:Int)(u:LB):Bn:=(Ag u (Al (Aa u) 1)).bind λ_=>(Ef (Ja (Fm h (Al 8 (Dr f 7))) 0)).bind λ_=>(Ef (Ja (Dr f 7) 0)).bind λ_=>(Ag u (Al (Aa u) 1)).bind λad=>(Ag u (Al (Aa u) 1)).bind λ_=>Option.bind (Ee u (Al (Aa u) 1) (iS ad (Gd (Aq (Dr m (Al (Gd (1:UInt64) (GI.toZ (Fm h (Al 8 (Dr f 7)))).toNat) 1)):UInt8) (GI.toZ (Dr f 7)).toNat))) λw=>j19 m h f w
def GK cK b a:=VY (WW cK b a) b a
def GM(j18:U_)(j21:Int->LB->Bn)(b:UInt64)(a:Int)(m:UInt64)(h f:Int)(o:LB):Bn:=if(Gc h 0)then
if(geq (Dr f 7) 0)then(Bb o ([(0:UInt8)]:LB)).bind λaa=>j18 m h f aa
else
j18 m h f o
else
j21 f o
def Vj:Nat->UInt64->Int->Int->LB->Bn
|0,_,_,_,_=>none
|z+1,c,d,e,i=>GM (GK (Vj z) B F) FW B F c d e i
def WR b a:=Vj b a Cu
def UX:Bn:=some (z,c,0)
def HN:=UX
def VP(kE:U_)(b:UInt64)(a:Int)(n:UInt64)(k g:Int)(ab:LB):Bn:=(Ef (Ja (Fm k (Al 8 (Dr g 7))) 0)).bind λ_=>kE (Cd n (GI.toZ (Fm k (Al 8 (Dr g 7)))).toNat) (Al k (Fm k (Al 8 (Dr g 7)))) (Ac g (Fm k (Al 8 (Dr g 7)))) ab
def VD kE:=VP kE
def UY(j26:U_)(b:UInt64)(a:Int)(n:UInt64)(k g:Int)(v:LB):Bn:=(Ag v (Al (Aa v) 1)).bind λ_=>(Ef (Ja (Fm k (Al 8 (Dr g 7))) 0)).bind λ_=>(Ef (Ja (Dr g 7) 0)).bind λ_=>(Ag v (Al (Aa v) 1)).bind λae=>(Ag v (Al (Aa v) 1)).bind λ_=>Option.bind (Ee v (Al (Aa v) 1) (iS ae (Gd (Aq (Dr n (Al (Gd (1:UInt64) (GI.toZ (Fm k (Al 8 (Dr g 7)))).toNat) 1)):UInt8) (GI.toZ (Dr g 7)).toNat))) λab=>j26 n k g ab
def GX kE b a:=UY (VD kE b a) b a
def FH(j25:U_)(j28:Int->LB->Bn)(b:UInt64)(a:Int)(n:UInt64)(k g:Int)(p:LB):Bn:=if(Gc k 0)then
if(geq (Dr g 7) 0)then(Bb p ([(0:UInt8)]:LB)).bind λw=>j25 n k g w
else
j25 n k g p
else
j28 g p
def Vp:Nat->UInt64->Int->Int->LB->Bn
|0,_,_,_,_=>none
|z+1,c,d,e,i=>FH (GX (Vp z) B F) HN B F c d e i
def VM b a:=Vp b a Cu
abbrev D!:=UInt64->Int->UInt64->Int->Int->LB->Bn
def KK(j15:D!)(j22:D!)(ac:LB)(y:Int)(b:UInt64)(a:Int):Bn:=(Fc ac y).bind λaf=>if(Bm af 0)then
some (([]:LB),0,8)
else
if((Cn a 0)||(Gc a 64))then
some (([]:LB),0,2)
else
if(Cn a 64)then(Ef (Ja a 0)).bind λ_=>if(Bm (Cd b (GI.toZ a).toNat) 0)then
some (([]:LB),0,16)
else
if(Gc (Ac y a) 330000)then
some (([]:LB),0,18)
else(IV ac y).bind λ(ag,ah)=>j15 b a b a ah ag
else
if(Gc (Ac y a) 330000)then
some (([]:LB),0,18)
else(IV ac y).bind λ(aa,ai)=>j22 b a b a ai aa
def Zu:=KK WR VM
abbrev C_:=Option Bool
def We:C_:=(Ef (Ja F 0)).bind λ_=>some (Ja (Cd R (GI.toZ F).toNat) 48)
def HJ:Q_:=if((Cn c 0)||(Gc c 48))then
some (0,2)
else
some ((Fm (Ac c 1) 48),0)
abbrev W!:=Option (LB×Int×Int)
def LC:W!:=(Fc z d).bind λc=>if(Bm c 0)then
some (([]:LB),0,c)
else(HJ A).bind λ(e,i)=>if(Bm i 0)then
some (([]:LB),0,i)
else(Ef (Ja A 0)).bind λ_=>(Zu z d (Al (Gd (1:UInt64) (GI.toZ A).toNat) 1) e).bind λ(j,B,C)=>some (j,B,C)
abbrev Va:=Option (LB×Int×Int)
def TD:Va:=(LC z d A).bind λ(c,e,i)=>if(Bm i 0)then
some (([]:LB),0,i)
else(Zu c e (Aq R:UInt64) F).bind λ(j,B,C)=>some (j,B,C)
def SX:=TD
def SF(j2:LB->Int->Int->UInt32->Int->Va)(b:LB)(f:Int)(g:UInt32)(a:Int):Va:=(Fc b f).bind λk=>if(Bm k 0)then
some (([]:LB),0,k)
else
if((Cn a 0)||(Gc a 24))then
some (([]:LB),0,2)
else(Ef (Ja a 0)).bind λ_=>(Ef (Ja a 0)).bind λ_=>(We g a).bind λaa=>if aa then
j2 b f 48 g 32
else
j2 b f (Aq (Cd g (GI.toZ a).toNat):Int) (Dr g (Al (Gd (1:UInt32) (GI.toZ a).toNat) 1)) a
def PZ:=SF SX
abbrev Dd:=Option (LB×Int×Int×Int×UInt64×UInt64×Int)
def Rf:Dd:=(
(
some (Z,c,i,d,(Ac B (Al (Aq R:UInt64) (Cd B (GI.toZ (4:UInt64)).toNat))),V,0)))
def AO:=Rf
def CS(j10:J3 (UInt64->UInt32->UInt64->LB->Dd))(b:UInt32)(k n:Int)(a o:UInt64)(m:LB)(u:Int):Dd:=j10 k u n a b o m
def SZ:=CS AO
def CB(j9:UInt32->Int->Int->UInt64->UInt64->LB->Int->Dd)(b:UInt32)(f:Int)(a:UInt64)(k:Int)(m:LB)(n:Int)(o:UInt64):Dd:=if(Gc f 0)then(Ef (Ja f 0)).bind λ_=>if(Cn (Ac a (Al (Aq b:UInt64) (Cd a (GI.toZ (4:UInt64)).toNat))) (Gd (16:UInt64) (GI.toZ f).toNat))then
j9 b k n a o m (Al f 1)
else
if(Cn f 24)then(Ef (Ja f 0)).bind λ_=>if(Gc (Ac a (Al (Aq b:UInt64) (Cd a (GI.toZ (4:UInt64)).toNat))) (Gd (32:UInt64) (GI.toZ f).toNat))then
j9 b k n a o m (Ac f 1)
else
j9 b k n a o m f
else
j9 b k n a o m f
else
if(Cn f 24)then(Ef (Ja f 0)).bind λ_=>if(Gc (Ac a (Al (Aq b:UInt64) (Cd a (GI.toZ (4:UInt64)).toNat))) (Gd (32:UInt64) (GI.toZ f).toNat))then
j9 b k n a o m (Ac f 1)
else
j9 b k n a o m f
else
j9 b k n a o m f
def CD:=CB SZ
def BY(j8:UInt32->Int->UInt64->Int->LB->Int->UInt64->Dd)(b:UInt32)(f h:Int)(a g:UInt64)(ac k:Int)(m:LB):Dd:=if(Bm ac 0)then
some (([]:LB),0,0,0,0,0,ac)
else(Vv f h a g b).bind λ(ag,p)=>if(geq ag 1)then
if(Gc h 0)then(Ef (Ja h 0)).bind λ_=>if(Cn (Ac g (Al (Aq p:UInt64) (Cd g (GI.toZ (4:UInt64)).toNat))) (Gd (16:UInt64) (GI.toZ h).toNat))then
j8 b f a k m (Al h 1) (Ac g (Al (Aq p:UInt64) (Cd g (GI.toZ (4:UInt64)).toNat)))
else
if(Cn h 24)then(Ef (Ja h 0)).bind λ_=>if(Gc (Ac g (Al (Aq p:UInt64) (Cd g (GI.toZ (4:UInt64)).toNat))) (Gd (32:UInt64) (GI.toZ h).toNat))then
j8 b f a k m (Ac h 1) (Ac g (Al (Aq p:UInt64) (Cd g (GI.toZ (4:UInt64)).toNat)))
else
j8 b f a k m h (Ac g (Al (Aq p:UInt64) (Cd g (GI.toZ (4:UInt64)).toNat)))
else
j8 b f a k m h (Ac g (Al (Aq p:UInt64) (Cd g (GI.toZ (4:UInt64)).toNat)))
else
if(Cn h 24)then(Ef (Ja h 0)).bind λ_=>if(Gc (Ac g (Al (Aq p:UInt64) (Cd g (GI.toZ (4:UInt64)).toNat))) (Gd (32:UInt64) (GI.toZ h).toNat))then
j8 b f a k m (Ac h 1) (Ac g (Al (Aq p:UInt64) (Cd g (GI.toZ (4:UInt64)).toNat)))
else
j8 b f a k m h (Ac g (Al (Aq p:UInt64) (Cd g (GI.toZ (4:UInt64)).toNat)))
else
j8 b f a k m h (Ac g (Al (Aq p:UInt64) (Cd g (GI.toZ (4:UInt64)).toNat)))
else
j8 b f a k m h g
def SW:=BY CD
def CY(j7:UInt32->Int->Int->UInt64->UInt64->Int->Int->LB->Dd)(b:UInt32)(v:LB)(w f h:Int)(a g:UInt64):Dd:=(Vv f h a g b).bind λ(ad,ae)=>(Zu v w (Aq ad:UInt64) 1).bind λ(y,aa,ab)=>if((geq ab 0)&&(geq ad 0))then(Zu y aa (Aq ae:UInt64) f).bind λ(ah,ai,aj)=>j7 b f h a g aj ai ah
else
if(geq ab 0)then(PZ y aa ae h).bind λ(ak,al,am)=>j7 b f h a g am al ak
else
j7 b f h a g ab aa y
def SG:=CY SW
def DD(j6:UInt32->LB->J3 (UInt64->UInt64->Dd))(v:LB)(w f h:Int)(a g:UInt64)(b:UInt32):Dd:=(Fc v w).bind λan=>if(Bm an 0)then
some (([]:LB),0,0,0,0,0,8)
else(EM f h a g).bind λao=>if(Bm ao 0)then
some (([]:LB),0,0,0,0,0,8)
else
j6 b v w f h a g
def PD:=DD SG
abbrev Ax:=Option (UInt32×Int)
def OL:Ax:=some (R,0)
def Yo:=OL
def AE(j30:UInt32->Ax)(sJ:UInt32->Int->Ax)(a:LB)(b:LU)(h:UInt32)(m:Int):Ax:=if(Cn m (Aa a))then(Ag a m).bind λp=>(Ag b (GI.toZ (Fe (Aq h:UInt8) p))).bind λ_=>(Ag b (GI.toZ (Fe (Aq h:UInt8) p))).bind λu=>sJ (Fe (Cd h (GI.toZ (8:UInt64)).toNat) u) (Ac m 1)
else
j30 h
def Py:Nat->UInt32->Int->Ax
|0,_,_=>none
|c+1,d,e=>AE Yo (Py c) z X d e
def Zg a b:=Py a b Cu
def Yy(j28:LB->LU->UInt32->Int->Ax)(f:UInt32)(a:LB)(b:LU):Ax:=j28 a b f 0
def OM:=Yy Zg
def Ys(j27:UInt32->LB->LU->Ax)(f:UInt32)(a:LB)(b:LU):Ax:=j27 f a b
def OY:=Ys OM
abbrev A?:=Int->LU->Ax
def NV(Hf:A?)(f:UInt32)(a:LB)(g:Int)(o:LU):Ax:=Hf (Ac g 1) o
def RG Hf:=NV Hf
def PG(j24:A?)(f:UInt32)(a:LB)(g:Int)(k:UInt32)(b:LU):Ax:=(Ag b g).bind λ_=>(Ee b g k).bind λo=>j24 g o
def Yx Hf f a:=PG (RG Hf f a) f a
def Yj(j23:Int->UInt32->LU->Ax)(kD:UInt32->Int->Ax)(f:UInt32)(a:LB)(g:Int)(b:LU)(k:UInt32)(n:Int):Ax:=if(Cn n 8)then
kD (Fe (Cd k (GI.toZ (1:UInt64)).toNat) (Ew 3988292384 (Dr k 1))) (Ac n 1)
else
j23 g k b
def Pn(Hf:A?)(f:UInt32)(a:LB)(g:Int)(b:LU):Nat->UInt32->Int->Ax
|0,_,_=>none
|q+1,k,n=>Yj (Yx Hf f a) (Pn Hf f a g b q) f a g b k n
def Ya Hf f a g b:=Pn Hf f a g b Cu
def AF(j21:Int->LU->UInt32->Int->Ax)(j26:UInt32->LB->LU->Ax)(f:UInt32)(a:LB)(g:Int)(b:LU):Ax:=if(Cn g 256)then
j21 g b (Aq g:UInt32) 0
else
j26 f a b
def Pm:Nat->Int->LU->Ax
|0,_,_=>none
|z+1,c,d=>AF (Ya (Pm z) R Z) OY R Z c d
def OH f a:=Pm f a Cu
def CK(j16:UInt32->LB->Int->LU->Ax)(f:UInt32)(a:LB):Ax:=if(Gc (Aa a) 100000)then
some (0,4)
else
j16 f a 0 (List.replicate 256 (0:UInt32))
def RQ:=CK OH
def Ma:Option (UInt32×Int):=(RQ 4294967295 z).bind λ(c,d)=>if(Bm d 0)then
some (0,d)
else
some ((iY c),0)
def dY:C_:=if(geq F 8)then
some true
else(Ef (Ja (Ew 8 F) 0)).bind λ_=>some (geq (Cd B (GI.toZ (Ew 8 F)).toNat) 0)
abbrev Kg:=Option (LB×Int)
def ZB:Kg:=some (z,0)
def KG:=ZB
def KN(j6:LB->Kg)(Xv:Int->LB->Kg)(f:UInt64)(g:LB)(a:Int)(b:LB):Kg:=if(Cn a (Aa g))then(Ef (Ja (Ew 8 a) 0)).bind λ_=>(Ag b a).bind λ_=>(Ee b a (Aq (Cd f (GI.toZ (Ew 8 a)).toNat):UInt8)).bind λk=>Xv (Ac a 1) k
else
j6 b
def Zm:Nat->Int->LB->Kg
|0,_,_=>none
|z+1,c,d=>KN KG (Zm z) B Z c d
def ZD f g:=Zm f g Cu
def KT(j4:UInt64->LB->Int->LB->Kg)(f:UInt64)(h:Int):Kg:=if((Cn h 1)||(Gc h 8))then
some (([]:LB),2)
else(dY f h).bind λm=>if(!m)then
some (([]:LB),16)
else(TC h (0:UInt8)).bind λg=>(Ef (geq h h)).bind λ_=>j4 f g 0 g
def Mu:=KT ZD
def Oz:M_:=some z
def Ho:=Oz
abbrev T!:=LB->Option (LB)
abbrev K!:=Int->LB->Option (LB)
def Hq(j16:T!)(pD:K!)(a:L_)(g:Int)(f:LB):M_:=if(Cn g (Aa a))then(Ag a g).bind λn=>(Bb f n).bind λo=>pD (Ac g 1) o
else
j16 f
def El:Nat->Int->LB->Option (LB)
|0,_,_=>none
|z+1,c,d=>Hq Ho (El z) Y c d
def Hn a:=El a Cu
abbrev I!:=(List LB)->Int->LB->Option (LB)
def Hr(j14:I!)(a:L_)(p:LB):M_:=j14 a 0 p
def Ot:=Hr Hn
def Hu(j13:(List LB)->LB->Option (LB))(b:Int)(a:L_):M_:=if(Gc (Al b (Al (0:Int) (0:Int))) 0)then(SD 0 0 0).bind λ_=>(TC (Al b (Al (0:Int) (0:Int))) (0:UInt8)).bind λu=>(Bb ([]:LB) u).bind λk=>(SD (Aa k) 0 0).bind λ_=>j13 a (Zq k 0 ((0:Int)-(0:Int)))
else
j13 a ([]:LB)
def Ou:=Hu Ot
def Hs(j12:Int-> (List LB)->Option (LB))(a:L_)(b:Int):M_:=if(Cn b 0)then
none
else
j12 b a
def Ox:=Hs Ou
def Hx(j11:(List LB)->Int->Option (LB))(pE:Int->Int->Option (LB))(a:L_)(b h:Int):M_:=if(Cn h (Aa a))then(Ag a h).bind λm=>if(Cn (Ac b (Aa m)) 0)then
none
else
pE (Ac b (Aa m)) (Ac h 1)
else
j11 a b
def Fb:Nat->Int->Int->Option (LB)
|0,_,_=>none
|z+1,c,d=>Hx Ox (Fb z) Y c d
def Pr a:=Fb a Cu
def Ic(j9:(List LB)->Int->Int->Option (LB))(a:L_):M_:=j9 a 0 0
def Ks:=Ic Pr
abbrev Ar:=Option (LB×Int)
def EH(v:Int)(p:LB):Ar:=(Ma p).bind λ(af,ac)=>if(Bm ac 0)then
some (([]:LB),ac)
else(Mu (Aq af:UInt64) 4).bind λ(m,h)=>if(Bm h 0)then
some (([]:LB),h)
else(Ks ([p,m]:L_)).bind λag=>some (ag,0)
def Qf:=EH
abbrev J_:=Int-> (List (Int×Int×UInt64×UInt64×Unit))->Int->LB->Ar
def DU(Wl:J_)(b:LU)(a g f:Int)(n:A_)(k:Int)(w:LB):Ar:=Wl (Ac f 1) n k w
def Ra Wl:=DU Wl
abbrev P!:=Int->Int->LB->Ar
def EW(SC:P!)(h:Int)(b:LU)(f a g:Int)(n:A_)(m:LB)(o k:Int)(ab:LB):Ar:=SC (Ac o 1) (Ac k 1) ab
def DX SC:=EW SC
def DL(j48:P!)(h:Int)(b:LU)(f a g:Int)(n:A_)(m:LB)(o k:Int)(y:LB):Ar:=(Ag m (Oc o 8)).bind λ_=>(Ag m (Oc o 8)).bind λah=>(Ef (Ja (Hw o 8) 0)).bind λ_=>(Ag y (Oc k 8)).bind λ_=>(Ef (Ja (Hw k 8) 0)).bind λ_=>(Ag y (Oc k 8)).bind λai=>(Ag y (Oc k 8)).bind λ_=>Option.bind (Ee y (Oc k 8) (iS ai (Gd (Dr (Cd ah (GI.toZ (Hw o 8)).toNat) 1) (GI.toZ (Hw k 8)).toNat))) λab=>j48 o k ab
def Pw SC h b f a g n m:=DL (DX SC h b f a g n m) h b f a g n m
def Qy(j47:P!)(j50:J_)(b:LU)(a g h f:Int)(n:A_)(m:LB)(o k:Int)(w:LB):Ar:=if(Cn o h)then
if(geq (Hw k 8) 0)then(Bb w ([(0:UInt8)]:LB)).bind λaj=>j47 o k aj
else
j47 o k w
else
j50 f n k w
def Ke(Wl:J_)(b:LU)(a g h f:Int)(n:A_)(m:LB):Nat->Int->Int->LB->Ar
|0,_,_,_=>none
|q+1,o,k,w=>Qy (Pw (Ke Wl b a g h f n m q) h b f a g n m) (Ra Wl b a g) b a g h f n m o k w
def Qg Wl b a g h f n m:=Ke Wl b a g h f n m Cu
def Qj(j44:Int->Int-> (List (Int×Int×UInt64×UInt64×Unit))->LB->Int->Int->LB->Ar)(j52:Int->LB->Ar)(b:LU)(a g f:Int)(u:A_)(v:Int)(p:LB):Ar:=if(Cn f (Aa b))then(Ag b f).bind λ_=>(Ag b f).bind λak=>(Ef (Bm a 0)).bind λ_=>(Ag u (Hw f a)).bind λ_=>(Ag u (Hw f a)).bind λaa=>(PD ([]:LB) 0 aa.1 aa.2.1 aa.2.2.1 aa.2.2.2.1 ak).bind λ(m,h,al,am,an,ao,ad)=>if(Bm ad 0)then
some (([]:LB),ad)
else(Ef (Bm a 0)).bind λ_=>(Ag u (Hw f a)).bind λ_=>(Ee u (Hw f a) (al,am,an,ao,())).bind λn=>j44 h f n m 0 v p
else
j52 v p
def Kb:Nat->Int-> (List (Int×Int×UInt64×UInt64×Unit))->Int->LB->Ar
|0,_,_,_,_=>none
|z+1,c,d,e,i=>Qj (Qg (Kb z) X cu eu) Qf X cu eu c d e i
def DI b a g:=Kb b a g Cu
def Rt(j27:LU->J3 ( (List (Int×Int×UInt64×UInt64×Unit))->Int->LB->Ar))(a g:Int)(ap aq:LX):Ar:=(Yq a g ap aq).bind λ(b,ae)=>if(Bm ae 0)then
some (([]:LB),ae)
else(Zl).bind λar=>j27 b a g 0 ar 0 ([]:LB)
def Lm:=Rt DI
def If(a:Int)(b:LX):LI->Int->Option (List LX)
  |[],_=>some []
  |n::l,x=>Option.bind (Bu b x (Ac x (Ew n a))) λp=>Option.bind (If a b l (Ac x (Ew n a))) λps=>some (p::ps)
def Mt(a f:Int)(t:LX):List LX->List LB->Option (List LB×Int)
  |[],o=>some (o,0)
  |x::xs,o=>Option.bind (Lm a f t x) λy=>
    if(Bm y.2 0)=true then some ([],y.2)
    else Option.bind (Bb o [y.1]) λo'=>Mt a f t xs o'
def AB:Option (List LX):=
  Option.bind (Ef (Bm c 0)) λ_=>Option.bind (Mx i (Oc (Aa e) c)) λz=>Option.bind (Ef (decide (Aa z.1<=17179869184))) λ_=>If c e z.1 0
def Yv:Option (List LB×Int):=
  Option.bind (Ly c i d e) λz=>
    if(Bm z 0)=true then some ([],z)
    else Option.bind (Kr l6) λj=>
      if(Bm j.2 0)=true then some ([],j.2)
      else Option.bind (AB c d e) λA=>Mt c i j.1 A []
def IQ(b f a g h:Int):C_:=some (((((((geq b 1)||(geq b 2))&&(Gc f 0))&&(fM f 6))&&(Gc g 0))&&(fM g 1048576))&&(Gc h 0))
def JA:=IQ
def IG(j2:J5 (Option Bool))(b f a g h:Int):C_:=if(geq a 8)then
if(geq a 8)then
j2 b f a g h
else
some false
else
if(geq a 16)then
if(geq a 16)then
j2 b f a g h
else
some false
else
if(geq a 24)then
j2 b f a g h
else
some false
def Sm:=IG JA
def AH(k a m f b:Int):C_:=(Ef (Bm a 0)).bind λ_=>if(Gc b (Oc 4000 a))then
some false
else(Mp f b).bind λ(g,h)=>some ((geq h 0)&&(fM g 1000))
def Uy:B_:=(Sm c i d A D).bind λz=>if(!z)then
some 8
else(AH c i d A D).bind λe=>if(!e)then
some 8
else
some 0
abbrev Fa:=Option (LB×Int)
def MB:Fa:=(Ma z).bind λ(c,d)=>(Mu (Aq c:UInt64) 4).bind λ(e,i)=>(Bb z e).bind λj=>some (j,0)
def Xm:=MB
def Xk(j6:LB->Fa)(Xv:Int->LB->Fa)(b f g h k m:Int)(a:LB):Fa:=if(Cn m 5)then(Ag ([b,f,g,h,k]:LI) m).bind λw=>(Ag ([(2:Int),(2:Int),(2:Int),(4:Int),(4:Int)]:LI) m).bind λy=>(Mu (Aq w:UInt64) y).bind λ(n,v)=>(Bb a n).bind λo=>Xv (Ac m 1) o
else
j6 a
def Nr:Nat->Int->LB->Fa
|0,_,_=>none
|z+1,e,j=>Xk Xm (Nr z) c i d A D e j
def MI b f g h k:=Nr b f g h k Cu
def Xq(j4:J6 (LB->Fa))(b f g h k:Int):Fa:=(Uy b f g h k).bind λp=>if(Bm p 0)then
some (([]:LB),p)
else
j4 b f g h k 0 ([(84:UInt8),(84:UInt8),(65:UInt8),(49:UInt8)]:LB)
def GR:=Xq MI
def TX:C!:=if(Gc (Aa z) 64)then
some (0,2)
else(IW z).bind λ(c,d)=>some (c,0)
def Vu:O!:=(TX z).bind λ(c,d)=>if(Bm d 0)then
some (([]:LB),d)
else(Mu c 8).bind λ(e,i)=>some (e,i)
def QS:B_:=some 0
def AZ:=QS
def AU(j6:B_)(Xv:Int->Int->Option Int)(a:LI)(f b:Int):B_:=if(Cn b (Aa a))then(Ag a b).bind λg=>if((Cn g 5)||(Gc g f))then
some 8
else
Xv (Al f g) (Ac b 1)
else
j6
def Qa:Nat->Int->Int->Option Int
|0,_,_=>none
|z+1,c,d=>AU AZ (Qa z) j c d
def QE a:=Qa a Cu
abbrev Q!:=LI->Int->Int->Option Int
def Zw(j4:Q!)(a:LI):B_:=if((geq (Aa a) 0)||(Gc (Aa a) 1000))then
some 8
else
j4 a 100000 0
def Sg:=Zw QE
abbrev Cr:=Option (LB×Int)
def LZ:Cr:=some (z,0)
def ML:=LZ
def ME(j14:LB->Cr)(b:LB):Cr:=(Ma b).bind λ(m,u)=>(Mu (Aq m:UInt64) 4).bind λ(n,v)=>(Bb b n).bind λg=>j14 g
def Wq:=ME ML
def MR(eP:Int->LB->Cr)(a:LI)(f:Int)(h:LB):Cr:=eP (Ac f 1) h
def Wy eP:=MR eP
def AS(j11:Int->LB->Cr)(j13:LB->Cr)(a:LI)(f:Int)(b:LB):Cr:=if(Cn f (Aa a))then(Ag a f).bind λo=>(Mu (Aq o:UInt64) 4).bind λ(p,w)=>(Bb b p).bind λh=>j11 f h
else
j13 b
def Pg:Nat->Int->LB->Cr
|0,_,_=>none
|z+1,c,d=>AS (Wy (Pg z) j) Wq j c d
def RK a:=Pg a Cu
def Yr(j8:LI->Int->LB->Cr)(a:LI):Cr:=(Sg a).bind λk=>if(Bm k 0)then
some (([]:LB),k)
else
j8 a 0 ([]:LB)
def LG:=Yr RK
def CG:B_:=some (Aa z)
def OW:M_:=some z
def AK:=OW
def Zn(j6:T!)(Xv:K!)(a:L_)(f:Int)(b:LB):M_:=if(Cn f (Aa a))then(Ag a f).bind λg=>(Bb b g).bind λh=>Xv (Ac f 1) h
else
j6 b
def Qw:Nat->Int->LB->Option (LB)
|0,_,_=>none
|z+1,c,d=>Zn AK (Qw z) Y c d
def QO a:=Qw a Cu
def Yt(j4:I!)(a:L_):M_:=j4 a 0 ([]:LB)
def LJ:=Yt QO
abbrev Bv:=Option (LB×Int)
def LW:Bv:=if(Bm c 0)then
some (([]:LB),c)
else(Bb ([jk,jl,qd]:L_) Y).bind λz=>(LJ z).bind λd=>some (d,0)
def MS:=LW
def LY(j14:Int-> (List LB)->LB->LB->LB->Bv)(h:LI)(a:L_)(b f:LB):Bv:=(LG h).bind λ(n,k)=>j14 k a b f n
def Xn:=LY MS
def LO(pE:Int->LI->Bv)(a:L_)(b f:LB)(g:Int)(m:LI):Bv:=pE (Ac g 1) m
def Wx pE:=LO pE
def Zk(j11:Int->LI->Bv)(j13:LI-> (List LB)->LB->LB->Bv)(a:L_)(b f:LB)(g:Int)(h:LI):Bv:=if(Cn g (Aa a))then(Ag a g).bind λ_=>(Ag a g).bind λae=>(CG ae).bind λk=>(Ag h g).bind λ_=>(Ee h g k).bind λm=>j11 g m
else
j13 h a b f
def Qn:Nat->Int->LI->Bv
|0,_,_=>none
|z+1,c,d=>Zk (Wx (Qn z) Y jk jl) Xn Y jk jl c d
def QX a b f:=Qn a b f Cu
def Yb(j9:(List LB)->LB->LB->Int->LI->Bv)(a:L_)(b f:LB):Bv:=(TC (Aa a) (0:Int)).bind λaf=>(Ef (geq (Aa a) (Aa a))).bind λ_=>j9 a b f 0 af
def OT:=Yb QX
def Yi(j8:(List LB)->LB->LB->Bv)(p u v:Int)(w:LX)(o:LB):Bv:=(KZ p u v w o).bind λ(y,ag,ah,ai,aj,aa)=>if(Bm aa 0)then
some (([]:LB),aa)
else(Yv p u v w o).bind λ(a,ab)=>if(Bm ab 0)then
some (([]:LB),ab)
else(GR y ag ah ai aj).bind λ(b,ac)=>if(Bm ac 0)then
some (([]:LB),ac)
else
if(geq y 2)then(Vu o).bind λ(ak,al)=>j8 a b ak
else
j8 a b ([]:LB)
def AJ:=Yi OT
def Ki:Option (LB×Bool):=(AJ 1 8 8000 ([(0:Int32)]:LX) ([]:LB)).bind λ(a,b)=>some (a,((geq b 0)&&(geq (Aa a) 36)))
def Kn:M_:=(
(Bb ([]:LB) z).bind λc=>some c)
def Fo:O_:=(
(Bb ([]:LI) j).bind λz=>some z)
def Cs:Option (LB×LB×Int×Int×Int×Int×Int×LI×Int×LB×Bool×Int):=(Kn C).bind λc=>(Kn P).bind λe=>(Fo j).bind λi=>some (z,c,d,A,D,I,J,i,E,e,M,L)
def Ep:Option (LI×Int):=(Uy c i d A D).bind λz=>if(Bm z 0)then
some (([]:LI),z)
else(Mx A D).bind λ(e,j)=>some (e,j)
def Ld(a f g h k:Int)(b:LB):B_:=if((b==([]:LB)) !=(geq a 1))then
some 26
else
some 0
def LV(y:Int)(o p:LB)(h b f k m:Int)(g:LI)(a:Int)(n:LB)(u:Bool)(v:Int):C_:=some (fM (Aa n) y)
def Xe:=LV
def Wo(j8:Int->LB->LB->J5 (LI->Int->LB->Bool->Int->Option Bool))(tX:Int->Int->Option Bool)(w:LI)(o p:LB)(h b f k m:Int)(g:LI)(a:Int)(n:LB)(u:Bool)(v y aa:Int):C_:=if(Cn aa (Aa w))then(Ag w aa).bind λac=>tX (Ac y (Oc (Ew (Ew ac b) f) 8)) (Ac aa 1)
else
j8 y o p h b f k m g a n u v
def Nn:Nat->Int->Int->Option Bool
|0,_,_=>none
|z+1,c,d=>Wo Xe (Nn z) j iy o7 E jf o8 o9 p8 jw p9 P M L c d
def MQ w o p h b f k m g a n u v:=Nn w o p h b f k m g a n u v Cu
def Xd(j6:LI->LB->LB->J5 (LI->Int->LB->Bool->Int->Int->Int->Option Bool))(o p:LB)(h b f k m:Int)(g:LI)(a:Int)(n:LB)(u:Bool)(v:Int)(ab:LI):C_:=if(geq (Aa g) 0)then
some ((geq a 0)&&(geq (Aa n) 0))
else(Sg g).bind λad=>if((((Bm ad 0)||(Bm (Aa g) (Aa ab)))||(Cn a 0))||(Gc a (Aa ab)))then
some false
else(Bu ab 0 a).bind λw=>j6 w o p h b f k m g a n u v 0 0
def MN:=Xd MQ
def Xj(j5:LB->LB->J5 (LI->Int->LB->Bool->Int->LI->Option Bool))(o p:LB)(h b f k m:Int)(g:LI)(a:Int)(n:LB)(u:Bool)(v:Int):C_:=if((geq h 0)&&((geq b 0)&&((geq f 0)&&((geq k 0)&&((geq m 0)&&true)))))then
some (((geq (Aa g) 0)&&(geq a 0))&&(geq (Aa n) 0))
else(Ep h b f k m).bind λ(ab,ae)=>if(Bm ae 0)then
some false
else(Ld h b f k m o).bind λaf=>if(Bm af 0)then
some false
else
j5 o p h b f k m g a n u v ab
def Vi:=Xj MN
def Ib:C_:=some (z==C)
def Hc:C_:=if(Ja (Aa z) (Aa C))then(Bu z 0 (Aa C)).bind λc=>(Ib c C).bind λd=>some d
else
some false
abbrev Ei:=Option (Int×Int)
def IU:Ei:=some (c,0)
def Um:=IU
def Tz(j6:Int->Ei)(Xv:Int->Int->Ei)(a:LB)(b f:Int):Ei:=if(Cn f (Aa a))then(Ag a f).bind λg=>if(Gc g 127)then
some (0,12)
else
Xv (iS (Gd b (GI.toZ (7:UInt64)).toNat) (Aq g:Int)) (Ac f 1)
else
j6 b
def Lz:Nat->Int->Int->Ei
|0,_,_=>none
|c+1,d,e=>Tz Um (Lz c) z d e
def HZ a:=Lz a Cu
def Ul(j4:LB->Int->Int->Ei)(a:LB):Ei:=if(Bm (Aa a) 4)then
some (0,2)
else
j4 a 0 0
def CM:=Ul HZ
abbrev Dc:=Option (Int×Int)
def MG:Dc:=if(Gc iq 4000)then
some (0,4)
else
if(Cn (Aa z) iq)then
some (0,24)
else
if(geq qj 16)then(Bu z (Al iq 10) iq).bind λc=>(Bu c 0 3).bind λd=>if(d !=([51,68,73]:LB))then
some (0,12)
else(Bu c 3 (Aa c)).bind λe=>(Bu z 3 10).bind λi=>(Ib e i).bind λj=>if(!j)then
some (0,12)
else
some (iq,0)
else
some (iq,0)
def MC:=MG
def MM(j8:LB->UInt8->Int->Dc)(a:LB)(g:Int)(b:UInt8):Dc:=if(geq b 16)then
j8 a b (Ac (Ac g 10) 10)
else
j8 a b (Ac g 10)
def MT:=MM MC
def LR(j7:LB->Int->UInt8->Dc)(a:LB)(g:Int)(b:UInt8)(m:Bool):Dc:=if m then
some (0,12)
else
j7 a g b
def Wn:=LR MT
def Xo(j6:LB->Int->UInt8->Bool->Dc)(a:LB)(f b:UInt8):Dc:=(Bu a 6 10).bind λaa=>(CM aa).bind λ(g,ab)=>if(Bm ab 0)then
if true then
j6 a g b true
else
if(geq b 0)then
j6 a g b (!((Ja f 2)&&(fM f 4)))
else
if(geq b 16)then
j6 a g b (!(geq f 4))
else
j6 a g b (!false)
else(Ag a 4).bind λac=>if(Bm ac 0)then
j6 a g b true
else
if(geq b 0)then
j6 a g b (!((Ja f 2)&&(fM f 4)))
else
if(geq b 16)then
j6 a g b (!(geq f 4))
else
j6 a g b (!false)
def Wv:=Xo Wn
def Nt(j5:LB->UInt8->UInt8->Dc)(a:LB):Dc:=(Hc a ([(73:UInt8),(68:UInt8),(51:UInt8)]:LB)).bind λn=>if(!n)then
some (0,6)
else
if(Cn (Aa a) 10)then
some (0,24)
else(Ag a 3).bind λf=>(Ag a 5).bind λb=>(
(
(
j5 a f b)))
def FJ:=Nt Wv
abbrev Kh:=Option (UInt64×Int)
def XW:Kh:=some (B,0)
def KM:=XW
def KR(j6:UInt64->Kh)(Xv:UInt64->Int->Kh)(a:LB)(f:UInt64)(b:Int):Kh:=if(Cn b (Aa a))then(Ag a b).bind λg=>(Ef (Ja (Ew 8 b) 0)).bind λ_=>Xv (iS f (Gd (Aq g:UInt64) (GI.toZ (Ew 8 b)).toNat)) (Ac b 1)
else
j6 f
def Xz:Nat->UInt64->Int->Kh
|0,_,_=>none
|c+1,d,e=>KR KM (Xz c) z d e
def ZI a:=Xz a Cu
def LM(j4:LB->UInt64->Int->Kh)(a:LB):Kh:=if((Cn (Aa a) 1)||(Gc (Aa a) 8))then
some (0,2)
else
j4 a 0 0
def OK:=LM ZI
def RB:C!:=if(((Cn A 1)||(Gc A 8))||(Cn d 0))then
some (0,2)
else
if(Gc d (Al (Aa z) A))then
some (0,24)
else(Bu z d (Ac d A)).bind λc=>(OK c).bind λ(e,i)=>some (e,i)
def bN:M_:=some z
def PK:=bN
def PQ(j6:T!)(Xv:K!)(a b:Int)(f:UInt64)(h:Int)(g:LB):M_:=if(Cn h (Aa ([(2000:UInt64),(Aq (Ac a 32):UInt64),(Aq b:UInt64),f,(0:UInt64),(0:UInt64)]:LQ)))then(Ag ([(2000:UInt64),(Aq (Ac a 32):UInt64),(Aq b:UInt64),f,(0:UInt64),(0:UInt64)]:LQ) h).bind λ_=>(Ag ([(2000:UInt64),(Aq (Ac a 32):UInt64),(Aq b:UInt64),f,(0:UInt64),(0:UInt64)]:LQ) h).bind λk=>(Mu k 4).bind λ(m,o)=>(Bb g m).bind λn=>Xv (Ac h 1) n
else
j6 g
def FA:Nat->Int->LB->Option (LB)
|0,_,_=>none
|z+1,d,e=>PQ PK (FA z) c i B d e
def bC a b f:=FA a b f Cu
def RH(j4:Int->Int->UInt64->Int->LB->Option (LB))(a b:Int)(f:UInt64):M_:=j4 a b f 0 ([(65:UInt8),(80:UInt8),(69:UInt8),(84:UInt8),(65:UInt8),(71:UInt8),(69:UInt8),(88:UInt8)]:LB)
def MY:=RH bC
def BE:Option (Int×Int×Bool):=(RB z 12 4).bind λ(c,d)=>(RB z 16 4).bind λ(e,i)=>if(((Cn c 32)||(Gc c 3032))||(Gc e 1000))then
some (0,0,false)
else(MY (Al (Aq c:Int) 32) (Aq e:Int) B).bind λj=>(Ib z j).bind λA=>some ((Al (Aq c:Int) 32),(Aq e:Int),A)
def TW:Q_:=(Hc z ([(65:UInt8),(80:UInt8),(69:UInt8),(84:UInt8),(65:UInt8),(71:UInt8),(69:UInt8),(88:UInt8)]:LB)).bind λc=>if(!c)then
some (0,6)
else
if(Cn (Aa z) 32)then
some (0,24)
else(Bu z 0 32).bind λd=>(BE d 2684354560).bind λ(e,i,j)=>if(!j)then
some (0,12)
else
if(Cn (Aa z) (Ac e 64))then
some (0,24)
else(Bu z (Al (Ac e 64) 32) (Ac e 64)).bind λA=>(MY e i 2147483648).bind λB=>(Ib A B).bind λC=>if(!C)then
some (0,12)
else
some ((Ac e 64),0)
def Md:Q_:=(FJ z).bind λ(c,d)=>if(Bm d 6)then
some (c,d)
else(TW z).bind λ(e,i)=>some (e,i)
def Mr(b:List UInt8):Nat->Int->Option (Int×Int)
  |0,_=>none
  |q+1,x=>Option.bind (Bu b x (Aa b)) λs=>Option.bind (Md s) λr=>
    if geq r.2 (6:Int)=true then some (x,0)
    else if(geq r.2 (0:Int)&&Gc (Ac x r.1) (4000:Int))=true then some (0,4)
    else if Bm r.2 (0:Int)=true then some (0,r.2)
    else Mr b q (Ac x r.1)
def Fl(b:List UInt8):Q_:=Mr b Cu 0
def Af:Option (Bool×Int):=some (false,c)
def Fy:C_:=if(Ja (Aa z) (Aa C))then(Bu z 0 (Aa C)).bind λc=>some (c==C)
else
some false
def Lb:C_:=(Fy z C).bind λc=>some c
def MF:C_:=some false
def Wu:=MF
abbrev H!:=Int->Option Bool
def Wr(j6:C_)(Xv:H!)(a:LB)(b:Int):C_:=if(Cn b 2)then(Ag ([([73,68,51]:LB),([65,80,69,84,65,71,69,88]:LB)]:L_) b).bind λf=>if(Cn (Aa a) (Aa f))then(Lb f a).bind λg=>if g then
some true
else
Xv (Ac b 1)
else
Xv (Ac b 1)
else
j6
def Nu:Nat->Int->Option Bool
|0,_=>none
|c+1,d=>Wr Wu (Nu c) z d
def MH a:=Nu a Cu
def Xg(j4:LB->Int->Option Bool)(a:LB):C_:=j4 a 0
def Lo:=Xg MH
abbrev Fv:=Option (Int×Int×Int×Int×Int×Int)
def RO:Fv:=(Ag j 0).bind λ_=>(Ag j 0).bind λz=>(Ag j 1).bind λ_=>(Ag j 1).bind λc=>(Ag j 2).bind λ_=>(Ag j 2).bind λd=>(Ag j 3).bind λ_=>(Ag j 3).bind λe=>(Ag j 4).bind λ_=>(Ag j 4).bind λi=>(Sm z c d e i).bind λA=>if(!A)then
some (0,0,0,0,0,12)
else(AH z c d e i).bind λB=>if(!B)then
some (0,0,0,0,0,4)
else
some (z,c,d,e,i,0)
def Yf:=RO
def Yg(j6:LI->Fv)(Xv:Int->Int->LI->Fv)(b:LB)(g f:Int)(a:LI):Fv:=if(Cn f 5)then(Ag ([(2:Int),(2:Int),(2:Int),(4:Int),(4:Int)]:LI) f).bind λh=>(RB b g h).bind λ(v,ae)=>(Ag a f).bind λ_=>(Ee a f (Aq v:Int)).bind λw=>Xv (Ac g h) (Ac f 1) w
else
j6 a
def Pk:Nat->Int->Int->LI->Fv
|0,_,_,_=>none
|c+1,d,e,i=>Yg Yf (Pk c) z d e i
def OP b:=Pk b Cu
def Zy(j4:LB->Int->Int->LI->Fv)(b:LB):Fv:=(Bu b 0 (Fm 4 (Aa b))).bind λy=>(Lb ([84,84,65,49]:LB) y).bind λaa=>if(!aa)then
some (0,0,0,0,0,12)
else
if(Cn (Aa b) 22)then
some (0,0,0,0,0,24)
else(RB b 18 4).bind λ(ab,af)=>(Bu b 0 18).bind λac=>(Ma ac).bind λ(ad,ag)=>if(Bm (Aq ad:UInt64) ab)then
some (0,0,0,0,0,22)
else
j4 b 4 0 (List.replicate 5 (0:Int))
def Km:=Zy OP
def Wa:Option (Bool×Int):=(Vu C).bind λ(c,d)=>if((Bm d 0)||(Bm (Aa z) (Aa c)))then
some (false,2)
else(Ib z c).bind λe=>some (e,0)
abbrev Gx:=Option (LI×Int)
def TF:Gx:=(Sg j).bind λz=>if(Bm z 0)then
some (([]:LI),12)
else
some (j,0)
def CA:=TF
def CL(j6:LI->Gx)(Xv:Int->LI->Gx)(a:LB)(f:LI)(g:Int)(b:LI):Gx:=if(Cn g (Aa f))then(RB a (Ew 4 g) 4).bind λ(k,u)=>(Ag b g).bind λ_=>(Ee b g (Aq k:Int)).bind λm=>Xv (Ac g 1) m
else
j6 b
def Te:Nat->Int->LI->Gx
|0,_,_=>none
|c+1,d,e=>CL CA (Te c) z j d e
def SQ a f:=Te a f Cu
def DC(j4:LB->LI->Int->LI->Gx)(a:LB)(h:Int):Gx:=if((Cn h 1)||(Gc h 1000))then
some (([]:LI),2)
else
if(Cn (Aa a) (Ac (Ew 4 h) 4))then
some (([]:LI),24)
else(RB a (Ew 4 h) 4).bind λ(n,v)=>(Bu a 0 (Ew 4 h)).bind λo=>(Ma o).bind λ(p,w)=>if(Bm (Aq p:UInt64) n)then
some (([]:LI),22)
else(TC h (0:Int)).bind λf=>(Ef (geq h h)).bind λ_=>j4 a f 0 f
def DY:=DC SQ
def Sy(f a b g h:Int):Q_:=some (a,b)
def Zi:O!:=if(Cn (Aa z) 5)then
some (([]:LB),24)
else
if(Gc (Aa z) 41254)then
some (([]:LB),4)
else(Bu z 0 (Al (Aa z) 4)).bind λc=>(Ma c).bind λ(d,e)=>if(Bm e 0)then
some (([]:LB),e)
else(Bu z (Al (Aa z) 4) (Aa z)).bind λi=>(OK i).bind λ(j,A)=>if((Bm A 0)||(Bm j (Aq d:UInt64)))then
some (([]:LB),22)
else(Bu z 0 (Al (Aa z) 4)).bind λB=>some (B,0)
def eA:W!:=if(Gc (Aa z) 41250)then
some (([]:LB),0,4)
else(De z).bind λc=>some (c,(Ew 8 (Aa z)),0)
abbrev X!:=Option UInt64
def aE:X!:=some B
def KY:=aE
def KV(j6:UInt64->Option UInt64)(Xv:UInt64->Int->Option UInt64)(b f:Int)(h:LB)(k:Int)(g:UInt64)(a:Int):X!:=if(Cn a f)then(Ag h (fT (Ac b a) (GI.toZ (3:UInt64)).toNat)).bind λm=>(Ef (Ja (Dr (Ac b a) 7) 0)).bind λ_=>(Ef (Ja (Fm (Al f a) (Al 8 (Dr (Ac b a) 7))) 0)).bind λ_=>(Ef (Ja a 0)).bind λ_=>Xv (iS g (Gd (Aq (Dr (Cd m (GI.toZ (Dr (Ac b a) 7)).toNat) (Al (Gd (1:UInt8) (GI.toZ (Fm (Al f a) (Al 8 (Dr (Ac b a) 7)))).toNat) 1)):UInt64) (GI.toZ a).toNat)) (Ac a (Fm (Al f a) (Al 8 (Dr (Ac b a) 7))))
else
j6 g
def Zj:Nat->UInt64->Int->Option UInt64
|0,_,_=>none
|e+1,j,A=>KV KY (Zj e) c i z d j A
def YM b f h k:=Zj b f h k Cu
def KD(j4:Int->Int->LB->Int->UInt64->Int->Option UInt64)(h:LB)(k b f:Int):X!:=j4 b f h k 0 0
def RD:=KD YM
abbrev Bz:=Option (LB×Int×Int)
def WN:Bz:=some (z,c,0)
def FY:=WN
abbrev R!:=Int->Int->LB->Bz
def VH(Wl:R!)(a:Int)(g:LB)(b f h:Int)(u:LB):Bz:=Wl (Ac f 64) h u
def FF Wl:=VH Wl
abbrev F!:=UInt64->Int->Int->LB->Bz
def VI(SC:F!)(a f:Int)(g:LB)(b:Int)(m n:UInt64)(k h:Int)(w:LB):Bz:=(Ef (Ja (Fm k (Al 8 (Dr h 7))) 0)).bind λ_=>SC (Cd n (GI.toZ (Fm k (Al 8 (Dr h 7)))).toNat) (Al k (Fm k (Al 8 (Dr h 7)))) (Ac h (Fm k (Al 8 (Dr h 7)))) w
def WB SC:=VI SC
def XF(j48:F!)(a f:Int)(g:LB)(b:Int)(m n:UInt64)(k h:Int)(v:LB):Bz:=(Ag v (Al (Aa v) 1)).bind λ_=>(Ef (Ja (Fm k (Al 8 (Dr h 7))) 0)).bind λ_=>(Ef (Ja (Dr h 7) 0)).bind λ_=>(Ag v (Al (Aa v) 1)).bind λaa=>(Ag v (Al (Aa v) 1)).bind λ_=>Option.bind (Ee v (Al (Aa v) 1) (iS aa (Gd (Aq (Dr n (Al (Gd (1:UInt64) (GI.toZ (Fm k (Al 8 (Dr h 7)))).toNat) 1)):UInt8) (GI.toZ (Dr h 7)).toNat))) λw=>j48 n k h w
def GP SC a f g b m:=XF (WB SC a f g b m) a f g b m
def GG(j47:F!)(j50:R!)(a:Int)(g:LB)(b f:Int)(m n:UInt64)(k h:Int)(u:LB):Bz:=if(Gc k 0)then
if(geq (Dr h 7) 0)then(Bb u ([(0:UInt8)]:LB)).bind λab=>j47 n k h ab
else
j47 n k h u
else
j50 f h u
def Vk(Wl:R!)(a:Int)(g:LB)(b f:Int)(m:UInt64):Nat->UInt64->Int->Int->LB->Bz
|0,_,_,_,_=>none
|q+1,n,k,h,u=>GG (GP (Vk Wl a g b f m q) a f g b m) (FF Wl a g b) a g b f m n k h u
def HH Wl a g b f m:=Vk Wl a g b f m Cu
def HE(j44:Int->UInt64->UInt64->Int->Int->LB->Bz)(j52:Int->LB->Bz)(a:Int)(g:LB)(b f o:Int)(p:LB):Bz:=if(Cn f a)then(RD g b f (Fm 64 (Al a f))).bind λm=>j44 f m m (Fm 64 (Al a f)) o p
else
j52 o p
def Vg:Nat->Int->Int->LB->Bz
|0,_,_,_=>none
|e+1,i,j,A=>HE (HH (Vg e) c z d) FY c z d i j A
def UM a g b:=Vg a g b Cu
def KX(j27:Int->LB->J3 (LB->Bz))(g:LB)(b y a:Int):Bz:=(Fc g b).bind λac=>if(Bm ac 0)then
some (([]:LB),0,8)
else
if(((Cn y 0)||(Gc y a))||(Gc a b))then
some (([]:LB),0,2)
else
j27 a g b y 0 ([]:LB)
def QB:=KX UM
def Qk:C!:=(Fc z d).bind λc=>if(Bm c 0)then
some (0,8)
else
if(((Cn D 0)||(Gc D 64))||(Cn A 0))then
some (0,2)
else
if(Gc A (Al d D))then
some (0,24)
else(RD z d A D).bind λe=>some (e,0)
def Ij:B_:=if(geq B 0)then
some 64
else(Ag ([(0:UInt8),(1:UInt8),(56:UInt8),(2:UInt8),(57:UInt8),(49:UInt8),(28:UInt8),(3:UInt8),(61:UInt8),(58:UInt8),(42:UInt8),(50:UInt8),(38:UInt8),(29:UInt8),(17:UInt8),(4:UInt8),(62:UInt8),(47:UInt8),(59:UInt8),(36:UInt8),(45:UInt8),(43:UInt8),(51:UInt8),(22:UInt8),(53:UInt8),(39:UInt8),(33:UInt8),(30:UInt8),(24:UInt8),(18:UInt8),(12:UInt8),(5:UInt8),(63:UInt8),(55:UInt8),(48:UInt8),(27:UInt8),(60:UInt8),(41:UInt8),(37:UInt8),(16:UInt8),(46:UInt8),(35:UInt8),(44:UInt8),(21:UInt8),(52:UInt8),(32:UInt8),(23:UInt8),(11:UInt8),(54:UInt8),(26:UInt8),(40:UInt8),(15:UInt8),(34:UInt8),(20:UInt8),(31:UInt8),(10:UInt8),(25:UInt8),(14:UInt8),(19:UInt8),(9:UInt8),(13:UInt8),(8:UInt8),(7:UInt8),(6:UInt8)]:LB) (GI.toZ (Cd (Ew (Dr B (eY B)) 285870213051353865) (GI.toZ (58:UInt64)).toNat))).bind λz=>some (Aq z:Int)
abbrev Cz:=Option (Int×Int×Int)
def OX:Cz:=some (0,0,24)
def OU:=OX
def TA(j10:Cz):Cz:=j10
def SJ:=TA OU
def SL(j9:Cz)(f a:Int):Cz:=if(geq f 48)then
some (f,(Ac 0 (Ac a f)),0)
else
j9
def SU:=SL SJ
def SP(j8:Int->Int->Cz)(f b a:Int):Cz:=if(Cn f (Fm 48 (Al b a)))then
some (f,(Ac (Ac (0:Int) (1:Int)) (Ac a f)),0)
else
j8 f a
def SY:=SP SU
def SV(j7:J3 Cz)(h:Int)(k:UInt64)(a:Int)(g:LB)(b:Int):Cz:=if(Bm h 0)then
some (0,0,h)
else(Ij (iY k)).bind λf=>j7 f b a
def CH:=SV SY
def Tl(j6:Int->UInt64->Int->LB->Int->Cz)(g:LB)(b a:Int):Cz:=(Fc g b).bind λm=>if(Bm m 0)then
some (0,0,m)
else
if(Cn a 0)then
some (0,0,2)
else
if(Ja a b)then
some (0,0,24)
else(
(
(Qk g b a (Fm 48 (Al b a))).bind λ(k,h)=>j6 h k a g b))
def QG:=Tl CH
abbrev Zv:=Option (UInt32×Int×Int)
def VN:Zv:=(Qk iw E i jf).bind λ(z,e)=>if(Bm e 0)then
some (0,0,e)
else
if(Cn d 48)then(Ef (Ja c 0)).bind λ_=>some ((iS (Gd (Aq d:UInt32) (GI.toZ c).toNat) (Aq z:UInt32)),(Ac i jf),0)
else(We (Aq z:UInt32) c).bind λj=>if(!j)then
some (0,0,12)
else
some ((Aq z:UInt32),(Ac i jf),0)
def WO:=VN
def VV(j2:J3 (LB->Int->Int->Zv))(g:LB)(h v a:Int):Zv:=(Fc g h).bind λo=>if(Bm o 0)then
some (0,0,o)
else
if((Cn a 0)||(Gc a 24))then
some (0,0,2)
else(QG g h v).bind λ(f,b,p)=>if(Bm p 0)then
some (0,0,p)
else
if(geq f 48)then
j2 a b f g h 32
else
j2 a b f g h a
def UB:=VV WO
abbrev Ec:=Option (UInt32×Int×Int×Int×UInt64×UInt64×Int)
def SH:Ec:=some (R,F,U,l5,(Ac l8 (Al (Aq R:UInt64) (Cd l8 (GI.toZ (4:UInt64)).toNat))),qb,0)
def SN:=SH
def WK(j10:UInt32->J3 (UInt64->UInt64->Ec))(f:UInt32)(k m:Int)(b n:UInt64)(w:Int):Ec:=j10 f k w m b n
def UP:=WK SN
def WV(j9:UInt32->Int->Int->UInt64->UInt64->Int->Ec)(f:UInt32)(k a:Int)(b:UInt64)(m:Int)(n:UInt64):Ec:=if(Gc a 0)then(Ef (Ja a 0)).bind λ_=>if(Cn (Ac b (Al (Aq f:UInt64) (Cd b (GI.toZ (4:UInt64)).toNat))) (Gd (16:UInt64) (GI.toZ a).toNat))then
j9 f k m b n (Al a 1)
else
if(Cn a 24)then(Ef (Ja a 0)).bind λ_=>if(Gc (Ac b (Al (Aq f:UInt64) (Cd b (GI.toZ (4:UInt64)).toNat))) (Gd (32:UInt64) (GI.toZ a).toNat))then
j9 f k m b n (Ac a 1)
else
j9 f k m b n a
else
j9 f k m b n a
else
if(Cn a 24)then(Ef (Ja a 0)).bind λ_=>if(Gc (Ac b (Al (Aq f:UInt64) (Cd b (GI.toZ (4:UInt64)).toNat))) (Gd (32:UInt64) (GI.toZ a).toNat))then
j9 f k m b n (Ac a 1)
else
j9 f k m b n a
else
j9 f k m b n a
def HK:=WV UP
def FZ(j8:UInt32->Int->Int->UInt64->Int->UInt64->Ec)(a h:Int)(b g:UInt64)(f:UInt32)(k:Int):Ec:=(Vv a h b g f).bind λ(ad,o)=>if(geq ad 1)then
if(Gc h 0)then(Ef (Ja h 0)).bind λ_=>if(Cn (Ac g (Al (Aq o:UInt64) (Cd g (GI.toZ (4:UInt64)).toNat))) (Gd (16:UInt64) (GI.toZ h).toNat))then
j8 f k a b (Al h 1) (Ac g (Al (Aq o:UInt64) (Cd g (GI.toZ (4:UInt64)).toNat)))
else
if(Cn h 24)then(Ef (Ja h 0)).bind λ_=>if(Gc (Ac g (Al (Aq o:UInt64) (Cd g (GI.toZ (4:UInt64)).toNat))) (Gd (32:UInt64) (GI.toZ h).toNat))then
j8 f k a b (Ac h 1) (Ac g (Al (Aq o:UInt64) (Cd g (GI.toZ (4:UInt64)).toNat)))
else
j8 f k a b h (Ac g (Al (Aq o:UInt64) (Cd g (GI.toZ (4:UInt64)).toNat)))
else
j8 f k a b h (Ac g (Al (Aq o:UInt64) (Cd g (GI.toZ (4:UInt64)).toNat)))
else
if(Cn h 24)then(Ef (Ja h 0)).bind λ_=>if(Gc (Ac g (Al (Aq o:UInt64) (Cd g (GI.toZ (4:UInt64)).toNat))) (Gd (32:UInt64) (GI.toZ h).toNat))then
j8 f k a b (Ac h 1) (Ac g (Al (Aq o:UInt64) (Cd g (GI.toZ (4:UInt64)).toNat)))
else
j8 f k a b h (Ac g (Al (Aq o:UInt64) (Cd g (GI.toZ (4:UInt64)).toNat)))
else
j8 f k a b h (Ac g (Al (Aq o:UInt64) (Cd g (GI.toZ (4:UInt64)).toNat)))
else
j8 f k a b h g
def VB:=FZ HK
def GL(j7:Int->Int->UInt64->UInt64->UInt32->Int->Ec)(p:Int)(u:LB)(v a h:Int)(b g:UInt64):Ec:=(Qk u v p 1).bind λ(ae,aa)=>if(Bm aa 0)then
some (0,0,0,0,0,0,aa)
else
if(geq ae 0)then(Qk u v (Ac p 1) a).bind λ(af,ab)=>if(Bm ab 0)then
some (0,0,0,0,0,0,ab)
else
j7 a h b g (Aq af:UInt32) (Ac (Ac p 1) a)
else(UB u v (Ac p 1) h).bind λ(y,ag,ac)=>if(Bm ac 0)then
some (0,0,0,0,0,0,ac)
else(Ef (Ja a 0)).bind λ_=>if(Cn (Ac y (Gd (1:UInt32) (GI.toZ a).toNat)) y)then
some (0,0,0,0,0,0,12)
else
j7 a h b g (Ac y (Gd (1:UInt32) (GI.toZ a).toNat)) ag
def XB:=GL VB
def HU(j6:Int->LB->J3 (UInt64->UInt64->Ec))(u:LB)(v p a h:Int)(b g:UInt64):Ec:=(Fc u v).bind λah=>if(Bm ah 0)then
some (0,0,0,0,0,0,8)
else(EM a h b g).bind λai=>if(Bm ai 0)then
some (0,0,0,0,0,0,8)
else
j6 p u v a h b g
def Ub:=HU XB
abbrev Au:=Option (LU×Int×Int)
def EC:Au:=some (X,c,0)
def Qo:=EC
def EK(Hf:Int->Int-> (List (Int×Int×UInt64×UInt64×Unit))->LU->Au)(a f:Int)(g:LB)(b k v:Int)(w:UInt32)(h:Int)(ah:A_)(n:LU):Au:=(Bb n ([w]:LU)).bind λak=>Hf (Ac k v) (Ac h 1) ah ak
def DK Hf:=EK Hf
def DW(j22:Int->Int->UInt32->Int-> (List (Int×Int×UInt64×UInt64×Unit))->LU->Au)(a f:Int)(g:LB)(b k h y:Int)(w:UInt32)(v:Int)(m:A_)(n:LU)(aa ab:Int)(ac ad:UInt64):Au:=if(Bm y 0)then
some (([]:LU),0,y)
else(Ef (Bm a 0)).bind λ_=>(Ag m (Hw h a)).bind λ_=>(Ee m (Hw h a) (aa,ab,ac,ad,())).bind λah=>j22 k v w h ah n
def Qe Hf a f g b:=DW (DK Hf a f g b) a f g b
def Kf(j21:J3 (UInt32->Int-> (List (Int×Int×UInt64×UInt64×Unit))->LU->Int->Int->UInt64->UInt64->Au))(j24:Int->LU->Au)(a f:Int)(g:LB)(b k h:Int)(m:A_)(n:LU):Au:=if(Cn h (Ew f a))then(QB g b k (Fm (Ac k 81) b)).bind λ(ag,ae,af)=>if(Bm af 0)then
some (([]:LU),0,af)
else(Ef (Bm a 0)).bind λ_=>(Ag m (Hw h a)).bind λ_=>(
(
(Ag m (Hw h a)).bind λo=>(
(Ub ag ae 0 o.1 o.2.1 o.2.2.1 o.2.2.2.1).bind λ(w,v,aa,ab,ac,ad,y)=>j21 k h y w v m n aa ab ac ad)))
else
j24 k n
def Jv:Nat->Int->Int-> (List (Int×Int×UInt64×UInt64×Unit))->LU->Au
|0,_,_,_,_=>none
|e+1,j,A,B,C=>Kf (Qe (Jv e) c i z d) Qo c i z d j A B C
def Qz a f g b:=Jv a f g b Cu
def Pj(j16:Int->Int->LB->J3 ( (List (Int×Int×UInt64×UInt64×Unit))->LU->Au))(a f:Int)(g:LB)(b:Int)(p:A_):Au:=j16 a f g b 0 0 p ([]:LU)
def DF:=Pj Qz
def Pp(j15:Int->Int->LB->Int-> (List (Int×Int×UInt64×UInt64×Unit))->Au)(kF:Int-> (List (Int×Int×UInt64×UInt64×Unit))->Au)(a f:Int)(g:LB)(b u:Int)(p:A_):Au:=if(Cn u 6)then(FB).bind λ(al,ae,af,am)=>(Ag p u).bind λ_=>(Ee p u (al,ae,af,am,())).bind λan=>kF (Ac u 1) an
else
j15 a f g b p
def Jy:Nat->Int-> (List (Int×Int×UInt64×UInt64×Unit))->Au
|0,_,_=>none
|e+1,j,A=>Pp DF (Jy e) c i z d j A
def EX a f g b:=Jy a f g b Cu
def Sa(j13:Int->Int->LB->Int->Int-> (List (Int×Int×UInt64×UInt64×Unit))->Au)(a f:Int)(g:LB)(b:Int):Au:=j13 a f g b 0 (List.replicate 6 ((0:Int),(0:Int),(0:UInt64),(0:UInt64),()))
def Ze:=Sa EX
def Mk:Y!:=some (Fe (Aq (Cd R (GI.toZ (1:UInt64)).toNat):Int32) (eY (Aq (Dr R 1):Int32)))
def RP:G!:=(EA c e G).bind λ(z,d)=>if(Bm d 0)then
some (0,0,(List.replicate 16 (0:Int32)),(List.replicate 16 (0:Int32)),d)
else(DJ c e G (Ac T z) T).bind λ(i,j,A)=>some ((Ac T z),i,j,A,0)
def Fs:B!:=(Mz c N F e G).bind λz=>if(Bm z 0)then
some (0,0,0,0,(List.replicate 16 (0:Int32)),(List.replicate 16 (0:Int32)),z)
else(Nb c N).bind λ(d,i)=>(RP F e G T).bind λ(j,A,B,C,D)=>(
some ((Ac j d),c,(Ac j d),A,B,C,D))
abbrev Cm:=Option (LX×Int)
def VE:Cm:=some (e,0)
def GA:=VE
abbrev N!:=Int->LX->Cm
def VS(Ts:N!)(b a:Int)(h:LX):Cm:=Ts (Ac a b) h
def GW Ts:=VS Ts
def FR(j20:N!)(pG:N!)(b a g:Int)(h:LX):Cm:=if(Ja g 0)then(Ef (decide (0<= (Ac g 1)/\ (Ac g 1)<((Ac a b)-a)))).bind λ_=>(Ef (decide (0<=g/\g<((Ac a b)-a)))).bind λ_=>(Ag h (a+(Ac g 1))).bind λn=>(Ag h (a+g)).bind λo=>(Ef (decide (0<=g/\g<((Ac a b)-a)))).bind λ_=>(Ee h (a+g) (Al n o)).bind λp=>pG (Al g 1) p
else
j20 a h
def Vx(Ts:N!)(b a:Int):Nat->Int->LX->Cm
|0,_,_=>none
|q+1,g,h=>FR (GW Ts b) (Vx Ts b a q) b a g h
def FX Ts b a:=Vx Ts b a Cu
def FE(j18:Int->Int->LX->Cm)(b a:Int)(u:LX):Cm:=j18 a (Al (Al ((Ac a b)-a) 1) 1) u
def WC Ts b:=FE (FX Ts b) b
def FU(j17:N!)(j22:LX->Cm)(b a:Int)(f:LX):Cm:=if(Cn a (Aa f))then(SD (Aa f) a (Ac a b)).bind λ_=>if(Gc (Al ((Ac a b)-a) 1) 0)then(Ef (decide (0<= (Al ((Ac a b)-a) 1)/\ (Al ((Ac a b)-a) 1)<((Ac a b)-a)))).bind λ_=>Option.bind (Ef (decide (0<= (Al (Al ((Ac a b)-a) 1) 1)/\ (Al (Al ((Ac a b)-a) 1) 1)<((Ac a b)-a)))) λ_=>(Ag f (a+(Al ((Ac a b)-a) 1))).bind λv=>(Ag f (a+(Al (Al ((Ac a b)-a) 1) 1))).bind λw=>(Ef (decide (0<= (Al ((Ac a b)-a) 1)/\ (Al ((Ac a b)-a) 1)<((Ac a b)-a)))).bind λ_=>(Ee f (a+(Al ((Ac a b)-a) 1)) (Ac v (Oc w 2))).bind λy=>j17 a y
else
j17 a f
else
j22 f
def Vt:Nat->Int->LX->Cm
|0,_,_=>none
|z+1,d,e=>FU (WC (Vt z) c) GA c d e
def VZ b:=Vt b Cu
def LK(j12:Int->Int->LX->Cm)(b:Int)(k:LX):Cm:=(JK b k).bind λm=>if(Bm m 0)then
some (([]:LX),m)
else(Cq k).bind λaa=>j12 b 0 aa
def YQ:=LK VZ
abbrev Ba:=Option (LX×Int)
def BN:Ba:=(YQ c e).bind λ(z,d)=>if(Bm d 0)then
some (([]:LX),d)
else(Na i z).bind λj=>if(Bm j 0)then
some (([]:LX),j)
else
some (z,0)
def Of:=BN
def BQ(kF:Int-> (List (Int×Int32×(Int×LX×LX×Unit)×Unit))->LX->Ba)(a:Int)(f:LU)(b g:Int)(y:Int32)(v:Int)(h:E_)(k:LX)(aa:Int)(w:Int32)(ab:Int)(ac ad:LX):Ba:=if(Bm v 0)then
some (([]:LX),v)
else(Ee h (Hw g a) (aa,w,(ab,ac,ad,()),())).bind λai=>(Bb k ([y]:LX)).bind λaj=>kF (Ac g 1) ai aj
def Og kF:=BQ kF
def Iu(j16:Int->Int32->Int-> (List (Int×Int32×(Int×LX×LX×Unit)×Unit))->LX->Int->Int32->Int->LX->LX->Ba)(j18:Int->Int->LX->Ba)(f:LU)(a b g:Int)(h:E_)(k:LX):Ba:=if(Cn g (Aa f))then(Ag f g).bind λag=>(Ef (Bm a 0)).bind λ_=>(Ag h (Hw g a)).bind λ_=>(
(Ag h (Hw g a)).bind λm=>(
(Mk ag).bind λae=>(
(Fs m.1 m.2.1 m.2.2.1.1 m.2.2.1.2.1 m.2.2.1.2.2.1 ae).bind λ(y,aa,w,ab,ac,ad,v)=>j16 g y v h k aa w ab ac ad)))
else
j18 a b k
def Iv:Nat->Int-> (List (Int×Int32×(Int×LX×LX×Unit)×Unit))->LX->Ba
|0,_,_,_=>none
|z+1,c,d,e=>Iu (Og (Iv z) cu X eu) Of X cu eu c d e
def Ok f a b:=Iv f a b Cu
def Oh(j13:LU->J3 ( (List (Int×Int32×(Int×LX×LX×Unit)×Unit))->LX->Ba))(f:LU)(a b:Int)(n:E_):Ba:=j13 f a b 0 n ([]:LX)
def BT:=Oh Ok
def Oj(j12:LU->Int->Int-> (List (Int×Int32×(Int×LX×LX×Unit)×Unit))->Ba)(pF:Int-> (List (Int×Int32×(Int×LX×LX×Unit)×Unit))->Ba)(f:LU)(a b:Int)(o:LX)(p:Int)(n:E_):Ba:=if(Cn p 6)then(JU b o).bind λ(ak,af,ae,al,am,w)=>(Ag n p).bind λ_=>(Ee n p (ak,af,(ae,al,am,()),())).bind λan=>pF (Ac p 1) an
else
j12 f a b n
def Iz:Nat->Int-> (List (Int×Int32×(Int×LX×LX×Unit)×Unit))->Ba
|0,_,_=>none
|z+1,c,d=>Oj BT (Iz z) X cu eu jg c d
def BS f a b o:=Iz f a b o Cu
def Qx(j10:LU->Int->Int->LX->Int-> (List (Int×Int32×(Int×LX×LX×Unit)×Unit))->Ba)(a b:Int)(o:LX)(f:LU):Ba:=j10 f a b o 0 (List.replicate 6 ((0:Int),(0:Int32),((0:Int),(List.replicate 16 (0:Int32)),(List.replicate 16 (0:Int32)),()),()))
def Ww:=Qx BS
def Pd:Option (LX×Int):=(Ms c i).bind λz=>if(Bm z 0)then
some (([]:LX),z)
else
if(Cn U 1)then
some (([]:LX),2)
else(Ef (Bm c 0)).bind λ_=>if(Gc U (Oc 4000 c))then
some (([]:LX),2)
else(Zi l6).bind λ(d,j)=>if(Bm j 0)then
some (([]:LX),j)
else(eA d).bind λ(A,B,C)=>if(Bm C 0)then
some (([]:LX),C)
else(Ze c U A B).bind λ(D,E,F)=>if(Bm F 0)then
some (([]:LX),F)
else
if(Ja (Al B E) 8)then
some (([]:LX),12)
else(Qk A B E (Al B E)).bind λ(G,I)=>if((Bm I 0)||(Bm G 0))then
some (([]:LX),12)
else(Ww c i e D).bind λ(J,L)=>some (J,L)
abbrev Bl:=Option (LB×Int)
def MA:Bl:=some (z,0)
def Xp:=MA
abbrev V!:=Int->LB->Bl
def MO(Hf:V!)(b:Int)(a:LX)(f:Int)(h:LB):Bl:=Hf (Ac f 1) h
def Xa Hf:=MO Hf
def Wt(j28:V!)(sK:V!)(b:Int)(a:LX)(k:Int32)(f m:Int)(h:LB):Bl:=if(Cn m (Oc b 8))then(Ef (Ja (Ew 8 m) 0)).bind λ_=>(Bb h ([(Aq (Cd k (GI.toZ (Ew 8 m)).toNat):UInt8)]:LB)).bind λp=>sK (Ac m 1) p
else
j28 f h
def Nz(Hf:V!)(b:Int)(a:LX)(k:Int32)(f:Int):Nat->Int->LB->Bl
|0,_,_=>none
|q+1,m,h=>Wt (Xa Hf b a) (Nz Hf b a k f q) b a k f m h
def Xr Hf b a k f:=Nz Hf b a k f Cu
def Wm(j26:Int32->Int->Int->LB->Bl)(b:Int)(a:LX)(f:Int)(g:LB)(k:Int32):Bl:=j26 k f 0 g
def MU Hf b a:=Wm (Xr Hf b a) b a
def Xi(j25:Int->LB->Int32->Bl)(j30:LB->Bl)(b:Int)(a:LX)(f:Int)(g:LB):Bl:=if(Cn f (Aa a))then(Ag a f).bind λn=>if(geq b 8)then
j25 f g (Ac n 128)
else
j25 f g n
else
j30 g
def Oa:Nat->Int->LB->Bl
|0,_,_=>none
|z+1,d,i=>Xi (MU (Oa z) c e) Xp c e d i
def MK b a:=Oa b a Cu
def Zr(j16:Int->LX->Int->LB->Bl)(b:Int)(a:LX):Bl:=(Na b a).bind λo=>if(Bm o 0)then
some (([]:LB),o)
else
j16 b a 0 ([]:LB)
def Nk:=Zr MK
def Jl:B_:=some (-1:Int)
def Eo:=Jl
def Et(j6:B_)(Xv:Int->Option Int)(a:LI)(b f:Int):B_:=if(Cn f (Aa a))then(Ag a f).bind λg=>if(geq b g)then
some f
else
Xv (Ac f 1)
else
j6
def Cp:Nat->Int->Option Int
|0,_=>none
|z+1,c=>Et Eo (Cp z) j E c
def Jp a b:=Cp a b Cu
def Es(j4:Q!)(a:LI)(b:Int):B_:=j4 a b 0
def Fk:=Es Jp
def Er:C_:=(Fk j E).bind λz=>some (Ja z 0)
def Ji:C_:=(Er ([(4:Int),(12:Int),(16:Int),(22:Int),(24:Int),(26:Int),(38:Int)]:LI) c).bind λz=>some z
def HO:B_:=if(!O)then
some 8
else
some 0
def Eg:=HO
def HB:B_:=ig ((true==true)&&((geq (0:Int) (0:Int))&&true))
def Sd:=HB Eg
def FD:B_:=ig ((jh==true)&&((geq ji 0)&&true))
def Lc:=FD Eg
abbrev T_:=Bool->Int->Option Int
def HR(j13:T_)(g ax:LB)(ay az ab ba af b:Int)(n:Bool)(o:Int)(f:LI)(k:LB):B_:=(Ld ay az ab ba af g).bind λdi=>(Af di).bind λ(dj,ai)=>j13 dj ai
def Rs:=HR Lc
def GB:B_:=ig ((jh==true)&&((geq ji 0)&&true))
def Ht:=GB Eg
def FO(j25:T_)(g a:LB)(h p m u v b:Int)(n:Bool)(o:Int)(f:LI)(k:LB)(de:Int):B_:=(Ep h p m u v).bind λ(dm,be)=>if(Bm be 0)then(Af be).bind λ(aj,bg)=>j25 aj bg
else(Bu a de (Aa a)).bind λdn=>(DY dn (Aa dm)).bind λ(dp,ab)=>if(geq ab 24)then
j25 true 0
else
if(Bm ab 0)then(Af ab).bind λ(dq,af)=>j25 dq af
else(Bu a (Ac (Ac de (Ew 4 (Aa dp))) 4) (Aa a)).bind λfc=>j25 false 0
def Lp:=FO Ht
abbrev V_:=LB->LB->J6 (Bool->Int->LI->LB->Int->Option Int)
def FV(j25:T_)(j24:V_)(bh:Bool)(bf:Int)(g a:LB)(h p m u v b:Int)(n:Bool)(o:Int)(f:LI)(k:LB):B_:=if(Bm bf 0)then(Af bf).bind λ(dr,be)=>j25 dr be
else
if(!bh)then(Af 26).bind λ(aj,bg)=>j25 aj bg
else
j24 g a h p m u v b n o f k 8
def HI:=FV Ht Lp
def HM(j15:Bool->Int->LB->LB->J6 (Bool->Int->LI->LB->Option Int))(g a:LB)(h p m u v b:Int)(n:Bool)(o:Int)(f:LI)(k:LB):B_:=(Bu a 0 8).bind λds=>(Wa ds g).bind λ(bh,bf)=>j15 bh bf g a h p m u v b n o f k
def Rr:=HM HI
def FN:B_:=ig ((jh==true)&&((geq ji 0)&&true))
def Hp:=FN Eg
def Lk(j28:T_)(y ac:Int)(g a:LB)(h p m u v b:Int)(n:Bool)(o:Int)(ak:LX)(f:LI)(k:LB):B_:=if(Bm ac 0)then(Af ac).bind λ(bi,bj)=>j28 bi bj
else(Nk m ak).bind λ(bk,bb)=>if(Bm bb 0)then(Af bb).bind λ(bl,bm)=>j28 bl bm
else(Bb k bk).bind λdv=>(
(Bu a y (Aa a)).bind λdw=>j28 false 0)
def Sk:=Lk Hp
def Sc(j27:Int->Int->LB->LB->J6 (Bool->Int->LX->LI->LB->Option Int))(y:Int)(g a:LB)(h p m u v b:Int)(n:Bool)(o:Int)(bc:LX)(ag f:LI)(k:LB):B_:=(Ag ag b).bind λ_=>(Bu a 0 y).bind λdx=>(Ag ag b).bind λdy=>(Sy h p m u v).bind λ(dz,bd)=>(Pd dz bd bc dy dx).bind λ(ak,ac)=>j27 y ac g a h p m u v b n o ak f k
def FI:=Sc Sk
abbrev W_:=LB->LB->J6 (Bool->Int->LI->LB->Option Int)
def Mi(j13:T_)(j12:W_)(j25:T_)(j23:W_)(j24:V_)(j28:T_)(j26:Int->LB->LB->J6 (Bool->Int->LX->LI->LI->LB->Option Int))(j22:Bool->Option Int)(j21:B_)(al am:LB)(an ao ap aq ar:Int)(au:LI)(ad:Int)(ae:LB)(aa:Bool)(w:Int):B_:=if(Gc (Aa al) 64)then
some 8
else
if((geq w 0)&&(!aa))then(Cs al am an ao ap aq ar au ad ae aa w).bind λ(g,a,h,p,m,u,v,f,b,k,n,o)=>(Vi al am an ao ap aq ar au ad ae aa w).bind λbn=>if bn then
if(geq h 0)then(Fl a).bind λ(ah,av)=>if(geq av 24)then
j13 true 0
else
if(Bm av 0)then(Af av).bind λ(bp,bq)=>j13 bp bq
else(Bu a ah (Aa a)).bind λbr=>(Lo br).bind λaj=>if aj then
j13 true 0
else(Bu a ah (Aa a)).bind λbs=>(Km bs).bind λ(ay,az,ab,ba,af,aw)=>if(geq aw 24)then
j13 true 0
else
if(Bm aw 0)then(Af aw).bind λ(bt,bu)=>j13 bt bu
else(
(Bu a (Ac ah 22) (Aa a)).bind λax=>(
j12 g ax ay az ab ba af b n o f k))
else
if(geq (Aa f) 0)then
if(geq h 2)then
if(Cn (Aa a) 8)then
j25 true 0
else
j23 g a h p m u v b n o f k
else
j24 g a h p m u v b n o f k 0
else
if(Cn b (Aa f))then(Ag f b).bind λ_=>(Ag f b).bind λy=>if(Cn (Aa a) y)then
j28 true 0
else(Kr g).bind λ(bc,ai)=>if(Bm ai 0)then(Af ai).bind λ(bv,bw)=>j28 bv bw
else(Ep h p m u v).bind λ(ag,bx)=>if((Bm bx 0)||(Ja b (Aa ag)))then(Af 8).bind λ(bz,da)=>j28 bz da
else
j26 y g a h p m u v b n o bc ag f k
else
if(Gc (Aa a) 4000)then(Af 38).bind λ(db,bd)=>j22 ((db==true)&&((geq bd 0)&&true))
else
j21
else
j22 false
else
if((geq (Aa am) 0)&&(geq (Aa au) 0))then
if((((geq an 0)&&((geq ao 0)&&((geq ap 0)&&((geq aq 0)&&((geq ar 0)&&true)))))&&(geq ad 0))&&(fM (Aa ae) 12000))then
if(geq w 0)then
j22 true
else
if(!aa)then(Ji w).bind λdc=>j22 dc
else
j22 false
else
j22 false
else
if((false&&(geq ad 0))&&(fM (Aa ae) 12000))then
if(geq w 0)then
j22 true
else
if(!aa)then(Ji w).bind λdd=>j22 dd
else
j22 false
else
j22 false
def Hk:=Mi Lc Rs Ht Rr Lp Hp FI Eg Sd
def Jo:D_:=(Hk z C d A D I J j E P M L).bind λc=>if(Bm c 0)then
some (([]:LB),([]:LB),0,0,0,0,0,([]:LI),0,([]:LB),false,0,c)
else
if(Bm L 0)then(
(
(Cs z C d A D I J j E P M L).bind λ(e,i,B,F,G,N,O,R,T,U,V,X)=>(
some (e,i,B,F,G,N,O,R,T,U,V,X,L))))
else
if M then(Cs z C d A D I J j E P M L).bind λ(Y,Z,cu,eu,ig,iq,iw,iy,jf,jg,jh,ji)=>some (Y,Z,cu,eu,ig,iq,iw,iy,jf,jg,jh,ji,36)
else(Cs z C d A D I J j E P M L).bind λ(jk,jl,jm,jo,jq,jr,jv,jw,jy,l5,l6,l7)=>some (jk,jl,jm,jo,jq,jr,jv,jw,jy,l5,l6,l7,0)
def Wf(b g:LB)(h k m n o:Int)(p:LI)(u:Int)(f:LB)(v:Bool)(w a:Int):D_:=some (b,([]:LB),0,0,0,0,0,([]:LI),0,f,false,a,a)
abbrev Ae:=Option (LB×LB×Int×Int×Int×Int×Int×LI×Int×LB×Bool×Int×Int)
abbrev I_:=LB->J6 (LI->LB->Ae)
def HY(Pa:I_)(a:LB)(b:Bool)(f:Int)(av:LB)(aw ax ay az ba bb:Int)(dy:Bool)(dk:Int)(bc:LI)(bd:LB):Ae:=if dy then(Cs a av aw ax ay az ba bc bb bd b f).bind λ(dz,fa,fb,ap,be,ae,fc,fd,fe,ff,fg,af)=>some (dz,fa,fb,ap,be,ae,fc,fd,fe,ff,fg,af,0)
else
if(Bm dk 0)then(Wf a av aw ax ay az ba bc bb bd b f dk).bind λ(fh,fi,fj,fk,fl,fm,fn,fo,fp,fq,fs,ft,fu)=>some (fh,fi,fj,fk,fl,fm,fn,fo,fp,fq,fs,ft,fu)
else
Pa av aw ax ay az ba bb bc bd
def Ev Pa:=HY Pa
abbrev H_:=LB->J6 (Bool->Int->LI->LB->Ae)
def JR(j71:H_)(a:LB)(b:Bool)(f:Int)(g:LB)(m o n p u h:Int)(k:LI)(v:LB):Ae:=j71 g m o n p u h true 0 k v
def Uj Pa a b f:=JR (Ev Pa a b f) a b f
def JG(j71:H_)(a:LB)(b:Bool)(f h:Int)(k:LI)(v:LB)(fv:Bool)(fw:Int)(fx:LB)(fy fz ga gb gc:Int):Ae:=j71 fx fy fz ga gb gc h fv fw k v
def Mj Pa a b f:=JG (Ev Pa a b f) a b f
abbrev X_:=Int->LI->LB->Bool->Int->LB->J5 Ae
def JL(j62:X_)(a:LB)(b:Bool)(f:Int)(ag:LB)(ah ai y aj aa h:Int)(k:LI)(v:LB):Ae:=(Ld ah ai y aj aa a).bind λgd=>(Af gd).bind λ(ge,ak)=>j62 h k v ge ak ag ah ai y aj aa
def Tv Pa a b f:=JL (Mj Pa a b f) a b f
def JF(j71:H_)(a:LB)(b:Bool)(f m o n p u h:Int)(v:LB)(bf:Bool)(bg:Int)(bh:LB)(bi:LI):Ae:=j71 bh m o n p u h bf bg bi v
def Ii Pa a b f:=JF (Ev Pa a b f) a b f
abbrev N_:=J6 (LB->Bool->Int->LB->LI->Ae)
def Mm(j75:N_)(a:LB)(b:Bool)(f:Int)(g:LB)(m o n p u h:Int)(k:LI)(v:LB)(dl:Int):Ae:=(Ep m o n p u).bind λ(gf,ar)=>if(Bm ar 0)then(Af ar).bind λ(al,bj)=>j75 m o n p u h v al bj g k
else(Bu g dl (Aa g)).bind λgg=>(DY gg (Aa gf)).bind λ(dm,y)=>if(geq y 24)then
j75 m o n p u h v true 0 g k
else
if(Bm y 0)then(Af y).bind λ(gh,aa)=>j75 m o n p u h v gh aa g k
else(Bu g (Ac (Ac dl (Ew 4 (Aa dm))) 4) (Aa g)).bind λgi=>j75 m o n p u h v false 0 gi dm
def Uw Pa a b f:=Mm (Ii Pa a b f) a b f
abbrev A!:=LB->J6 (LI->LB->Int->Ae)
def Un(j75:N_)(j74:A!)(a:LB)(b:Bool)(f:Int)(bk:Bool)(au:Int)(g:LB)(m o n p u h:Int)(k:LI)(v:LB):Ae:=if(Bm au 0)then(Af au).bind λ(gj,ar)=>j75 m o n p u h v gj ar g k
else
if(!bk)then(Af 26).bind λ(al,bj)=>j75 m o n p u h v al bj g k
else
j74 g m o n p u h k v 8
def HX Pa a b f:=Un (Ii Pa a b f) (Uw Pa a b f) a b f
def Tx(j64:Bool->Int->LB->J6 (LI->LB->Ae))(a:LB)(b:Bool)(f:Int)(g:LB)(m o n p u h:Int)(k:LI)(v:LB):Ae:=(Bu g 0 8).bind λgk=>(Wa gk a).bind λ(bk,au)=>j64 bk au g m o n p u h k v
def IC Pa a b f:=Tx (HX Pa a b f) a b f
def IZ(j71:H_)(a:LB)(b:Bool)(f m o n p u:Int)(k:LI)(bl:Bool)(bm:Int)(bn:LB)(bp:Int)(bq:LB):Ae:=j71 bn m o n p u bp bl bm k bq
def Mh Pa a b f:=IZ (Ev Pa a b f) a b f
abbrev Y_:=J5 (LI->Bool->Int->LB->Int->LB->Ae)
def Mf(j78:Y_)(a:LB)(b:Bool)(f w ab:Int)(g:LB)(m o n p u h:Int)(am:LX)(k:LI)(v:LB):Ae:=if(Bm ab 0)then(Af ab).bind λ(br,bs)=>j78 m o n p u k br bs g h v
else(Nk n am).bind λ(bt,af)=>if(Bm af 0)then(Af af).bind λ(bu,bv)=>j78 m o n p u k bu bv g h v
else(Bb v bt).bind λbw=>(
(Bu g w (Aa g)).bind λbx=>j78 m o n p u k false 0 bx (Ac h 1) bw)
def Ud Pa a b f:=Mf (Mh Pa a b f) a b f
def Tw(j77:Int->Int->LB->J6 (LX->LI->LB->Ae))(a:LB)(b:Bool)(f w:Int)(g:LB)(m o n p u h:Int)(aq:LX)(ac k:LI)(v:LB):Ae:=(Ag ac h).bind λ_=>(Bu g 0 w).bind λgl=>(Ag ac h).bind λgm=>(Sy m o n p u).bind λ(be,ae)=>(Pd be ae aq gm gl).bind λ(am,ab)=>j77 w ab g m o n p u h am k v
def JV Pa a b f:=Tw (Ud Pa a b f) a b f
def Lw(j62:X_)(j61:I_)(j75:N_)(j73:I_)(j74:A!)(j78:Y_)(j76:Int->LB->J6 (LX->LI->LI->LB->Ae))(j71:H_)(j70:I_)(a:LB)(b:Bool)(f:Int)(g:LB)(m o n p u h:Int)(k:LI)(v:LB):Ae:=if(geq m 0)then(Fl g).bind λ(ad,an)=>if(geq an 24)then
j62 h k v true 0 g m o n p u
else
if(Bm an 0)then(Af an).bind λ(bz,da)=>j62 h k v bz da g m o n p u
else(Bu g ad (Aa g)).bind λdb=>(Lo db).bind λal=>if al then
j62 h k v true 0 g m o n p u
else(Bu g ad (Aa g)).bind λdc=>(Km dc).bind λ(ah,ai,y,aj,aa,ao)=>if(geq ao 24)then
j62 h k v true 0 g m o n p u
else
if(Bm ao 0)then(Af ao).bind λ(dd,de)=>j62 h k v dd de g m o n p u
else(
(Bu g (Ac ad 22) (Aa g)).bind λag=>(
j61 ag ah ai y aj aa h k v))
else
if(geq (Aa k) 0)then
if(geq m 2)then
if(Cn (Aa g) 8)then
j75 m o n p u h v true 0 g k
else
j73 g m o n p u h k v
else
j74 g m o n p u h k v 0
else
if(Cn h (Aa k))then(Ag k h).bind λ_=>(Ag k h).bind λw=>if(Cn (Aa g) w)then
j78 m o n p u k true 0 g h v
else(Kr a).bind λ(aq,ak)=>if(Bm ak 0)then(Af ak).bind λ(df,dg)=>j78 m o n p u k df dg g h v
else(Ep m o n p u).bind λ(ac,dh)=>if((Bm dh 0)||(Ja h (Aa ac)))then(Af 8).bind λ(di,ap)=>j78 m o n p u k di ap g h v
else
j76 w g m o n p u h aq ac k v
else
if(Gc (Aa g) 4000)then(Af 38).bind λ(dj,ae)=>j71 g m o n p u h dj ae k v
else
j70 g m o n p u h k v
def Br:Nat->LB->J6 (LI->LB->Ae)
|0,_,_,_,_,_,_,_,_,_=>none
|c+1,e,i,j,A,B,C,D,E,F=>Lw (Mj (Br c) z O d) (Tv (Br c) z O d) (Ii (Br c) z O d) (IC (Br c) z O d) (Uw (Br c) z O d) (Mh (Br c) z O d) (JV (Br c) z O d) (Ev (Br c) z O d) (Uj (Br c) z O d) z O d e i j A B C D E F
def JB a b f:=Br a b f Cu
def Xh(j37:LB->Bool->Int->LB->J6 (LI->LB->Ae))(gn go:LB)(gp gq gr gs gt:Int)(gu:LI)(gv:Int)(gw:LB)(gx:Bool)(gy:Int)(gz:LB):Ae:=(Jo gn go gp gq gr gs gt gu gv gw gx gy).bind λ(a,dn,dp,dq,dr,ds,dt,du,dv,dw,b,f,dx)=>if(Bm dx 0)then
some (a,dn,dp,dq,dr,ds,dt,du,dv,dw,b,f,dx)
else(Bb dn gz).bind λha=>j37 a b f ha dp dq dr ds dt dv du dw
def Ad:=Xh JB
def Bq:Option (LB×LB×Int×Int×Int×Int×Int×LI×Int×LB×Bool×Int×Bool):=(Ko ([]:LB)).bind λ(c,d,e,i,j,A,B,C,D,E,F,G,I)=>(Ad c d e i j A B C D E F G z).bind λ(J,L,M,N,O,P,R,T,U,V,X,Y,Z)=>some (J,L,M,N,O,P,R,T,U,V,X,Y,((geq I 0)&&(geq Z 0)))
abbrev EV:=Option (Int×Int)
def ZL:EV:=(Bu z (Al (Aa z) 32) (Aa z)).bind λc=>(BE c 0).bind λ(d,e,i)=>if i then
if(Cn (Al (Aa z) 32) d)then
some (0,24)
else
some ((Ac d 32),0)
else(Bu z (Al (Aa z) 32) (Aa z)).bind λj=>(BE j 2147483648).bind λ(A,B,C)=>if(!C)then
some (0,12)
else
if(Cn (Aa z) (Ac A 64))then
some (0,24)
else(Bu z (Al (Aa z) (Ac A 64)) (Ac (Al (Aa z) (Ac A 64)) 32)).bind λD=>(MY A B 2684354560).bind λE=>(Ib D E).bind λF=>if(!F)then
some (0,12)
else
some ((Ac A 64),0)
def XM:=ZL
def YW(j2:LB->EV)(a:LB):EV:=if(Cn (Al (Aa a) 32) 0)then
some (0,6)
else(Bu a (Al (Aa a) 32) (Aa a)).bind λv=>(Hc v ([(65:UInt8),(80:UInt8),(69:UInt8),(84:UInt8),(65:UInt8),(71:UInt8),(69:UInt8),(88:UInt8)]:LB)).bind λw=>if(!w)then
some (0,6)
else
j2 a
def YI:=YW XM
abbrev Cf:=Option (Int×Int)
def JH:Cf:=some (c,0)
def Uq:=JH
abbrev B?:=Int->LB->Cf
def JP(eP:B?)(a:Int)(g:LB):Cf:=eP (Ac a 1) g
def JN eP:=JP eP
def JM(j12:B?)(a f:Int)(b:LB):Cf:=if(geq f 0)then
some (0,38)
else(Bu b 0 (Al (Aa b) f)).bind λg=>j12 a g
def Uc eP:=JM (JN eP)
def Xl(j11:Int->Int->LB->Cf)(j14:Int->Cf)(a:Int)(b:LB):Cf:=if(Gc (Aa b) 0)then(YI b).bind λ(f,k)=>j11 a f b
else
j14 a
def Np:Nat->Int->LB->Cf
|0,_,_=>none
|q+1,a,b=>Xl (Uc (Np q)) Uq a b
def MJ:=Np Cu
def Xf(j8:B?)(h:LB):Cf:=if(Gc (Aa h) 4000)then
some (0,38)
else
j8 0 h
def GC:=Xf MJ
def Yl(p a:LB)(g u v w y:Int)(b:LI)(h:Int)(aa:LB)(ab:Bool)(ac:Int):B_:=if(geq g 0)then(Fl a).bind λ(k,f)=>if(Bm f 0)then
some f
else(Bu a k (Aa a)).bind λm=>(Km m).bind λ(ad,ae,af,ag,ah,n)=>some n
else
if((Cn h (Aa b))||(geq (Aa b) 0))then
some 24
else(GC a).bind λ(ai,o)=>some o
def Ga:D_:=(Jo z C d A D I J j E P M L).bind λ(c,e,i,B,F,G,N,O,R,T,U,V,X)=>if(Bm X 0)then
some (c,e,i,B,F,G,N,O,R,T,U,V,X)
else(Yl c e i B F G N O R T U V).bind λY=>if(Bm Y 0)then(Wf c e i B F G N O R T U V Y).bind λ(Z,cu,eu,ig,iq,iw,iy,jf,jg,jh,ji,jk,jl)=>some (Z,cu,eu,ig,iq,iw,iy,jf,jg,jh,ji,jk,jl)
else
some (c,([]:LB),0,0,0,0,0,([]:LI),0,T,true,0,0)
def Mo:Option (LB×LB×Int×Int×Int×Int×Int×LI×Int×LB×Bool×Int×LB×Int):=(Hk z C d A D I J j E P M L).bind λc=>if(Bm c 0)then
some (([]:LB),([]:LB),0,0,0,0,0,([]:LI),0,([]:LB),false,0,([]:LB),c)
else
if(Cn jy 0)then
some (([]:LB),([]:LB),0,0,0,0,0,([]:LI),0,([]:LB),false,0,([]:LB),2)
else(Cs z C d A D I J j E P M L).bind λ(e,i,B,F,G,N,O,R,T,U,V,X)=>(Bu U 0 (Fm jy (Aa U))).bind λY=>(Kn Y).bind λZ=>(Bu U (Fm jy (Aa U)) (Aa U)).bind λcu=>some (e,i,B,F,G,N,O,R,T,cu,V,X,Z,0)
def Uu:C_:=(Ad z C d A D I J j E P M L ([]:LB)).bind λ(c,e,i,B,F,G,N,O,R,T,U,V,X)=>(Ga z C d A D I J j E P M L).bind λ(Y,Z,cu,eu,ig,iq,iw,iy,jf,jg,jh,ji,jk)=>(Mo z C d A D I J j E P M L (-1:Int)).bind λ(jl,jm,jo,jq,jr,jv,jw,jy,l5,l6,l7,l8,l9,o7)=>(Hk z C d A D I J j E P M L).bind λo8=>some ((((geq o8 8)&&(geq X 8))&&(geq jk 8))&&(geq o7 8))
def Be:D_:=(Ko C).bind λ(c,d,e,i,j,A,B,D,E,F,G,I,J)=>if(Bm J 0)then
some (c,d,e,i,j,A,B,D,E,F,G,I,J)
else(Ad c d e i j A B D E F G I z).bind λ(L,M,N,O,P,R,T,U,V,X,Y,Z,cu)=>if(Bm cu 0)then
some (L,M,N,O,P,R,T,U,V,X,Y,Z,cu)
else(Ga L M N O P R T U V X Y Z).bind λ(eu,ig,iq,iw,iy,jf,jg,jh,ji,jk,jl,jm,jo)=>some (eu,ig,iq,iw,iy,jf,jg,jh,ji,jk,jl,jm,jo)
def Ez:C_:=(Ki).bind λ(a,b)=>if(!b)then
some false
else(Bu a 0 22).bind λf=>(Bq f).bind λ(ai,aj,ak,al,am,an,g,h,ao,ap,aq,ar,k)=>(Bu a 0 30).bind λm=>(Bq m).bind λ(au,av,aw,ax,ay,az,ba,n,bb,o,bc,bd,p)=>(Bq a).bind λ(be,bf,bg,bh,bi,bj,bk,bl,bm,u,bn,bp,v)=>(Be a ([]:LB)).bind λ(bq,br,bs,bt,bu,bv,bw,bx,bz,w,y,da,aa)=>(Bb ([]:LB) a).bind λab=>(Bb ab ([(0:UInt8)]:LB)).bind λac=>(Be ac ([]:LB)).bind λ(db,dc,dd,de,df,dg,dh,di,dj,dk,dl,dm,ad)=>(Bu a 0 35).bind λae=>(Be ae ([]:LB)).bind λ(dn,dp,dq,dr,ds,dt,du,dv,dw,dx,dy,dz,af)=>(Be ([(73:UInt8)]:LB) ([]:LB)).bind λ(fa,fb,fc,fd,fe,ff,fg,fh,fi,fj,fk,fl,ag)=>(Be ([]:LB) ([]:LB)).bind λ(fm,fn,fo,fp,fq,fs,ft,fu,fv,fw,fx,fy,ah)=>some ((((((((((((((k&&(geq g 1))&&(geq (Aa h) 0))&&p)&&(geq (Aa n) 1))&&(geq (Aa o) 0))&&v)&&(u==([128]:LB)))&&(geq aa 0))&&y)&&(w==([128]:LB)))&&(geq ad 38))&&(geq af 24))&&(geq ag 12))&&(geq ah 24))
def Ng(f g:Int)(a b:Bool)(ar au bi ae ds dt du:Int)(dv:Bool)(dp gl gk:Int)(h:LB)(k m n o p u:Int)(v:Bool)(w:Int)(bc:LB)(av aw ax ay bd be:Int)(az:LB)(bf:Bool)(ba:Int)(br:LB)(bj bk bl bm bn bs:Int)(bt:LB)(bu:Bool)(bp:Int)(ag:LB)(ah ai aj ak al am:Int)(an:LB)(ao:Bool)(af:Int)(fi:LB)(fj fk fl fm fn fo:Int)(dm:LB)(fp:Bool)(fq:Int)(dw dl:LB)(dx dy dz fa fb:Int)(fc:LI)(fd:Int)(fe:LB)(ff:Bool)(fg:Int)(gm:LB)(gn go gp gq gr gs:Int)(gt:LB)(gu:Bool)(gj:Int)(y:LB)(aa:LI)(ab bg:LB)(bh:LI)(bq:LB)(bv:LI)(ap:LB)(aq:LI)(fs:LB)(ft:LI)(gv:LB)(gw:LI):C_:=(Mo gm gv gn go gp gq gr gw gs gt gu gj 5).bind λ(rd,re,rf,rg,rh,ri,rj,rk,rl,rm,ro,rp,hq,hr)=>(Ad gm gv gn go gp gq gr gw gs gt gu gj ([]:LB)).bind λ(rq,rr,rs,rt,ru,rv,rw,rx,ry,rz,ua,ub,hs)=>(Ad fi fs fj fk fl fm fn ft fo dm fp fq ([]:LB)).bind λ(uc,ud,ue,uf,ug,uh,ui,uj,uk,ul,um,un,ht)=>(Ga fi fs fj fk fl fm fn ft fo dm fp fq).bind λ(uo,up,uq,ur,us,ut,uu,uv,uw,ux,uy,uz,hu)=>(Mo fi fs fj fk fl fm fn ft fo dm fp fq (-1:Int)).bind λ(va,vd,ve,vf,vg,vh,vj,vk,vm,vn,vo,vp,vr,hv)=>if((true&&(geq f 2))&&(geq g 0))then(Hk h y k m n o p aa u ab v w).bind λnc=>if(((((((((geq nc 0)&&a)&&b)&&(geq ar 0))&&(az==([128]:LB)))&&(geq au 0))&&(geq bi 26))&&(geq bp 26))&&(geq (Aa bq) 0))then
if((((((((((((((((((((geq bj 0)&&((geq bk 0)&&((geq bl 0)&&((geq bm 0)&&((geq bn 0)&&true)))))&&(geq ae 26))&&(geq af 26))&&(geq ds 26))&&(geq dt 0))&&(dm==([128]:LB)))&&(geq du 26))&&dv)&&(geq dp 0))&&(geq (Aa dl) 4000))&&(geq gl 38))&&(geq gk 38))&&(geq gj 38))&&(geq hr 0))&&(hq==([128]:LB)))&&(geq hs 38))&&(geq ht 36))&&(geq hu 36))&&(geq hv 2))then(Ez).bind λnd=>some nd
else
some false
else
if((((((((((((((((((false&&(geq ae 26))&&(geq af 26))&&(geq ds 26))&&(geq dt 0))&&(dm==([128]:LB)))&&(geq du 26))&&dv)&&(geq dp 0))&&(geq (Aa dl) 4000))&&(geq gl 38))&&(geq gk 38))&&(geq gj 38))&&(geq hr 0))&&(hq==([128]:LB)))&&(geq hs 38))&&(geq ht 36))&&(geq hu 36))&&(geq hv 2))then(Ez).bind λne=>some ne
else
some false
else
if((((((((false&&a)&&b)&&(geq ar 0))&&(az==([128]:LB)))&&(geq au 0))&&(geq bi 26))&&(geq bp 26))&&(geq (Aa bq) 0))then
if((((((((((((((((((((geq bj 0)&&((geq bk 0)&&((geq bl 0)&&((geq bm 0)&&((geq bn 0)&&true)))))&&(geq ae 26))&&(geq af 26))&&(geq ds 26))&&(geq dt 0))&&(dm==([128]:LB)))&&(geq du 26))&&dv)&&(geq dp 0))&&(geq (Aa dl) 4000))&&(geq gl 38))&&(geq gk 38))&&(geq gj 38))&&(geq hr 0))&&(hq==([128]:LB)))&&(geq hs 38))&&(geq ht 36))&&(geq hu 36))&&(geq hv 2))then(Ez).bind λnf=>some nf
else
some false
else
if((((((((((((((((((false&&(geq ae 26))&&(geq af 26))&&(geq ds 26))&&(geq dt 0))&&(dm==([128]:LB)))&&(geq du 26))&&dv)&&(geq dp 0))&&(geq (Aa dl) 4000))&&(geq gl 38))&&(geq gk 38))&&(geq gj 38))&&(geq hr 0))&&(hq==([128]:LB)))&&(geq hs 38))&&(geq ht 36))&&(geq hu 36))&&(geq hv 2))then(Ez).bind λng=>some ng
else
some false
def Gm:=Ng
def Dy(j28:Int->Int->Bool->Bool->J7 (Bool->Int->Int->Int->LB->Int->Int->Int->Int->Int->Int->Bool->Int->LB->Int->Int->Int->Int->Int->Int->LB->Bool->Int->LB->Int->Int->Int->Int->Int->Int->LB->Bool->Int->LB->Int->Int->Int->Int->Int->Int->LB->Bool->Int->LB->Int->Int->Int->Int->Int->Int->LB->Bool->Int->LB->LB->Int->Int->Int->Int->Int->LI->Int->LB->Bool->Int->LB->Int->Int->Int->Int->Int->Int->LB->Bool->Int->LB->LI->LB->LB->LI->LB->LI->LB->LI->LB->LI->LB->LI->Option Bool))(f g:Int)(a b:Bool)(ar au bi ae ds dt du:Int)(dv:Bool)(dp:Int)(h:LB)(k m n o p u:Int)(v:Bool)(w:Int)(bc:LB)(av aw ax ay bd be:Int)(az:LB)(bf:Bool)(ba:Int)(br:LB)(bj bk bl bm bn bs:Int)(bt:LB)(bu:Bool)(bp:Int)(ag:LB)(ah ai aj ak al am:Int)(an:LB)(ao:Bool)(af:Int)(fi:LB)(fj fk fl fm fn fo:Int)(dm:LB)(fp:Bool)(fq:Int)(fw fx:LB)(fy fz ga gb gc:Int)(gd:LI)(ge:Int)(gf:LB)(gg:Bool)(gh:Int)(dw:LB)(dx dy dz fa fb fd:Int)(fe:LB)(ff:Bool)(fg:Int)(y:LB)(aa:LI)(ab bg:LB)(bh:LI)(bq:LB)(bv:LI)(ap:LB)(aq:LI)(fs:LB)(ft:LI)(dl:LB)(fc:LI):C_:=(Ga dw dl dx dy dz fa fb fc fd fe ff fg).bind λ(nh,ni,nj,nk,nl,nm,nn,np,nq,nr,ns,nt,gl)=>(
(
(TC (4001:Int) (0:UInt8)).bind λhm=>(Ef (geq (4001:Int) (4001:Int))).bind λ_=>(
(Ad fw fx fy fz ga gb gc gd ge gf gg gh hm).bind λ(gm,gv,gn,go,gp,gq,gr,gw,gs,gt,gu,gj,gk)=>j28 f g a b ar au bi ae ds dt du dv dp gl gk h k m n o p u v w bc av aw ax ay bd be az bf ba br bj bk bl bm bn bs bt bu bp ag ah ai aj ak al am an ao af fi fj fk fl fm fn fo dm fp fq dw dl dx dy dz fa fb fc fd fe ff fg gm gn go gp gq gr gs gt gu gj y aa ab bg bh bq bv ap aq fs ft gv gw)))
def Gn:=Dy Gm
def Dw(j27:Int->Int->Bool->Bool->J7 (Bool->Int->LB->Int->Int->Int->Int->Int->Int->Bool->Int->LB->Int->Int->Int->Int->Int->Int->LB->Bool->Int->LB->Int->Int->Int->Int->Int->Int->LB->Bool->Int->LB->Int->Int->Int->Int->Int->Int->LB->Bool->Int->LB->Int->Int->Int->Int->Int->Int->LB->Bool->Int->LB->LB->Int->Int->Int->Int->Int->LI->Int->LB->Bool->Int->LB->Int->Int->Int->Int->Int->Int->LB->Bool->Int->LB->LI->LB->LB->LI->LB->LI->LB->LI->LB->LI->LB->LI->Option Bool))(f g:Int)(ad ac:LB)(a b:Bool)(ar au bi ae:Int)(h:LB)(k m n o p u:Int)(v:Bool)(w:Int)(bc:LB)(av aw ax ay bd be:Int)(az:LB)(bf:Bool)(ba:Int)(br:LB)(bj bk bl bm bn bs:Int)(bt:LB)(bu:Bool)(bp:Int)(ag:LB)(ah ai aj ak al am:Int)(an:LB)(ao:Bool)(af:Int)(y:LB)(aa:LI)(ab bg:LB)(bh:LI)(bq:LB)(bv:LI)(ap:LB)(aq:LI):C_:=(Be ac ([121]:LB)).bind λ(nu,nv,nw,nx,ny,nz,oa,ob,oc,od,oe,of,ds)=>(Be ac ([120]:LB)).bind λ(fi,fs,fj,fk,fl,fm,fn,ft,fo,dm,fp,fq,dt)=>(Be ac ([]:LB)).bind λ(og,oh,oi,oj,ol,om,on,oo,op,oq,os,ot,du)=>(Bq ad).bind λ(fw,fx,fy,fz,ga,gb,gc,gd,ge,gf,gg,gh,dv)=>(
(
(TC (4000:Int) (0:UInt8)).bind λhn=>(Ef (geq (4000:Int) (4000:Int))).bind λ_=>(
(Ad fw fx fy fz ga gb gc gd ge gf gg gh hn).bind λ(dw,dl,dx,dy,dz,fa,fb,fc,fd,fe,ff,fg,dp)=>j27 f g a b ar au bi ae ds dt du dv dp h k m n o p u v w bc av aw ax ay bd be az bf ba br bj bk bl bm bn bs bt bu bp ag ah ai aj ak al am an ao af fi fj fk fl fm fn fo dm fp fq fw fx fy fz ga gb gc gd ge gf gg gh dw dx dy dz fa fb fd fe ff fg y aa ab bg bh bq bv ap aq fs ft dl fc)))
def Gs:=Dw Gn
def Dx(j26:Int->Int->LB->LB->Bool->Bool->J4 (LB->Int->Int->Int->Int->Int->Int->Bool->Int->LB->Int->Int->Int->Int->Int->Int->LB->Bool->Int->LB->Int->Int->Int->Int->Int->Int->LB->Bool->Int->LB->Int->Int->Int->Int->Int->Int->LB->Bool->Int->LB->LI->LB->LB->LI->LB->LI->LB->LI->Option Bool))(f g:Int)(ad ac:LB)(a b:Bool)(ar au bi:Int)(h:LB)(k m n o p u:Int)(v:Bool)(w:Int)(bc:LB)(av aw ax ay bd be:Int)(az:LB)(bf:Bool)(ba:Int)(bx bz:LB)(da db dc dd de:Int)(df:LI)(dg:Int)(dh:LB)(di:Bool)(dj:Int)(br:LB)(bj bk bl bm bn bs:Int)(bt:LB)(bu:Bool)(bp:Int)(y:LB)(aa:LI)(ab bg:LB)(bh:LI)(bq:LB)(bv:LI):C_:=(Bu ac 0 29).bind λfh=>(Ag ac 29).bind λdk=>(
(
(
(Bb ([]:LB) fh).bind λbw=>(
(
(
(Bb bw ([(Fe dk 1)]:LB)).bind λbb=>(
(Ad bx bz da db dc dd de df dg dh di dj bb).bind λ(ag,ap,ah,ai,aj,ak,al,aq,am,an,ao,af,ae)=>j26 f g ad ac a b ar au bi ae h k m n o p u v w bc av aw ax ay bd be az bf ba br bj bk bl bm bn bs bt bu bp ag ah ai aj ak al am an ao af y aa ab bg bh bq bv ap aq)))))))
def Ge:=Dx Gs
def Dz(j25:Int->Int->LB->LB->Bool->Bool->J3 (LB->Int->Int->Int->Int->Int->Int->Bool->Int->LB->Int->Int->Int->Int->Int->Int->LB->Bool->Int->LB->LB->Int->Int->Int->Int->Int->LI->Int->LB->Bool->Int->LB->Int->Int->Int->Int->Int->Int->LB->Bool->Int->LB->LI->LB->LB->LI->LB->LI->Option Bool))(f g:Int)(ad ac:LB)(a b:Bool)(ar au:Int)(h:LB)(k m n o p u:Int)(v:Bool)(w:Int)(bc:LB)(av aw ax ay bd be:Int)(az:LB)(bf:Bool)(ba:Int)(bx:LB)(da db dc dd de dg:Int)(di:Bool)(dj:Int)(y:LB)(aa:LI)(ab bg:LB)(bh:LI)(bz:LB)(df:LI)(dh:LB):C_:=(Bu ad 0 22).bind λhx=>(
(
(Ad bx bz da db dc dd de df dg dh di dj hx).bind λ(br,bq,bj,bk,bl,bm,bn,bv,bs,bt,bu,bp,bi)=>j25 f g ad ac a b ar au bi h k m n o p u v w bc av aw ax ay bd be az bf ba bx bz da db dc dd de df dg dh di dj br bj bk bl bm bn bs bt bu bp y aa ab bg bh bq bv))
def Gi:=Dz Ge
def Gg(j24:Int->Int->LB->LB->Bool->Bool->Int->Int->LB->J6 (Bool->Int->LB->Int->Int->Int->Int->Int->Int->LB->Bool->Int->LB->Int->Int->Int->Int->Int->Int->Bool->Int->LB->LI->LB->LB->LI->LB->LI->LB->Option Bool))(f g:Int)(ad:LB)(a b:Bool)(h:LB)(k m n o p u:Int)(v:Bool)(w:Int)(ac y:LB)(aa:LI)(ab:LB):C_:=(Bb ([73,68,51,4,0,0,0,0,0,2,97,98]:LB) ([73,68,51,4,0,0,0,0,0,2,97,98]:LB)).bind λou=>(Bb ou ad).bind λhy=>(Be hy ([]:LB)).bind λ(bc,bg,av,aw,ax,ay,bd,bh,be,az,bf,ba,ar)=>(Ko ([120]:LB)).bind λ(bx,bz,da,db,dc,dd,de,df,dg,dh,di,dj,au)=>j24 f g ad ac a b ar au h k m n o p u v w bc av aw ax ay bd be az bf ba bx da db dc dd de dg di dj y aa ab bg bh bz df dh
def Nd:=Gg Gi
abbrev G_:=Int->Int->LB->Bool->Bool->LB->J6 (Bool->Int->LB->LB->LI->LB->Option Bool)
def Gk(j23:G_)(kD:H!)(f g:Int)(ad:LB)(a b:Bool)(h:LB)(k m n o p u:Int)(v:Bool)(w:Int)(ac y:LB)(aa:LI)(ab:LB)(fu:Int):C_:=if(Cn fu (Aa ([([88]:LB),([73,88]:LB),([65,80,88]:LB),([84,88]:LB),([73,68,51,9,0,0,0,0,0,0]:LB)]:L_)))then(Ag ([([88]:LB),([73,88]:LB),([65,80,88]:LB),([84,88]:LB),([73,68,51,9,0,0,0,0,0,0]:LB)]:L_) fu).bind λ_=>(Ag ([([88]:LB),([73,88]:LB),([65,80,88]:LB),([84,88]:LB),([73,68,51,9,0,0,0,0,0,0]:LB)]:L_) fu).bind λhz=>(Be hz ([]:LB)).bind λ(hy,lr,ov,av,aw,ax,ay,ow,ox,oy,oz,pa,ba)=>if(Bm ba 12)then
some false
else
kD (Ac fu 1)
else
j23 f g ad a b h k m n o p u v w ac y aa ab
def Ed:Nat->Int->Option Bool
|0,_=>none
|e+1,B=>Gk Nd (Ed e) c i z O jm C d A D I J jo jq jr iw jv j iy B
def Gt f g ad a b h k m n o p u v w ac y aa ab:=Ed f g ad a b h k m n o p u v w ac y aa ab Cu
def Gq(j21:Int->Int->LB->Bool->Bool->LB->J6 (Bool->Int->LB->LB->LI->LB->Int->Option Bool))(f g:Int)(ad:LB)(a b:Bool)(h:LB)(k m n o p u:Int)(v:Bool)(w:Int)(ac y:LB)(aa:LI)(ab:LB):C_:=j21 f g ad a b h k m n o p u v w ac y aa ab 0
def Nc:=Gq Gt
def Gj(j20:G_)(pG:H!)(f g:Int)(ad:LB)(a b:Bool)(h:LB)(k m n o p u:Int)(v:Bool)(w:Int)(ac dn y:LB)(aa:LI)(ab:LB)(dq:Int):C_:=if(Cn dq (Aa ([([]:LB),([73]:LB),([73,68]:LB),([73,68,51]:LB),([73,68,51,4,0,0,0,0,0]:LB),([65]:LB),([65,80,69,84,65,71,69]:LB),([65,80,69,84,65,71,69,88]:LB),([84]:LB),([84,84,65,49]:LB),dn]:L_)))then(Ag ([([]:LB),([73]:LB),([73,68]:LB),([73,68,51]:LB),([73,68,51,4,0,0,0,0,0]:LB),([65]:LB),([65,80,69,84,65,71,69]:LB),([65,80,69,84,65,71,69,88]:LB),([84]:LB),([84,84,65,49]:LB),dn]:L_) dq).bind λ_=>(Ag ([([]:LB),([73]:LB),([73,68]:LB),([73,68,51]:LB),([73,68,51,4,0,0,0,0,0]:LB),([65]:LB),([65,80,69,84,65,71,69]:LB),([65,80,69,84,65,71,69,88]:LB),([84]:LB),([84,84,65,49]:LB),dn]:L_) dq).bind λhz=>(Bq hz).bind λ(hy,lr,ov,av,aw,ax,ay,ow,ox,oy,oz,pa,pb)=>if(!pb)then
some false
else(Ag ([([]:LB),([73]:LB),([73,68]:LB),([73,68,51]:LB),([73,68,51,4,0,0,0,0,0]:LB),([65]:LB),([65,80,69,84,65,71,69]:LB),([65,80,69,84,65,71,69,88]:LB),([84]:LB),([84,84,65,49]:LB),dn]:L_) dq).bind λ_=>(Ag ([([]:LB),([73]:LB),([73,68]:LB),([73,68,51]:LB),([73,68,51,4,0,0,0,0,0]:LB),([65]:LB),([65,80,69,84,65,71,69]:LB),([65,80,69,84,65,71,69,88]:LB),([84]:LB),([84,84,65,49]:LB),dn]:L_) dq).bind λpc=>if(lr !=pc)then
some false
else
pG (Ac dq 1)
else
j20 f g ad a b h k m n o p u v w ac y aa ab
def Ea:Nat->Int->Option Bool
|0,_=>none
|e+1,B=>Gj Nc (Ea e) c i z O jm C d A D I J jo jq jr iw jv l9 j iy B
def Gl f g ad a b h k m n o p u v w ac dn y aa ab:=Ea f g ad a b h k m n o p u v w ac dn y aa ab Cu
def Gh(j18:Int->Int->LB->Bool->Bool->LB->J6 (Bool->Int->LB->LB->LB->LI->LB->Int->Option Bool))(f g:Int)(ad:LB)(a b:Bool)(h:LB)(k m n o p u:Int)(v:Bool)(w:Int)(ac y:LB)(aa:LI)(ab:LB):C_:=(Bu ad 0 21).bind λdn=>j18 f g ad a b h k m n o p u v w ac dn y aa ab 0
def My:=Gh Gl
abbrev S_:=List (LB×LB×(Int×Int×Int×Int×Int×Unit)×LI×Int×LB×Bool×Int×Unit)
def Gp(j17:G_)(cK:H!)(f g:Int)(ad:LB)(a b:Bool)(h:LB)(k m n o p u:Int)(v:Bool)(w:Int)(ac:LB)(fv:S_)(y:LB)(aa:LI)(ab:LB)(gi:Int):C_:=if(Cn gi 12)then(Ag fv gi).bind λ_=>(Ag fv gi).bind λgx=>(Uu gx.1 gx.2.1 gx.2.2.1.1 gx.2.2.1.2.1 gx.2.2.1.2.2.1 gx.2.2.1.2.2.2.1 gx.2.2.1.2.2.2.2.1 gx.2.2.2.1 gx.2.2.2.2.1 gx.2.2.2.2.2.1 gx.2.2.2.2.2.2.1 gx.2.2.2.2.2.2.2.1).bind λpd=>if(!pd)then
some false
else
cK (Ac gi 1)
else
j17 f g ad a b h k m n o p u v w ac y aa ab
def Dv(f g:Int)(ad:LB)(a b:Bool)(h:LB)(k m n o p u:Int)(v:Bool)(w:Int)(ac:LB)(fv:S_)(y:LB)(aa:LI)(ab:LB):Nat->Int->Option Bool
|0,_=>none
|q+1,gi=>Gp My (Dv f g ad a b h k m n o p u v w ac fv y aa ab q) f g ad a b h k m n o p u v w ac fv y aa ab gi
def Mv f g ad a b h k m n o p u v w ac fv y aa ab:=Dv f g ad a b h k m n o p u v w ac fv y aa ab Cu
def Hb(j15:Int->Int->LB->Bool->Bool->LB->J6 (Bool->Int->LB-> (List (LB×LB×(Int×Int×Int×Int×Int×Unit)×LI×Int×LB×Bool×Int×Unit))->LB->LI->LB->Int->Option Bool)):C_:=(TC (65:Int) (0:UInt8)).bind λka=>(Ef (geq (65:Int) (65:Int))).bind λ_=>(Ko ka).bind λ(vy,vz,wa,wb,wc,wd,we,wf,wg,wh,wi,wj,f)=>(Bu ka 0 64).bind λpf=>(Ko pf).bind λ(h,y,k,m,n,o,p,aa,u,ab,v,w,g)=>(Ki).bind λ(ad,pg)=>(AJ 1 8 8000 ([(0:Int32)]:LX) ([120]:LB)).bind λ(ac,ph)=>if(((!pg)||(Bm ph 0))||(Bm (Aa ac) 44))then
some false
else(Bu ad 0 22).bind λpj=>(Bq pj).bind λ(kb,kc,kd,ke,kf,kg,kh,ki,kj,kk,kl,km,a)=>(Bu ad 0 30).bind λpk=>(Bq pk).bind λ(kn,ko,kp,kq,kr,ks,kt,ku,kv,kw,kx,ky,b)=>(TC (12:Int) (([]:LB),([]:LB),((0:Int),(0:Int),(0:Int),(0:Int),(0:Int),()),([]:LI),(0:Int),([]:LB),false,(0:Int),())).bind λkz=>(Ef (geq (12:Int) (12:Int))).bind λ_=>(Ag kz 0).bind λ_=>(Ag kz 0).bind λgy=>(Ee kz 0 (ka,gy.2.1,(gy.2.2.1.1,gy.2.2.1.2.1,gy.2.2.1.2.2.1,gy.2.2.1.2.2.2.1,gy.2.2.1.2.2.2.2.1,()),gy.2.2.2.1,gy.2.2.2.2.1,gy.2.2.2.2.2.1,gy.2.2.2.2.2.2.1,gy.2.2.2.2.2.2.2.1,())).bind λla=>(Ag la 1).bind λ_=>(Ag la 1).bind λgz=>(Ee la 1 (gz.1,([(88:UInt8)]:LB),(gz.2.2.1.1,gz.2.2.1.2.1,gz.2.2.1.2.2.1,gz.2.2.1.2.2.2.1,gz.2.2.1.2.2.2.2.1,()),gz.2.2.2.1,gz.2.2.2.2.1,gz.2.2.2.2.2.1,gz.2.2.2.2.2.2.1,gz.2.2.2.2.2.2.2.1,())).bind λlb=>(Ag lb 2).bind λ_=>(Ag lb 2).bind λha=>(Ee lb 2 (ha.1,ha.2.1,(ha.2.2.1.1,ha.2.2.1.2.1,ha.2.2.1.2.2.1,ha.2.2.1.2.2.2.1,ha.2.2.1.2.2.2.2.1,()),ha.2.2.2.1,ha.2.2.2.2.1,([(1:UInt8)]:LB),ha.2.2.2.2.2.2.1,ha.2.2.2.2.2.2.2.1,())).bind λls=>(Ag ls 3).bind λ_=>(Ee ls 3 (kb,kc,(kd,ke,kf,kg,kh,()),ki,kj,kk,kl,km,())).bind λlc=>(Bu ad 22 30).bind λpl=>(Ag lc 3).bind λ_=>(Ag lc 3).bind λhb=>(Ee lc 3 (hb.1,pl,(hb.2.2.1.1,hb.2.2.1.2.1,hb.2.2.1.2.2.1,hb.2.2.1.2.2.2.1,hb.2.2.1.2.2.2.2.1,()),hb.2.2.2.1,hb.2.2.2.2.1,hb.2.2.2.2.2.1,hb.2.2.2.2.2.2.1,hb.2.2.2.2.2.2.2.1,())).bind λlt=>(Ag lt 4).bind λ_=>(Ee lt 4 (kb,kc,(kd,ke,kf,kg,kh,()),ki,kj,kk,kl,km,())).bind λld=>(Ag ld 4).bind λ_=>(Ag ld 4).bind λhc=>(Ee ld 4 (([120]:LB),hc.2.1,(hc.2.2.1.1,hc.2.2.1.2.1,hc.2.2.1.2.2.1,hc.2.2.1.2.2.2.1,hc.2.2.1.2.2.2.2.1,()),hc.2.2.2.1,hc.2.2.2.2.1,hc.2.2.2.2.2.1,hc.2.2.2.2.2.2.1,hc.2.2.2.2.2.2.2.1,())).bind λlu=>(Ag lu 5).bind λ_=>(Ee lu 5 (kb,kc,(kd,ke,kf,kg,kh,()),ki,kj,kk,kl,km,())).bind λle=>(Ag le 5).bind λ_=>(Ag le 5).bind λhd=>(Ee le 5 (hd.1,hd.2.1,(hd.2.2.1.1,hd.2.2.1.2.1,(9:Int),hd.2.2.1.2.2.2.1,hd.2.2.1.2.2.2.2.1,()),hd.2.2.2.1,hd.2.2.2.2.1,hd.2.2.2.2.2.1,hd.2.2.2.2.2.2.1,hd.2.2.2.2.2.2.2.1,())).bind λlv=>(Ag lv 6).bind λ_=>(Ee lv 6 (kn,ko,(kp,kq,kr,ks,kt,()),ku,kv,kw,kx,ky,())).bind λlf=>(Ag lf 6).bind λ_=>(Ag lf 6).bind λhe=>(Ee lf 6 (he.1,he.2.1,(he.2.2.1.1,he.2.2.1.2.1,he.2.2.1.2.2.1,he.2.2.1.2.2.2.1,he.2.2.1.2.2.2.2.1,()),he.2.2.2.1,(2:Int),he.2.2.2.2.2.1,he.2.2.2.2.2.2.1,he.2.2.2.2.2.2.2.1,())).bind λlw=>(Ag lw 7).bind λ_=>(Ee lw 7 (kn,ko,(kp,kq,kr,ks,kt,()),ku,kv,kw,kx,ky,())).bind λlg=>(Ag lg 7).bind λ_=>(Ag lg 7).bind λhf=>(Ee lg 7 (hf.1,hf.2.1,(hf.2.2.1.1,hf.2.2.1.2.1,hf.2.2.1.2.2.1,hf.2.2.1.2.2.2.1,hf.2.2.1.2.2.2.2.1,()),([(6:Int),(6:Int)]:LI),hf.2.2.2.2.1,hf.2.2.2.2.2.1,hf.2.2.2.2.2.2.1,hf.2.2.2.2.2.2.2.1,())).bind λlx=>(Ag lx 8).bind λ_=>(Ee lx 8 (kn,ko,(kp,kq,kr,ks,kt,()),ku,kv,kw,kx,ky,())).bind λlh=>(Ag lh 8).bind λ_=>(Ag lh 8).bind λhg=>(Ee lh 8 (hg.1,hg.2.1,(hg.2.2.1.1,hg.2.2.1.2.1,hg.2.2.1.2.2.1,hg.2.2.1.2.2.2.1,hg.2.2.1.2.2.2.2.1,()),hg.2.2.2.1,hg.2.2.2.2.1,([(1:UInt8)]:LB),hg.2.2.2.2.2.2.1,hg.2.2.2.2.2.2.2.1,())).bind λli=>(Ag li 9).bind λ_=>(Ag li 9).bind λhh=>(Ee li 9 (hh.1,hh.2.1,(hh.2.2.1.1,hh.2.2.1.2.1,hh.2.2.1.2.2.1,hh.2.2.1.2.2.2.1,hh.2.2.1.2.2.2.2.1,()),hh.2.2.2.1,hh.2.2.2.2.1,hh.2.2.2.2.2.1,hh.2.2.2.2.2.2.1,(18:Int),())).bind λlj=>(Ag lj 10).bind λ_=>(Ag lj 10).bind λhi=>(Ee lj 10 (hi.1,hi.2.1,(hi.2.2.1.1,hi.2.2.1.2.1,hi.2.2.1.2.2.1,hi.2.2.1.2.2.2.1,hi.2.2.1.2.2.2.2.1,()),hi.2.2.2.1,hi.2.2.2.2.1,hi.2.2.2.2.2.1,hi.2.2.2.2.2.2.1,(22:Int),())).bind λlk=>(Ag lk 10).bind λ_=>(Ag lk 10).bind λhj=>(Ee lk 10 (hj.1,([(1:UInt8)]:LB),(hj.2.2.1.1,hj.2.2.1.2.1,hj.2.2.1.2.2.1,hj.2.2.1.2.2.2.1,hj.2.2.1.2.2.2.2.1,()),hj.2.2.2.1,hj.2.2.2.2.1,hj.2.2.2.2.2.1,hj.2.2.2.2.2.2.1,hj.2.2.2.2.2.2.2.1,())).bind λll=>(Ag ll 11).bind λ_=>(Ag ll 11).bind λhk=>(Ee ll 11 (hk.1,hk.2.1,(hk.2.2.1.1,hk.2.2.1.2.1,hk.2.2.1.2.2.1,hk.2.2.1.2.2.2.1,hk.2.2.1.2.2.2.2.1,()),hk.2.2.2.1,hk.2.2.2.2.1,hk.2.2.2.2.2.1,true,hk.2.2.2.2.2.2.2.1,())).bind λlm=>(TC (12001:Int) (0:UInt8)).bind λpm=>(Ef (geq (12001:Int) (12001:Int))).bind λ_=>(Ag lm 11).bind λ_=>(Ag lm 11).bind λhl=>(Ee lm 11 (hl.1,hl.2.1,(hl.2.2.1.1,hl.2.2.1.2.1,hl.2.2.1.2.2.1,hl.2.2.1.2.2.2.1,hl.2.2.1.2.2.2.2.1,()),hl.2.2.2.1,hl.2.2.2.2.1,pm,hl.2.2.2.2.2.2.1,hl.2.2.2.2.2.2.2.1,())).bind λfv=>j15 f g ad a b h k m n o p u v w ac fv y aa ab 0
def Fh:=Hb Mv
end Go.Pl
