/- A part of a proof (see the text that ends in Proof). No conditions. -/
import Derived.Test.YtmnpghdjdepelaaGreatDoorMnBA
set_option linter.unusedVariables false
namespace Go.Pl
open Go Go.Lv
abbrev LB:=List UInt8
abbrev LI:=List Int
abbrev LX:=List Int32
abbrev LU:=List UInt32
abbrev LQ:=List UInt64
variable(F:LI)(c G:LB)(z d i I L:Int)(N:LI)(V:Int)(j:LB)(C:Bool)(A eu:Int)(R:LB)(e:LX)(E:List LB)(M:LB)(Z:Bool)(D ig:Int)(l5:List LB)(ko l6 l7:Int)(X:LB)(jo:Bool)(jq:Int)(jw:LB)(O:LX)(kr:LB)(l8:Bool)(jr:Int)(jv:LB)(lq:List LB)(B:UInt64)(T:UInt32)(Y:UInt64)(jf:LB)(U l9 mg:Int)(lu mh:UInt64)(J:Int32)(jl:Int)(jg iy:LX)(jk:Int32)(cu:LU)(jh jm:Int)(ku:LX)(jy:UInt8)(iq:Int)(mo:LQ)(iw:Bool->Option Int)(ji:Bool)(kg:Int)(mq:Option Int)(ng:Bool)(lg:List LI)(P:List (UInt8×Int×Unit))
def Km:Option (Int×Int):=
if((Cb z 1)||(Es z 1048576))then
some (0,2)
else
some ((SB 1 (Fx (Da 256 z) 245)),0)
abbrev Uw:=Option (Int32×Int32×Int)
def UO:Uw:=
if C then
(Dl (Gk (Ak z 1) 0)).bind λ_=>
some ((mB (Fz (1:Int32) (GI.toZ (Ak z 1)).toNat)),(Ak (Fz (1:Int32) (GI.toZ (Ak z 1)).toNat) 1),0)
else
some (0,0,2)
def XY:=UO
def WB(j2:Int->Bool->Uw)(a:Int):Uw:=
if(geq a 8)then
j2 a (geq a 8)
else
if(geq a 16)then
j2 a (geq a 16)
else
j2 a (geq a 24)
def Ud:=WB XY
def Jc:Option Int:=
(Ud d).bind λ(c,e,i)=>
if(((Bg i 0)||(Cb z 1))||(Es z 6))then
some 2
else
some 0
def Uv:Option (Int×Bool):=
(Km i).bind λ(c,e)=>
(Jc z d).bind λA=>
some (c,(((geq A 0)&&(geq e 0))&&(dU (Aa j) 64)))
def Qk:Option Int:=
some (Fx (Da z d) 8)
def XU:Option Int:=
some 0
def CY:=XU
def BA(j6:Option Int)(AK:Int->Option Int)(b f:Int32)(a:LX)(g:Int):Option Int:=
if(Cb g (Aa a))then
(Al a g).bind λh=>
if((Cb h b)||(Es h f))then
some 16
else
AK (Ac g 1)
else
j6
def Qh:Nat->Int->Option Int
|0,_=>none
|z+1,c=>BA CY (Qh z) J jk ku c
def TT b f a:=Qh b f a Ck
def CU(j4:Int32->Int32->LX->Int->Option Int)(m:Int)(a:LX):Option Int:=
(Ud m).bind λ(b,f,k)=>
if(Bg k 0)then
some k
else
if(Es (Aa a) 4000)then
some 4
else
j4 b f a 0
def Ki:=CU TT
def Mr(a h k:Int)(m n:LB)(b:LX)(f:List LB)(o:LB)(p:Bool)(u g:Int):Option Int:=
(Dl (Bg a 0)).bind λ_=>
some (Ac (Da (Aa f) g) (Fx (Aa b) a))
def Ye(a g h:Int)(k m:LB)(n:LX)(o:List LB)(p:LB)(u:Bool)(v b f:Int):Option Bool:=
some ((dU b 1000)&&(dU (Da f a) 4000))
def FD:Option Bool:=
some (!C)
def FF:=FD
def EV(j24:Bool->Option Bool)(y:Bool):Option Bool:=
j24 y
def Pc:=EV FF
def FB(j23:Bool->Option Bool):Option Bool:=
j23 (Gk (-1:Int) (0:Int))
def Ox:=FB Pc
def FC(Dt:Int->Option Bool)(b:List LB)(f a h:Int):Option Bool:=
Dt (Ac h 1)
def EY Dt:=FC Dt
def FH(j23:Bool->Option Bool)(j20:Int->Option Bool)(b:List LB)(f a h:Int)(w:LB):Option Bool:=
if((Cb (Aa w) 5)||(Es (Aa w) (Ac (Fx (Ac (Da (Da 81 f) a) 7) 8) 4)))then
j23 (Gk h 0)
else
j20 h
def Oo Dt b f a:=FH Pc (EY Dt b f a) b f a
def Oy(j19:Int->LB->Option Bool)(j22:Option Bool)(b:List LB)(f a h:Int):Option Bool:=
if(Cb h (Aa b))then
(Al b h).bind λw=>
j19 h w
else
j22
def Io:Nat->Int->Option Bool
|0,_=>none
|z+1,c=>Oy (Oo (Io z) E D ig) Ox E D ig c
def ES b f a:=Io b f a Ck
def On(j16:(List LB)->Int->Int->Int->Option Bool)(f a k o:Int)(p m:LB)(g:LX)(b:List LB)(n:LB)(u:Bool)(v:Int):Option Bool:=
j16 b f a 0
def FI:=On ES
def Ot(j15:Int->Int->Int->Int->LB->LB->LX-> (List LB)->LB->Bool->Int->Option Bool)(f a k o:Int)(p m:LB)(g:LX)(b:List LB)(n:LB)(u:Bool)(v aa:Int):Option Bool:=
(Mr a k o p m g b n u v f).bind λab=>
(Ye a k o p m g b n u v aa ab).bind λac=>
if(!ac)then
some false
else
j15 f a k o p m g b n u v
def EX:=Ot FI
def Oz(j14:Int->Int->Int->Int->LB->LB->LX-> (List LB)->LB->Bool->Int->Int->Option Bool)(f a k o:Int)(p m:LB)(g:LX)(b:List LB)(n:LB)(u:Bool)(v:Int):Option Bool:=
(Ki k g).bind λad=>
if(Bg ad 0)then
some false
else
if(Es (Aa g) 0)then
j14 f a k o p m g b n u v (Ac (Aa b) 1)
else
j14 f a k o p m g b n u v (Aa b)
def Ou:=Oz EX
def Qm(j13:Int->Int->Int->Int->LB->LB->LX-> (List LB)->LB->Bool->Int->Option Bool)(a k o:Int)(p m:LB)(g:LX)(b:List LB)(n:LB)(u:Bool)(v f:Int):Option Bool:=
if(Es (Aa n) 0)then
if true then
if true then
if(true||(Es (Aa b) 1000))then
some false
else
j13 f a k o p m g b n u v
else
(Dl (Bg a 0)).bind λ_=>
if((Gk (Fx (Aa g) a) f)||(Es (Aa b) 1000))then
some false
else
j13 f a k o p m g b n u v
else
(Dl (Bg a 0)).bind λ_=>
if(Bg (Gs (Aa g) a) 0)then
if(true||(Es (Aa b) 1000))then
some false
else
j13 f a k o p m g b n u v
else
(Dl (Bg a 0)).bind λ_=>
if((Gk (Fx (Aa g) a) f)||(Es (Aa b) 1000))then
some false
else
j13 f a k o p m g b n u v
else
(Qk a k).bind λae=>
if(Gk (Aa m) ae)then
if true then
if(true||(Es (Aa b) 1000))then
some false
else
j13 f a k o p m g b n u v
else
(Dl (Bg a 0)).bind λ_=>
if((Gk (Fx (Aa g) a) f)||(Es (Aa b) 1000))then
some false
else
j13 f a k o p m g b n u v
else
(Dl (Bg a 0)).bind λ_=>
if(Bg (Gs (Aa g) a) 0)then
if(true||(Es (Aa b) 1000))then
some false
else
j13 f a k o p m g b n u v
else
(Dl (Bg a 0)).bind λ_=>
if((Gk (Fx (Aa g) a) f)||(Es (Aa b) 1000))then
some false
else
j13 f a k o p m g b n u v
def Zd:=Qm Ou
def Ms:Option Int:=
(Uv z d i j).bind λ(c,A)=>
if(!A)then
some 8
else
if(Bg D 0)then
if(!(((((geq D 18)||(geq D 24))&&(!Z))&&(geq (Ac (Ac (Aa R) (Aa e)) (Aa E)) 0))&&(geq (Aa M) 0)))then
some 8
else
some 0
else
if Z then
if(!((geq (Ac (Ac (Aa R) (Aa e)) (Aa E)) 0)&&(dU (Aa M) 100000)))then
some 8
else
some 0
else
(Zd z d i j R e E M Z D c).bind λB=>
if(!B)then
some 8
else
some 0
def TA:Option Int:=
some z
def Yr:=TA
def Zx(j6:Int->Option Int)(AK:Int->Int->Option Int)(a:List LB)(b f:Int):Option Int:=
if(Cb f (Aa a))then
(Al a f).bind λg=>
AK (Ac b (Aa g)) (Ac f 1)
else
j6 b
def Nr:Nat->Int->Int->Option Int
|0,_,_=>none
|z+1,c,d=>Zx Yr (Nr z) E c d
def SH a:=Nr a Ck
def Zl(j4:(List LB)->Int->Int->Option Int)(n o p:Int)(u h:LB)(k:LX)(a:List LB)(m:LB)(v:Bool)(w:Int):Option Int:=
j4 a (Ac (Ac (Aa h) (Da 4 (Aa k))) (Aa m)) 0
def Xb:=Zl SH
def BW:Option (Int×Int):=
(Ms z d i j R e E M Z D).bind λc=>
if(Bg c 0)then
some (0,c)
else
(Xb z d i j R e E M Z D).bind λA=>
some (A,0)
def Kk:Option (LB):=
(
(Bv ([]:LB) c).bind λz=>
some z)
def Fo:Option (LI):=
(
(Bv ([]:LI) F).bind λz=>
some z)
def Cv:Option (LB×LB×Int×Int×Int×Int×Int×LI×Int×LB×Bool×Int):=
(Kk G).bind λe=>
(Kk j).bind λB=>
(Fo N).bind λD=>
some (c,e,z,d,i,I,L,D,V,B,C,A)
def OC(b f a g h:Int):Option Bool:=
some (((((((geq b 1)||(geq b 2))&&(Es f 0))&&(dU f 6))&&(Es g 0))&&(dU g 1048576))&&(Es h 0))
def OM:=OC
def NP(j2:Int->Int->Int->Int->Int->Option Bool)(b f a g h:Int):Option Bool:=
if(geq a 8)then
if(geq a 8)then
j2 b f a g h
else
some false
else
if(geq a 16)then
if(geq a 16)then
j2 b f a g h
else
some false
else
if(geq a 24)then
j2 b f a g h
else
some false
def Uh:=NP OM
def Mv:Option (Int×Int):=
(Km z).bind λ(c,e)=>
if(Bg e 0)then
some (0,e)
else
if((Cb d 1)||(Es d 4000))then
some (0,2)
else
(Dl (Bg c 0)).bind λ_=>
if(Es (Fx (Ak (Ac d c) 1) c) 1000)then
some (0,4)
else
some ((Fx (Ak (Ac d c) 1) c),0)
def DL(k a m f b:Int):Option Bool:=
(Dl (Bg a 0)).bind λ_=>
if(Es b (Fx 4000 a))then
some false
else
(Mv f b).bind λ(g,h)=>
some ((geq h 0)&&(dU g 1000))
def Xa:Option Int:=
(Uh z d i I L).bind λc=>
if(!c)then
some 8
else
(DL z d i I L).bind λe=>
if(!e)then
some 8
else
some 0
def Zn:Option (UInt64×UInt64):=
some ((Ac (Ac (Da (Cf B (GI.toZ (32:UInt64)).toNat) (Cf Y (GI.toZ (32:UInt64)).toNat)) (Cf (Ac (Da (Cf B (GI.toZ (32:UInt64)).toNat) (Dr Y 4294967295)) (Cf (Da (Dr B 4294967295) (Dr Y 4294967295)) (GI.toZ (32:UInt64)).toNat)) (GI.toZ (32:UInt64)).toNat)) (Cf (Ac (Dr (Ac (Da (Cf B (GI.toZ (32:UInt64)).toNat) (Dr Y 4294967295)) (Cf (Da (Dr B 4294967295) (Dr Y 4294967295)) (GI.toZ (32:UInt64)).toNat)) 4294967295) (Da (Dr B 4294967295) (Cf Y (GI.toZ (32:UInt64)).toNat))) (GI.toZ (32:UInt64)).toNat)),(Da B Y))
def GW:Option (UInt64×UInt64):=
(Zn B Y).bind λ(z,c)=>
some (z,c)
def Se:Option (LI):=
some F
def Ic:=Se
def Fq(j10:LI->Option (LI))(lS:Int->LI->Option (LI))(b:Int)(a:LI):Option (LI):=
if(Cb b (Aa a))then
(
(YQ (Aa a) b (Aa a)).bind λ_=>
(YQ (Aa a) 0 b).bind λ_=>
lS (Ac b (GL ((Aa a)-b) (CV a 0 (b-(0:Int))).length)) (Jo a b ((Aa a)-b) (CV a 0 (b-(0:Int)))))
else
j10 a
def Fv:Nat->Int->LI->Option (LI)
|0,_,_=>none
|q+1,b,a=>Fq Ic (Fv q) b a
def Vh:=Fv Ck
def Je(j8:Int->LI->Option (LI))(f:LI)(g:UInt64):Option (LI):=
(jG (Ap g:Int) (0:Int)).bind λk=>
(Dl (geq (Ap g:Int) (Ap g:Int))).bind λ_=>
j8 (GL (Aa k) f.length) (YB k f)
def Ux:=Je Vh
def Is(j7:LI->UInt64->Option (LI))(f:LI)(h:Int):Option (LI):=
(GW (Ap (Aa f):UInt64) (Ap h:UInt64)).bind λ(m,g)=>
if((Es m 0)||(Es g 9223372036854775807))then
none
else
j7 f g
def Vj:=Is Ux
def Jd(j6:LI->Int->Option (LI))(f:LI)(h:Int):Option (LI):=
if(Cb h 0)then
none
else
j6 f h
def Lu:=Jd Vj
def Sg:Option (LI):=
some F
def Ii:=Sg
def Ie(j16:LI->Option (LI))(ED:Int->LI->Option (LI))(a:List LI)(g:Int)(f:LI):Option (LI):=
if(Cb g (Aa a))then
(Al a g).bind λn=>
(Bv f n).bind λo=>
ED (Ac g 1) o
else
j16 f
def Ff:Nat->Int->LI->Option (LI)
|0,_,_=>none
|z+1,c,d=>Ie Ii (Ff z) lg c d
def Ih a:=Ff a Ck
def If(j14:(List LI)->Int->LI->Option (LI))(a:List LI)(p:LI):Option (LI):=
j14 a 0 p
def Sj:=If Ih
def Ig(j13:(List LI)->LI->Option (LI))(b:Int)(a:List LI):Option (LI):=
if(Es (Ak b (Ak (0:Int) (0:Int))) 0)then
(YQ 0 0 0).bind λ_=>
(jG (Ak b (Ak (0:Int) (0:Int))) (0:Int)).bind λu=>
(Bv ([]:LI) u).bind λk=>
(YQ (Aa k) 0 0).bind λ_=>
j13 a (CV k 0 ((0:Int)-(0:Int)))
else
j13 a ([]:LI)
def Sf:=Ig Sj
def Ij(j12:Int-> (List LI)->Option (LI))(a:List LI)(b:Int):Option (LI):=
if(Cb b 0)then
none
else
j12 b a
def Sd:=Ij Sf
def Iu(j11:(List LI)->Int->Option (LI))(vK:Int->Int->Option (LI))(a:List LI)(b h:Int):Option (LI):=
if(Cb h (Aa a))then
(Al a h).bind λm=>
if(Cb (Ac b (Aa m)) 0)then
none
else
vK (Ac b (Aa m)) (Ac h 1)
else
j11 a b
def Fs:Nat->Int->Int->Option (LI)
|0,_,_=>none
|z+1,c,d=>Iu Sd (Fs z) lg c d
def Up a:=Fs a Ck
def Iz(j9:(List LI)->Int->Int->Option (LI))(a:List LI):Option (LI):=
j9 a 0 0
def Ls:=Iz Up
def CI:Option (LI):=
(Ls ([F,N]:List LI)).bind λz=>
some z
def Nb:Option (LI×Int):=
(Mv z d).bind λ(c,e)=>
if(Bg e 0)then
some (([]:LI),e)
else
(Km z).bind λ(i,j)=>
(Lu ([i]:LI) (Ak c 1)).bind λA=>
(CI A ([(Ak d (Da (Ak c 1) i))]:LI)).bind λB=>
some (B,0)
def Ep:Option (LI×Int):=
(Xa z d i I L).bind λc=>
if(Bg c 0)then
some (([]:LI),c)
else
(Nb I L).bind λ(e,j)=>
some (e,j)
def Kx(a f g h k:Int)(b:LB):Option Int:=
if((b==([]:LB)) !=(geq a 1))then
some 26
else
some 0
def XB:Option Int:=
some 0
def EC:=XB
def DX(j6:Option Int)(AK:Int->Int->Option Int)(a:LI)(f b:Int):Option Int:=
if(Cb b (Aa a))then
(Al a b).bind λg=>
if((Cb g 5)||(Es g f))then
some 8
else
AK (Ak f g) (Ac b 1)
else
j6
def Qs:Nat->Int->Int->Option Int
|0,_,_=>none
|z+1,c,d=>DX EC (Qs z) F c d
def WM a:=Qs a Ck
def DB(j4:LI->Int->Int->Option Int)(a:LI):Option Int:=
if((geq (Aa a) 0)||(Es (Aa a) 1000))then
some 8
else
j4 a 100000 0
def Ua:=DB WM
def RS(y:Int)(o p:LB)(h b f k m:Int)(g:LI)(a:Int)(n:LB)(u:Bool)(v:Int):Option Bool:=
some (dU (Aa n) y)
def Zq:=RS
def Ys(j8:Int->LB->LB->Int->Int->Int->Int->Int->LI->Int->LB->Bool->Int->Option Bool)(xL:Int->Int->Option Bool)(w:LI)(o p:LB)(h b f k m:Int)(g:LI)(a:Int)(n:LB)(u:Bool)(v y aa:Int):Option Bool:=
if(Cb aa (Aa w))then
(Al w aa).bind λac=>
xL (Ac y (Fx (Da (Da ac b) f) 8)) (Ac aa 1)
else
j8 y o p h b f k m g a n u v
def Nq:Nat->Int->Int->Option Bool
|0,_,_=>none
|e+1,B,D=>Ys Zq (Nq e) F c G z d i I L N V j C A B D
def SW w o p h b f k m g a n u v:=Nq w o p h b f k m g a n u v Ck
def Zp(j6:LI->LB->LB->Int->Int->Int->Int->Int->LI->Int->LB->Bool->Int->Int->Int->Option Bool)(o p:LB)(h b f k m:Int)(g:LI)(a:Int)(n:LB)(u:Bool)(v:Int)(ab:LI):Option Bool:=
if(geq (Aa g) 0)then
some ((geq a 0)&&(geq (Aa n) 0))
else
(Ua g).bind λad=>
if((((Bg ad 0)||(Bg (Aa g) (Aa ab)))||(Cb a 0))||(Es a (Aa ab)))then
some false
else
(Bo ab 0 a).bind λw=>
j6 w o p h b f k m g a n u v 0 0
def SS:=Zp SW
def Zw(j5:LB->LB->Int->Int->Int->Int->Int->LI->Int->LB->Bool->Int->LI->Option Bool)(o p:LB)(h b f k m:Int)(g:LI)(a:Int)(n:LB)(u:Bool)(v:Int):Option Bool:=
if((geq h 0)&&((geq b 0)&&((geq f 0)&&((geq k 0)&&((geq m 0)&&true)))))then
some (((geq (Aa g) 0)&&(geq a 0))&&(geq (Aa n) 0))
else
(Ep h b f k m).bind λ(ab,ae)=>
if(Bg ae 0)then
some false
else
(Kx h b f k m o).bind λaf=>
if(Bg af 0)then
some false
else
j5 o p h b f k m g a n u v ab
def Xg:=Zw SS
def Hu:Option Bool:=
some (c==G)
def Gt:Option Bool:=
if(Gk (Aa c) (Aa G))then
(Bo c 0 (Aa G)).bind λz=>
(Hu z G).bind λd=>
some d
else
some false
abbrev Ej:=Option (Int×Int)
def OF:Ej:=
some (z,0)
def Wo:=OF
def Vw(j6:Int->Ej)(AK:Int->Int->Ej)(a:LB)(b f:Int):Ej:=
if(Cb f (Aa a))then
(Al a f).bind λg=>
if(Es g 127)then
some (0,12)
else
AK (nN (Fz b (GI.toZ (7:UInt64)).toNat) (Ap g:Int)) (Ac f 1)
else
j6 b
def Mb:Nat->Int->Int->Ej
|0,_,_=>none
|z+1,d,e=>Vw Wo (Mb z) c d e
def NF a:=Mb a Ck
def Wn(j4:LB->Int->Int->Ej)(a:LB):Ej:=
if(Bg (Aa a) 4)then
some (0,2)
else
j4 a 0 0
def GD:=Wn NF
abbrev Dg:=Option (Int×Int)
def SF:Dg:=
if(Es iq 4000)then
some (0,4)
else
if(Cb (Aa c) iq)then
some (0,24)
else
if(geq jy 16)then
(Bo c (Ak iq 10) iq).bind λz=>
(Bo z 0 3).bind λd=>
if(d !=([51,68,73]:LB))then
some (0,12)
else
(Bo z 3 (Aa z)).bind λe=>
(Bo c 3 10).bind λi=>
(Hu e i).bind λj=>
if(!j)then
some (0,12)
else
some (iq,0)
else
some (iq,0)
def RZ:=SF
def SR(j8:LB->UInt8->Int->Dg)(a:LB)(g:Int)(b:UInt8):Dg:=
if(geq b 16)then
j8 a b (Ac (Ac g 10) 10)
else
j8 a b (Ac g 10)
def TB:=SR RZ
def RQ(j7:LB->Int->UInt8->Dg)(a:LB)(g:Int)(b:UInt8)(m:Bool):Dg:=
if m then
some (0,12)
else
j7 a g b
def Yp:=RQ TB
def AD(j6:LB->Int->UInt8->Bool->Dg)(a:LB)(f b:UInt8):Dg:=
(Bo a 6 10).bind λaa=>
(GD aa).bind λ(g,ab)=>
if(Bg ab 0)then
if true then
j6 a g b true
else
if(geq b 0)then
j6 a g b (!((Gk f 2)&&(dU f 4)))
else
if(geq b 16)then
j6 a g b (!(geq f 4))
else
j6 a g b (!false)
else
(Al a 4).bind λac=>
if(Bg ac 0)then
j6 a g b true
else
if(geq b 0)then
j6 a g b (!((Gk f 2)&&(dU f 4)))
else
if(geq b 16)then
j6 a g b (!(geq f 4))
else
j6 a g b (!false)
def Zb:=AD Yp
def Nw(j5:LB->UInt8->UInt8->Dg)(a:LB):Dg:=
(Gt a ([(73:UInt8),(68:UInt8),(51:UInt8)]:LB)).bind λn=>
if(!n)then
some (0,6)
else
if(Cb (Aa a) 10)then
some (0,24)
else
(Al a 3).bind λf=>
(Al a 5).bind λb=>
(
(
(
j5 a f b)))
def JG:=Nw Zb
abbrev Kb:=Option (UInt64×Int)
def eE:Kb:=
some (B,0)
def QR:=eE
def QW(j6:UInt64->Kb)(AK:UInt64->Int->Kb)(a:LB)(f:UInt64)(b:Int):Kb:=
if(Cb b (Aa a))then
(Al a b).bind λg=>
(Dl (Gk (Da 8 b) 0)).bind λ_=>
AK (nN f (Fz (Ap g:UInt64) (GI.toZ (Da 8 b)).toNat)) (Ac b 1)
else
j6 f
def AW:Nat->UInt64->Int->Kb
|0,_,_=>none
|z+1,d,e=>QW QR (AW z) c d e
def fQ a:=AW a Ck
def RL(j4:LB->UInt64->Int->Kb)(a:LB):Kb:=
if((Cb (Aa a) 1)||(Es (Aa a) 8))then
some (0,2)
else
j4 a 0 0
def UT:=RL fQ
def XL:Option (UInt64×Int):=
if(((Cb d 1)||(Es d 8))||(Cb z 0))then
some (0,2)
else
if(Es z (Ak (Aa c) d))then
some (0,24)
else
(Bo c z (Ac z d)).bind λe=>
(UT e).bind λ(i,j)=>
some (i,j)
def lC:Option Bool:=
if(geq U 8)then
some true
else
(Dl (Gk (Da 8 U) 0)).bind λ_=>
some (geq (Cf B (GI.toZ (Da 8 U)).toNat) 0)
abbrev Ka:=Option (LB×Int)
def fJ:Ka:=
some (c,0)
def QL:=fJ
def QS(j6:LB->Ka)(AK:Int->LB->Ka)(f:UInt64)(g:LB)(a:Int)(b:LB):Ka:=
if(Cb a (Aa g))then
(Dl (Gk (Da 8 a) 0)).bind λ_=>
(Al b a).bind λ_=>
(Ia b a (Ap (Cf f (GI.toZ (Da 8 a)).toNat):UInt8)).bind λk=>
AK (Ac a 1) k
else
j6 b
def CR:Nat->Int->LB->Ka
|0,_,_=>none
|z+1,c,d=>QS QL (CR z) B jf c d
def fL f g:=CR f g Ck
def QY(j4:UInt64->LB->Int->LB->Ka)(f:UInt64)(h:Int):Ka:=
if((Cb h 1)||(Es h 8))then
some (([]:LB),2)
else
(lC f h).bind λm=>
if(!m)then
some (([]:LB),16)
else
(jG h (0:UInt8)).bind λg=>
(Dl (geq h h)).bind λ_=>
j4 f g 0 g
def Mz:=QY fL
def iT:Option (LB):=
some c
def VS:=iT
def VX(j6:LB->Option (LB))(AK:Int->LB->Option (LB))(a b:Int)(f:UInt64)(h:Int)(g:LB):Option (LB):=
if(Cb h (Aa ([(2000:UInt64),(Ap (Ac a 32):UInt64),(Ap b:UInt64),f,(0:UInt64),(0:UInt64)]:LQ)))then
(Al ([(2000:UInt64),(Ap (Ac a 32):UInt64),(Ap b:UInt64),f,(0:UInt64),(0:UInt64)]:LQ) h).bind λ_=>
(Al ([(2000:UInt64),(Ap (Ac a 32):UInt64),(Ap b:UInt64),f,(0:UInt64),(0:UInt64)]:LQ) h).bind λk=>
(Mz k 4).bind λ(m,o)=>
(Bv g m).bind λn=>
AK (Ac h 1) n
else
j6 g
def IW:Nat->Int->LB->Option (LB)
|0,_,_=>none
|c+1,e,i=>VX VS (IW c) z d B e i
def iI a b f:=IW a b f Ck
def XT(j4:Int->Int->UInt64->Int->LB->Option (LB))(a b:Int)(f:UInt64):Option (LB):=
j4 a b f 0 ([(65:UInt8),(80:UInt8),(69:UInt8),(84:UInt8),(65:UInt8),(71:UInt8),(69:UInt8),(88:UInt8)]:LB)
def TG:=XT iI
def EI:Option (Int×Int×Bool):=
(XL c 12 4).bind λ(z,d)=>
(XL c 16 4).bind λ(e,i)=>
if(((Cb z 32)||(Es z 3032))||(Es e 1000))then
some (0,0,false)
else
(TG (Ak (Ap z:Int) 32) (Ap e:Int) B).bind λj=>
(Hu c j).bind λA=>
some ((Ak (Ap z:Int) 32),(Ap e:Int),A)
def aG:Option (Int×Int):=
(Gt c ([(65:UInt8),(80:UInt8),(69:UInt8),(84:UInt8),(65:UInt8),(71:UInt8),(69:UInt8),(88:UInt8)]:LB)).bind λz=>
if(!z)then
some (0,6)
else
if(Cb (Aa c) 32)then
some (0,24)
else
(Bo c 0 32).bind λd=>
(EI d 2684354560).bind λ(e,i,j)=>
if(!j)then
some (0,12)
else
if(Cb (Aa c) (Ac e 64))then
some (0,24)
else
(Bo c (Ak (Ac e 64) 32) (Ac e 64)).bind λA=>
(TG e i 2147483648).bind λB=>
(Hu A B).bind λC=>
if(!C)then
some (0,12)
else
some ((Ac e 64),0)
def Mg:Option (Int×Int):=
(JG c).bind λ(z,d)=>
if(Bg d 6)then
some (z,d)
else
(aG c).bind λ(e,i)=>
some (e,i)
def Mx(b:List UInt8):Nat->Int->Option (Int×Int)
  |0,_=>none
  |q+1,x=>Option.bind (Bo b x (Aa b)) λs=>Option.bind (Mg s) λr=>
    if geq r.2 (6:Int)=true then some (x,0)
    else if(geq r.2 (0:Int)&&Es (Ac x r.1) (4000:Int))=true then some (0,4)
    else if Bg r.2 (0:Int)=true then some (0,r.2)
    else Mx b q (Ac x r.1)
def Fl(b:List UInt8):Option (Int×Int):=Mx b Ck 0
def Ae:Option (Bool×Int):=
some (false,z)
def Gd:Option Bool:=
if(Gk (Aa c) (Aa G))then
(Bo c 0 (Aa G)).bind λz=>
some (z==G)
else
some false
def Kt:Option Bool:=
(Gd c G).bind λz=>
some z
def SC:Option Bool:=
some false
def Za:=SC
def Yw(j6:Option Bool)(AK:Int->Option Bool)(a:LB)(b:Int):Option Bool:=
if(Cb b 2)then
(Al ([([73,68,51]:LB),([65,80,69,84,65,71,69,88]:LB)]:List LB) b).bind λf=>
if(Cb (Aa a) (Aa f))then
(Kt f a).bind λg=>
if g then
some true
else
AK (Ac b 1)
else
AK (Ac b 1)
else
j6
def Nz:Nat->Int->Option Bool
|0,_=>none
|z+1,d=>Yw Za (Nz z) c d
def SG a:=Nz a Ck
def Zs(j4:LB->Int->Option Bool)(a:LB):Option Bool:=
j4 a 0
def Ln:=Zs SG
abbrev Az:=Option (UInt32×Int)
def UU:Az:=
some (T,0)
def BM:=UU
def DI(j30:UInt32->Az)(yO:UInt32->Int->Az)(a:LB)(b:LU)(h:UInt32)(m:Int):Az:=
if(Cb m (Aa a))then
(Al a m).bind λp=>
(Al b (GI.toZ (PH (Ap h:UInt8) p))).bind λ_=>
(Al b (GI.toZ (PH (Ap h:UInt8) p))).bind λu=>
yO (PH (Cf h (GI.toZ (8:UInt64)).toNat) u) (Ac m 1)
else
j30 h
def Qq:Nat->UInt32->Int->Az
|0,_,_=>none
|z+1,d,e=>DI BM (Qq z) c cu d e
def CH a b:=Qq a b Ck
def BZ(j28:LB->LU->UInt32->Int->Az)(f:UInt32)(a:LB)(b:LU):Az:=
j28 a b f 0
def UW:=BZ CH
def BQ(j27:UInt32->LB->LU->Az)(f:UInt32)(a:LB)(b:LU):Az:=
j27 f a b
def VI:=BQ UW
def UD(Dt:Int->LU->Az)(f:UInt32)(a:LB)(g:Int)(o:LU):Az:=
Dt (Ac g 1) o
def XS Dt:=UD Dt
def VP(j24:Int->LU->Az)(f:UInt32)(a:LB)(g:Int)(k:UInt32)(b:LU):Az:=
(Al b g).bind λ_=>
(Ia b g k).bind λo=>
j24 g o
def BY Dt f a:=VP (XS Dt f a) f a
def BH(j23:Int->UInt32->LU->Az)(vL:UInt32->Int->Az)(f:UInt32)(a:LB)(g:Int)(b:LU)(k:UInt32)(n:Int):Az:=
if(Cb n 8)then
vL (PH (Cf k (GI.toZ (1:UInt64)).toNat) (Da 3988292384 (Dr k 1))) (Ac n 1)
else
j23 g k b
def Qe(Dt:Int->LU->Az)(f:UInt32)(a:LB)(g:Int)(b:LU):Nat->UInt32->Int->Az
|0,_,_=>none
|q+1,k,n=>BH (BY Dt f a) (Qe Dt f a g b q) f a g b k n
def AX Dt f a g b:=Qe Dt f a g b Ck
def DJ(j21:Int->LU->UInt32->Int->Az)(j26:UInt32->LB->LU->Az)(f:UInt32)(a:LB)(g:Int)(b:LU):Az:=
if(Cb g 256)then
j21 g b (Ap g:UInt32) 0
else
j26 f a b
def Qd:Nat->Int->LU->Az
|0,_,_=>none
|z+1,c,d=>DJ (AX (Qd z) T jf) VI T jf c d
def UQ f a:=Qd f a Ck
def GB(j16:UInt32->LB->Int->LU->Az)(f:UInt32)(a:LB):Az:=
if(Es (Aa a) 100000)then
some (0,4)
else
j16 f a 0 (List.replicate 256 (0:UInt32))
def YD:=GB UQ
def Mc:Option (UInt32×Int):=
(YD 4294967295 c).bind λ(z,d)=>
if(Bg d 0)then
some (0,d)
else
some ((pC z),0)
abbrev Fw:=Option (Int×Int×Int×Int×Int×Int)
def YA:Fw:=
(Al F 0).bind λ_=>
(Al F 0).bind λz=>
(Al F 1).bind λ_=>
(Al F 1).bind λc=>
(Al F 2).bind λ_=>
(Al F 2).bind λd=>
(Al F 3).bind λ_=>
(Al F 3).bind λe=>
(Al F 4).bind λ_=>
(Al F 4).bind λi=>
(Uh z c d e i).bind λj=>
if(!j)then
some (0,0,0,0,0,12)
else
(DL z c d e i).bind λA=>
if(!A)then
some (0,0,0,0,0,4)
else
some (z,c,d,e,i,0)
def BC:=YA
def BD(j6:LI->Fw)(AK:Int->Int->LI->Fw)(b:LB)(g f:Int)(a:LI):Fw:=
if(Cb f 5)then
(Al ([(2:Int),(2:Int),(2:Int),(4:Int),(4:Int)]:LI) f).bind λh=>
(XL b g h).bind λ(v,ae)=>
(Al a f).bind λ_=>
(Ia a f (Ap v:Int)).bind λw=>
AK (Ac g h) (Ac f 1) w
else
j6 a
def Qc:Nat->Int->Int->LI->Fw
|0,_,_,_=>none
|z+1,d,e,i=>BD BC (Qc z) c d e i
def UZ b:=Qc b Ck
def DD(j4:LB->Int->Int->LI->Fw)(b:LB):Fw:=
(Bo b 0 (Cq 4 (Aa b))).bind λy=>
(Kt ([84,84,65,49]:LB) y).bind λaa=>
if(!aa)then
some (0,0,0,0,0,12)
else
if(Cb (Aa b) 22)then
some (0,0,0,0,0,24)
else
(XL b 18 4).bind λ(ab,af)=>
(Bo b 0 18).bind λac=>
(Mc ac).bind λ(ad,ag)=>
if(Bg (Ap ad:UInt64) ab)then
some (0,0,0,0,0,22)
else
j4 b 4 0 (List.replicate 5 (0:Int))
def Kh:=DD UZ
abbrev Ba:=Option (UInt64×Int)
def VV:Ba:=
some (B,0)
def VZ:=VV
def TX(j30:UInt64->Ba)(h b:UInt64)(a:LB)(f:LQ):Ba:=
j30 h
def CT:=TX VZ
def CA(j29:UInt64->UInt64->LB->LQ->Ba)(Yk:UInt64->Int->Ba)(a:LB)(b:UInt64)(f:LQ)(h:UInt64)(m:Int):Ba:=
if(Cb m (Aa a))then
(Al a m).bind λp=>
Option.bind (Al f (GI.toZ (PH (Ap (Cf h (GI.toZ (56:UInt64)).toNat):UInt8) p))) λ_=>
Option.bind (Al f (GI.toZ (PH (Ap (Cf h (GI.toZ (56:UInt64)).toNat):UInt8) p))) λu=>
Yk (PH (Fz h (GI.toZ (8:UInt64)).toNat) u) (Ac m 1)
else
j29 h b a f
def Ql:Nat->UInt64->Int->Ba
|0,_,_=>none
|z+1,d,e=>CA CT (Ql z) c B mo d e
def BL a b f:=Ql a b f Ck
def AZ(j27:LB->UInt64->LQ->UInt64->Int->Ba)(b:UInt64)(a:LB)(f:LQ):Ba:=
j27 a b f b 0
def WE:=AZ BL
def TQ(Dt:Int->LQ->Ba)(b:UInt64)(a:LB)(g:Int)(o:LQ):Ba:=
Dt (Ac g 1) o
def UR Dt:=TQ Dt
def UG(j24:Int->LQ->Ba)(b:UInt64)(a:LB)(g:Int)(k:UInt64)(f:LQ):Ba:=
(Al f g).bind λ_=>
(Ia f g k).bind λo=>
j24 g o
def BI Dt b a:=UG (UR Dt b a) b a
def AS(j23:Int->UInt64->LQ->Ba)(vL:UInt64->Int->Ba)(b:UInt64)(a:LB)(g:Int)(f:LQ)(k:UInt64)(n:Int):Ba:=
if(Cb n 8)then
vL (PH (Fz k (GI.toZ (1:UInt64)).toNat) (Da 4823603603198064275 (Cf k (GI.toZ (63:UInt64)).toNat))) (Ac n 1)
else
j23 g k f
def Ra(Dt:Int->LQ->Ba)(b:UInt64)(a:LB)(g:Int)(f:LQ):Nat->UInt64->Int->Ba
|0,_,_=>none
|q+1,k,n=>AS (BI Dt b a) (Ra Dt b a g f q) b a g f k n
def DR Dt b a g f:=Ra Dt b a g f Ck
def CC(j21:Int->LQ->UInt64->Int->Ba)(j26:UInt64->LB->LQ->Ba)(b:UInt64)(a:LB)(g:Int)(f:LQ):Ba:=
if(Cb g 256)then
j21 g f (Fz (Ap g:UInt64) (GI.toZ (56:UInt64)).toNat) 0
else
j26 b a f
def Rn:Nat->Int->LQ->Ba
|0,_,_=>none
|z+1,c,d=>CC (DR (Rn z) B jf) WE B jf c d
def VJ b a:=Rn b a Ck
def GQ(j16:UInt64->LB->Int->LQ->Ba)(b:UInt64)(a:LB):Ba:=
if(Es (Aa a) 100000)then
some (0,4)
else
j16 b a 0 (List.replicate 256 (0:UInt64))
def XJ:=GQ VJ
def OH:Option (UInt64×Int):=
(XJ 0 c).bind λ(z,d)=>
some (z,d)
def aH:Option (UInt64×Int):=
if(Es (Aa c) 64)then
some (0,2)
else
(OH c).bind λ(z,d)=>
some (z,0)
def Pj:Option (LB×Int):=
(aH c).bind λ(z,d)=>
if(Bg d 0)then
some (([]:LB),d)
else
(Mz z 8).bind λ(e,i)=>
some (e,i)
def Ya:Option (Bool×Int):=
(Pj G).bind λ(z,d)=>
if((Bg d 0)||(Bg (Aa c) (Aa z)))then
some (false,2)
else
(Hu c z).bind λe=>
some (e,0)
abbrev Gl:=Option (LI×Int)
def ZQ:Gl:=
(Ua F).bind λz=>
if(Bg z 0)then
some (([]:LI),12)
else
some (F,0)
def FO:=ZQ
def GC(j6:LI->Gl)(AK:Int->LI->Gl)(a:LB)(f:LI)(g:Int)(b:LI):Gl:=
if(Cb g (Aa f))then
(XL a (Da 4 g) 4).bind λ(k,u)=>
(Al b g).bind λ_=>
(Ia b g (Ap k:Int)).bind λm=>
AK (Ac g 1) m
else
j6 b
def Uq:Nat->Int->LI->Gl
|0,_,_=>none
|z+1,d,e=>GC FO (Uq z) c N d e
def ZD a f:=Uq a f Ck
def GY(j4:LB->LI->Int->LI->Gl)(a:LB)(h:Int):Gl:=
if((Cb h 1)||(Es h 1000))then
some (([]:LI),2)
else
if(Cb (Aa a) (Ac (Da 4 h) 4))then
some (([]:LI),24)
else
(XL a (Da 4 h) 4).bind λ(n,v)=>
(Bo a 0 (Da 4 h)).bind λo=>
(Mc o).bind λ(p,w)=>
if(Bg (Ap p:UInt64) n)then
some (([]:LI),22)
else
(jG h (0:Int)).bind λf=>
(Dl (geq h h)).bind λ_=>
j4 a f 0 f
def HU:=GY ZD
def jJ:Option (LX):=
some e
def UP:=jJ
def YL(j6:LX->Option (LX))(AK:Int->LX->Option (LX))(f:UInt64)(a:Int)(b:LX):Option (LX):=
if(Cb a 8)then
(Dl (Gk (Da 8 a) 0)).bind λ_=>
(Al b a).bind λ_=>
(Ia b a (Ap (Ap (Cf f (GI.toZ (Da 8 a)).toNat):Int8):Int32)).bind λg=>
AK (Ac a 1) g
else
j6 b
def HZ:Nat->Int->LX->Option (LX)
|0,_,_=>none
|z+1,c,d=>YL UP (HZ z) B c d
def jL f:=HZ f Ck
def XK(j4:UInt64->Int->LX->Option (LX))(f:UInt64):Option (LX):=
j4 f 0 (List.replicate 16 (0:Int32))
def jX:=XK jL
def Gx:Option (LX×Int):=
if(Es (Aa c) 64)then
some (([(0:Int32),(0:Int32),(0:Int32),(0:Int32),(0:Int32),(0:Int32),(0:Int32),(0:Int32),(0:Int32),(0:Int32),(0:Int32),(0:Int32),(0:Int32),(0:Int32),(0:Int32),(0:Int32)]:LX),2)
else
(OH c).bind λ(z,d)=>
if(Bg d 0)then
some (([(0:Int32),(0:Int32),(0:Int32),(0:Int32),(0:Int32),(0:Int32),(0:Int32),(0:Int32),(0:Int32),(0:Int32),(0:Int32),(0:Int32),(0:Int32),(0:Int32),(0:Int32),(0:Int32)]:LX),d)
else
(jX z).bind λe=>
some (e,0)
def Um(f a b g h:Int):Option (Int×Int):=
some (a,b)
def CK:Option (LB×Int):=
if(Cb (Aa c) 5)then
some (([]:LB),24)
else
if(Es (Aa c) 41254)then
some (([]:LB),4)
else
(Bo c 0 (Ak (Aa c) 4)).bind λz=>
(Mc z).bind λ(d,e)=>
if(Bg e 0)then
some (([]:LB),e)
else
(Bo c (Ak (Aa c) 4) (Aa c)).bind λi=>
(UT i).bind λ(j,A)=>
if((Bg A 0)||(Bg j (Ap d:UInt64)))then
some (([]:LB),22)
else
(Bo c 0 (Ak (Aa c) 4)).bind λB=>
some (B,0)
def Bk:Option (LB):=
(
(Bv ([]:LB) c).bind λz=>
some z)
def lE:Option (LB×Int×Int):=
if(Es (Aa c) 41250)then
some (([]:LB),0,4)
else
(Bk c).bind λz=>
some (z,(Da 8 (Aa c)),0)
def IX:Option (Int×Int×UInt64×UInt64):=
some (10,10,16384,16384)
def Fc:Option Int:=
if(((Cb z 0)||(Es z 330000))||(Bg (Aa c) (mU (Ac z 7) (GI.toZ (3:UInt64)).toNat)))then
some 8
else
if(Es (Dr z 7) 0)then
(Al c (Ak (Aa c) 1)).bind λd=>
(Dl (Gk (Dr z 7) 0)).bind λ_=>
if(Bg (Cf d (GI.toZ (Dr z 7)).toNat) 0)then
some 8
else
some 0
else
some 0
def gM:Option UInt64:=
some B
def RD:=gM
def RA(j6:UInt64->Option UInt64)(AK:UInt64->Int->Option UInt64)(b f:Int)(h:LB)(k:Int)(g:UInt64)(a:Int):Option UInt64:=
if(Cb a f)then
(Al h (mU (Ac b a) (GI.toZ (3:UInt64)).toNat)).bind λm=>
(Dl (Gk (Dr (Ac b a) 7) 0)).bind λ_=>
(Dl (Gk (Cq (Ak f a) (Ak 8 (Dr (Ac b a) 7))) 0)).bind λ_=>
(Dl (Gk a 0)).bind λ_=>
AK (nN g (Fz (Ap (Dr (Cf m (GI.toZ (Dr (Ac b a) 7)).toNat) (Ak (Fz (1:UInt8) (GI.toZ (Cq (Ak f a) (Ak 8 (Dr (Ac b a) 7)))).toNat) 1)):UInt64) (GI.toZ a).toNat)) (Ac a (Cq (Ak f a) (Ak 8 (Dr (Ac b a) 7))))
else
j6 g
def CL:Nat->UInt64->Int->Option UInt64
|0,_,_=>none
|c+1,e,i=>RA RD (CL c) z d j A e i
def eT b f h k:=CL b f h k Ck
def QH(j4:Int->Int->LB->Int->UInt64->Int->Option UInt64)(h:LB)(k b f:Int):Option UInt64:=
j4 b f h k 0 0
def XP:=QH eT
abbrev Cc:=Option (LB×Int×Int)
def cX:Cc:=
some (j,z,0)
def JZ:=cX
def bR(Yk:Int->Int->LB->Cc)(a:Int)(g:LB)(b f h:Int)(u:LB):Cc:=
Yk (Ac f 64) h u
def JB Yk:=bR Yk
def bS(YO:UInt64->Int->Int->LB->Cc)(a f:Int)(g:LB)(b:Int)(m n:UInt64)(k h:Int)(w:LB):Cc:=
(Dl (Gk (Cq k (Ak 8 (Dr h 7))) 0)).bind λ_=>
YO (Cf n (GI.toZ (Cq k (Ak 8 (Dr h 7)))).toNat) (Ak k (Cq k (Ak 8 (Dr h 7)))) (Ac h (Cq k (Ak 8 (Dr h 7)))) w
def cN YO:=bS YO
def dN(j48:UInt64->Int->Int->LB->Cc)(a f:Int)(g:LB)(b:Int)(m n:UInt64)(k h:Int)(v:LB):Cc:=
(Al v (Ak (Aa v) 1)).bind λ_=>
(Dl (Gk (Cq k (Ak 8 (Dr h 7))) 0)).bind λ_=>
(Dl (Gk (Dr h 7) 0)).bind λ_=>
(Al v (Ak (Aa v) 1)).bind λaa=>
(Al v (Ak (Aa v) 1)).bind λ_=>
Option.bind (Ia v (Ak (Aa v) 1) (nN aa (Fz (Ap (Dr n (Ak (Fz (1:UInt64) (GI.toZ (Cq k (Ak 8 (Dr h 7)))).toNat) 1)):UInt8) (GI.toZ (Dr h 7)).toNat))) λw=>
j48 n k h w
def KS YO a f g b m:=dN (cN YO a f g b m) a f g b m
def KG(j47:UInt64->Int->Int->LB->Cc)(j50:Int->Int->LB->Cc)(a:Int)(g:LB)(b f:Int)(m n:UInt64)(k h:Int)(u:LB):Cc:=
if(Es k 0)then
if(geq (Dr h 7) 0)then
(Bv u ([(0:UInt8)]:LB)).bind λab=>
j47 n k h ab
else
j47 n k h u
else
j50 f h u
def Xi(Yk:Int->Int->LB->Cc)(a:Int)(g:LB)(b f:Int)(m:UInt64):Nat->UInt64->Int->Int->LB->Cc
|0,_,_,_,_=>none
|q+1,n,k,h,u=>KG (KS (Xi Yk a g b f m q) a f g b m) (JB Yk a g b) a g b f m n k h u
def LV Yk a g b f m:=Xi Yk a g b f m Ck
def LN(j44:Int->UInt64->UInt64->Int->Int->LB->Cc)(j52:Int->LB->Cc)(a:Int)(g:LB)(b f o:Int)(p:LB):Cc:=
if(Cb f a)then
(XP g b f (Cq 64 (Ak a f))).bind λm=>
j44 f m m (Cq 64 (Ak a f)) o p
else
j52 o p
def Xe:Nat->Int->Int->LB->Cc
|0,_,_,_=>none
|c+1,d,e,i=>LN (LV (Xe c) z j A) JZ z j A d e i
def aX a g b:=Xe a g b Ck
def RC(j27:Int->LB->Int->Int->Int->LB->Cc)(g:LB)(b y a:Int):Cc:=
(Fc g b).bind λac=>
if(Bg ac 0)then
some (([]:LB),0,8)
else
if(((Cb y 0)||(Es y a))||(Es a b))then
some (([]:LB),0,2)
else
j27 a g b y 0 ([]:LB)
def WI:=RC aX
def YV:Option Int:=
if(!((geq (Cq (SB z 0) 24) z)&&((geq (Cq (SB d 0) 24) d)&&((geq (Cq B 68719476735) B)&&((geq (Cq Y 68719476735) Y)&&true)))))then
some 8
else
some 0
def FL:=YV
def Ul(j4:Int->Int->UInt64->UInt64->Option Int)(a b:Int)(f g:UInt64):Option Int:=
(
(
j4 a b f g))
def GX:=Ul FL
def Ur(j3:Int->Int->UInt64->UInt64->Option Int)(a b:Int)(f g:UInt64):Option Int:=
(
(
j3 a b f g))
def II:=Ur GX
def Rc:Option (UInt64×Int):=
(Fc c z).bind λe=>
if(Bg e 0)then
some (0,8)
else
if(((Cb i 0)||(Es i 64))||(Cb d 0))then
some (0,2)
else
if(Es d (Ak z i))then
some (0,24)
else
(XP c z d i).bind λj=>
some (j,0)
def Ib:Option Int:=
if(geq B 0)then
some 64
else
(Al ([(0:UInt8),(1:UInt8),(56:UInt8),(2:UInt8),(57:UInt8),(49:UInt8),(28:UInt8),(3:UInt8),(61:UInt8),(58:UInt8),(42:UInt8),(50:UInt8),(38:UInt8),(29:UInt8),(17:UInt8),(4:UInt8),(62:UInt8),(47:UInt8),(59:UInt8),(36:UInt8),(45:UInt8),(43:UInt8),(51:UInt8),(22:UInt8),(53:UInt8),(39:UInt8),(33:UInt8),(30:UInt8),(24:UInt8),(18:UInt8),(12:UInt8),(5:UInt8),(63:UInt8),(55:UInt8),(48:UInt8),(27:UInt8),(60:UInt8),(41:UInt8),(37:UInt8),(16:UInt8),(46:UInt8),(35:UInt8),(44:UInt8),(21:UInt8),(52:UInt8),(32:UInt8),(23:UInt8),(11:UInt8),(54:UInt8),(26:UInt8),(40:UInt8),(15:UInt8),(34:UInt8),(20:UInt8),(31:UInt8),(10:UInt8),(25:UInt8),(14:UInt8),(19:UInt8),(9:UInt8),(13:UInt8),(8:UInt8),(7:UInt8),(6:UInt8)]:LB) (GI.toZ (Cf (Da (Dr B (mB B)) 285870213051353865) (GI.toZ (58:UInt64)).toNat))).bind λz=>
some (Ap z:Int)
abbrev De:=Option (Int×Int×Int)
def VH:De:=
some (0,0,24)
def VE:=VH
def ZM(j10:De):De:=
j10
def YW:=ZM VE
def YY(j9:De)(f a:Int):De:=
if(geq f 48)then
some (f,(Ac 0 (Ac a f)),0)
else
j9
def ZG:=YY YW
def ZC(j8:Int->Int->De)(f b a:Int):De:=
if(Cb f (Cq 48 (Ak b a)))then
some (f,(Ac (Ac (0:Int) (1:Int)) (Ac a f)),0)
else
j8 f a
def ZK:=ZC ZG
def ZH(j7:Int->Int->Int->De)(h:Int)(k:UInt64)(a:Int)(g:LB)(b:Int):De:=
if(Bg h 0)then
some (0,0,h)
else
(Ib (pC k)).bind λf=>
j7 f b a
def FX:=ZH ZK
def Uy(j6:Int->UInt64->Int->LB->Int->De)(g:LB)(b a:Int):De:=
(Fc g b).bind λm=>
if(Bg m 0)then
some (0,0,m)
else
if(Cb a 0)then
some (0,0,2)
else
if(Gk a b)then
some (0,0,24)
else
(
(
(Rc g b a (Cq 48 (Ak b a))).bind λ(k,h)=>
j6 h k a g b))
def WO:=Uy FX
def Yd:Option Bool:=
(Dl (Gk U 0)).bind λ_=>
some (Gk (Cf T (GI.toZ U).toNat) 48)
abbrev DA:=Option (UInt32×Int×Int)
def bX:DA:=
(Rc j A d eu).bind λ(c,e)=>
if(Bg e 0)then
some (0,0,e)
else
if(Cb i 48)then
(Dl (Gk z 0)).bind λ_=>
some ((nN (Fz (Ap i:UInt32) (GI.toZ z).toNat) (Ap c:UInt32)),(Ac d eu),0)
else
(Yd (Ap c:UInt32) z).bind λB=>
if(!B)then
some (0,0,12)
else
some ((Ap c:UInt32),(Ac d eu),0)
def cY:=bX
def cH(j2:Int->Int->Int->LB->Int->Int->DA)(g:LB)(h v a:Int):DA:=
(Fc g h).bind λo=>
if(Bg o 0)then
some (0,0,o)
else
if((Cb a 0)||(Es a 24))then
some (0,0,2)
else
(WO g h v).bind λ(f,b,p)=>
if(Bg p 0)then
some (0,0,p)
else
if(geq f 48)then
j2 a b f g h 32
else
j2 a b f g h a
def aL:=cH cY
def Xv(a f:Int)(g h:UInt64)(b:UInt32):Option (Int×UInt32):=
(Dl (Gk a 0)).bind λ_=>
if(geq (Cf b (GI.toZ a).toNat) 0)then
some (0,b)
else
(Dl (Gk a 0)).bind λ_=>
some (1,(Ak b (Fz (1:UInt32) (GI.toZ a).toNat)))
abbrev Eb:=Option (UInt32×Int×Int×Int×UInt64×UInt64×Int)
def YU:Eb:=
some (T,U,l9,mg,(Ac lu (Ak (Ap T:UInt64) (Cf lu (GI.toZ (4:UInt64)).toNat))),mh,0)
def ZA:=YU
def cV(j10:UInt32->Int->Int->Int->UInt64->UInt64->Eb)(f:UInt32)(k m:Int)(b n:UInt64)(w:Int):Eb:=
j10 f k w m b n
def bA:=cV ZA
def dE(j9:UInt32->Int->Int->UInt64->UInt64->Int->Eb)(f:UInt32)(k a:Int)(b:UInt64)(m:Int)(n:UInt64):Eb:=
if(Es a 0)then
(Dl (Gk a 0)).bind λ_=>
if(Cb (Ac b (Ak (Ap f:UInt64) (Cf b (GI.toZ (4:UInt64)).toNat))) (Fz (16:UInt64) (GI.toZ a).toNat))then
j9 f k m b n (Ak a 1)
else
if(Cb a 24)then
(Dl (Gk a 0)).bind λ_=>
if(Es (Ac b (Ak (Ap f:UInt64) (Cf b (GI.toZ (4:UInt64)).toNat))) (Fz (32:UInt64) (GI.toZ a).toNat))then
j9 f k m b n (Ac a 1)
else
j9 f k m b n a
else
j9 f k m b n a
else
if(Cb a 24)then
(Dl (Gk a 0)).bind λ_=>
if(Es (Ac b (Ak (Ap f:UInt64) (Cf b (GI.toZ (4:UInt64)).toNat))) (Fz (32:UInt64) (GI.toZ a).toNat))then
j9 f k m b n (Ac a 1)
else
j9 f k m b n a
else
j9 f k m b n a
def MC:=dE bA
def KA(j8:UInt32->Int->Int->UInt64->Int->UInt64->Eb)(a h:Int)(b g:UInt64)(f:UInt32)(k:Int):Eb:=
(Xv a h b g f).bind λ(ad,o)=>
if(geq ad 1)then
if(Es h 0)then
(Dl (Gk h 0)).bind λ_=>
if(Cb (Ac g (Ak (Ap o:UInt64) (Cf g (GI.toZ (4:UInt64)).toNat))) (Fz (16:UInt64) (GI.toZ h).toNat))then
j8 f k a b (Ak h 1) (Ac g (Ak (Ap o:UInt64) (Cf g (GI.toZ (4:UInt64)).toNat)))
else
if(Cb h 24)then
(Dl (Gk h 0)).bind λ_=>
if(Es (Ac g (Ak (Ap o:UInt64) (Cf g (GI.toZ (4:UInt64)).toNat))) (Fz (32:UInt64) (GI.toZ h).toNat))then
j8 f k a b (Ac h 1) (Ac g (Ak (Ap o:UInt64) (Cf g (GI.toZ (4:UInt64)).toNat)))
else
j8 f k a b h (Ac g (Ak (Ap o:UInt64) (Cf g (GI.toZ (4:UInt64)).toNat)))
else
j8 f k a b h (Ac g (Ak (Ap o:UInt64) (Cf g (GI.toZ (4:UInt64)).toNat)))
else
if(Cb h 24)then
(Dl (Gk h 0)).bind λ_=>
if(Es (Ac g (Ak (Ap o:UInt64) (Cf g (GI.toZ (4:UInt64)).toNat))) (Fz (32:UInt64) (GI.toZ h).toNat))then
j8 f k a b (Ac h 1) (Ac g (Ak (Ap o:UInt64) (Cf g (GI.toZ (4:UInt64)).toNat)))
else
j8 f k a b h (Ac g (Ak (Ap o:UInt64) (Cf g (GI.toZ (4:UInt64)).toNat)))
else
j8 f k a b h (Ac g (Ak (Ap o:UInt64) (Cf g (GI.toZ (4:UInt64)).toNat)))
else
j8 f k a b h g
def bL:=KA MC
def KM(j7:Int->Int->UInt64->UInt64->UInt32->Int->Eb)(p:Int)(u:LB)(v a h:Int)(b g:UInt64):Eb:=
(Rc u v p 1).bind λ(ae,aa)=>
if(Bg aa 0)then
some (0,0,0,0,0,0,aa)
else
if(geq ae 0)then
(Rc u v (Ac p 1) a).bind λ(af,ab)=>
if(Bg ab 0)then
some (0,0,0,0,0,0,ab)
else
j7 a h b g (Ap af:UInt32) (Ac (Ac p 1) a)
else
(aL u v (Ac p 1) h).bind λ(y,ag,ac)=>
if(Bg ac 0)then
some (0,0,0,0,0,0,ac)
else
(Dl (Gk a 0)).bind λ_=>
if(Cb (Ac y (Fz (1:UInt32) (GI.toZ a).toNat)) y)then
some (0,0,0,0,0,0,12)
else
j7 a h b g (Ac y (Fz (1:UInt32) (GI.toZ a).toNat)) ag
def dK:=KM bL
def MV(j6:Int->LB->Int->Int->Int->UInt64->UInt64->Eb)(u:LB)(v p a h:Int)(b g:UInt64):Eb:=
(Fc u v).bind λah=>
if(Bg ah 0)then
some (0,0,0,0,0,0,8)
else
(II a h b g).bind λai=>
if(Bg ai 0)then
some (0,0,0,0,0,0,8)
else
j6 p u v a h b g
def Vy:=MV dK
abbrev Ay:=Option (LU×Int×Int)
def HY:Ay:=
some (cu,z,0)
def Rh:=HY
def IG(Dt:Int->Int-> (List (Int×Int×UInt64×UInt64×Unit))->LU->Ay)(a f:Int)(g:LB)(b k v:Int)(w:UInt32)(h:Int)(ah:List (Int×Int×UInt64×UInt64×Unit))(n:LU):Ay:=
(Bv n ([w]:LU)).bind λak=>
Dt (Ac k v) (Ac h 1) ah ak
def HH Dt:=IG Dt
def HS(j22:Int->Int->UInt32->Int-> (List (Int×Int×UInt64×UInt64×Unit))->LU->Ay)(a f:Int)(g:LB)(b k h y:Int)(w:UInt32)(v:Int)(m:List (Int×Int×UInt64×UInt64×Unit))(n:LU)(aa ab:Int)(ac ad:UInt64):Ay:=
if(Bg y 0)then
some (([]:LU),0,y)
else
(Dl (Bg a 0)).bind λ_=>
(Al m (Gs h a)).bind λ_=>
(Ia m (Gs h a) (aa,ab,ac,ad,())).bind λah=>
j22 k v w h ah n
def Qw Dt a f g b:=HS (HH Dt a f g b) a f g b
def Jz(j21:Int->Int->Int->UInt32->Int-> (List (Int×Int×UInt64×UInt64×Unit))->LU->Int->Int->UInt64->UInt64->Ay)(j24:Int->LU->Ay)(a f:Int)(g:LB)(b k h:Int)(m:List (Int×Int×UInt64×UInt64×Unit))(n:LU):Ay:=
if(Cb h (Da f a))then
(WI g b k (Cq (Ac k 81) b)).bind λ(ag,ae,af)=>
if(Bg af 0)then
some (([]:LU),0,af)
else
(Dl (Bg a 0)).bind λ_=>
(Al m (Gs h a)).bind λ_=>
(
(
(Al m (Gs h a)).bind λo=>
(
(Vy ag ae 0 o.1 o.2.1 o.2.2.1 o.2.2.2.1).bind λ(w,v,aa,ab,ac,ad,y)=>
j21 k h y w v m n aa ab ac ad)))
else
j24 k n
def Jn:Nat->Int->Int-> (List (Int×Int×UInt64×UInt64×Unit))->LU->Ay
|0,_,_,_,_=>none
|c+1,e,i,B,C=>Jz (Qw (Jn c) z d j A) Rh z d j A e i B C
def Rs a f g b:=Jn a f g b Ck
def Qb(j16:Int->Int->LB->Int->Int->Int-> (List (Int×Int×UInt64×UInt64×Unit))->LU->Ay)(a f:Int)(g:LB)(b:Int)(p:List (Int×Int×UInt64×UInt64×Unit)):Ay:=
j16 a f g b 0 0 p ([]:LU)
def HC:=Qb Rs
def Qg(j15:Int->Int->LB->Int-> (List (Int×Int×UInt64×UInt64×Unit))->Ay)(qG:Int-> (List (Int×Int×UInt64×UInt64×Unit))->Ay)(a f:Int)(g:LB)(b u:Int)(p:List (Int×Int×UInt64×UInt64×Unit)):Ay:=
if(Cb u 6)then
(IX).bind λ(al,ae,af,am)=>
(Al p u).bind λ_=>
(Ia p u (al,ae,af,am,())).bind λan=>
qG (Ac u 1) an
else
j15 a f g b p
def Jq:Nat->Int-> (List (Int×Int×UInt64×UInt64×Unit))->Ay
|0,_,_=>none
|c+1,e,i=>Qg HC (Jq c) z d j A e i
def IS a f g b:=Jq a f g b Ck
def Tl(j13:Int->Int->LB->Int->Int-> (List (Int×Int×UInt64×UInt64×Unit))->Ay)(a f:Int)(g:LB)(b:Int):Ay:=
j13 a f g b 0 (List.replicate 6 ((0:Int),(0:Int),(0:UInt64),(0:UInt64),()))
def CF:=Tl IS
abbrev HM:=Option (Int×LX×LX×Int)
def gL:HM:=
if Z then
some (10,e,(List.replicate 16 (0:Int32)),0)
else
if(geq z 16)then
some (9,e,(List.replicate 16 (0:Int32)),0)
else
some (0,(List.replicate 16 (0:Int32)),(List.replicate 16 (0:Int32)),2)
def eR:=gL
def fR(j2:Int->LX->Bool->HM)(a:Int)(b:LX):HM:=
if(geq a 8)then
j2 a b (geq a 8)
else
j2 a b (geq a 24)
def XI:=fR eR
def PX:Option (Int×Int32×Int×LX×LX×Int):=
(XI z e).bind λ(c,d,i,j)=>
if(Bg j 0)then
some (0,0,0,(List.replicate 16 (0:Int32)),(List.replicate 16 (0:Int32)),j)
else
some (z,0,c,d,i,0)
def Mn:Option Int32:=
some (PH (Ap (Cf T (GI.toZ (1:UInt64)).toNat):Int32) (mB (Ap (Dr T 1):Int32)))
def Nc(a:Int)(k:Int32)(b:Int)(f m:LX):Option Int:=
(XI a f).bind λ(g,n,o,h)=>
if((Bg h 0)||(Bg g b))then
some 8
else
some 0
def QX:Option (Int×Int):=
if(geq z 8)then
some (4,0)
else
if(geq z 16)then
if(geq z 16)then
some (5,0)
else
some (0,2)
else
if(geq z 24)then
some (5,0)
else
some (0,2)
def QD:Option Int32:=
(Dl (Gk z 0)).bind λ_=>
(Dl (Gk z 0)).bind λ_=>
some (Ap (mU (Ak (Fz (Ap J:Int) (GI.toZ z).toNat) (Ap J:Int)) (GI.toZ z).toNat):Int32)
def Nd:Option (Int32×Int):=
(QX z).bind λ(c,d)=>
if(Bg d 0)then
some (0,d)
else
(QD c J).bind λe=>
some (e,0)
def Qz(a:Int)(b f:LX):Option Int:=
if((Bg a 9)&&(Bg a 10))then
some 8
else
some 0
abbrev Gm:=Option (Int32×Int)
def ZN(h:Int32)(a:Int)(b f:LX):Gm:=
(Dl (Gk a 0)).bind λ_=>
some ((Cf h (GI.toZ a).toNat),0)
def FY:=ZN
def GF(j6:Int32->Int->LX->LX->Gm)(AK:Int32->Int->Gm)(b:LX)(a:Int)(f:LX)(h:Int32)(g:Int):Gm:=
if(Cb g 16)then
(Al b g).bind λm=>
(Al f g).bind λ_=>
(Al f g).bind λn=>
AK (Ac h (Da m n)) (Ac g 1)
else
j6 h a b f
def Uz:Nat->Int32->Int->Gm
|0,_,_=>none
|z+1,c,d=>GF FY (Uz z) e D O c d
def ZF b a f:=Uz b a f Ck
def FR(j4:LX->Int->LX->Int32->Int->Gm)(a:Int)(b f:LX):Gm:=
(Qz a b f).bind λk=>
if(Bg k 0)then
some (0,k)
else
(Dl (Gk (Ak a 1) 0)).bind λ_=>
j4 b a f (Fz (1:Int32) (GI.toZ (Ak a 1)).toNat) 0
def HW:=FR ZF
def NT:Option Int32:=
if(geq z 0)then
some 4
else
if(Cb z 4)then
some 2
else
some 1
abbrev Gi:=Option (Int×LX×LX×Int)
def ZP:Gi:=
some (z,e,O,0)
def GH:=ZP
def GG(j6:Int->LX->LX->Gi)(AK:Int->LX->Gi)(h:Int32)(f:LX)(g a:Int)(b:LX):Gi:=
if(Cb a 16)then
(Al f a).bind λm=>
if(geq m 0)then
AK (Ac a 1) b
else
if((Cb m 0)==(Cb h 0))then
(Al b a).bind λ_=>
(Al b a).bind λo=>
(NT a).bind λp=>
(Al b a).bind λ_=>
(Ia b a (Ac o p)).bind λu=>
AK (Ac a 1) u
else
(Al b a).bind λ_=>
(Al b a).bind λv=>
(NT a).bind λw=>
(Al b a).bind λ_=>
(Ia b a (Ak v w)).bind λy=>
AK (Ac a 1) y
else
j6 g b f
def Un:Nat->Int->LX->Gi
|0,_,_=>none
|z+1,c,d=>GG GH (Un z) J jg jh c d
def YZ h f g:=Un h f g Ck
def GP(j4:Int32->LX->Int->Int->LX->Gi)(g:Int)(k f:LX)(h:Int32):Gi:=
(Qz g k f).bind λn=>
if(Bg n 0)then
some (0,(List.replicate 16 (0:Int32)),(List.replicate 16 (0:Int32)),n)
else
if(geq h 0)then
some (g,k,f,0)
else
j4 h f g 0 k
def YM:=GP YZ
abbrev DP:=Option (Int×LX×LX×Int)
def bG:DP:=
(Al (Jo iy 1 ((16:Int)-(1:Int)) (CV iy 0 ((16:Int)-(0:Int)))) 0).bind λ_=>
(Ia (Jo iy 1 ((16:Int)-(1:Int)) (CV iy 0 ((16:Int)-(0:Int)))) 0 J).bind λz=>
some (jl,jg,z,0)
def LA:=bG
def Xq(j2:Int32->Int->LX->LX->DP)(b:Int)(f a:LX)(g:Int32):DP:=
(Qz b f a).bind λh=>
if(Bg h 0)then
some (0,(List.replicate 16 (0:Int32)),(List.replicate 16 (0:Int32)),h)
else
(
(YQ 16 1 16).bind λ_=>
(YQ 16 0 16).bind λ_=>
j2 g b f a)
def aT:=Xq LA
def HG:Option (Int×LX×LX):=
(YM z e O jk).bind λ(c,d,i,j)=>
(aT c d i J).bind λ(A,B,C,D)=>
some (A,B,C)
def YC:Option (Int32×Int×LX×LX×Int):=
(HW z e O).bind λ(c,d)=>
if(Bg d 0)then
some (0,0,(List.replicate 16 (0:Int32)),(List.replicate 16 (0:Int32)),d)
else
(HG z e O (Ac J c) J).bind λ(i,j,A)=>
some ((Ac J c),i,j,A,0)
def Ft:Option (Int32×Int×Int32×Int×LX×LX×Int):=
(Nc z J jl jg iy).bind λc=>
if(Bg c 0)then
some (0,0,0,0,(List.replicate 16 (0:Int32)),(List.replicate 16 (0:Int32)),c)
else
(Nd z J).bind λ(d,e)=>
(YC jl jg iy jk).bind λ(i,j,A,B,C)=>
(
some ((Ac i d),z,(Ac i d),j,A,B,C))
def OZ:Option Int:=
if((Cb z 1)||(Es z 6))then
some 2
else
if(Es (Aa e) 4000)then
some 4
else
(Dl (Bg z 0)).bind λ_=>
if(Bg (Gs (Aa e) z) 0)then
some 2
else
some 0
def Bw:Option (LX):=
(
(Bv ([]:LX) e).bind λz=>
some z)
abbrev Cs:=Option (LX×Int)
def bO:Cs:=
some (e,0)
def KB:=bO
def cE(Vk:Int->LX->Cs)(b a:Int)(h:LX):Cs:=
Vk (Ac a b) h
def KW Vk:=cE Vk
def JO(j20:Int->LX->Cs)(yP:Int->LX->Cs)(b a g:Int)(h:LX):Cs:=
if(Gk g 0)then
(Dl (decide (0<= (Ac g 1)/\ (Ac g 1)<((Ac a b)-a)))).bind λ_=>
(Dl (decide (0<=g/\g<((Ac a b)-a)))).bind λ_=>
(Al h (a+(Ac g 1))).bind λn=>
(Al h (a+g)).bind λo=>
(Dl (decide (0<=g/\g<((Ac a b)-a)))).bind λ_=>
(Ia h (a+g) (Ak n o)).bind λp=>
yP (Ak g 1) p
else
j20 a h
def Xx(Vk:Int->LX->Cs)(b a:Int):Nat->Int->LX->Cs
|0,_,_=>none
|q+1,g,h=>JO (KW Vk b) (Xx Vk b a q) b a g h
def JX Vk b a:=Xx Vk b a Ck
def JA(j18:Int->Int->LX->Cs)(b a:Int)(u:LX):Cs:=
j18 a (Ak (Ak ((Ac a b)-a) 1) 1) u
def cP Vk b:=JA (JX Vk b) b
def JR(j17:Int->LX->Cs)(j22:LX->Cs)(b a:Int)(f:LX):Cs:=
if(Cb a (Aa f))then
(YQ (Aa f) a (Ac a b)).bind λ_=>
if(Es (Ak ((Ac a b)-a) 1) 0)then
(Dl (decide (0<= (Ak ((Ac a b)-a) 1)/\ (Ak ((Ac a b)-a) 1)<((Ac a b)-a)))).bind λ_=>
Option.bind (Dl (decide (0<= (Ak (Ak ((Ac a b)-a) 1) 1)/\ (Ak (Ak ((Ac a b)-a) 1) 1)<((Ac a b)-a)))) λ_=>
(Al f (a+(Ak ((Ac a b)-a) 1))).bind λv=>
(Al f (a+(Ak (Ak ((Ac a b)-a) 1) 1))).bind λw=>
(Dl (decide (0<= (Ak ((Ac a b)-a) 1)/\ (Ak ((Ac a b)-a) 1)<((Ac a b)-a)))).bind λ_=>
(Ia f (a+(Ak ((Ac a b)-a) 1)) (Ac v (Fx w 2))).bind λy=>
j17 a y
else
j17 a f
else
j22 f
def Xs:Nat->Int->LX->Cs
|0,_,_=>none
|c+1,d,e=>JR (cP (Xs c) z) KB z d e
def cL b:=Xs b Ck
def RK(j12:Int->Int->LX->Cs)(b:Int)(k:LX):Cs:=
(OZ b k).bind λm=>
if(Bg m 0)then
some (([]:LX),m)
else
(Bw k).bind λaa=>
j12 b 0 aa
def eX:=RK cL
abbrev Bc:=Option (LX×Int)
def ER:Bc:=
(eX z e).bind λ(c,i)=>
if(Bg i 0)then
some (([]:LX),i)
else
(Ki d c).bind λj=>
if(Bg j 0)then
some (([]:LX),j)
else
some (c,0)
def Oq:=ER
def EZ(qG:Int-> (List (Int×Int32×(Int×LX×LX×Unit)×Unit))->LX->Bc)(a:Int)(f:LU)(b g:Int)(y:Int32)(v:Int)(h:List (Int×Int32×(Int×LX×LX×Unit)×Unit))(k:LX)(aa:Int)(w:Int32)(ab:Int)(ac ad:LX):Bc:=
if(Bg v 0)then
some (([]:LX),v)
else
(Ia h (Gs g a) (aa,w,(ab,ac,ad,()),())).bind λai=>
(Bv k ([y]:LX)).bind λaj=>
qG (Ac g 1) ai aj
def Pa qG:=EZ qG
def Ik(j16:Int->Int32->Int-> (List (Int×Int32×(Int×LX×LX×Unit)×Unit))->LX->Int->Int32->Int->LX->LX->Bc)(j18:Int->Int->LX->Bc)(f:LU)(a b g:Int)(h:List (Int×Int32×(Int×LX×LX×Unit)×Unit))(k:LX):Bc:=
if(Cb g (Aa f))then
(Al f g).bind λag=>
(Dl (Bg a 0)).bind λ_=>
(Al h (Gs g a)).bind λ_=>
(
(Al h (Gs g a)).bind λm=>
(
(Mn ag).bind λae=>
(
(Ft m.1 m.2.1 m.2.2.1.1 m.2.2.1.2.1 m.2.2.1.2.2.1 ae).bind λ(y,aa,w,ab,ac,ad,v)=>
j16 g y v h k aa w ab ac ad)))
else
j18 a b k
def Il:Nat->Int-> (List (Int×Int32×(Int×LX×LX×Unit)×Unit))->LX->Bc
|0,_,_,_=>none
|z+1,c,d,e=>Ik (Pa (Il z) jh cu jm) Oq cu jh jm c d e
def Pe f a b:=Il f a b Ck
def Pb(j13:LU->Int->Int->Int-> (List (Int×Int32×(Int×LX×LX×Unit)×Unit))->LX->Bc)(f:LU)(a b:Int)(n:List (Int×Int32×(Int×LX×LX×Unit)×Unit)):Bc:=
j13 f a b 0 n ([]:LX)
def FJ:=Pb Pe
def Pd(j12:LU->Int->Int-> (List (Int×Int32×(Int×LX×LX×Unit)×Unit))->Bc)(vM:Int-> (List (Int×Int32×(Int×LX×LX×Unit)×Unit))->Bc)(f:LU)(a b:Int)(o:LX)(p:Int)(n:List (Int×Int32×(Int×LX×LX×Unit)×Unit)):Bc:=
if(Cb p 6)then
(PX b o).bind λ(ak,af,ae,al,am,w)=>
(Al n p).bind λ_=>
(Ia n p (ak,af,(ae,al,am,()),())).bind λan=>
vM (Ac p 1) an
else
j12 f a b n
def Ip:Nat->Int-> (List (Int×Int32×(Int×LX×LX×Unit)×Unit))->Bc
|0,_,_=>none
|z+1,c,d=>Pd FJ (Ip z) cu jh jm ku c d
def FG f a b o:=Ip f a b o Ck
def Rq(j10:LU->Int->Int->LX->Int-> (List (Int×Int32×(Int×LX×LX×Unit)×Unit))->Bc)(a b:Int)(o:LX)(f:LU):Bc:=
j10 f a b o 0 (List.replicate 6 ((0:Int),(0:Int32),((0:Int),(List.replicate 16 (0:Int32)),(List.replicate 16 (0:Int32)),()),()))
def Zc:=Rq FG
def Pw:Option (LX×Int):=
(Jc z d).bind λc=>
if(Bg c 0)then
some (([]:LX),c)
else
if(Cb D 1)then
some (([]:LX),2)
else
(Dl (Bg z 0)).bind λ_=>
if(Es D (Fx 4000 z))then
some (([]:LX),2)
else
(CK X).bind λ(i,j)=>
if(Bg j 0)then
some (([]:LX),j)
else
(lE i).bind λ(A,B,C)=>
if(Bg C 0)then
some (([]:LX),C)
else
(CF z D A B).bind λ(E,F,G)=>
if(Bg G 0)then
some (([]:LX),G)
else
if(Gk (Ak B F) 8)then
some (([]:LX),12)
else
(Rc A B F (Ak B F)).bind λ(I,J)=>
if((Bg J 0)||(Bg I 0))then
some (([]:LX),12)
else
(Zc z d e E).bind λ(L,M)=>
some (L,M)
abbrev Bn:=Option (LB×Int)
def RX:Bn:=
some (c,0)
def AG:=RX
def SU(Dt:Int->LB->Bn)(b:Int)(a:LX)(f:Int)(h:LB):Bn:=
Dt (Ac f 1) h
def Zj Dt:=SU Dt
def Yy(j28:Int->LB->Bn)(yQ:Int->LB->Bn)(b:Int)(a:LX)(k:Int32)(f m:Int)(h:LB):Bn:=
if(Cb m (Fx b 8))then
(Dl (Gk (Da 8 m) 0)).bind λ_=>
(Bv h ([(Ap (Cf k (GI.toZ (Da 8 m)).toNat):UInt8)]:LB)).bind λp=>
yQ (Ac m 1) p
else
j28 f h
def Og(Dt:Int->LB->Bn)(b:Int)(a:LX)(k:Int32)(f:Int):Nat->Int->LB->Bn
|0,_,_=>none
|q+1,m,h=>Yy (Zj Dt b a) (Og Dt b a k f q) b a k f m h
def AJ Dt b a k f:=Og Dt b a k f Ck
def Yl(j26:Int32->Int->Int->LB->Bn)(b:Int)(a:LX)(f:Int)(g:LB)(k:Int32):Bn:=
j26 k f 0 g
def TC Dt b a:=Yl (AJ Dt b a) b a
def Zu(j25:Int->LB->Int32->Bn)(j30:LB->Bn)(b:Int)(a:LX)(f:Int)(g:LB):Bn:=
if(Cb f (Aa a))then
(Al a f).bind λn=>
if(geq b 8)then
j25 f g (Ac n 128)
else
j25 f g n
else
j30 g
def Oh:Nat->Int->LB->Bn
|0,_,_=>none
|c+1,d,i=>Zu (TC (Oh c) z e) AG z e d i
def SP b a:=Oh b a Ck
def CW(j16:Int->LX->Int->LB->Bn)(b:Int)(a:LX):Bn:=
(Ki b a).bind λo=>
if(Bg o 0)then
some (([]:LB),o)
else
j16 b a 0 ([]:LB)
def Nl:=CW SP
def Jb:Option Int:=
some (-1:Int)
def Eo:=Jb
def Eu(j6:Option Int)(AK:Int->Option Int)(a:LI)(b f:Int):Option Int:=
if(Cb f (Aa a))then
(Al a f).bind λg=>
if(geq b g)then
some f
else
AK (Ac f 1)
else
j6
def Ct:Nat->Int->Option Int
|0,_=>none
|c+1,d=>Eu Eo (Ct c) F z d
def Jh a b:=Ct a b Ck
def Et(j4:LI->Int->Int->Option Int)(a:LI)(b:Int):Option Int:=
j4 a b 0
def Fk:=Et Jh
def Er:Option Bool:=
(Fk F z).bind λc=>
some (Gk c 0)
def Iy:Option Bool:=
(Er ([(4:Int),(12:Int),(16:Int),(22:Int),(24:Int),(26:Int),(38:Int)]:LI) z).bind λc=>
some c
def ML:Option Int:=
if(!C)then
some 8
else
some 0
def Ed:=ML
def LD:Option Int:=
iw ((true==true)&&((geq (0:Int) (0:Int))&&true))
def Tq:=LD Ed
def IZ:Option Int:=
iw ((ji==true)&&((geq kg 0)&&true))
def Ku:=IZ Ed
def MP(j13:Bool->Int->Option Int)(g ax:LB)(ay az ab ba af b:Int)(n:Bool)(o:Int)(f:LI)(k:LB):Option Int:=
(Kx ay az ab ba af g).bind λdi=>
(Ae di).bind λ(dj,ai)=>
j13 dj ai
def Ta:=MP Ku
def KC:Option Int:=
iw ((ji==true)&&((geq kg 0)&&true))
def Hj:=KC Ed
def JL(j25:Bool->Int->Option Int)(g a:LB)(h p m u v b:Int)(n:Bool)(o:Int)(f:LI)(k:LB)(de:Int):Option Int:=
(Ep h p m u v).bind λ(dm,be)=>
if(Bg be 0)then
(Ae be).bind λ(aj,bg)=>
j25 aj bg
else
(Bo a de (Aa a)).bind λdn=>
(HU dn (Aa dm)).bind λ(dp,ab)=>
if(geq ab 24)then
j25 true 0
else
if(Bg ab 0)then
(Ae ab).bind λ(dq,af)=>
j25 dq af
else
(Bo a (Ac (Ac de (Da 4 (Aa dp))) 4) (Aa a)).bind λfc=>
j25 false 0
def Lo:=JL Hj
def JS(j25:Bool->Int->Option Int)(j24:LB->LB->Int->Int->Int->Int->Int->Int->Bool->Int->LI->LB->Int->Option Int)(bh:Bool)(bf:Int)(g a:LB)(h p m u v b:Int)(n:Bool)(o:Int)(f:LI)(k:LB):Option Int:=
if(Bg bf 0)then
(Ae bf).bind λ(dr,be)=>
j25 dr be
else
if(!bh)then
(Ae 26).bind λ(aj,bg)=>
j25 aj bg
else
j24 g a h p m u v b n o f k 8
def LZ:=JS Hj Lo
def MH(j15:Bool->Int->LB->LB->Int->Int->Int->Int->Int->Int->Bool->Int->LI->LB->Option Int)(g a:LB)(h p m u v b:Int)(n:Bool)(o:Int)(f:LI)(k:LB):Option Int:=
(Bo a 0 8).bind λds=>
(Ya ds g).bind λ(bh,bf)=>
j15 bh bf g a h p m u v b n o f k
def Sy:=MH LZ
def JK:Option Int:=
iw ((ji==true)&&((geq kg 0)&&true))
def He:=JK Ed
def Lk(j28:Bool->Int->Option Int)(y ac:Int)(g a:LB)(h p m u v b:Int)(n:Bool)(o:Int)(ak:LX)(f:LI)(k:LB):Option Int:=
if(Bg ac 0)then
(Ae ac).bind λ(bi,bj)=>
j28 bi bj
else
(Nl m ak).bind λ(bk,bb)=>
if(Bg bb 0)then
(Ae bb).bind λ(bl,bm)=>
j28 bl bm
else
(Bv k bk).bind λdv=>
(
(Bo a y (Aa a)).bind λdw=>
j28 false 0)
def Ug:=Lk He
def To(j27:Int->Int->LB->LB->Int->Int->Int->Int->Int->Int->Bool->Int->LX->LI->LB->Option Int)(y:Int)(g a:LB)(h p m u v b:Int)(n:Bool)(o:Int)(bc:LX)(ag f:LI)(k:LB):Option Int:=
(Al ag b).bind λ_=>
(Bo a 0 y).bind λdx=>
(Al ag b).bind λdy=>
(Um h p m u v).bind λ(dz,bd)=>
(Pw dz bd bc dy dx).bind λ(ak,ac)=>
j27 y ac g a h p m u v b n o ak f k
def JF:=To Ug
def Ml(j13:Bool->Int->Option Int)(j12:LB->LB->Int->Int->Int->Int->Int->Int->Bool->Int->LI->LB->Option Int)(j25:Bool->Int->Option Int)(j23:LB->LB->Int->Int->Int->Int->Int->Int->Bool->Int->LI->LB->Option Int)(j24:LB->LB->Int->Int->Int->Int->Int->Int->Bool->Int->LI->LB->Int->Option Int)(j28:Bool->Int->Option Int)(j26:Int->LB->LB->Int->Int->Int->Int->Int->Int->Bool->Int->LX->LI->LI->LB->Option Int)(j22:Bool->Option Int)(j21:Option Int)(al am:LB)(an ao ap aq ar:Int)(au:LI)(ad:Int)(ae:LB)(aa:Bool)(w:Int):Option Int:=
if(Es (Aa al) 64)then
some 8
else
if((geq w 0)&&(!aa))then
(Cv al am an ao ap aq ar au ad ae aa w).bind λ(g,a,h,p,m,u,v,f,b,k,n,o)=>
(Xg al am an ao ap aq ar au ad ae aa w).bind λbn=>
if bn then
if(geq h 0)then
(Fl a).bind λ(ah,av)=>
if(geq av 24)then
j13 true 0
else
if(Bg av 0)then
(Ae av).bind λ(bp,bq)=>
j13 bp bq
else
(Bo a ah (Aa a)).bind λbr=>
(Ln br).bind λaj=>
if aj then
j13 true 0
else
(Bo a ah (Aa a)).bind λbs=>
(Kh bs).bind λ(ay,az,ab,ba,af,aw)=>
if(geq aw 24)then
j13 true 0
else
if(Bg aw 0)then
(Ae aw).bind λ(bt,bu)=>
j13 bt bu
else
(
(Bo a (Ac ah 22) (Aa a)).bind λax=>
(
j12 g ax ay az ab ba af b n o f k))
else
if(geq (Aa f) 0)then
if(geq h 2)then
if(Cb (Aa a) 8)then
j25 true 0
else
j23 g a h p m u v b n o f k
else
j24 g a h p m u v b n o f k 0
else
if(Cb b (Aa f))then
(Al f b).bind λ_=>
(Al f b).bind λy=>
if(Cb (Aa a) y)then
j28 true 0
else
(Gx g).bind λ(bc,ai)=>
if(Bg ai 0)then
(Ae ai).bind λ(bv,bw)=>
j28 bv bw
else
(Ep h p m u v).bind λ(ag,bx)=>
if((Bg bx 0)||(Gk b (Aa ag)))then
(Ae 8).bind λ(bz,da)=>
j28 bz da
else
j26 y g a h p m u v b n o bc ag f k
else
if(Es (Aa a) 4000)then
(Ae 38).bind λ(db,bd)=>
j22 ((db==true)&&((geq bd 0)&&true))
else
j21
else
j22 false
else
if((geq (Aa am) 0)&&(geq (Aa au) 0))then
if((((geq an 0)&&((geq ao 0)&&((geq ap 0)&&((geq aq 0)&&((geq ar 0)&&true)))))&&(geq ad 0))&&(dU (Aa ae) 12000))then
if(geq w 0)then
j22 true
else
if(!aa)then
(Iy w).bind λdc=>
j22 dc
else
j22 false
else
j22 false
else
if((false&&(geq ad 0))&&(dU (Aa ae) 12000))then
if(geq w 0)then
j22 true
else
if(!aa)then
(Iy w).bind λdd=>
j22 dd
else
j22 false
else
j22 false
def Jf:=Ml Ku Ta Hj Sy Lo He JF Ed Tq
def Ks:Option (Int×Int):=
(Jf c G z d i I L N V j C A).bind λe=>
if(Bg e 0)then
some (0,e)
else
some ((Ac (Aa G) (Da 8 (Aa N))),0)
def Gn:Option (Int×Int):=
if((Cb z 0)||(Es z 100000))then
some (0,2)
else
some ((Ac (SB z 8022) 8000),0)
def SE:Option Bool:=
if ji then
some ((Gk iq 0)&&(dU iq 100000))
else
if(geq jy 3)then
some (geq iq 0)
else
some false
def SL:=SE
def RU(j2:UInt8->Int->Bool->Option Bool)(a:UInt8)(b:Int):Option Bool:=
if(geq a 1)then
j2 a b (geq a 1)
else
j2 a b (geq a 2)
def LM:=RU SL
def CP:Option Bool:=
(LM jy iq).bind λz=>
some (!z)
def NR:Option Int:=
some 0
def OY:=NR
def PB:Option Int:=
if ng then
some 2
else
mq
def PG:=PB OY
def NZ:Option Int:=
iw ji
def Wc:=NZ PG
def OO:Option Int:=
iw (Gk (-1:Int) (0:Int))
def Wg:=OO Wc
def OK(qH:Int->Option Int)(a:List (UInt8×Int×Unit))(b:Int):Option Int:=
qH (Ac b 1)
def PW qH:=OK qH
def PD(j18:Bool->Option Int)(j15:Int->Option Int)(a:List (UInt8×Int×Unit))(b:Int)(g:Bool):Option Int:=
if g then
j18 (Gk b 0)
else
j15 b
def Vp qH a:=PD Wc (PW qH a) a
def Wd(j14:Int->Bool->Option Int)(j17:Option Int)(a:List (UInt8×Int×Unit))(b:Int):Option Int:=
if(Cb b (Aa a))then
(Al a b).bind λh=>
(CP h.1 h.2.1).bind λg=>
j14 b g
else
j17
def Md:Nat->Int->Option Int
|0,_=>none
|z+1,c=>Wd (Vp (Md z) P) Wg P c
def OS a:=Md a Ck
def Zo(j11:(List (UInt8×Int×Unit))->Int->Option Int)(a:List (UInt8×Int×Unit)):Option Int:=
if(Es (Aa a) 200)then
some 4
else
j11 a 0
def Xr:=Zo OS
def Tt:Option (LB×LB×Int×Int×Int×Int×Int×LI×Int×LB×Bool×Int×Int):=
if(Es (Aa c) 64)then
some (([]:LB),([]:LB),0,0,0,0,0,([]:LI),0,([]:LB),false,0,2)
else
some (c,([]:LB),0,0,0,0,0,([]:LI),0,([]:LB),false,0,0)
def Jg:Option (LB×LB×Int×Int×Int×Int×Int×LI×Int×LB×Bool×Int×Int):=
(Jf c G z d i I L N V j C A).bind λe=>
if(Bg e 0)then
some (([]:LB),([]:LB),0,0,0,0,0,([]:LI),0,([]:LB),false,0,e)
else
if(Bg A 0)then
(
(
(Cv c G z d i I L N V j C A).bind λ(B,D,E,F,J,M,O,P,R,T,U,X)=>
(
some (B,D,E,F,J,M,O,P,R,T,U,X,A))))
else
if C then
(Cv c G z d i I L N V j C A).bind λ(Y,Z,cu,eu,ig,iq,iw,iy,jf,jg,jh,ji)=>
some (Y,Z,cu,eu,ig,iq,iw,iy,jf,jg,jh,ji,36)
else
(Cv c G z d i I L N V j C A).bind λ(jk,jl,jm,jo,jq,jr,jv,jw,jy,kg,ko,kr)=>
some (jk,jl,jm,jo,jq,jr,jv,jw,jy,kg,ko,kr,0)
def Yf(b g:LB)(h k m n o:Int)(p:LI)(u:Int)(f:LB)(v:Bool)(w a:Int):Option (LB×LB×Int×Int×Int×Int×Int×LI×Int×LB×Bool×Int×Int):=
some (b,([]:LB),0,0,0,0,0,([]:LI),0,f,false,a,a)
abbrev Ad:=Option (LB×LB×Int×Int×Int×Int×Int×LI×Int×LB×Bool×Int×Int)
def NB(Pr:LB->Int->Int->Int->Int->Int->Int->LI->LB->Ad)(a:LB)(b:Bool)(f:Int)(av:LB)(aw ax ay az ba bb:Int)(dy:Bool)(dk:Int)(bc:LI)(bd:LB):Ad:=
if dy then
(Cv a av aw ax ay az ba bc bb bd b f).bind λ(dz,fa,fb,ap,be,ae,fc,fd,fe,ff,fg,af)=>
some (dz,fa,fb,ap,be,ae,fc,fd,fe,ff,fg,af,0)
else
if(Bg dk 0)then
(Yf a av aw ax ay az ba bc bb bd b f dk).bind λ(fh,fi,fj,fk,fl,fm,fn,fo,fp,fq,fs,ft,fu)=>
some (fh,fi,fj,fk,fl,fm,fn,fo,fp,fq,fs,ft,fu)
else
Pr av aw ax ay az ba bb bc bd
def Ex Pr:=NB Pr
def PR(j71:LB->Int->Int->Int->Int->Int->Int->Bool->Int->LI->LB->Ad)(a:LB)(b:Bool)(f:Int)(g:LB)(m o n p u h:Int)(k:LI)(v:LB):Ad:=
j71 g m o n p u h true 0 k v
def Wj Pr a b f:=PR (Ex Pr a b f) a b f
def OU(j71:LB->Int->Int->Int->Int->Int->Int->Bool->Int->LI->LB->Ad)(a:LB)(b:Bool)(f h:Int)(k:LI)(v:LB)(fv:Bool)(fw:Int)(fx:LB)(fy fz ga gb gc:Int):Ad:=
j71 fx fy fz ga gb gc h fv fw k v
def Mm Pr a b f:=OU (Ex Pr a b f) a b f
def PJ(j62:Int->LI->LB->Bool->Int->LB->Int->Int->Int->Int->Int->Ad)(a:LB)(b:Bool)(f:Int)(ag:LB)(ah ai y aj aa h:Int)(k:LI)(v:LB):Ad:=
(Kx ah ai y aj aa a).bind λgd=>
(Ae gd).bind λ(ge,ak)=>
j62 h k v ge ak ag ah ai y aj aa
def Vq Pr a b f:=PJ (Mm Pr a b f) a b f
def OT(j71:LB->Int->Int->Int->Int->Int->Int->Bool->Int->LI->LB->Ad)(a:LB)(b:Bool)(f m o n p u h:Int)(v:LB)(bf:Bool)(bg:Int)(bh:LB)(bi:LI):Ad:=
j71 bh m o n p u h bf bg bi v
def Hz Pr a b f:=OT (Ex Pr a b f) a b f
def Mp(j75:Int->Int->Int->Int->Int->Int->LB->Bool->Int->LB->LI->Ad)(a:LB)(b:Bool)(f:Int)(g:LB)(m o n p u h:Int)(k:LI)(v:LB)(dl:Int):Ad:=
(Ep m o n p u).bind λ(gf,ar)=>
if(Bg ar 0)then
(Ae ar).bind λ(al,bj)=>
j75 m o n p u h v al bj g k
else
(Bo g dl (Aa g)).bind λgg=>
(HU gg (Aa gf)).bind λ(dm,y)=>
if(geq y 24)then
j75 m o n p u h v true 0 g k
else
if(Bg y 0)then
(Ae y).bind λ(gh,aa)=>
j75 m o n p u h v gh aa g k
else
(Bo g (Ac (Ac dl (Da 4 (Aa dm))) 4) (Aa g)).bind λgi=>
j75 m o n p u h v false 0 gi dm
def Wy Pr a b f:=Mp (Hz Pr a b f) a b f
def Wp(j75:Int->Int->Int->Int->Int->Int->LB->Bool->Int->LB->LI->Ad)(j74:LB->Int->Int->Int->Int->Int->Int->LI->LB->Int->Ad)(a:LB)(b:Bool)(f:Int)(bk:Bool)(au:Int)(g:LB)(m o n p u h:Int)(k:LI)(v:LB):Ad:=
if(Bg au 0)then
(Ae au).bind λ(gj,ar)=>
j75 m o n p u h v gj ar g k
else
if(!bk)then
(Ae 26).bind λ(al,bj)=>
j75 m o n p u h v al bj g k
else
j74 g m o n p u h k v 8
def MZ Pr a b f:=Wp (Hz Pr a b f) (Wy Pr a b f) a b f
def Vs(j64:Bool->Int->LB->Int->Int->Int->Int->Int->Int->LI->LB->Ad)(a:LB)(b:Bool)(f:Int)(g:LB)(m o n p u h:Int)(k:LI)(v:LB):Ad:=
(Bo g 0 8).bind λgk=>
(Ya gk a).bind λ(bk,au)=>
j64 bk au g m o n p u h k v
def NJ Pr a b f:=Vs (MZ Pr a b f) a b f
def OL(j71:LB->Int->Int->Int->Int->Int->Int->Bool->Int->LI->LB->Ad)(a:LB)(b:Bool)(f m o n p u:Int)(k:LI)(bl:Bool)(bm:Int)(bn:LB)(bp:Int)(bq:LB):Ad:=
j71 bn m o n p u bp bl bm k bq
def Mk Pr a b f:=OL (Ex Pr a b f) a b f
def Mi(j78:Int->Int->Int->Int->Int->LI->Bool->Int->LB->Int->LB->Ad)(a:LB)(b:Bool)(f w ab:Int)(g:LB)(m o n p u h:Int)(am:LX)(k:LI)(v:LB):Ad:=
if(Bg ab 0)then
(Ae ab).bind λ(br,bs)=>
j78 m o n p u k br bs g h v
else
(Nl n am).bind λ(bt,af)=>
if(Bg af 0)then
(Ae af).bind λ(bu,bv)=>
j78 m o n p u k bu bv g h v
else
(Bv v bt).bind λbw=>
(
(Bo g w (Aa g)).bind λbx=>
j78 m o n p u k false 0 bx (Ac h 1) bw)
def Wa Pr a b f:=Mi (Mk Pr a b f) a b f
def Vr(j77:Int->Int->LB->Int->Int->Int->Int->Int->Int->LX->LI->LB->Ad)(a:LB)(b:Bool)(f w:Int)(g:LB)(m o n p u h:Int)(aq:LX)(ac k:LI)(v:LB):Ad:=
(Al ac h).bind λ_=>
(Bo g 0 w).bind λgl=>
(Al ac h).bind λgm=>
(Um m o n p u).bind λ(be,ae)=>
(Pw be ae aq gm gl).bind λ(am,ab)=>
j77 w ab g m o n p u h am k v
def PY Pr a b f:=Vr (Wa Pr a b f) a b f
def Ly(j62:Int->LI->LB->Bool->Int->LB->Int->Int->Int->Int->Int->Ad)(j61:LB->Int->Int->Int->Int->Int->Int->LI->LB->Ad)(j75:Int->Int->Int->Int->Int->Int->LB->Bool->Int->LB->LI->Ad)(j73:LB->Int->Int->Int->Int->Int->Int->LI->LB->Ad)(j74:LB->Int->Int->Int->Int->Int->Int->LI->LB->Int->Ad)(j78:Int->Int->Int->Int->Int->LI->Bool->Int->LB->Int->LB->Ad)(j76:Int->LB->Int->Int->Int->Int->Int->Int->LX->LI->LI->LB->Ad)(j71:LB->Int->Int->Int->Int->Int->Int->Bool->Int->LI->LB->Ad)(j70:LB->Int->Int->Int->Int->Int->Int->LI->LB->Ad)(a:LB)(b:Bool)(f:Int)(g:LB)(m o n p u h:Int)(k:LI)(v:LB):Ad:=
if(geq m 0)then
(Fl g).bind λ(ad,an)=>
if(geq an 24)then
j62 h k v true 0 g m o n p u
else
if(Bg an 0)then
(Ae an).bind λ(bz,da)=>
j62 h k v bz da g m o n p u
else
(Bo g ad (Aa g)).bind λdb=>
(Ln db).bind λal=>
if al then
j62 h k v true 0 g m o n p u
else
(Bo g ad (Aa g)).bind λdc=>
(Kh dc).bind λ(ah,ai,y,aj,aa,ao)=>
if(geq ao 24)then
j62 h k v true 0 g m o n p u
else
if(Bg ao 0)then
(Ae ao).bind λ(dd,de)=>
j62 h k v dd de g m o n p u
else
(
(Bo g (Ac ad 22) (Aa g)).bind λag=>
(
j61 ag ah ai y aj aa h k v))
else
if(geq (Aa k) 0)then
if(geq m 2)then
if(Cb (Aa g) 8)then
j75 m o n p u h v true 0 g k
else
j73 g m o n p u h k v
else
j74 g m o n p u h k v 0
else
if(Cb h (Aa k))then
(Al k h).bind λ_=>
(Al k h).bind λw=>
if(Cb (Aa g) w)then
j78 m o n p u k true 0 g h v
else
(Gx a).bind λ(aq,ak)=>
if(Bg ak 0)then
(Ae ak).bind λ(df,dg)=>
j78 m o n p u k df dg g h v
else
(Ep m o n p u).bind λ(ac,dh)=>
if((Bg dh 0)||(Gk h (Aa ac)))then
(Ae 8).bind λ(di,ap)=>
j78 m o n p u k di ap g h v
else
j76 w g m o n p u h aq ac k v
else
if(Es (Aa g) 4000)then
(Ae 38).bind λ(dj,ae)=>
j71 g m o n p u h dj ae k v
else
j70 g m o n p u h k v
def Bt:Nat->LB->Int->Int->Int->Int->Int->Int->LI->LB->Ad
|0,_,_,_,_,_,_,_,_,_=>none
|z+1,d,e,i,j,B,D,E,F,G=>Ly (Mm (Bt z) c C A) (Vq (Bt z) c C A) (Hz (Bt z) c C A) (NJ (Bt z) c C A) (Wy (Bt z) c C A) (Mk (Bt z) c C A) (PY (Bt z) c C A) (Ex (Bt z) c C A) (Wj (Bt z) c C A) c C A d e i j B D E F G
def ON a b f:=Bt a b f Ck
def Zt(j37:LB->Bool->Int->LB->Int->Int->Int->Int->Int->Int->LI->LB->Ad)(gn go:LB)(gp gq gr gs gt:Int)(gu:LI)(gv:Int)(gw:LB)(gx:Bool)(gy:Int)(gz:LB):Ad:=
(Jg gn go gp gq gr gs gt gu gv gw gx gy).bind λ(a,dn,dp,dq,dr,ds,dt,du,dv,dw,b,f,dx)=>
if(Bg dx 0)then
some (a,dn,dp,dq,dr,ds,dt,du,dv,dw,b,f,dx)
else
(Bv dn gz).bind λha=>
j37 a b f ha dp dq dr ds dt dv du dw
def En:=Zt ON
def Mt:Option (LB×LB×Int×Int×Int×Int×Int×LI×Int×LB×Bool×Int×LB×Int):=
(Jf c G z d i I L N V j C A).bind λe=>
if(Bg e 0)then
some (([]:LB),([]:LB),0,0,0,0,0,([]:LI),0,([]:LB),false,0,([]:LB),e)
else
if(Cb eu 0)then
some (([]:LB),([]:LB),0,0,0,0,0,([]:LI),0,([]:LB),false,0,([]:LB),2)
else
(Cv c G z d i I L N V j C A).bind λ(B,D,E,F,J,M,O,P,R,T,U,X)=>
(Bo T 0 (Cq eu (Aa T))).bind λY=>
(Kk Y).bind λZ=>
(Bo T (Cq eu (Aa T)) (Aa T)).bind λcu=>
some (B,D,E,F,J,M,O,P,R,cu,U,X,Z,0)
abbrev IP:=Option (Int×Int)
def fT:IP:=
(Bo c (Ak (Aa c) 32) (Aa c)).bind λz=>
(EI z 0).bind λ(d,e,i)=>
if i then
if(Cb (Ak (Aa c) 32) d)then
some (0,24)
else
some ((Ac d 32),0)
else
(Bo c (Ak (Aa c) 32) (Aa c)).bind λj=>
(EI j 2147483648).bind λ(A,B,C)=>
if(!C)then
some (0,12)
else
if(Cb (Aa c) (Ac A 64))then
some (0,24)
else
(Bo c (Ak (Aa c) (Ac A 64)) (Ac (Ak (Aa c) (Ac A 64)) 32)).bind λD=>
(TG A B 2684354560).bind λE=>
(Hu D E).bind λF=>
if(!F)then
some (0,12)
else
some ((Ac A 64),0)
def dV:=fT
def fE(j2:LB->IP)(a:LB):IP:=
if(Cb (Ak (Aa a) 32) 0)then
some (0,6)
else
(Bo a (Ak (Aa a) 32) (Aa a)).bind λv=>
(Gt v ([(65:UInt8),(80:UInt8),(69:UInt8),(84:UInt8),(65:UInt8),(71:UInt8),(69:UInt8),(88:UInt8)]:LB)).bind λw=>
if(!w)then
some (0,6)
else
j2 a
def eQ:=fE dV
abbrev Cj:=Option (Int×Int)
def OV:Cj:=
some (z,0)
def Ws:=OV
def PO(lS:Int->LB->Cj)(a:Int)(g:LB):Cj:=
lS (Ac a 1) g
def PL lS:=PO lS
def PK(j12:Int->LB->Cj)(a f:Int)(b:LB):Cj:=
if(geq f 0)then
some (0,38)
else
(Bo b 0 (Ak (Aa b) f)).bind λg=>
j12 a g
def Vz lS:=PK (PL lS)
def Zz(j11:Int->Int->LB->Cj)(j14:Int->Cj)(a:Int)(b:LB):Cj:=
if(Es (Aa b) 0)then
(eQ b).bind λ(f,k)=>
j11 a f b
else
j14 a
def Ns:Nat->Int->LB->Cj
|0,_,_=>none
|q+1,a,b=>Zz (Vz (Ns q)) Ws a b
def SO:=Ns Ck
def Zr(j8:Int->LB->Cj)(h:LB):Cj:=
if(Es (Aa h) 4000)then
some (0,38)
else
j8 0 h
def KD:=Zr SO
def BJ(p a:LB)(g u v w y:Int)(b:LI)(h:Int)(aa:LB)(ab:Bool)(ac:Int):Option Int:=
if(geq g 0)then
(Fl a).bind λ(k,f)=>
if(Bg f 0)then
some f
else
(Bo a k (Aa a)).bind λm=>
(Kh m).bind λ(ad,ae,af,ag,ah,n)=>
some n
else
if((Cb h (Aa b))||(geq (Aa b) 0))then
some 24
else
(KD a).bind λ(ai,o)=>
some o
def Lg:Option (LB×LB×Int×Int×Int×Int×Int×LI×Int×LB×Bool×Int×Int):=
(Jg c G z d i I L N V j C A).bind λ(e,B,D,E,F,J,M,O,P,R,T,U,X)=>
if(Bg X 0)then
some (e,B,D,E,F,J,M,O,P,R,T,U,X)
else
(BJ e B D E F J M O P R T U).bind λY=>
if(Bg Y 0)then
(Yf e B D E F J M O P R T U Y).bind λ(Z,cu,eu,ig,iq,iw,iy,jf,jg,jh,ji,jk,jl)=>
some (Z,cu,eu,ig,iq,iw,iy,jf,jg,jh,ji,jk,jl)
else
some (e,([]:LB),0,0,0,0,0,([]:LI),0,R,true,0,0)
abbrev Aq:=Option (LB×LB×Int×Int×Int×Int×Int×LI×Int×LB×Bool×Int×(List (Int×LB×Unit))×Int)
def LH(f:LB)(g h k m n o:Int)(p:LB)(u:Bool)(v:Int)(a:LB)(aa:List (Int×LB×Unit))(w:LB)(y:LI):Aq:=
some (f,w,g,h,k,m,n,y,o,p,u,v,aa,0)
def JP:=LH
def MB(j32:LB->Int->Int->Int->Int->Int->Int->LB->Bool->Int->LB-> (List (Int×LB×Unit))->LB->LI->Aq)(aa:List (Int×LB×Unit))(f:LB)(g h k m n o:Int)(p:LB)(u:Bool)(v:Int)(a w:LB)(y:LI):Aq:=
j32 f g h k m n o p u v a aa w y
def Sp:=MB JP
def KX(Vl:Int->LB->Int->Int->Int->Int->Int->Int->LB->Bool->Int->LB-> (List (Int×LB×Unit))->LB->LI->Aq)(b:List (UInt8×Int×Unit))(ab:Int)(dm:LB)(dn dp dq dr ds dt:Int)(du:LB)(dv:Bool)(dw:Int)(dx:LB)(dy:List (Int×LB×Unit))(dz:LB)(fa:LI):Aq:=
Vl (Ac ab 1) dm dn dp dq dr ds dt du dv dw dx dy dz fa
def Eg Vl:=KX Vl
def Le(j29:Int->LB->Int->Int->Int->Int->Int->Int->LB->Bool->Int->LB-> (List (Int×LB×Unit))->LB->LI->Aq)(b:List (UInt8×Int×Unit))(ac:UInt8×Int×Unit)(a:LB)(ad ab:Int)(f w:LB)(g h k m n:Int)(y:LI)(o:Int)(p:LB)(u:Bool)(v:Int)(ae:LB)(af ag ah ai aj ak:Int)(al:LB)(am:Bool)(an:Int)(aa:List (Int×LB×Unit))(ao:LB)(ap:LI):Aq:=
(
(Bo a (Cq ac.2.1 (Aa a)) (Aa a)).bind λbv=>
(Bv aa ([(ad,([]:LB),())]:List (Int×LB×Unit))).bind λar=>
j29 ab ae af ag ah ai aj ak al am an bv ar ao ap)
def Uf Vl b:=Le (Eg Vl b) b
def MT(j29:Int->LB->Int->Int->Int->Int->Int->Int->LB->Bool->Int->LB-> (List (Int×LB×Unit))->LB->LI->Aq)(b:List (UInt8×Int×Unit))(au ab:Int)(f w:LB)(g h k m n:Int)(y:LI)(o:Int)(p:LB)(u:Bool)(v:Int)(a av:LB)(aw ax ay az ba bb:Int)(bc:LB)(bd:Bool)(be:Int)(bf:LB)(aa:List (Int×LB×Unit))(ar:LB)(bg:LI):Aq:=
(Bv aa ([(au,bf,())]:List (Int×LB×Unit))).bind λfb=>
j29 ab av aw ax ay az ba bb bc bd be a fb ar bg
def Sn Vl b:=MT (Eg Vl b) b
def MK(j29:Int->LB->Int->Int->Int->Int->Int->Int->LB->Bool->Int->LB-> (List (Int×LB×Unit))->LB->LI->Aq)(b:List (UInt8×Int×Unit))(bh ab:Int)(f w:LB)(g h k m n:Int)(y:LI)(o:Int)(p:LB)(u:Bool)(v:Int)(a bi:LB)(bj bk bl bm bn bp:Int)(bq:LB)(br:Bool)(bs:Int)(aa:List (Int×LB×Unit))(bt:LB)(bu:LI):Aq:=
(Bv aa ([(bh,([]:LB),())]:List (Int×LB×Unit))).bind λfc=>
j29 ab bi bj bk bl bm bn bp bq br bs a fc bt bu
def Tg Vl b:=MK (Eg Vl b) b
def Lc(j26:(UInt8×Int×Unit)->LB->Int->Int->LB->LB->Int->Int->Int->Int->Int->LI->Int->LB->Bool->Int->LB->Int->Int->Int->Int->Int->Int->LB->Bool->Int-> (List (Int×LB×Unit))->LB->LI->Aq)(j33:Int->Int->LB->LB->Int->Int->Int->Int->Int->LI->Int->LB->Bool->Int->LB->LB->Int->Int->Int->Int->Int->Int->LB->Bool->Int->LB-> (List (Int×LB×Unit))->LB->LI->Aq)(j34:Int->Int->LB->LB->Int->Int->Int->Int->Int->LI->Int->LB->Bool->Int->LB->LB->Int->Int->Int->Int->Int->Int->LB->Bool->Int-> (List (Int×LB×Unit))->LB->LI->Aq)(j29:Int->LB->Int->Int->Int->Int->Int->Int->LB->Bool->Int->LB-> (List (Int×LB×Unit))->LB->LI->Aq)(j31:(List (Int×LB×Unit))->LB->Int->Int->Int->Int->Int->Int->LB->Bool->Int->LB->LB->LI->Aq)(b:List (UInt8×Int×Unit))(ab:Int)(f:LB)(g h k m n o:Int)(p:LB)(u:Bool)(v:Int)(a:LB)(aa:List (Int×LB×Unit))(w:LB)(y:LI):Aq:=
if(Cb ab (Aa b))then
(Al b ab).bind λac=>
if(geq ac.1 1)then
(
(
(
(Bo a 0 (Cq ac.2.1 (Aa a))).bind λaq=>
(
(En f w g h k m n y o p u v aq).bind λ(ae,ao,af,ag,ah,ai,aj,ap,ak,al,am,an,ad)=>
j26 ac a ad ab f w g h k m n y o p u v ae af ag ah ai aj ak al am an aa ao ap))))
else
if(geq ac.1 2)then
(
(
(
(Mt f w g h k m n y o p u v ac.2.1).bind λ(av,ar,aw,ax,ay,az,ba,bg,bb,bc,bd,be,bf,au)=>
j33 au ab f w g h k m n y o p u v a av aw ax ay az ba bb bc bd be bf aa ar bg)))
else
if(geq ac.1 3)then
(
(
(
(Lg f w g h k m n y o p u v).bind λ(bi,bt,bj,bk,bl,bm,bn,bu,bp,bq,br,bs,bh)=>
j34 bh ab f w g h k m n y o p u v a bi bj bk bl bm bn bp bq br bs aa bt bu)))
else
j29 ab f g h k m n o p u v a aa w y
else
j31 aa f g h k m n o p u v a w y
def Ec:Nat->Int->LB->Int->Int->Int->Int->Int->Int->LB->Bool->Int->LB-> (List (Int×LB×Unit))->LB->LI->Aq
|0,_,_,_,_,_,_,_,_,_,_,_,_,_,_,_=>none
|z+1,c,d,e,i,j,A,B,C,D,E,F,G,I,J,L=>Lc (Uf (Ec z) P) (Sn (Ec z) P) (Tg (Ec z) P) (Eg (Ec z) P) Sp P c d e i j A B C D E F G I J L
def LY b:=Ec b Ck
def Vv(j17:(List (UInt8×Int×Unit))->Int->LB->Int->Int->Int->Int->Int->Int->LB->Bool->Int->LB-> (List (Int×LB×Unit))->LB->LI->Aq)(fd fe:LB)(b:List (UInt8×Int×Unit)):Aq:=
(Xr b).bind λbx=>
if(Bg bx 0)then
some (([]:LB),([]:LB),0,0,0,0,0,([]:LI),0,([]:LB),false,0,([]:List (Int×LB×Unit)),bx)
else
(Tt fd).bind λ(ff,fg,fh,fi,fj,fk,fl,fm,fn,fo,fp,fq,bz)=>
if(Bg bz 0)then
some (([]:LB),([]:LB),0,0,0,0,0,([]:LI),0,([]:LB),false,0,([]:List (Int×LB×Unit)),bz)
else
j17 b 0 ff fh fi fj fk fl fn fo fp fq fe ([]:List (Int×LB×Unit)) fg fm
def GK:=Vv LY
abbrev Dv:=Option (Int×Int×Int)
def SD:Dv:=
some (z,d,0)
def Yq:=SD
def RP(tF:LB->Int->Int->Int->LB->Int->Int->Int->Int->Int->Int->LB->Bool->Int->LB->LI->Dv)(a:List (UInt8×Int×Unit))(b f g:Int)(ax af:LB)(ag ah ai aj ak al:Int)(ae:LB)(am:Bool)(an:Int)(ao:LB)(ap:LI):Dv:=
(Ks af ao ag ah ai aj ak ap al ae am an).bind λ(ay,aq)=>
if(Bg aq 0)then
some (0,0,aq)
else
tF ax (SB b ay) (SB f (Aa ae)) (Ac g 1) af ag ah ai aj ak al ae am an ao ap
def Ym tF:=RP tF
def CJ(j10:Int->Int->Int->LB->LB->Int->Int->Int->Int->Int->Int->LB->Bool->Int->LB->LI->Dv)(j12:Int->Int->Dv)(a:List (UInt8×Int×Unit))(h:LB)(b f g:Int)(k:LB)(m n o p u v:Int)(w:LB)(y:Bool)(aa:Int)(ab:LB)(ac:LI):Dv:=
if(Cb g (Aa a))then
(Al a g).bind λad=>
if(geq ad.1 1)then
(Bo h 0 (Cq ad.2.1 (Aa h))).bind λaz=>
(En k ab m n o p u ac v w y aa az).bind λ(ba,bb,bc,bd,be,bf,bg,bh,bi,bj,bk,bl,fa)=>
(Bo h (Cq ad.2.1 (Aa h)) (Aa h)).bind λbm=>
j10 b f g bm ba bc bd be bf bg bi bj bk bl bb bh
else
if(geq ad.1 2)then
(Mt k ab m n o p u ac v w y aa ad.2.1).bind λ(bn,bp,bq,br,bs,bt,bu,bv,bw,bx,bz,da,fb,fc)=>
j10 b f g h bn bq br bs bt bu bw bx bz da bp bv
else
if(geq ad.1 3)then
(Lg k ab m n o p u ac v w y aa).bind λ(db,dc,dd,de,df,dg,dh,di,dj,dk,dl,dm,fd)=>
j10 b f g h db dd de df dg dh dj dk dl dm dc di
else
j10 b f g h k m n o p u v w y aa ab ac
else
j12 b f
def Rw:Nat->LB->Int->Int->Int->LB->Int->Int->Int->Int->Int->Int->LB->Bool->Int->LB->LI->Dv
|0,_,_,_,_,_,_,_,_,_,_,_,_,_,_,_,_=>none
|z+1,c,d,e,i,j,A,B,C,D,E,F,G,I,J,L,M=>CJ (Ym (Rw z) P) Yq P c d e i j A B C D E F G I J L M
def UH a:=Rw a Ck
def CN(j7:(List (UInt8×Int×Unit))->LB->Int->Int->Int->LB->Int->Int->Int->Int->Int->Int->LB->Bool->Int->LB->LI->Dv)(ar au:LB)(a:List (UInt8×Int×Unit)):Dv:=
(GK ar au a).bind λ(fe,ff,fg,fh,fi,fj,fk,fl,fm,fn,fo,fp,fq,av)=>
if(Bg av 0)then
some (0,0,av)
else
(Tt ar).bind λ(dn,dp,dq,dr,ds,dt,du,dv,dw,dx,dy,dz,aw)=>
if(Bg aw 0)then
some (0,0,aw)
else
j7 a au 0 0 0 dn dq dr ds dt du dw dx dy dz dp dv
def Nf:=CN UH
def CQ:Option (Int×Int×Int×LB×LB×LX×(List LB)×LB×Bool×Int×Int):=
(Uv z d i j).bind λ(c,e)=>
if(!e)then
some (0,0,0,([]:LB),([]:LB),([]:LX),([]:List LB),([]:LB),false,0,2)
else
some (z,d,i,j,([]:LB),([]:LX),([]:List LB),([]:LB),false,0,0)
abbrev Df:=Option (Int×Int×Int×LB×LB×LX×(List LB)×LB×Bool×Int)
def SX(b f g:Int)(h:LB)(a:List LB)(k:Bool)(m:Int)(u:List LB)(n:LB)(o:LX)(p:LB):Df:=
some (b,f,g,h,n,o,u,p,k,m)
def Zi:=SX
def AE(j8:Int->Int->Int->LB-> (List LB)->Bool->Int-> (List LB)->LB->LX->LB->Df)(xL:Int-> (List LB)->Df)(w a:List LB)(b f g:Int)(h:LB)(k:Bool)(m:Int)(n:LB)(o:LX)(p:LB)(v:Int)(u:List LB):Df:=
if(Cb v (Aa (YB w a)))then
(Al u v).bind λ_=>
(Al u v).bind λy=>
(Bk y).bind λaa=>
(Al u v).bind λ_=>
(Ia u v aa).bind λab=>
xL (Ac v 1) ab
else
j8 b f g h a k m u n o p
def Oj:Nat->Int-> (List LB)->Df
|0,_,_=>none
|z+1,c,d=>AE Zi (Oj z) E l5 ko l6 l7 X jo jq jw O kr c d
def SJ w a b f g h k m n o p:=Oj w a b f g h k m n o p Ck
def Zm(j6:(List LB)-> (List LB)->Int->Int->Int->LB->Bool->Int->LB->LX->LB->Int-> (List LB)->Df)(b f g:Int)(h:LB)(a:List LB)(k:Bool)(m:Int)(n:LB)(o:LX)(p:LB):Df:=
(jG (Aa a) ([]:LB)).bind λw=>
(Dl (geq (Aa a) (Aa a))).bind λ_=>
j6 w a b f g h k m n o p 0 (YB w a)
def SM:=Zm SJ
def Yv(j5:Int->Int->Int->LB-> (List LB)->Bool->Int->LB->LX->LB->Df)(b f g:Int)(h ac:LB)(ad:LX)(a:List LB)(ae:LB)(k:Bool)(m:Int):Df:=
(Bk ac).bind λn=>
(Bw ad).bind λo=>
(Bk ae).bind λp=>
j5 b f g h a k m n o p
def Xu:=Yv SM
abbrev Nx:=Option (Int×Int×Int×LB×LB×LX×(List LB)×LB×Bool×Int×Int×Int)
def NI:Nx:=
(Xu d i I j R e E M Z D).bind λ(c,A,B,C,F,G,J,L,N,O)=>
some (c,A,B,C,F,G,J,L,N,O,z,ig)
def PZ:=NI
def NA(j2:Int->Int->Int->Int->LB->LB->LX-> (List LB)->LB->Bool->Int->Int->Nx)(g h b:Int)(k m:LB)(n:LX)(o:List LB)(p:LB)(f:Bool)(a:Int):Nx:=
(Ms g h b k m n o p f a).bind λv=>
if(Bg v 0)then
some (0,0,0,([]:LB),([]:LB),([]:LX),([]:List LB),([]:LB),false,0,0,v)
else
(Km b).bind λ(u,aj)=>
if(Bg a 0)then
j2 u g h b k m n o p f a a
else
if f then
j2 u g h b k m n o p f a 36
else
j2 u g h b k m n o p f a aj
def Va:=NA PZ
abbrev Bd:=Option (LX×Int)
def LK:Bd:=
some (e,0)
def Tp:=LK
def JV(Dt:Int->LX->Bd)(a:Int)(b:LB)(f:Int)(o:LX):Bd:=
Dt (Ac f (Fx a 8)) o
def Kw Dt:=JV Dt
def JC(j28:Int->LX->Bd)(a:Int)(b:LB)(f:Int)(k:Int32)(g:LX):Bd:=
(Dl (Gk (Ak 32 a) 0)).bind λ_=>
(Dl (Gk (Ak 32 a) 0)).bind λ_=>
(Bv g ([(Cf (Fz k (GI.toZ (Ak 32 a)).toNat) (GI.toZ (Ak 32 a)).toNat)]:LX)).bind λp=>
j28 f p
def Tn Dt a b:=JC (Kw Dt a b) a b
def Tk(j27:Int->Int32->LX->Bd)(yR:Int32->Int->Bd)(a:Int)(b:LB)(f:Int)(g:LX)(k:Int32)(h:Int):Bd:=
if(Cb h (Fx a 8))then
(Al b (Ac f h)).bind λm=>
(Dl (Gk (Da 8 h) 0)).bind λ_=>
yR (nN k (Fz (Ap m:Int32) (GI.toZ (Da 8 h)).toNat)) (Ac h 1)
else
j27 f k g
def Lh(Dt:Int->LX->Bd)(a:Int)(b:LB)(f:Int)(g:LX):Nat->Int32->Int->Bd
|0,_,_=>none
|q+1,k,h=>Tk (Tn Dt a b) (Lh Dt a b f g q) a b f g k h
def Tx Dt a b f g:=Lh Dt a b f g Ck
def Ue(j28:Int->LX->Bd)(j25:Int->LX->Int32->Int->Bd)(j30:LX->Bd)(a:Int)(b:LB)(f:Int)(g:LX):Bd:=
if(Cb f (Aa b))then
if(geq a 8)then
(Al b f).bind λm=>
(Bv g ([(Ak (Ap m:Int32) 128)]:LX)).bind λu=>
j28 f u
else
j25 f g 0 0
else
j30 g
def Hl:Nat->Int->LX->Bd
|0,_,_=>none
|c+1,d,e=>Ue (Kw (Hl c) z j) (Tx (Hl c) z j) Tp z j d e
def ME a b:=Hl a b Ck
def Wf(j16:Int->LB->Int->LX->Bd)(a:Int)(b:LB):Bd:=
(Ud a).bind λ(v,w,n)=>
if(Bg n 0)then
some (([]:LX),n)
else
(Dl (Bg (Fx a 8) 0)).bind λ_=>
if(Bg (Gs (Aa b) (Fx a 8)) 0)then
some (([]:LX),12)
else
(Dl (Bg (Fx a 8) 0)).bind λ_=>
if(Es (Fx (Aa b) (Fx a 8)) 4000)then
some (([]:LX),4)
else
j16 a b 0 ([]:LX)
def FZ:=Wf ME
def FU:Option Int:=
(Jc z d).bind λc=>
if(Bg c 0)then
some c
else
(Ki d e).bind λi=>
if(Bg i 0)then
some i
else
if(geq (Aa e) 0)then
some 2
else
(Dl (Bg z 0)).bind λ_=>
if(Bg (Gs (Aa e) z) 0)then
some 2
else
some 0
abbrev Di:=Option (LX×Int)
def fK:Di:=
some (e,0)
def QE:=fK
def eF(Vk:Int->LX->Di)(b a:Int)(u:LX):Di:=
Vk (Ac a b) u
def fU Vk:=eF Vk
def gN(j20:Int->LX->Di)(b a:Int)(g:LX):Di:=
if(Es (Ak ((Ac a b)-a) 1) 0)then
(Dl (decide (0<= (Ak ((Ac a b)-a) 1)/\ (Ak ((Ac a b)-a) 1)<((Ac a b)-a)))).bind λ_=>
Option.bind (Dl (decide (0<= (Ak (Ak ((Ac a b)-a) 1) 1)/\ (Ak (Ak ((Ac a b)-a) 1) 1)<((Ac a b)-a)))) λ_=>
(Al g (a+(Ak ((Ac a b)-a) 1))).bind λk=>
(Al g (a+(Ak (Ak ((Ac a b)-a) 1) 1))).bind λm=>
(Dl (decide (0<= (Ak ((Ac a b)-a) 1)/\ (Ak ((Ac a b)-a) 1)<((Ac a b)-a)))).bind λ_=>
(Ia g (a+(Ak ((Ac a b)-a) 1)) (Ak k (Fx m 2))).bind λn=>
j20 a n
else
j20 a g
def QG Vk b:=gN (fU Vk b) b
def QC(j19:Int->LX->Di)(Vl:Int->LX->Di)(b a f:Int)(g:LX):Di:=
if(Cb f (Ak ((Ac a b)-a) 1))then
(Dl (decide (0<= (Ac f 1)/\ (Ac f 1)<((Ac a b)-a)))).bind λ_=>
(Dl (decide (0<=f/\f<((Ac a b)-a)))).bind λ_=>
(Al g (a+(Ac f 1))).bind λk=>
(Al g (a+f)).bind λm=>
(Dl (decide (0<=f/\f<((Ac a b)-a)))).bind λ_=>
(Ia g (a+f) (Ak k m)).bind λn=>
Vl (Ac f 1) n
else
j19 a g
def CX(Vk:Int->LX->Di)(b a:Int):Nat->Int->LX->Di
|0,_,_=>none
|q+1,f,g=>QC (QG Vk b) (CX Vk b a q) b a f g
def QQ Vk b a:=CX Vk b a Ck
def QN(j17:Int->Int->LX->Di)(j22:LX->Di)(b a:Int)(h:LX):Di:=
if(Cb a (Aa h))then
(YQ (Aa h) a (Ac a b)).bind λ_=>
j17 a 0 h
else
j22 h
def DU:Nat->Int->LX->Di
|0,_,_=>none
|c+1,d,e=>QN (QQ (DU c) z) QE z d e
def eB b:=DU b Ck
def VU(j12:Int->Int->LX->Di)(b:Int)(o:LX):Di:=
(OZ b o).bind λp=>
if(Bg p 0)then
some (([]:LX),p)
else
(Bw o).bind λv=>
j12 b 0 v
def lK:=VU eB
def EB:Option (Int32×Int×LX×LX×Int):=
(HW z e O).bind λ(c,d)=>
if(Bg d 0)then
some (0,0,(List.replicate 16 (0:Int32)),(List.replicate 16 (0:Int32)),d)
else
(HG z e O J (Ak J c)).bind λ(i,j,A)=>
some ((Ak J c),i,j,A,0)
def Mq:Option (Int32×Int×Int32×Int×LX×LX×Int):=
(Nc z J jl jg iy).bind λc=>
if(Bg c 0)then
some (0,0,0,0,(List.replicate 16 (0:Int32)),(List.replicate 16 (0:Int32)),c)
else
(Nd z J).bind λ(d,e)=>
(EB jl jg iy (Ak jk d)).bind λ(i,j,A,B,C)=>
(
some (i,z,jk,j,A,B,C))
def ZZ:Option UInt32:=
some (PH (Fz (Ap J:UInt32) (GI.toZ (1:UInt64)).toNat) (Ap (Cf J (GI.toZ (31:UInt64)).toNat):UInt32))
abbrev Bm:=Option (LU×Int)
def IK:Bm:=
some (cu,0)
def Ry:=IK
def Ro(j12:LU->Bm)(vM:Int-> (List (Int×Int32×(Int×LX×LX×Unit)×Unit))->LU->Bm)(b:LX)(a f g:Int)(k:List (Int×Int32×(Int×LX×LX×Unit)×Unit))(h:LU):Bm:=
if(Cb g (Aa b))then
(Al b g).bind λ_=>
(Al b g).bind λac=>
(Dl (Bg a 0)).bind λ_=>
(Al k (Gs g a)).bind λ_=>
(Al k (Gs g a)).bind λp=>
(Mq p.1 p.2.1 p.2.2.1.1 p.2.2.1.2.1 p.2.2.1.2.2.1 ac).bind λ(u,ad,ae,v,af,ag,w)=>
if(Bg w 0)then
some (([]:LU),w)
else
(Ia k (Gs g a) (ad,ae,(v,af,ag,()),())).bind λah=>
(ZZ u).bind λai=>
(Bv h ([ai]:LU)).bind λaj=>
vM (Ac g 1) ah aj
else
j12 h
def Js:Nat->Int-> (List (Int×Int32×(Int×LX×LX×Unit)×Unit))->LU->Bm
|0,_,_,_=>none
|z+1,c,d,i=>Ro Ry (Js z) e D ig c d i
def Qf b a f:=Js b a f Ck
def Sm(j10:LX->Int->Int->Int-> (List (Int×Int32×(Int×LX×LX×Unit)×Unit))->LU->Bm)(a f:Int)(b:LX)(m:List (Int×Int32×(Int×LX×LX×Unit)×Unit)):Bm:=
j10 b a f 0 m ([]:LU)
def JD:=Sm Qf
def Sr(j9:Int->Int->LX-> (List (Int×Int32×(Int×LX×LX×Unit)×Unit))->Bm)(tF:Int-> (List (Int×Int32×(Int×LX×LX×Unit)×Unit))->Bm)(a f:Int)(n b:LX)(o:Int)(m:List (Int×Int32×(Int×LX×LX×Unit)×Unit)):Bm:=
if(Cb o 6)then
(PX f n).bind λ(ak,al,u,am,an,v)=>
(Al m o).bind λ_=>
(Ia m o (ak,al,(u,am,an,()),())).bind λao=>
tF (Ac o 1) ao
else
j9 a f b m
def Kz:Nat->Int-> (List (Int×Int32×(Int×LX×LX×Unit)×Unit))->Bm
|0,_,_=>none
|c+1,i,j=>Sr JD (Kz c) z d e O i j
def MW a f n b:=Kz a f n b Ck
def Th(j7:Int->Int->LX->LX->Int-> (List (Int×Int32×(Int×LX×LX×Unit)×Unit))->Bm)(a f:Int)(n y:LX):Bm:=
(FU a f y).bind λaa=>
if(Bg aa 0)then
some (([]:LU),aa)
else
(lK a y).bind λ(b,ab)=>
if(Bg ab 0)then
some (([]:LU),ab)
else
j7 a f n b 0 (List.replicate 6 ((0:Int),(0:Int32),((0:Int),(List.replicate 16 (0:Int32)),(List.replicate 16 (0:Int32)),()),()))
def BO:=Th MW
abbrev Dp:=Option ((List (Int×Int×UInt64×UInt64×Unit)))
def LO(a:List (Int×Int×UInt64×UInt64×Unit)):Dp:=
some a
def Tw:=LO
def Uc(j6:(List (Int×Int×UInt64×UInt64×Unit))->Dp)(AK:Int-> (List (Int×Int×UInt64×UInt64×Unit))->Dp)(b:Int)(a:List (Int×Int×UInt64×UInt64×Unit)):Dp:=
if(Cb b 6)then
(IX).bind λ(f,g,h,k)=>
(Al a b).bind λ_=>
(Ia a b (f,g,h,k,())).bind λm=>
AK (Ac b 1) m
else
j6 a
def Kn:Nat->Int-> (List (Int×Int×UInt64×UInt64×Unit))->Dp
|0,_,_=>none
|q+1,b,a=>Uc Tw (Kn q) b a
def LR:=Kn Ck
def Te(j4:Int-> (List (Int×Int×UInt64×UInt64×Unit))->Dp):Dp:=
j4 0 (List.replicate 6 ((0:Int),(0:Int),(0:UInt64),(0:UInt64),()))
def CO:=Te LR
def OG:Option (LB×Int):=
(Bk c).bind λd=>
some (d,z)
abbrev Bq:=Option (LB×Int×Int)
def aZ:Bq:=
some (j,z,0)
def JU:=aZ
def cJ(qI:UInt64->Int->Int->LB->Bq)(b:UInt64)(a:Int)(m:UInt64)(h f:Int)(w:LB):Bq:=
(Dl (Gk (Cq h (Ak 8 (Dr f 7))) 0)).bind λ_=>
qI (Cf m (GI.toZ (Cq h (Ak 8 (Dr f 7)))).toNat) (Ak h (Cq h (Ak 8 (Dr f 7)))) (Ac f (Cq h (Ak 8 (Dr f 7)))) w
def dF qI:=cJ qI
def cK(j19:UInt64->Int->Int->LB->Bq)(b:UInt64)(a:Int)(m:UInt64)(h f:Int)(u:LB):Bq:=
(Al u (Ak (Aa u) 1)).bind λ_=>
(Dl (Gk (Cq h (Ak 8 (Dr f 7))) 0)).bind λ_=>
(Dl (Gk (Dr f 7) 0)).bind λ_=>
(Al u (Ak (Aa u) 1)).bind λad=>
(Al u (Ak (Aa u) 1)).bind λ_=>
Option.bind (Ia u (Ak (Aa u) 1) (nN ad (Fz (Ap (Dr m (Ak (Fz (1:UInt64) (GI.toZ (Cq h (Ak 8 (Dr f 7)))).toNat) 1)):UInt8) (GI.toZ (Dr f 7)).toNat))) λw=>
j19 m h f w
def KK qI b a:=cK (dF qI b a) b a
def KO(j18:UInt64->Int->Int->LB->Bq)(j21:Int->LB->Bq)(b:UInt64)(a:Int)(m:UInt64)(h f:Int)(o:LB):Bq:=
if(Es h 0)then
if(geq (Dr f 7) 0)then
(Bv o ([(0:UInt8)]:LB)).bind λaa=>
j18 m h f aa
else
j18 m h f o
else
j21 f o
def Xh:Nat->UInt64->Int->Int->LB->Bq
|0,_,_,_,_=>none
|z+1,c,d,e,i=>KO (KK (Xh z) B U) JU B U c d e i
def dA b a:=Xh b a Ck
def bH:Bq:=
some (j,z,0)
def MJ:=bH
def bZ(qJ:UInt64->Int->Int->LB->Bq)(b:UInt64)(a:Int)(n:UInt64)(k g:Int)(ab:LB):Bq:=
(Dl (Gk (Cq k (Ak 8 (Dr g 7))) 0)).bind λ_=>
qJ (Cf n (GI.toZ (Cq k (Ak 8 (Dr g 7)))).toNat) (Ak k (Cq k (Ak 8 (Dr g 7)))) (Ac g (Cq k (Ak 8 (Dr g 7)))) ab
def bN qJ:=bZ qJ
def bI(j26:UInt64->Int->Int->LB->Bq)(b:UInt64)(a:Int)(n:UInt64)(k g:Int)(v:LB):Bq:=
(Al v (Ak (Aa v) 1)).bind λ_=>
(Dl (Gk (Cq k (Ak 8 (Dr g 7))) 0)).bind λ_=>
(Dl (Gk (Dr g 7) 0)).bind λ_=>
(Al v (Ak (Aa v) 1)).bind λae=>
(Al v (Ak (Aa v) 1)).bind λ_=>
Option.bind (Ia v (Ak (Aa v) 1) (nN ae (Fz (Ap (Dr n (Ak (Fz (1:UInt64) (GI.toZ (Cq k (Ak 8 (Dr g 7)))).toNat) 1)):UInt8) (GI.toZ (Dr g 7)).toNat))) λab=>
j26 n k g ab
def KY qJ b a:=bI (bN qJ b a) b a
def JE(j25:UInt64->Int->Int->LB->Bq)(j28:Int->LB->Bq)(b:UInt64)(a:Int)(n:UInt64)(k g:Int)(p:LB):Bq:=
if(Es k 0)then
if(geq (Dr g 7) 0)then
(Bv p ([(0:UInt8)]:LB)).bind λw=>
j25 n k g w
else
j25 n k g p
else
j28 g p
def Xn:Nat->UInt64->Int->Int->LB->Bq
|0,_,_,_,_=>none
|z+1,c,d,e,i=>JE (KY (Xn z) B U) MJ B U c d e i
def bW b a:=Xn b a Ck
def QP(j15:UInt64->Int->UInt64->Int->Int->LB->Bq)(j22:UInt64->Int->UInt64->Int->Int->LB->Bq)(ac:LB)(y:Int)(b:UInt64)(a:Int):Bq:=
(Fc ac y).bind λaf=>
if(Bg af 0)then
some (([]:LB),0,8)
else
if((Cb a 0)||(Es a 64))then
some (([]:LB),0,2)
else
if(Cb a 64)then
(Dl (Gk a 0)).bind λ_=>
if(Bg (Cf b (GI.toZ a).toNat) 0)then
some (([]:LB),0,16)
else
if(Es (Ac y a) 330000)then
some (([]:LB),0,18)
else
(OG ac y).bind λ(ag,ah)=>
j15 b a b a ah ag
else
if(Es (Ac y a) 330000)then
some (([]:LB),0,18)
else
(OG ac y).bind λ(aa,ai)=>
j22 b a b a ai aa
def CZ:=QP dA bW
def MA:Option (Int×Int):=
if((Cb z 0)||(Es z 48))then
some (0,2)
else
some ((Cq (Ac z 1) 48),0)
def RG:Option (LB×Int×Int):=
(Fc c z).bind λe=>
if(Bg e 0)then
some (([]:LB),0,e)
else
(MA d).bind λ(i,j)=>
if(Bg j 0)then
some (([]:LB),0,j)
else
(Dl (Gk d 0)).bind λ_=>
(CZ c z (Ak (Fz (1:UInt64) (GI.toZ d).toNat) 1) i).bind λ(A,B,C)=>
some (A,B,C)
abbrev Xc:=Option (LB×Int×Int)
def ZO:Xc:=
(RG c z d).bind λ(e,i,j)=>
if(Bg j 0)then
some (([]:LB),0,j)
else
(CZ e i (Ap T:UInt64) U).bind λ(A,B,C)=>
some (A,B,C)
def ZJ:=ZO
def YS(j2:LB->Int->Int->UInt32->Int->Xc)(b:LB)(f:Int)(g:UInt32)(a:Int):Xc:=
(Fc b f).bind λk=>
if(Bg k 0)then
some (([]:LB),0,k)
else
if((Cb a 0)||(Es a 24))then
some (([]:LB),0,2)
else
(Dl (Gk a 0)).bind λ_=>
(Dl (Gk a 0)).bind λ_=>
(Yd g a).bind λaa=>
if aa then
j2 b f 48 g 32
else
j2 b f (Ap (Cf g (GI.toZ a).toNat):Int) (Dr g (Ak (Fz (1:UInt32) (GI.toZ a).toNat) 1)) a
def WG:=YS ZJ
abbrev Dh:=Option (LB×Int×Int×Int×UInt64×UInt64×Int)
def Rz:Dh:=
(
(
some (jf,z,d,i,(Ac B (Ak (Ap T:UInt64) (Cf B (GI.toZ (4:UInt64)).toNat))),Y,0)))
def DS:=Rz
def GM(j10:Int->Int->Int->UInt64->UInt32->UInt64->LB->Dh)(b:UInt32)(k n:Int)(a o:UInt64)(m:LB)(u:Int):Dh:=
j10 k u n a b o m
def ZL:=GM DS
def FQ(j9:UInt32->Int->Int->UInt64->UInt64->LB->Int->Dh)(b:UInt32)(f:Int)(a:UInt64)(k:Int)(m:LB)(n:Int)(o:UInt64):Dh:=
if(Es f 0)then
(Dl (Gk f 0)).bind λ_=>
if(Cb (Ac a (Ak (Ap b:UInt64) (Cf a (GI.toZ (4:UInt64)).toNat))) (Fz (16:UInt64) (GI.toZ f).toNat))then
j9 b k n a o m (Ak f 1)
else
if(Cb f 24)then
(Dl (Gk f 0)).bind λ_=>
if(Es (Ac a (Ak (Ap b:UInt64) (Cf a (GI.toZ (4:UInt64)).toNat))) (Fz (32:UInt64) (GI.toZ f).toNat))then
j9 b k n a o m (Ac f 1)
else
j9 b k n a o m f
else
j9 b k n a o m f
else
if(Cb f 24)then
(Dl (Gk f 0)).bind λ_=>
if(Es (Ac a (Ak (Ap b:UInt64) (Cf a (GI.toZ (4:UInt64)).toNat))) (Fz (32:UInt64) (GI.toZ f).toNat))then
j9 b k n a o m (Ac f 1)
else
j9 b k n a o m f
else
j9 b k n a o m f
def FT:=FQ ZL
def FM(j8:UInt32->Int->UInt64->Int->LB->Int->UInt64->Dh)(b:UInt32)(f h:Int)(a g:UInt64)(ac k:Int)(m:LB):Dh:=
if(Bg ac 0)then
some (([]:LB),0,0,0,0,0,ac)
else
(Xv f h a g b).bind λ(ag,p)=>
if(geq ag 1)then
if(Es h 0)then
(Dl (Gk h 0)).bind λ_=>
if(Cb (Ac g (Ak (Ap p:UInt64) (Cf g (GI.toZ (4:UInt64)).toNat))) (Fz (16:UInt64) (GI.toZ h).toNat))then
j8 b f a k m (Ak h 1) (Ac g (Ak (Ap p:UInt64) (Cf g (GI.toZ (4:UInt64)).toNat)))
else
if(Cb h 24)then
(Dl (Gk h 0)).bind λ_=>
if(Es (Ac g (Ak (Ap p:UInt64) (Cf g (GI.toZ (4:UInt64)).toNat))) (Fz (32:UInt64) (GI.toZ h).toNat))then
j8 b f a k m (Ac h 1) (Ac g (Ak (Ap p:UInt64) (Cf g (GI.toZ (4:UInt64)).toNat)))
else
j8 b f a k m h (Ac g (Ak (Ap p:UInt64) (Cf g (GI.toZ (4:UInt64)).toNat)))
else
j8 b f a k m h (Ac g (Ak (Ap p:UInt64) (Cf g (GI.toZ (4:UInt64)).toNat)))
else
if(Cb h 24)then
(Dl (Gk h 0)).bind λ_=>
if(Es (Ac g (Ak (Ap p:UInt64) (Cf g (GI.toZ (4:UInt64)).toNat))) (Fz (32:UInt64) (GI.toZ h).toNat))then
j8 b f a k m (Ac h 1) (Ac g (Ak (Ap p:UInt64) (Cf g (GI.toZ (4:UInt64)).toNat)))
else
j8 b f a k m h (Ac g (Ak (Ap p:UInt64) (Cf g (GI.toZ (4:UInt64)).toNat)))
else
j8 b f a k m h (Ac g (Ak (Ap p:UInt64) (Cf g (GI.toZ (4:UInt64)).toNat)))
else
j8 b f a k m h g
def ZI:=FM FT
def GU(j7:UInt32->Int->Int->UInt64->UInt64->Int->Int->LB->Dh)(b:UInt32)(v:LB)(w f h:Int)(a g:UInt64):Dh:=
(Xv f h a g b).bind λ(ad,ae)=>
(CZ v w (Ap ad:UInt64) 1).bind λ(y,aa,ab)=>
if((geq ab 0)&&(geq ad 0))then
(CZ y aa (Ap ae:UInt64) f).bind λ(ah,ai,aj)=>
j7 b f h a g aj ai ah
else
if(geq ab 0)then
(WG y aa ae h).bind λ(ak,al,am)=>
j7 b f h a g am al ak
else
j7 b f h a g ab aa y
def YT:=GU ZI
def GZ(j6:UInt32->LB->Int->Int->Int->UInt64->UInt64->Dh)(v:LB)(w f h:Int)(a g:UInt64)(b:UInt32):Dh:=
(Fc v w).bind λan=>
if(Bg an 0)then
some (([]:LB),0,0,0,0,0,8)
else
(II f h a g).bind λao=>
if(Bg ao 0)then
some (([]:LB),0,0,0,0,0,8)
else
j6 b v w f h a g
def VN:=GZ YT
def Pq:Option (LB):=
some c
def Hc:=Pq
def Hf(j16:LB->Option (LB))(ED:Int->LB->Option (LB))(a:List LB)(g:Int)(f:LB):Option (LB):=
if(Cb g (Aa a))then
(Al a g).bind λn=>
(Bv f n).bind λo=>
ED (Ac g 1) o
else
j16 f
def Em:Nat->Int->LB->Option (LB)
|0,_,_=>none
|z+1,c,d=>Hf Hc (Em z) E c d
def Hb a:=Em a Ck
def Hg(j14:(List LB)->Int->LB->Option (LB))(a:List LB)(p:LB):Option (LB):=
j14 a 0 p
def Pm:=Hg Hb
def Hk(j13:(List LB)->LB->Option (LB))(b:Int)(a:List LB):Option (LB):=
if(Es (Ak b (Ak (0:Int) (0:Int))) 0)then
(YQ 0 0 0).bind λ_=>
(jG (Ak b (Ak (0:Int) (0:Int))) (0:UInt8)).bind λu=>
(Bv ([]:LB) u).bind λk=>
(YQ (Aa k) 0 0).bind λ_=>
j13 a (CV k 0 ((0:Int)-(0:Int)))
else
j13 a ([]:LB)
def Pn:=Hk Pm
def Hh(j12:Int-> (List LB)->Option (LB))(a:List LB)(b:Int):Option (LB):=
if(Cb b 0)then
none
else
j12 b a
def Po:=Hh Pn
def Hp(j11:(List LB)->Int->Option (LB))(vK:Int->Int->Option (LB))(a:List LB)(b h:Int):Option (LB):=
if(Cb h (Aa a))then
(Al a h).bind λm=>
if(Cb (Ac b (Aa m)) 0)then
none
else
vK (Ac b (Aa m)) (Ac h 1)
else
j11 a b
def Fb:Nat->Int->Int->Option (LB)
|0,_,_=>none
|z+1,c,d=>Hp Po (Fb z) E c d
def Qi a:=Fb a Ck
def Hv(j9:(List LB)->Int->Int->Option (LB))(a:List LB):Option (LB):=
j9 a 0 0
def Eh:=Hv Qi
abbrev As:=Option (LB×Int)
def ID(v:Int)(p:LB):As:=
(Mc p).bind λ(af,ac)=>
if(Bg ac 0)then
some (([]:LB),ac)
else
(Mz (Ap af:UInt64) 4).bind λ(m,h)=>
if(Bg h 0)then
some (([]:LB),h)
else
(Eh ([p,m]:List LB)).bind λag=>
some (ag,0)
def Qx:=ID
def HQ(Yk:Int-> (List (Int×Int×UInt64×UInt64×Unit))->Int->LB->As)(b:LU)(a g f:Int)(n:List (Int×Int×UInt64×UInt64×Unit))(k:Int)(w:LB):As:=
Yk (Ac f 1) n k w
def Rt Yk:=HQ Yk
def IQ(YO:Int->Int->LB->As)(h:Int)(b:LU)(f a g:Int)(n:List (Int×Int×UInt64×UInt64×Unit))(m:LB)(o k:Int)(ab:LB):As:=
YO (Ac o 1) (Ac k 1) ab
def HT YO:=IQ YO
def HI(j48:Int->Int->LB->As)(h:Int)(b:LU)(f a g:Int)(n:List (Int×Int×UInt64×UInt64×Unit))(m:LB)(o k:Int)(y:LB):As:=
(Al m (Fx o 8)).bind λ_=>
(Al m (Fx o 8)).bind λah=>
(Dl (Gk (Gs o 8) 0)).bind λ_=>
(Al y (Fx k 8)).bind λ_=>
(Dl (Gk (Gs k 8) 0)).bind λ_=>
(Al y (Fx k 8)).bind λai=>
(Al y (Fx k 8)).bind λ_=>
Option.bind (Ia y (Fx k 8) (nN ai (Fz (Dr (Cf ah (GI.toZ (Gs o 8)).toNat) 1) (GI.toZ (Gs k 8)).toNat))) λab=>
j48 o k ab
def Qo YO h b f a g n m:=HI (HT YO h b f a g n m) h b f a g n m
def Rr(j47:Int->Int->LB->As)(j50:Int-> (List (Int×Int×UInt64×UInt64×Unit))->Int->LB->As)(b:LU)(a g h f:Int)(n:List (Int×Int×UInt64×UInt64×Unit))(m:LB)(o k:Int)(w:LB):As:=
if(Cb o h)then
if(geq (Gs k 8) 0)then
(Bv w ([(0:UInt8)]:LB)).bind λaj=>
j47 o k aj
else
j47 o k w
else
j50 f n k w
def Jy(Yk:Int-> (List (Int×Int×UInt64×UInt64×Unit))->Int->LB->As)(b:LU)(a g h f:Int)(n:List (Int×Int×UInt64×UInt64×Unit))(m:LB):Nat->Int->Int->LB->As
|0,_,_,_=>none
|q+1,o,k,w=>Rr (Qo (Jy Yk b a g h f n m q) h b f a g n m) (Rt Yk b a g) b a g h f n m o k w
def Qy Yk b a g h f n m:=Jy Yk b a g h f n m Ck
def Rb(j44:Int->Int-> (List (Int×Int×UInt64×UInt64×Unit))->LB->Int->Int->LB->As)(j52:Int->LB->As)(b:LU)(a g f:Int)(u:List (Int×Int×UInt64×UInt64×Unit))(v:Int)(p:LB):As:=
if(Cb f (Aa b))then
(Al b f).bind λ_=>
(Al b f).bind λak=>
(Dl (Bg a 0)).bind λ_=>
(Al u (Gs f a)).bind λ_=>
(Al u (Gs f a)).bind λaa=>
(VN ([]:LB) 0 aa.1 aa.2.1 aa.2.2.1 aa.2.2.2.1 ak).bind λ(m,h,al,am,an,ao,ad)=>
if(Bg ad 0)then
some (([]:LB),ad)
else
(Dl (Bg a 0)).bind λ_=>
(Al u (Gs f a)).bind λ_=>
(Ia u (Gs f a) (al,am,an,ao,())).bind λn=>
j44 h f n m 0 v p
else
j52 v p
def Jv:Nat->Int-> (List (Int×Int×UInt64×UInt64×Unit))->Int->LB->As
|0,_,_,_,_=>none
|z+1,c,d,e,i=>Rb (Qy (Jv z) cu jh jm) Qx cu jh jm c d e i
def HF b a g:=Jv b a g Ck
def Tc(j27:LU->Int->Int->Int-> (List (Int×Int×UInt64×UInt64×Unit))->Int->LB->As)(a g:Int)(ap aq:LX):As:=
(BO a g ap aq).bind λ(b,ae)=>
if(Bg ae 0)then
some (([]:LB),ae)
else
(CO).bind λar=>
j27 b a g 0 ar 0 ([]:LB)
def Gf:=Tc HF
def Lj(b f g:Int)(h k:LB)(m:LX)(n:List LB)(o:LB)(p:Bool)(u a:Int):Option (Int×Int×Int×LB×LB×LX×(List LB)×LB×Bool×Int×Int):=
some (b,f,g,h,([]:LB),([]:LX),([]:List LB),([]:LB),false,a,a)
abbrev Au:=Option (Int×Int×Int×LB×LB×LX×(List LB)×LB×Bool×Int×Int)
def NK:Au:=
some (z,d,i,j,R,e,E,M,C,A,0)
def Ww:=NK
def NQ(ED:Int->LB->LX-> (List LB)->Au)(p:Int)(n:LB)(a b g:Int)(f:LB)(h:Bool)(k o:Int)(m:LB)(u:Int)(ao:LB)(ap:LX)(aq:List LB):Au:=
ED (Ac u 1) ao ap aq
def Lw ED:=NQ ED
def NW(j24:Int->LB->LX-> (List LB)->Au)(p:Int)(n:LB)(a b g:Int)(f:LB)(h:Bool)(k o:Int)(m:LB)(u ad:Int)(ae:LB)(af:LX)(ag:List LB):Au:=
if(Bg ad 0)then
(Lj a b g f ae af ag m h k ad).bind λ(ar,au,av,aw,ax,ay,az,ba,bb,bc,bd)=>
some (ar,au,av,aw,ax,ay,az,ba,bb,bc,bd)
else
j24 u ae af ag
def Gg ED p n a b g f h k o m:=NW (Lw ED p n a b g f h k o m) p n a b g f h k o m
def NC(j23:Int->Int->LB->LX-> (List LB)->Au)(p:Int)(n:LB)(a b g:Int)(f:LB)(h:Bool)(k o:Int)(m:LB)(u:Int)(ab:LX)(v:List LB)(be:Int):Au:=
j23 u be ([]:LB) ab v
def PC ED p n a b g f h k o m:=NC (Gg ED p n a b g f h k o m) p n a b g f h k o m
def PF(j23:Int->Int->LB->LX-> (List LB)->Au)(p:Int)(n:LB)(a b g:Int)(f:LB)(h:Bool)(k o:Int)(m:LB)(u:Int)(ac:List LB):Au:=
j23 u 0 ([]:LB) ([]:LX) ac
def OD ED p n a b g f h k o m:=PF (Gg ED p n a b g f h k o m) p n a b g f h k o m
def NO(j23:Int->Int->LB->LX-> (List LB)->Au)(j21:Int->LX-> (List LB)->Int->Au)(j22:Int-> (List LB)->Au)(p:Int)(n:LB)(a b g:Int)(f:LB)(h:Bool)(k o:Int)(m:LB)(u:Int)(aa:LB)(w:LX)(v:List LB):Au:=
(FZ b aa).bind λ(bf,ah)=>
if(Bg ah 0)then
j23 u ah aa w v
else
(Bv w bf).bind λab=>
if(Cb (Aa ab) (Da o a))then
j23 u 0 ([]:LB) ab v
else
(Gx f).bind λ(bg,ai)=>
if(Bg ai 0)then
j21 u ab v ai
else
(Gf a b bg ab).bind λ(bh,aj)=>
if(Bg aj 0)then
j21 u ab v aj
else
(Bv v ([bh]:List LB)).bind λac=>
j22 u ac
def Vt ED p n a b g f h k o m:=NO (Gg ED p n a b g f h k o m) (PC ED p n a b g f h k o m) (OD ED p n a b g f h k o m) p n a b g f h k o m
def Wl(j24:Int->LB->LX-> (List LB)->Au)(j23:Int->Int->LB->LX-> (List LB)->Au)(j20:Int->LB->LX-> (List LB)->Au)(j26:Int->Int->Int->LB->Bool->Int->LB->LX-> (List LB)->LB->Au)(p:Int)(n:LB)(a b g:Int)(f:LB)(h:Bool)(k o:Int)(m:LB)(u:Int)(y:LB)(w:LX)(v:List LB):Au:=
if(Cb u (Aa n))then
(Al n u).bind λbi=>
(Bv y ([bi]:LB)).bind λaa=>
if(Cb (Aa aa) p)then
j24 u aa w v
else
(Mr a b g f aa w v m h k o).bind λbj=>
(Ye a b g f aa w v m h k (Ac (Aa v) 1) (Ac bj 1)).bind λbk=>
if(!bk)then
j23 u 18 aa w v
else
j20 u aa w v
else
j26 a b g f h k y w v m
def Gb:Nat->Int->LB->LX-> (List LB)->Au
|0,_,_,_,_=>none
|c+1,d,e,i,B=>Wl (Lw (Gb c) z j A eu D X jo jq jr jv) (Gg (Gb c) z j A eu D X jo jq jr jv) (Vt (Gb c) z j A eu D X jo jq jr jv) Ww z j A eu D X jo jq jr jv d e i B
def PA p n a b g f h k o m:=Gb p n a b g f h k o m Ck
def AH(j14:Int->LB->Int->Int->Int->LB->Bool->Int->Int->LB->Int->LB->LX-> (List LB)->Au)(bl bm bn:Int)(bp bq:LB)(br:LX)(bs:List LB)(bt:LB)(bu:Bool)(bv:Int)(n:LB):Au:=
(Va bl bm bn bp bq br bs bt bu bv).bind λ(a,b,g,f,ak,al,am,m,h,k,o,an)=>
if(Bg an 0)then
some (a,b,g,f,ak,al,am,m,h,k,an)
else
(Qk a b).bind λp=>
j14 p n a b g f h k o m 0 ak al am
def Fj:=AH PA
def Mu:Option (Int×Int×Int×LB×LB×LX×(List LB)×LB×Bool×Int×LB×Int):=
(Ms z d i j R e E M Z D).bind λc=>
if(Bg c 0)then
some (0,0,0,([]:LB),([]:LB),([]:LX),([]:List LB),([]:LB),false,0,([]:LB),c)
else
if(Cb ig 0)then
some (0,0,0,([]:LB),([]:LB),([]:LX),([]:List LB),([]:LB),false,0,([]:LB),2)
else
(Xu z d i j R e E M Z D).bind λ(A,B,C,F,G,I,J,L,N,O)=>
(Bo L 0 (Cq ig (Aa L))).bind λP=>
(Bk P).bind λT=>
(Bo L (Cq ig (Aa L)) (Aa L)).bind λU=>
some (A,B,C,F,G,I,J,U,N,O,T,0)
def HA:Option (Int×Int):=
if(Es (Aa c) 64)then
some (0,2)
else
if(geq (Aa c) 0)then
some (1,0)
else
some (2,0)
abbrev Fa:=Option (LB×Int)
def RY:Fa:=
(Mc c).bind λ(z,d)=>
(Mz (Ap z:UInt64) 4).bind λ(e,i)=>
(Bv c e).bind λj=>
some (j,0)
def AA:=RY
def Zy(j6:LB->Fa)(AK:Int->LB->Fa)(b f g h k m:Int)(a:LB):Fa:=
if(Cb m 5)then
(Al ([b,f,g,h,k]:LI) m).bind λw=>
(Al ([(2:Int),(2:Int),(2:Int),(4:Int),(4:Int)]:LI) m).bind λy=>
(Mz (Ap w:UInt64) y).bind λ(n,v)=>
(Bv a n).bind λo=>
AK (Ac m 1) o
else
j6 a
def Nu:Nat->Int->LB->Fa
|0,_,_=>none
|c+1,e,j=>Zy AA (Nu c) z d i I L e j
def SN b f g h k:=Nu b f g h k Ck
def AI(j4:Int->Int->Int->Int->Int->Int->LB->Fa)(b f g h k:Int):Fa:=
(Xa b f g h k).bind λp=>
if(Bg p 0)then
some (([]:LB),p)
else
j4 b f g h k 0 ([(84:UInt8),(84:UInt8),(65:UInt8),(49:UInt8)]:LB)
def Xt:=AI SN
abbrev Cu:=Option (LB×Int)
def RW:Cu:=
some (c,0)
def SQ:=RW
def SA(j14:LB->Cu)(b:LB):Cu:=
(Mc b).bind λ(m,u)=>
(Mz (Ap m:UInt64) 4).bind λ(n,v)=>
(Bv b n).bind λg=>
j14 g
def Yu:=SA SQ
def SY(lS:Int->LB->Cu)(a:LI)(f:Int)(h:LB):Cu:=
lS (Ac f 1) h
def Zg lS:=SY lS
def DW(j11:Int->LB->Cu)(j13:LB->Cu)(a:LI)(f:Int)(b:LB):Cu:=
if(Cb f (Aa a))then
(Al a f).bind λo=>
(Mz (Ap o:UInt64) 4).bind λ(p,w)=>
(Bv b p).bind λh=>
j11 f h
else
j13 b
def Pz:Nat->Int->LB->Cu
|0,_,_=>none
|z+1,c,d=>DW (Zg (Pz z) F) Yu F c d
def XW a:=Pz a Ck
def BP(j8:LI->Int->LB->Cu)(a:LI):Cu:=
(Ua a).bind λk=>
if(Bg k 0)then
some (([]:LB),k)
else
j8 a 0 ([]:LB)
def Ub:=BP XW
abbrev Dd:=Option (LB×Int)
def Ny(f g h:Int)(b k:LB)(m:LX)(a:List LB)(n:LB)(o:Bool)(p:Int)(u:LB)(v:LI):Dd:=
(Ub v).bind λ(aa,y)=>
if(Bg y 0)then
some (([]:LB),y)
else
(
(Bv u aa).bind λab=>
(Eh a).bind λac=>
(Bv ab ac).bind λad=>
some (ad,0))
def Zf:=Ny
def Yz(j8:Int->Int->Int->LB->LB->LX-> (List LB)->LB->Bool->Int->LB->LI->Dd)(xL:Int->LI->Dd)(a:List LB)(f g h:Int)(b k:LB)(m:LX)(n:LB)(o:Bool)(p:Int)(u:LB)(w:Int)(v:LI):Dd:=
if(Cb w (Aa a))then
(Al a w).bind λai=>
(Bv v ([(Aa ai)]:LI)).bind λaj=>
xL (Ac w 1) aj
else
j8 f g h b k m a n o p u v
def Oi:Nat->Int->LI->Dd
|0,_,_=>none
|z+1,c,d=>Yz Zf (Oi z) E D ig ko X jw O kr l8 jr jv c d
def SK a f g h b k m n o p u:=Oi a f g h b k m n o p u Ck
def AF(j6:(List LB)->Int->Int->Int->LB->LB->LX->LB->Bool->Int->LB->Int->LI->Dd)(f g h:Int)(b k:LB)(m:LX)(a:List LB)(n:LB)(o:Bool)(p:Int)(u:LB):Dd:=
j6 a f g h b k m n o p u 0 ([]:LI)
def RN:=AF SK
def Yo(j5:Int->Int->Int->LB->LB->LX-> (List LB)->LB->Bool->Int->LB->Dd)(f g h:Int)(b k:LB)(m:LX)(a:List LB)(n:LB)(o:Bool)(p ak:Int):Dd:=
(HA b).bind λ(al,ae)=>
if(Bg ae 0)then
some (([]:LB),ae)
else
(Xt al f g h ak).bind λ(af,ag)=>
if(Bg ag 0)then
some (([]:LB),ag)
else
if(b !=([]:LB))then
(Pj b).bind λ(am,ah)=>
if(Bg ah 0)then
some (([]:LB),ah)
else
(Bv af am).bind λan=>
j5 f g h b k m a n o p an
else
j5 f g h b k m a n o p af
def MU:=Yo RN
abbrev Ew:=Option (Int×Int×Int×LB×LB×LX×(List LB)×LB×Bool×Int×Int)
def JT:Ew:=
(MU d i I j R O lq M C A z).bind λ(c,e)=>
if(Bg e 0)then
(Lj d i I j R O lq M C A e).bind λ(B,D,E,F,G,J,L,N,P,T,U)=>
some (B,D,E,F,G,J,L,N,P,T,U)
else
some (d,i,I,j,([]:LB),([]:LX),([]:List LB),c,true,0,0)
def Tr:=JT
def JW(j4:Int->Int->Int->Int->LB->Bool->Int->LB->LB->LX-> (List LB)->Ew)(o a b g:Int)(f:LB)(k:Bool)(m:Int)(h n:LB)(ad:Int)(ae:LX)(af:List LB):Ew:=
if(Bg ad 0)then
(Lj a b g f h ae af n k m ad).bind λ(au,v,w,av,aw,ax,y,aa,ay,az,ba)=>
some (au,v,w,av,aw,ax,y,aa,ay,az,ba)
else
j4 o a b g f k m h n ae af
def KL:=JW Tr
def MG(j3:Int->Int->Int->Int->LB->Bool->Int->LB->LB->Int->LX-> (List LB)->Ew)(j4:Int->Int->Int->Int->LB->Bool->Int->LB->LB->LX-> (List LB)->Ew)(bb bc bd:Int)(be bf:LB)(bg:LX)(bh:List LB)(bi:LB)(bj:Bool)(bk:Int):Ew:=
(Va bb bc bd be bf bg bh bi bj bk).bind λ(a,b,g,f,h,p,u,n,k,m,bl,ag)=>
if(Bg ag 0)then
some (a,b,g,f,h,p,u,n,k,m,ag)
else
(Mr a b g f h p u n k m bl).bind λo=>
if((Es (Aa h) 0)||(geq o 0))then
(Lj a b g f h p u n k m 24).bind λ(bm,bn,bp,bq,br,bs,bt,bu,bv,bw,bx)=>
some (bm,bn,bp,bq,br,bs,bt,bu,bv,bw,bx)
else
if(Es (Aa p) 0)then
(Gx f).bind λ(bz,ah)=>
if(Bg ah 0)then
j3 o a b g f k m h n ah p u
else
(Gf a b bz p).bind λ(da,ai)=>
if(Bg ai 0)then
j3 o a b g f k m h n ai p u
else
(Bv u ([da]:List LB)).bind λdb=>
j3 o a b g f k m h n 0 ([]:LX) db
else
j4 o a b g f k m h n p u
def Kv:=MG KL Tr
abbrev Ar:=Option (Int×Int×Int×LB×LB×LX×(List LB)×LB×Bool×Int×(List (Int×LB×Unit))×Int)
def KP(f g h:Int)(k m:LB)(n:Bool)(o:Int)(a:LB)(w:List (Int×LB×Unit))(p:LB)(u:LX)(v:List LB):Ar:=
some (f,g,h,k,p,u,v,m,n,o,w,0)
def MM:=KP
def MX(j32:Int->Int->Int->LB->LB->Bool->Int->LB-> (List (Int×LB×Unit))->LB->LX-> (List LB)->Ar)(w:List (Int×LB×Unit))(f g h:Int)(k m:LB)(n:Bool)(o:Int)(a p:LB)(u:LX)(v:List LB):Ar:=
j32 f g h k m n o a w p u v
def Tz:=MX MM
def KN(Vl:Int->Int->Int->Int->LB->LB->Bool->Int->LB-> (List (Int×LB×Unit))->LB->LX-> (List LB)->Ar)(b:List (UInt8×Int×Unit))(y df dg dh:Int)(di dj:LB)(dk:Bool)(dl:Int)(dm:LB)(dn:List (Int×LB×Unit))(dp:LB)(dq:LX)(dr:List LB):Ar:=
Vl (Ac y 1) df dg dh di dj dk dl dm dn dp dq dr
def Ee Vl:=KN Vl
def Ky(j29:Int->Int->Int->Int->LB->LB->Bool->Int->LB-> (List (Int×LB×Unit))->LB->LX-> (List LB)->Ar)(b:List (UInt8×Int×Unit))(aa:UInt8×Int×Unit)(a:LB)(ab y f g h:Int)(k p:LB)(u:LX)(v:List LB)(m:LB)(n:Bool)(o ac ad ae:Int)(af:LB)(ag:Bool)(ah:Int)(w:List (Int×LB×Unit))(ai:LB)(aj:LX)(ak:List LB)(al:LB):Ar:=
(
(Bo a (Cq aa.2.1 (Aa a)) (Aa a)).bind λbm=>
(Bv w ([(ab,([]:LB),())]:List (Int×LB×Unit))).bind λbn=>
j29 y ac ad ae af al ag ah bm bn ai aj ak)
def Ti Vl b:=Ky (Ee Vl b) b
def LW(j29:Int->Int->Int->Int->LB->LB->Bool->Int->LB-> (List (Int×LB×Unit))->LB->LX-> (List LB)->Ar)(b:List (UInt8×Int×Unit))(an y f g h:Int)(k p:LB)(u:LX)(v:List LB)(m:LB)(n:Bool)(o:Int)(a:LB)(ao ap aq:Int)(ar au:LB)(av:Bool)(aw:Int)(ax:LB)(w:List (Int×LB×Unit))(ay:LB)(az:LX)(ba:List LB):Ar:=
(Bv w ([(an,ax,())]:List (Int×LB×Unit))).bind λds=>
j29 y ao ap aq ar au av aw a ds ay az ba
def Ty Vl b:=LW (Ee Vl b) b
def JY(j29:Int->Int->Int->Int->LB->LB->Bool->Int->LB-> (List (Int×LB×Unit))->LB->LX-> (List LB)->Ar)(b:List (UInt8×Int×Unit))(bb y f g h:Int)(k p:LB)(u:LX)(v:List LB)(m:LB)(n:Bool)(o:Int)(a:LB)(bc bd be:Int)(bf:LB)(bg:Bool)(bh:Int)(w:List (Int×LB×Unit))(bi:LB)(bj:LX)(bk:List LB)(bl:LB):Ar:=
(Bv w ([(bb,([]:LB),())]:List (Int×LB×Unit))).bind λdt=>
j29 y bc bd be bf bl bg bh a dt bi bj bk
def Ts Vl b:=JY (Ee Vl b) b
def Lb(j26:(UInt8×Int×Unit)->LB->Int->Int->Int->Int->Int->LB->LB->LX-> (List LB)->LB->Bool->Int->Int->Int->Int->LB->Bool->Int-> (List (Int×LB×Unit))->LB->LX-> (List LB)->LB->Ar)(j33:Int->Int->Int->Int->Int->LB->LB->LX-> (List LB)->LB->Bool->Int->LB->Int->Int->Int->LB->LB->Bool->Int->LB-> (List (Int×LB×Unit))->LB->LX-> (List LB)->Ar)(j34:Int->Int->Int->Int->Int->LB->LB->LX-> (List LB)->LB->Bool->Int->LB->Int->Int->Int->LB->Bool->Int-> (List (Int×LB×Unit))->LB->LX-> (List LB)->LB->Ar)(j29:Int->Int->Int->Int->LB->LB->Bool->Int->LB-> (List (Int×LB×Unit))->LB->LX-> (List LB)->Ar)(j31:(List (Int×LB×Unit))->Int->Int->Int->LB->LB->Bool->Int->LB->LB->LX-> (List LB)->Ar)(b:List (UInt8×Int×Unit))(y f g h:Int)(k m:LB)(n:Bool)(o:Int)(a:LB)(w:List (Int×LB×Unit))(p:LB)(u:LX)(v:List LB):Ar:=
if(Cb y (Aa b))then
(Al b y).bind λaa=>
if(geq aa.1 1)then
(
(
(
(Bo a 0 (Cq aa.2.1 (Aa a))).bind λam=>
(
(Fj f g h k p u v m n o am).bind λ(ac,ad,ae,af,ai,aj,ak,al,ag,ah,ab)=>
j26 aa a ab y f g h k p u v m n o ac ad ae af ag ah w ai aj ak al))))
else
if(geq aa.1 2)then
(
(
(
(Mu f g h k p u v m n o aa.2.1).bind λ(ao,ap,aq,ar,ay,az,ba,au,av,aw,ax,an)=>
j33 an y f g h k p u v m n o a ao ap aq ar au av aw ax w ay az ba)))
else
if(geq aa.1 3)then
(
(
(
(Kv f g h k p u v m n o).bind λ(bc,bd,be,bf,bi,bj,bk,bl,bg,bh,bb)=>
j34 bb y f g h k p u v m n o a bc bd be bf bg bh w bi bj bk bl)))
else
j29 y f g h k m n o a w p u v
else
j31 w f g h k m n o a p u v
def Ef:Nat->Int->Int->Int->Int->LB->LB->Bool->Int->LB-> (List (Int×LB×Unit))->LB->LX-> (List LB)->Ar
|0,_,_,_,_,_,_,_,_,_,_,_,_,_=>none
|z+1,c,d,e,i,j,A,B,C,D,E,F,G,I=>Lb (Ti (Ef z) P) (Ty (Ef z) P) (Ts (Ef z) P) (Ee (Ef z) P) Tz P c d e i j A B C D E F G I
def KI b:=Ef b Ck
def Wm(j17:(List (UInt8×Int×Unit))->Int->Int->Int->Int->LB->LB->Bool->Int->LB-> (List (Int×LB×Unit))->LB->LX-> (List LB)->Ar)(du dv dw:Int)(dx dy:LB)(b:List (UInt8×Int×Unit)):Ar:=
(Xr b).bind λbq=>
if(Bg bq 0)then
some (0,0,0,([]:LB),([]:LB),([]:LX),([]:List LB),([]:LB),false,0,([]:List (Int×LB×Unit)),bq)
else
(CQ du dv dw dx).bind λ(dz,fa,fb,fc,fd,fe,ff,fg,fh,fi,br)=>
if(Bg br 0)then
some (0,0,0,([]:LB),([]:LB),([]:LX),([]:List LB),([]:LB),false,0,([]:List (Int×LB×Unit)),br)
else
j17 b 0 dz fa fb fc fg fh fi dy ([]:List (Int×LB×Unit)) fd fe ff
def FP:=Wm KI
abbrev Dc:=Option (Int×Int)
def PM:Dc:=
some (z,0)
def Vn:=PM
def ND(tF:LB->Int->Int->Int->Int->Int->LB->LB->Bool->Int->LB->LX-> (List LB)->Dc)(a:List (UInt8×Int×Unit))(b f:Int)(au:LB)(ab ac ad:Int)(ae af:LB)(ag:Bool)(ah:Int)(ai:LB)(aj:LX)(ak:List LB):Dc:=
(Xb ab ac ad ae ai aj ak af ag ah).bind λav=>
tF au (SB b av) (Ac f 1) ab ac ad ae af ag ah ai aj ak
def Wk tF:=ND tF
def Yn(j10:Int->Int->LB->Int->Int->Int->LB->LB->Bool->Int->LB->LX-> (List LB)->Dc)(j12:Int->Dc)(a:List (UInt8×Int×Unit))(g:LB)(b f h k m:Int)(n o:LB)(p:Bool)(u:Int)(v:LB)(w:LX)(y:List LB):Dc:=
if(Cb f (Aa a))then
(Al a f).bind λaa=>
if(geq aa.1 1)then
(Bo g 0 (Cq aa.2.1 (Aa g))).bind λaw=>
(Fj h k m n v w y o p u aw).bind λ(ax,ay,az,ba,bb,bc,bd,be,bf,bg,dp)=>
(Bo g (Cq aa.2.1 (Aa g)) (Aa g)).bind λbh=>
j10 b f bh ax ay az ba be bf bg bb bc bd
else
if(geq aa.1 2)then
(Mu h k m n v w y o p u aa.2.1).bind λ(bi,bj,bk,bl,bm,bn,bp,bq,br,bs,dq,dr)=>
j10 b f g bi bj bk bl bq br bs bm bn bp
else
if(geq aa.1 3)then
(Kv h k m n v w y o p u).bind λ(bt,bu,bv,bw,bx,bz,da,db,dc,dd,ds)=>
j10 b f g bt bu bv bw db dc dd bx bz da
else
j10 b f g h k m n o p u v w y
else
j12 b
def Oe:Nat->LB->Int->Int->Int->Int->Int->LB->LB->Bool->Int->LB->LX-> (List LB)->Dc
|0,_,_,_,_,_,_,_,_,_,_,_,_,_=>none
|z+1,c,d,e,i,j,A,B,C,D,E,F,G,I=>Yn (Wk (Oe z) P) Vn P c d e i j A B C D E F G I
def SI a:=Oe a Ck
def Zv(j7:(List (UInt8×Int×Unit))->LB->Int->Int->Int->Int->Int->LB->LB->Bool->Int->LB->LX-> (List LB)->Dc)(al am an:Int)(ao ap:LB)(a:List (UInt8×Int×Unit)):Dc:=
(FP al am an ao ap a).bind λ(dt,du,dv,dw,dx,dy,dz,fa,fb,fc,fd,aq)=>
if(Bg aq 0)then
some (0,aq)
else
(CQ al am an ao).bind λ(de,df,dg,dh,di,dj,dk,dl,dm,dn,ar)=>
if(Bg ar 0)then
some (0,ar)
else
j7 a ap 0 0 de df dg dh dl dm dn di dj dk
def Pg:=Zv SI
def HN(a b f:Int)(g:LX):Option (Int×Int):=
some (a,b)
def ZV:Option Int:=
(HN z d i e).bind λ(c,j)=>
(Jc c j).bind λA=>
if((Bg A 0)||(Cb D 1))then
some 8
else
(Dl (Bg z 0)).bind λ_=>
if(Es D (Fx 4000 z))then
some 8
else
(Mv i D).bind λ(B,C)=>
if(Bg C 0)then
some 8
else
some 0
def Ma:Option Int:=
if(Cb z 1)then
some 8
else
(Dl (Bg z 0)).bind λ_=>
if(Bg (Gs (Aa e) z) 0)then
some 8
else
(Dl (Bg z 0)).bind λ_=>
(ZV z d i e (Fx (Aa e) z)).bind λc=>
if(Bg c 0)then
some c
else
(Ki d e).bind λj=>
if(Bg j 0)then
some 8
else
some 0
abbrev Vg:=Option (Int×Int×Int×Int×Int×Int)
def VO:Vg:=
if(c !=([]:LB))then
some (2,z,d,i,(Fx (Aa e) z),0)
else
some (1,z,d,i,(Fx (Aa e) z),0)
def CG:=VO
def Py(j2:LB->Int->Int->Int->LX->Vg)(a b f:Int)(g:LX)(h:LB):Vg:=
(Ma a b f g).bind λk=>
if(Bg k 0)then
some (0,0,0,0,0,k)
else
if(Es (Aa h) 64)then
some (0,0,0,0,0,2)
else
(Dl (Bg a 0)).bind λ_=>
(
j2 h a b f g)
def RE:=Py CG
def Hx(a:Int)(b:LX):LI->Int->Option (List LX)
  |[],_=>some []
  |n::l,x=>Option.bind (Bo b x (Ac x (Da n a))) λp=>Option.bind (Hx a b l (Ac x (Da n a))) λps=>some (p::ps)
def My(a f:Int)(t:LX):List LX->List LB->Option (List LB×Int)
  |[],o=>some (o,0)
  |x::xs,o=>Option.bind (Gf a f t x) λy=>
    if(Bg y.2 0)=true then some ([],y.2)
    else Option.bind (Bv o [y.1]) λo'=>My a f t xs o'
def DG:Option (List LX):=
  Option.bind (Dl (Bg z 0)) λ_=>Option.bind (Nb d (Fx (Aa e) z)) λc=>Option.bind (Dl (decide (Aa c.1<=17179869184))) λ_=>Hx z e c.1 0
def BT:Option (List LB×Int):=
  Option.bind (Ma z d i e) λc=>
    if(Bg c 0)=true then some ([],c)
    else Option.bind (Gx M) λj=>
      if(Bg j.2 0)=true then some ([],j.2)
      else Option.bind (DG z i e) λA=>My z d j.1 A []
def FW:Option Int:=
some (Aa c)
def VG:Option (LB):=
some c
def DO:=VG
def CS(j6:LB->Option (LB))(AK:Int->LB->Option (LB))(a:List LB)(f:Int)(b:LB):Option (LB):=
if(Cb f (Aa a))then
(Al a f).bind λg=>
(Bv b g).bind λh=>
AK (Ac f 1) h
else
j6 b
def Rp:Nat->Int->LB->Option (LB)
|0,_,_=>none
|z+1,c,d=>CS DO (Rp z) E c d
def WW a:=Rp a Ck
def BR(j4:(List LB)->Int->LB->Option (LB))(a:List LB):Option (LB):=
j4 a 0 ([]:LB)
def RJ:=BR WW
abbrev By:=Option (LB×Int)
def RT:By:=
if(Bg z 0)then
some (([]:LB),z)
else
(Bv ([M,X,jw]:List LB) E).bind λc=>
(RJ c).bind λd=>
some (d,0)
def SZ:=RT
def RV(j14:Int-> (List LB)->LB->LB->LB->By)(h:LI)(a:List LB)(b f:LB):By:=
(Ub h).bind λ(n,k)=>
j14 k a b f n
def AB:=RV SZ
def RO(vK:Int->LI->By)(a:List LB)(b f:LB)(g:Int)(m:LI):By:=
vK (Ac g 1) m
def Ze vK:=RO vK
def CM(j11:Int->LI->By)(j13:LI-> (List LB)->LB->LB->By)(a:List LB)(b f:LB)(g:Int)(h:LI):By:=
if(Cb g (Aa a))then
(Al a g).bind λ_=>
(Al a g).bind λae=>
(FW ae).bind λk=>
(Al h g).bind λ_=>
(Ia h g k).bind λm=>
j11 g m
else
j13 h a b f
def Rg:Nat->Int->LI->By
|0,_,_=>none
|z+1,c,d=>CM (Ze (Rg z) E M X) AB E M X c d
def XH a b f:=Rg a b f Ck
def AY(j9:(List LB)->LB->LB->Int->LI->By)(a:List LB)(b f:LB):By:=
(jG (Aa a) (0:Int)).bind λaf=>
(Dl (geq (Aa a) (Aa a))).bind λ_=>
j9 a b f 0 af
def VD:=AY XH
def BF(j8:(List LB)->LB->LB->By)(p u v:Int)(w:LX)(o:LB):By:=
(RE p u v w o).bind λ(y,ag,ah,ai,aj,aa)=>
if(Bg aa 0)then
some (([]:LB),aa)
else
(BT p u v w o).bind λ(a,ab)=>
if(Bg ab 0)then
some (([]:LB),ab)
else
(Xt y ag ah ai aj).bind λ(b,ac)=>
if(Bg ac 0)then
some (([]:LB),ac)
else
if(geq y 2)then
(Pj o).bind λ(ak,al)=>
j8 a b ak
else
j8 a b ([]:LB)
def DN:=BF VD
def Jp:Option Int:=
(Tt ([]:LB)).bind λ(z,d,e,i,j,A,B,C,D,E,F,G,I)=>
(En z d e i j A B C D E F G c).bind λ(J,L,M,N,O,P,R,T,U,V,X,Y,Z)=>
(Ks J L M N O P R T U V X Y).bind λ(cu,eu)=>
if(((Bg I 0)||(Bg Z 0))||(Bg eu 0))then
some (-1:Int)
else
some cu
def Pv:Option Bool:=
(DN 1 8 8000 ([(0:Int32)]:LX) ([]:LB)).bind λ(a,g)=>
if((Bg g 0)||(Bg (Aa a) 36))then
some false
else
(Gn 0).bind λ(b,f)=>
(Bo a 0 30).bind λh=>
(Jp h).bind λk=>
if(geq k 8)then
(Bo a 0 35).bind λm=>
(Jp m).bind λn=>
some (((geq n 13)&&(geq f 0))&&(geq b 16022))
else
some ((false&&(geq f 0))&&(geq b 16022))
noncomputable def Fy:Option Bool:=
(dT (λx:Int×Int×Int×LB×LB×LX×List LB×LB×Bool×Int=>BW x.1 x.2.1 x.2.2.1 x.2.2.2.1 x.2.2.2.2.1 x.2.2.2.2.2.1 x.2.2.2.2.2.2.1 x.2.2.2.2.2.2.2.1 x.2.2.2.2.2.2.2.2.1 x.2.2.2.2.2.2.2.2.2) ((0:Int),(0:Int),(0:Int),([]:LB),([]:LB),([]:LX),([]:List LB),([]:LB),false,(0:Int))).bind λ(ao,a)=>
(dT (λx:LB×LB×Int×Int×Int×Int×Int×LI×Int×LB×Bool×Int=>Ks x.1 x.2.1 x.2.2.1 x.2.2.2.1 x.2.2.2.2.1 x.2.2.2.2.2.1 x.2.2.2.2.2.2.1 x.2.2.2.2.2.2.2.1 x.2.2.2.2.2.2.2.2.1 x.2.2.2.2.2.2.2.2.2.1 x.2.2.2.2.2.2.2.2.2.2.1 x.2.2.2.2.2.2.2.2.2.2.2) (([]:LB),([]:LB),(0:Int),(0:Int),(0:Int),(0:Int),(0:Int),([]:LI),(1:Int),([]:LB),false,(0:Int))).bind λ(ap,b)=>
(dT (λx:Int=>Gn x) ((-1:Int))).bind λ(aq,f)=>
(dT (λx:Int=>Gn x) ((100001:Int))).bind λ(ar,g)=>
(dT (λx:Int=>Gn x) ((8022:Int))).bind λ(h,k)=>
(dT (λx:Int=>Gn x) ((8023:Int))).bind λ(m,n)=>
(dT (λx:Int=>Gn x) ((100000:Int))).bind λ(o,p)=>
(jG (65:Int) (0:UInt8)).bind λu=>
(Dl (geq (65:Int) (65:Int))).bind λ_=>
(dT (λx:LB×LB×List (UInt8×Int×Unit)=>Nf x.1 x.2.1 x.2.2) (u,([]:LB),([((0:UInt8),(0:Int),())]:List (UInt8×Int×Unit)))).bind λ(au,av,v)=>
(jG (65:Int) (0:UInt8)).bind λw=>
(Dl (geq (65:Int) (65:Int))).bind λ_=>
(dT (λx:LB×LB×List (UInt8×Int×Unit)=>Nf x.1 x.2.1 x.2.2) (w,([]:LB),([]:List (UInt8×Int×Unit)))).bind λ(aw,ax,y)=>
(jG (201:Int) ((0:UInt8),(0:Int),())).bind λaa=>
(Dl (geq (201:Int) (201:Int))).bind λ_=>
(dT (λx:Int×Int×Int×LB×LB×List (UInt8×Int×Unit)=>Pg x.1 x.2.1 x.2.2.1 x.2.2.2.1 x.2.2.2.2.1 x.2.2.2.2.2) ((0:Int),(0:Int),(0:Int),([]:LB),([]:LB),aa)).bind λ(ay,ab)=>
(dT (λx:Int×Int×Int×LB×LB×List (UInt8×Int×Unit)=>Pg x.1 x.2.1 x.2.2.1 x.2.2.2.1 x.2.2.2.2.1 x.2.2.2.2.2) ((0:Int),(0:Int),(0:Int),([]:LB),([]:LB),([]:List (UInt8×Int×Unit)))).bind λ(az,ac)=>
(dT (λx:LB×LB×List (UInt8×Int×Unit)=>Nf x.1 x.2.1 x.2.2) (([]:LB),([(1:UInt8)]:LB),([]:List (UInt8×Int×Unit)))).bind λ(ad,ae,af)=>
(jG (9:Int) (0:UInt8)).bind λag=>
(Dl (geq (9:Int) (9:Int))).bind λ_=>
(dT (λx:Int×Int×Int×LB×LB×List (UInt8×Int×Unit)=>Pg x.1 x.2.1 x.2.2.1 x.2.2.2.1 x.2.2.2.2.1 x.2.2.2.2.2) ((2:Int),(16:Int),(44100:Int),([]:LB),ag,([((1:UInt8),(9:Int),()),((3:UInt8),(0:Int),())]:List (UInt8×Int×Unit)))).bind λ(ah,ai)=>
(dT (λx:Int×Int×Int×LX×LB=>DN x.1 x.2.1 x.2.2.1 x.2.2.2.1 x.2.2.2.2) ((1:Int),(8:Int),(1:Int),([(1:Int32),(2:Int32)]:LX),([]:LB))).bind λ(aj,ak)=>
(dT (λx:LB×LB×List (UInt8×Int×Unit)=>Nf x.1 x.2.1 x.2.2) (([]:LB),aj,([((1:UInt8),(100:Int),()),((2:UInt8),(1:Int),()),((3:UInt8),(0:Int),())]:List (UInt8×Int×Unit)))).bind λ(ba,al,am)=>
if((((((((((((((((((((((true&&(geq a 8))&&(geq b 8))&&(geq f 2))&&(geq g 2))&&(geq k 0))&&(geq h 16022))&&(geq n 0))&&(geq m 16023))&&(geq p 0))&&(geq o 108000))&&(geq v 2))&&(geq y 2))&&(geq ab 4))&&(geq ac 2))&&(geq af 0))&&(geq ad 0))&&(geq ae 0))&&(geq ai 0))&&(geq ah 17))&&(geq ak 0))&&(geq am 0))&&(geq al 2))then
(dT (λ_:Unit=>Pv) ()).bind λan=>
some an
else
some false
end Go.Pl
