/- A part of a proof (see the text that ends in Proof). No conditions. -/
import Derived.Test.YtjjpijoihenabaaGreatDoorOnBA
set_option linter.unusedVariables false
namespace Go.Pl
open Go Go.Lv
abbrev Jz3(R:Type):=Int->Int->Int->R
abbrev Jz4(R:Type):=Int->Int->Int->Int->R
abbrev Jz5(R:Type):=Int->Int->Int->Int->Int->R
abbrev Jz6(R:Type):=Int->Int->Int->Int->Int->Int->R
abbrev Jz7(R:Type):=Int->Int->Int->Int->Int->Int->Int->R
abbrev Jz8(R:Type):=Int->Int->Int->Int->Int->Int->Int->Int->R
abbrev Jz9(R:Type):=Int->Int->Int->Int->Int->Int->Int->Int->Int->R
abbrev Jz10(R:Type):=Int->Int->Int->Int->Int->Int->Int->Int->Int->Int->R
abbrev LB:=List UInt8
abbrev LI:=List Int
abbrev LX:=List Int32
abbrev LU:=List UInt32
abbrev LQ:=List UInt64
abbrev Bsx:=List LB
abbrev Bu6:=Int->LB->Option (LB)
abbrev Bu1:=UInt64->Option UInt64
abbrev Bup:=UInt64->Int->Option UInt64
abbrev Bst:=Option Int
abbrev Btu:=Int->Option Int
abbrev Buj:=Int->Int->Option Int
abbrev Bsw:=List (LB×LB×Unit)
abbrev Bt2:=Int->LI->Option (LI)
abbrev Bt3:=Bool->Option Int
abbrev Bul:=List LI
variable(c:LB)(E:LI)(z d j I O Bqy Brg Br9 Bsa Bsb:Int)(i:LX)(l9:LI)(e Bq0:LB)(B F J T U:Int)(P:LI)(R:Int)(L:LB)(C:Bool)(D Bq5:Int)(M:LX)(l5:Bsx)(X:LB)(Brl:Bool)(o8 Brh:Int)(Bq6:LB)(Bsg:LI)(Bsh:Bsx)(Br1 Bsi Bsj:Int)(Brm:LB)(Bsk:Bool)(Bsl:Int)(Br2:LB)(Brc:LX)(Br3:LB)(Bsm:Bool)(Bsn:Int)(Bso:LB)(Bry:Bsx)(Bsp:LB)(A:UInt64)(V:UInt32)(Y:UInt64)(o7:LB)(Brn:LB->Option (LB))(Bro:Bu6)(l7 Brp:Int)(Bre:UInt64)(Bri:Int)(Bsc:LB)(Bq7:Bu1)(Bq8:Bup)(Br4:Int)(Brj:LB)(Bsq:Int)(o9:UInt64)(y7:Int)(Bq9:Bst)(Bra:Btu)(G Brq:Int32)(Bq2:LX)(N:Int)(p8 p9:LX)(Brk:Int32)(Brr:UInt64)(Brs:Bsx)(Bqz:Int)(Brt:LB)(Brb:Buj)(Brf:LI)(Brd y8:Int)(l6:Bsw)(Bru Br5:Int)(Bsr:Btu)(Br6:LI)(Bsd Brz:Int)(Brv:UInt8)(Bse:UInt64)(Bq1:Int)(Z:LU)(Bq3 Bq4:Int)(Br0:LX)(y9:LQ)(Bss:Bt2)(Bsf:LI)(Br7:UInt64)(r9:Bt3)(y5:Bool)(Brw:Int)(Brx:LB)(Br8:Bul)
def Fm:Option (Int×Int×Int×LX):=some (1,8,8000,([(0:Int32)]:LX))
abbrev Bs1:=Option (Int×Int)
def OT(a b f:Int)(g:LX):Bs1:=some (a,b)
abbrev gG:=Option (Int32×Int32×Int)
def Bi4:gG:=if C then(Is (Mv (Ap z 1) 0)).bind λ_=>some ((G0 (Dy (1:Int32) (GI.toZ (Ap z 1)).toNat)),(Ap (Dy (1:Int32) (GI.toZ (Ap z 1)).toNat) 1),0)
else
some (0,0,2)
def cD:=Bi4
def aK(j2:Int->Bool->gG)(a:Int):gG:=if(geq a 8)then
j2 a (geq a 8)
else
if(geq a 16)then
j2 a (geq a 16)
else
j2 a (geq a 24)
def Tk:=aK cD
def Gk:Bst:=(Tk d).bind λ(c,e,i)=>if(((Bd i 0)||(Ck z 1))||(Ei z 6))then
some 2
else
some 0
def Pk:Bs1:=if((Ck z 1)||(Ei z 1048576))then
some (0,2)
else
some ((wY 1 (Bo (Bg 256 z) 245)),0)
def Kk:Bs1:=(Pk z).bind λ(c,e)=>if(Bd e 0)then
some (0,e)
else
if((Ck d 1)||(Ei d 4000))then
some (0,2)
else(Is (Bd c 0)).bind λ_=>if(Ei (Bo (Ap (Ad d c) 1) c) 1000)then
some (0,4)
else
some ((Bo (Ap (Ad d c) 1) c),0)
def OO:Bst:=(OT z d j i).bind λ(c,e)=>(Gk c e).bind λA=>if((Bd A 0)||(Ck B 1))then
some 8
else(Is (Bd z 0)).bind λ_=>if(Ei B (Bo 4000 z))then
some 8
else(Kk j B).bind λ(C,D)=>if(Bd D 0)then
some 8
else
some 0
def Bmh :Bst:=some 0
def Bjv:=Bmh
def IW:Bst:=if(Ck N (Ac Bq2))then(Am Bq2 N).bind λz=>if((Ck z G)||(Ei z Brq))then
some 16
else
Bra (Ad N 1)
else
Bq9
def Ur:Nat->Int->Option Int
|0,_=>none
|z+1,c=>IW Bjv (Ur z) G Brq Bq2 c
def Bqu b f a:=Ur b f a Au
def aV(j4:Int32->Int32->LX->Int->Option Int)(m:Int)(a:LX):Bst:=(Tk m).bind λ(b,f,k)=>if(Bd k 0)then
some k
else
if(Ei (Ac a) 4000)then
some 4
else
j4 b f a 0
def Sr:=aV Bqu
def En:Bst:=if(Ck z 1)then
some 8
else(Is (Bd z 0)).bind λ_=>if(Bd (Gz (Ac i) z) 0)then
some 8
else(Is (Bd z 0)).bind λ_=>(OO z d j i (Bo (Ac i) z)).bind λc=>if(Bd c 0)then
some c
else(Sr d i).bind λe=>if(Bd e 0)then
some 8
else
some 0
abbrev Em:=Option (LB×Int)
def Bpf:Em:=some (c,0)
def Bgd:=Bpf
abbrev Buz:=Int->LB->Em
def Bfp(Je:Buz)(b:Int)(a:LX)(f:Int)(h:LB):Em:=Je (Ad f 1) h
def VE Je:=Bfp Je
def EV(j28:Buz)(SV:Buz)(b:Int)(a:LX)(k:Int32)(f m:Int)(h:LB):Em:=if(Ck m (Bo b 8))then(Is (Mv (Bg 8 m) 0)).bind λ_=>(Ds h ([(Ae (Cn k (GI.toZ (Bg 8 m)).toNat):UInt8)]:LB)).bind λp=>SV (Ad m 1) p
else
j28 f h
def Ls(Je:Buz)(b:Int)(a:LX)(k:Int32)(f:Int):Nat->Int->LB->Em
|0,_,_=>none
|q+1,m,h=>EV (VE Je b a) (Ls Je b a k f q) b a k f m h
def Bgi Je b a k f:=Ls Je b a k f Au
def UL(j26:Int32->Int->Int->LB->Em)(b:Int)(a:LX)(f:Int)(g:LB)(k:Int32):Em:=j26 k f 0 g
def Ou Je b a:=UL (Bgi Je b a) b a
def FH(j25:Int->LB->Int32->Em)(j30:LB->Em)(b:Int)(a:LX)(f:Int)(g:LB):Em:=if(Ck f (Ac a))then(Am a f).bind λn=>if(geq b 8)then
j25 f g (Ad n 128)
else
j25 f g n
else
j30 g
def Hw:Nat->Int->LB->Em
|0,_,_=>none
|c+1,d,e=>FH (Ou (Hw c) z i) Bgd z i d e
def Bpk b a:=Hw b a Au
def aX(j16:Int->LX->Int->LB->Em)(b:Int)(a:LX):Em:=(Sr b a).bind λo=>if(Bd o 0)then
some (([]:LB),o)
else
j16 b a 0 ([]:LB)
def Jy:=aX Bpk
def EI:Option (Int×Bool):=(Pk j).bind λ(c,i)=>(Gk z d).bind λA=>some (c,(((geq A 0)&&(geq i 0))&&(T9 (Ac e) 64)))
abbrev Btj:=Option (Int×Int×Int×LB×LB×LX×(List LB)×LB×Bool×Int×Int)
def eB:Btj:=(EI z d j e).bind λ(c,i)=>if(!i)then
some (0,0,0,([]:LB),([]:LB),([]:LX),([]:Bsx),([]:LB),false,0,2)
else
some (z,d,j,e,([]:LB),([]:LX),([]:Bsx),([]:LB),false,0,0)
def JI:Bst:=some (Bo (Bg z d) 8)
def Xv(a h k:Int)(m n:LB)(b:LX)(f:Bsx)(o:LB)(p:Bool)(u g:Int):Bst:=(Is (Bd a 0)).bind λ_=>some (Ad (Bg (Ac f) g) (Bo (Ac b) a))
abbrev Bsu:=Option Bool
def Xf(a g h:Int)(k m:LB)(n:LX)(o:Bsx)(p:LB)(u:Bool)(v b f:Int):Bsu:=some ((T9 b 1000)&&(T9 (Bg f a) 4000))
def Bqm:Bsu:=some (!C)
def Ali:=Bqm
abbrev Buq:=Bool->Option Bool
def Akq(j24:Buq)(w:Bool):Bsu:=j24 w
def DT:=Akq Ali
def Al9(j23:Buq):Bsu:=j23 (Mv (-1:Int) (0:Int))
def Akz:=Al9 DT
abbrev Bt4:=Int->Option Bool
def Ald(Je:Bt4)(b:Bsx)(f a h:Int):Bsu:=Je (Ad h 1)
def DF Je:=Ald Je
def DS(j23:Buq)(j20:Bt4)(b:Bsx)(f a h:Int)(y:LB):Bsu:=if((Ck (Ac y) 5)||(Ei (Ac y) (Ad (Bo (Ad (Bg (Bg 81 f) a) 7) 8) 4)))then
j23 (Mv h 0)
else
j20 h
def CW Je b f a:=DS DT (DF Je b f a) b f a
def Uf(j19:Int->LB->Option Bool)(j22:Bsu)(b:Bsx)(f a h:Int):Bsu:=if(Ck h (Ac b))then(Am b h).bind λy=>j19 h y
else
j22
def Ll:Nat->Int->Option Bool
|0,_=>none
|z+1,c=>Uf (CW (Ll z) l5 o8 Brh) Akz l5 o8 Brh c
def CX b f a:=Ll b f a Au
def Ua(j16:(List LB)->Jz3 (Option Bool))(f a k o:Int)(p m:LB)(g:LX)(b:Bsx)(n:LB)(u:Bool)(v:Int):Bsu:=j16 b f a 0
def Um:=Ua CX
abbrev Bth:=Jz4 (LB->LB->LX-> (List LB)->LB->Bool->Int->Option Bool)
def Ub(j15:Bth)(f a k o:Int)(p m:LB)(g:LX)(b:Bsx)(n:LB)(u:Bool)(v aa:Int):Bsu:=(Xv a k o p m g b n u v f).bind λab=>(Xf a k o p m g b n u v aa ab).bind λac=>if(!ac)then
some false
else
j15 f a k o p m g b n u v
def Uc:=Ub Um
def DI(j14:Jz4 (LB->LB->LX-> (List LB)->LB->Bool->Int->Int->Option Bool))(f a k o:Int)(p m:LB)(g:LX)(b:Bsx)(n:LB)(u:Bool)(v:Int):Bsu:=(Sr k g).bind λad=>if(Bd ad 0)then
some false
else
if(Ei (Ac g) 0)then
j14 f a k o p m g b n u v (Ad (Ac b) 1)
else
j14 f a k o p m g b n u v (Ac b)
def DA:=DI Uc
def FV(j13:Bth)(a k o:Int)(p m:LB)(g:LX)(b:Bsx)(n:LB)(u:Bool)(v f:Int):Bsu:=if(Ei (Ac n) 0)then
if true then
if true then
if(true||(Ei (Ac b) 1000))then
some false
else
j13 f a k o p m g b n u v
else(Is (Bd a 0)).bind λ_=>if((Mv (Bo (Ac g) a) f)||(Ei (Ac b) 1000))then
some false
else
j13 f a k o p m g b n u v
else(Is (Bd a 0)).bind λ_=>if(Bd (Gz (Ac g) a) 0)then
if(true||(Ei (Ac b) 1000))then
some false
else
j13 f a k o p m g b n u v
else(Is (Bd a 0)).bind λ_=>if((Mv (Bo (Ac g) a) f)||(Ei (Ac b) 1000))then
some false
else
j13 f a k o p m g b n u v
else(JI a k).bind λae=>if(Mv (Ac m) ae)then
if true then
if(true||(Ei (Ac b) 1000))then
some false
else
j13 f a k o p m g b n u v
else(Is (Bd a 0)).bind λ_=>if((Mv (Bo (Ac g) a) f)||(Ei (Ac b) 1000))then
some false
else
j13 f a k o p m g b n u v
else(Is (Bd a 0)).bind λ_=>if(Bd (Gz (Ac g) a) 0)then
if(true||(Ei (Ac b) 1000))then
some false
else
j13 f a k o p m g b n u v
else(Is (Bd a 0)).bind λ_=>if((Mv (Bo (Ac g) a) f)||(Ei (Ac b) 1000))then
some false
else
j13 f a k o p m g b n u v
def FA:=FV DA
def QR:Bst:=(EI z d j e).bind λ(c,i)=>if(!i)then
some 8
else
if(Bd o8 0)then
if(!(((((geq o8 18)||(geq o8 24))&&(!Brl))&&(geq (Ad (Ad (Ac Bq0) (Ac M)) (Ac l5)) 0))&&(geq (Ac X) 0)))then
some 8
else
some 0
else
if Brl then
if(!((geq (Ad (Ad (Ac Bq0) (Ac M)) (Ac l5)) 0)&&(T9 (Ac X) 100000)))then
some 8
else
some 0
else(FA z d j e Bq0 M l5 X Brl o8 c).bind λA=>if(!A)then
some 8
else
some 0
abbrev Bsz:=Option (LB)
def Ca:Bsz:=(
(Ds ([]:LB) c).bind λz=>some z)
abbrev Bs6:=Option (LX)
def Dr:Bs6:=(
(Ds ([]:LX) i).bind λz=>some z)
abbrev Kz:=Option (Int×Int×Int×LB×LB×LX×(List LB)×LB×Bool×Int)
def Bpl(b f g:Int)(h:LB)(a:Bsx)(k:Bool)(m:Int)(u:Bsx)(n:LB)(o:LX)(p:LB):Kz:=some (b,f,g,h,n,o,u,p,k,m)
def Bfl:=Bpl
def FM(j8:Jz3 (LB-> (List LB)->Bool->Int-> (List LB)->LB->LX->LB->Kz))(qw:Int-> (List LB)->Kz)(w a:Bsx)(b f g:Int)(h:LB)(k:Bool)(m:Int)(n:LB)(o:LX)(p:LB)(v:Int)(u:Bsx):Kz:=if(Ck v (Ac (XF w a)))then(Am u v).bind λ_=>(Am u v).bind λy=>(Ca y).bind λaa=>(Am u v).bind λ_=>(Nj u v aa).bind λab=>qw (Ad v 1) ab
else
j8 b f g h a k m u n o p
def Sk:Nat->Int-> (List LB)->Kz
|0,_,_=>none
|z+1,c,d=>FM Bfl (Sk z) l5 Bsh Br1 Bsi Bsj Brm Bsk Bsl Br2 Brc Br3 c d
def Bph w a b f g h k m n o p:=Sk w a b f g h k m n o p Au
def VI(j6:(List LB)-> (List LB)->Jz3 (LB->Bool->Int->LB->LX->LB->Int-> (List LB)->Kz))(b f g:Int)(h:LB)(a:Bsx)(k:Bool)(m:Int)(n:LB)(o:LX)(p:LB):Kz:=(og (Ac a) ([]:LB)).bind λw=>(Is (geq (Ac a) (Ac a))).bind λ_=>j6 w a b f g h k m n o p 0 (XF w a)
def VC:=VI Bph
def US(j5:Jz3 (LB-> (List LB)->Bool->Int->LB->LX->LB->Kz))(b f g:Int)(h ac:LB)(ad:LX)(a:Bsx)(ae:LB)(k:Bool)(m:Int):Kz:=(Ca ac).bind λn=>(Dr ad).bind λo=>(Ca ae).bind λp=>j5 b f g h a k m n o p
def XZ:=US VC
abbrev UX:=Option (Int×Int×Int×LB×LB×LX×(List LB)×LB×Bool×Int×Int×Int)
def Axx:UX:=(XZ d j I e Bq0 M l5 X Brl o8).bind λ(c,i,A,B,C,D,E,F,G,J)=>some (c,i,A,B,C,D,E,F,G,J,z,Brh)
def QN:=Axx
def OJ(j2:Jz4 (LB->LB->LX-> (List LB)->LB->Bool->Int->Int->UX))(g h b:Int)(k m:LB)(n:LX)(o:Bsx)(p:LB)(f:Bool)(a:Int):UX:=(QR g h b k m n o p f a).bind λw=>if(Bd w 0)then
some (0,0,0,([]:LB),([]:LB),([]:LX),([]:Bsx),([]:LB),false,0,0,w)
else(Pk b).bind λ(u,aj)=>if(Bd a 0)then
j2 u g h b k m n o p f a a
else
if f then
j2 u g h b k m n o p f a 36
else
j2 u g h b k m n o p f a aj
def EM:=OJ QN
abbrev Dg:=Option (LX×Int)
def Bmm:Dg:=some (i,0)
def Auf:=Bmm
abbrev Bu0:=Int->LX->Dg
def Zh(Je:Bu0)(a:Int)(b:LB)(f:Int)(m:LX):Dg:=Je (Ad f (Bo a 8)) m
def Ks Je:=Zh Je
def Yz(j28:Bu0)(a:Int)(b:LB)(f:Int)(h:Int32)(g:LX):Dg:=(Is (Mv (Ap 32 a) 0)).bind λ_=>(Is (Mv (Ap 32 a) 0)).bind λ_=>(Ds g ([(Cn (Dy h (GI.toZ (Ap 32 a)).toNat) (GI.toZ (Ap 32 a)).toNat)]:LX)).bind λp=>j28 f p
def Zn Je a b:=Yz (Ks Je a b) a b
def Gx(j27:Int->Int32->LX->Dg)(Bj5:Int32->Int->Dg)(a:Int)(b:LB)(f:Int)(g:LX)(h:Int32)(k:Int):Dg:=if(Ck k (Bo a 8))then(Am b (Ad f k)).bind λn=>(Is (Mv (Bg 8 k) 0)).bind λ_=>Bj5 (zT h (Dy (Ae n:Int32) (GI.toZ (Bg 8 k)).toNat)) (Ad k 1)
else
j27 f h g
def Ft(Je:Bu0)(a:Int)(b:LB)(f:Int)(g:LX):Nat->Int32->Int->Dg
|0,_,_=>none
|q+1,h,k=>Gx (Zn Je a b) (Ft Je a b f g q) a b f g h k
def Od Je a b f g:=Ft Je a b f g Au
def Hb(j28:Bu0)(j25:Int->LX->Int32->Int->Dg)(j30:LX->Dg)(a:Int)(b:LB)(f:Int)(g:LX):Dg:=if(Ck f (Ac b))then
if(geq a 8)then(Am b f).bind λn=>(Ds g ([(Ap (Ae n:Int32) 128)]:LX)).bind λu=>j28 f u
else
j25 f g 0 0
else
j30 g
def Ey:Nat->Int->LX->Dg
|0,_,_=>none
|c+1,d,i=>Hb (Ks (Ey c) z e) (Od (Ey c) z e) Auf z e d i
def Awi a b:=Ey a b Au
def PT(j16:Int->LB->Int->LX->Dg)(a:Int)(b:LB):Dg:=(Tk a).bind λ(v,w,o)=>if(Bd o 0)then
some (([]:LX),o)
else(Is (Bd (Bo a 8) 0)).bind λ_=>if(Bd (Gz (Ac b) (Bo a 8)) 0)then
some (([]:LX),12)
else(Is (Bd (Bo a 8) 0)).bind λ_=>if(Ei (Bo (Ac b) (Bo a 8)) 4000)then
some (([]:LX),4)
else
j16 a b 0 ([]:LX)
def Tp:=PT Awi
abbrev Cv:=Option (UInt64×Int)
def Bj8:Cv:=some (A,0)
def aJ:=Bj8
def ZB(j30:UInt64->Cv)(h b:UInt64)(a:LB)(f:LQ):Cv:=j30 h
def aU:=ZB aJ
def KF(j29:UInt64->UInt64->LB->LQ->Cv)(VX:UInt64->Int->Cv)(a:LB)(b:UInt64)(f:LQ)(h:UInt64)(n:Int):Cv:=if(Ck n (Ac a))then(Am a n).bind λp=>Option.bind (Am f (GI.toZ (BH (Ae (Cn h (GI.toZ (56:UInt64)).toNat):UInt8) p))) λ_=>Option.bind (Am f (GI.toZ (BH (Ae (Cn h (GI.toZ (56:UInt64)).toNat):UInt8) p))) λu=>VX (BH (Dy h (GI.toZ (8:UInt64)).toNat) u) (Ad n 1)
else
j29 h b a f
def Uz:Nat->UInt64->Int->Cv
|0,_,_=>none
|z+1,d,e=>KF aU (Uz z) c A y9 d e
def Bi8 a b f:=Uz a b f Au
def YY(j27:LB->UInt64->LQ->UInt64->Int->Cv)(b:UInt64)(a:LB)(f:LQ):Cv:=j27 a b f b 0
def KT:=YY Bi8
abbrev Bu8:=Int->LQ->Cv
def Bh3(Je:Bu8)(b:UInt64)(a:LB)(g:Int)(o:LQ):Cv:=Je (Ad g 1) o
def ZN Je:=Bh3 Je
def ZG(j24:Bu8)(b:UInt64)(a:LB)(g:Int)(k:UInt64)(f:LQ):Cv:=(Am f g).bind λ_=>(Nj f g k).bind λo=>j24 g o
def JO Je b a:=ZG (ZN Je b a) b a
def IN(j23:Int->UInt64->LQ->Cv)(T?:UInt64->Int->Cv)(b:UInt64)(a:LB)(g:Int)(f:LQ)(k:UInt64)(m:Int):Cv:=if(Ck m 8)then
T? (BH (Dy k (GI.toZ (1:UInt64)).toNat) (Bg 4823603603198064275 (Cn k (GI.toZ (63:UInt64)).toNat))) (Ad m 1)
else
j23 g k f
def Vo(Je:Bu8)(b:UInt64)(a:LB)(g:Int)(f:LQ):Nat->UInt64->Int->Cv
|0,_,_=>none
|q+1,k,m=>IN (JO Je b a) (Vo Je b a g f q) b a g f k m
def cE Je b a g f:=Vo Je b a g f Au
def KI(j21:Int->LQ->UInt64->Int->Cv)(j26:UInt64->LB->LQ->Cv)(b:UInt64)(a:LB)(g:Int)(f:LQ):Cv:=if(Ck g 256)then
j21 g f (Dy (Ae g:UInt64) (GI.toZ (56:UInt64)).toNat) 0
else
j26 b a f
def Rb:Nat->Int->LQ->Cv
|0,_,_=>none
|z+1,c,d=>KI (cE (Rb z) A o7) KT A o7 c d
def Bim b a:=Rb b a Au
def gH(j16:UInt64->LB->Int->LQ->Cv)(b:UInt64)(a:LB):Cv:=if(Ei (Ac a) 100000)then
some (0,4)
else
j16 b a 0 (List.replicate 256 (0:UInt64))
def nB:=gH Bim
abbrev Bto:=Option (UInt64×Int)
def iV:Bto:=(nB 0 c).bind λ(z,d)=>some (z,d)
def Al1:Bs6:=some i
def Ans:=Al1
abbrev Bux:=LX->Option (LX)
abbrev Btv:=Int->LX->Option (LX)
def oB(j6:Bux)(Rg:Btv)(f:UInt64)(b:Int)(a:LX):Bs6:=if(Ck b 8)then(Is (Mv (Bg 8 b) 0)).bind λ_=>(Am a b).bind λ_=>(Nj a b (Ae (Ae (Cn f (GI.toZ (Bg 8 b)).toNat):Int8):Int32)).bind λg=>Rg (Ad b 1) g
else
j6 a
def PW:Nat->Int->LX->Option (LX)
|0,_,_=>none
|z+1,c,d=>oB Ans (PW z) A c d
def Al3 f:=PW f Au
abbrev Bt1:=UInt64->Int->LX->Option (LX)
def Bkq(j4:Bt1)(f:UInt64):Bs6:=j4 f 0 (List.replicate 16 (0:Int32))
def nQ:=Bkq Al3
abbrev Bud:=Option (LX×Int)
def Oe:Bud:=if(Ei (Ac c) 64)then
some (([(0:Int32),(0:Int32),(0:Int32),(0:Int32),(0:Int32),(0:Int32),(0:Int32),(0:Int32),(0:Int32),(0:Int32),(0:Int32),(0:Int32),(0:Int32),(0:Int32),(0:Int32),(0:Int32)]:LX),2)
else(iV c).bind λ(z,d)=>if(Bd d 0)then
some (([(0:Int32),(0:Int32),(0:Int32),(0:Int32),(0:Int32),(0:Int32),(0:Int32),(0:Int32),(0:Int32),(0:Int32),(0:Int32),(0:Int32),(0:Int32),(0:Int32),(0:Int32),(0:Int32)]:LX),d)
else(nQ z).bind λe=>some (e,0)
def QQ:Bst:=(Gk z d).bind λc=>if(Bd c 0)then
some c
else(Sr d i).bind λe=>if(Bd e 0)then
some e
else
if(geq (Ac i) 0)then
some 2
else(Is (Bd z 0)).bind λ_=>if(Bd (Gz (Ac i) z) 0)then
some 2
else
some 0
def jM:Bst:=if((Ck z 1)||(Ei z 6))then
some 2
else
if(Ei (Ac i) 4000)then
some 4
else(Is (Bd z 0)).bind λ_=>if(Bd (Gz (Ac i) z) 0)then
some 2
else
some 0
abbrev Lm:=Option (LX×Int)
def Ahr:Lm:=some (i,0)
def An2:=Ahr
abbrev Bum:=Int->LX->Lm
def qU(gS:Bum)(b a:Int)(k:LX):Lm:=gS (Ad a b) k
def eG gS:=qU gS
def uR(j20:Bum)(b a:Int)(g:LX):Lm:=if(Ei (Ap ((Ad a b)-a) 1) 0)then(Is (decide (0<= (Ap ((Ad a b)-a) 1)/\ (Ap ((Ad a b)-a) 1)<((Ad a b)-a)))).bind λ_=>Option.bind (Is (decide (0<= (Ap (Ap ((Ad a b)-a) 1) 1)/\ (Ap (Ap ((Ad a b)-a) 1) 1)<((Ad a b)-a)))) λ_=>(Am g (a+(Ap ((Ad a b)-a) 1))).bind λm=>(Am g (a+(Ap (Ap ((Ad a b)-a) 1) 1))).bind λn=>(Is (decide (0<= (Ap ((Ad a b)-a) 1)/\ (Ap ((Ad a b)-a) 1)<((Ad a b)-a)))).bind λ_=>(Nj g (a+(Ap ((Ad a b)-a) 1)) (Ap m (Bo n 2))).bind λo=>j20 a o
else
j20 a g
def qM gS b:=uR (eG gS b) b
def cZ(j19:Bum)(sF:Bum)(b a h:Int)(g:LX):Lm:=if(Ck h (Ap ((Ad a b)-a) 1))then(Is (decide (0<= (Ad h 1)/\ (Ad h 1)<((Ad a b)-a)))).bind λ_=>(Is (decide (0<=h/\h<((Ad a b)-a)))).bind λ_=>(Am g (a+(Ad h 1))).bind λm=>(Am g (a+h)).bind λn=>(Is (decide (0<=h/\h<((Ad a b)-a)))).bind λ_=>(Nj g (a+h) (Ap m n)).bind λo=>sF (Ad h 1) o
else
j19 a g
def HX(gS:Bum)(b a:Int):Nat->Int->LX->Lm
|0,_,_=>none
|q+1,h,g=>cZ (qM gS b) (HX gS b a q) b a h g
def Axf gS b a:=HX gS b a Au
def qS(j17:Int->Int->LX->Lm)(j22:LX->Lm)(b a:Int)(f:LX):Lm:=if(Ck a (Ac f))then(jB (Ac f) a (Ad a b)).bind λ_=>j17 a 0 f
else
j22 f
def IB:Nat->Int->LX->Lm
|0,_,_=>none
|c+1,d,e=>qS (Axf (IB c) z) An2 z d e
def Ao0 b:=IB b Au
def zM(j12:Int->Int->LX->Lm)(b:Int)(p:LX):Lm:=(jM b p).bind λu=>if(Bd u 0)then
some (([]:LX),u)
else(Dr p).bind λv=>j12 b 0 v
def vg:=zM Ao0
abbrev zC:=Option (Int×LX×LX×Int)
def Ai3:zC:=if C then
some (10,i,(List.replicate 16 (0:Int32)),0)
else
if(geq z 16)then
some (9,i,(List.replicate 16 (0:Int32)),0)
else
some (0,(List.replicate 16 (0:Int32)),(List.replicate 16 (0:Int32)),2)
def Bc4:=Ai3
def Be6(j2:Int->LX->Bool->zC)(a:Int)(b:LX):zC:=if(geq a 8)then
j2 a b (geq a 8)
else
j2 a b (geq a 24)
def L6:=Be6 Bc4
abbrev Bt6:=Option (Int×Int32×Int×LX×LX×Int)
def Y0:Bt6:=(L6 z i).bind λ(c,d,e,j)=>if(Bd j 0)then
some (0,0,0,(List.replicate 16 (0:Int32)),(List.replicate 16 (0:Int32)),j)
else
some (z,0,c,d,e,0)
def AO(a:Int)(k:Int32)(b:Int)(f m:LX):Bst:=(L6 a f).bind λ(g,n,o,h)=>if((Bd h 0)||(Bd g b))then
some 8
else
some 0
def sL:Bs1:=if(geq z 8)then
some (4,0)
else
if(geq z 16)then
if(geq z 16)then
some (5,0)
else
some (0,2)
else
if(geq z 24)then
some (5,0)
else
some (0,2)
abbrev Btb:=Option Int32
def dE:Btb:=(Is (Mv z 0)).bind λ_=>(Is (Mv z 0)).bind λ_=>some (Ae (OF (Ap (Dy (Ae G:Int) (GI.toZ z).toNat) (Ae G:Int)) (GI.toZ z).toNat):Int32)
def AP:Option (Int32×Int):=(sL z).bind λ(c,d)=>if(Bd d 0)then
some (0,d)
else(dE c G).bind λe=>some (e,0)
def PN(a:Int)(b f:LX):Bst:=if((Bd a 9)&&(Bd a 10))then
some 8
else
some 0
abbrev Wy:=Option (Int32×Int)
def Blq(g:Int32)(a:Int)(b f:LX):Wy:=(Is (Mv a 0)).bind λ_=>some ((Cn g (GI.toZ a).toNat),0)
def fR:=Blq
def QU(j6:Int32->Int->LX->LX->Wy)(Rg:Int32->Int->Wy)(b:LX)(a:Int)(f:LX)(g:Int32)(h:Int):Wy:=if(Ck h 16)then(Am b h).bind λm=>(Am f h).bind λ_=>(Am f h).bind λn=>Rg (Ad g (Bg m n)) (Ad h 1)
else
j6 g a b f
def Yd:Nat->Int32->Int->Wy
|0,_,_=>none
|z+1,c,d=>QU fR (Yd z) i B M c d
def Blc b a f:=Yd b a f Au
def fN(j4:LX->Int->LX->Int32->Int->Wy)(a:Int)(b f:LX):Wy:=(PN a b f).bind λk=>if(Bd k 0)then
some (0,k)
else(Is (Mv (Ap a 1) 0)).bind λ_=>j4 b a f (Dy (1:Int32) (GI.toZ (Ap a 1)).toNat) 0
def aO:=fN Blc
def iQ:Btb:=if(geq z 0)then
some 4
else
if(Ck z 4)then
some 2
else
some 1
abbrev Wb:=Option (Int×LX×LX×Int)
def Aab:Wb:=some (z,i,M,0)
def Bld:=Aab
def QV(j6:Int->LX->LX->Wb)(Rg:Int->LX->Wb)(h:Int32)(f:LX)(g a:Int)(b:LX):Wb:=if(Ck a 16)then(Am f a).bind λm=>if(geq m 0)then
Rg (Ad a 1) b
else
if((Ck m 0)==(Ck h 0))then(Am b a).bind λ_=>(Am b a).bind λo=>(iQ a).bind λp=>(Am b a).bind λ_=>(Nj b a (Ad o p)).bind λu=>Rg (Ad a 1) u
else(Am b a).bind λ_=>(Am b a).bind λv=>(iQ a).bind λw=>(Am b a).bind λ_=>(Nj b a (Ap v w)).bind λy=>Rg (Ad a 1) y
else
j6 g b f
def Xu:Nat->Int->LX->Wb
|0,_,_=>none
|z+1,c,d=>QV Bld (Xu z) G Bq2 N c d
def Bqe h f g:=Xu h f g Au
def gD(j4:Int32->LX->Int->Int->LX->Wb)(g:Int)(k f:LX)(h:Int32):Wb:=(PN g k f).bind λn=>if(Bd n 0)then
some (0,(List.replicate 16 (0:Int32)),(List.replicate 16 (0:Int32)),n)
else
if(geq h 0)then
some (g,k,f,0)
else
j4 h f g 0 k
def oC:=gD Bqe
abbrev uD:=Option (Int×LX×LX×Int)
def Aaf:uD:=(Am (Yh p9 1 ((16:Int)-(1:Int)) (aW p9 0 ((16:Int)-(0:Int)))) 0).bind λ_=>(Nj (Yh p9 1 ((16:Int)-(1:Int)) (aW p9 0 ((16:Int)-(0:Int)))) 0 G).bind λz=>some (N,p8,z,0)
def mU:=Aaf
def XW(j2:Int32->Int->LX->LX->uD)(b:Int)(f a:LX)(g:Int32):uD:=(PN b f a).bind λh=>if(Bd h 0)then
some (0,(List.replicate 16 (0:Int32)),(List.replicate 16 (0:Int32)),h)
else(
(jB 16 1 16).bind λ_=>(jB 16 0 16).bind λ_=>j2 g b f a)
def wP:=XW mU
def ZA:Option (Int×LX×LX):=(oC z i M Brq).bind λ(c,d,e,j)=>(wP c d e G).bind λ(A,B,C,D)=>some (A,B,C)
abbrev Bue:=Option (Int32×Int×LX×LX×Int)
def eZ:Bue:=(aO z i M).bind λ(c,d)=>if(Bd d 0)then
some (0,0,(List.replicate 16 (0:Int32)),(List.replicate 16 (0:Int32)),d)
else(ZA z i M G (Ap G c)).bind λ(e,j,A)=>some ((Ap G c),e,j,A,0)
abbrev Bt0:=Option (Int32×Int×Int32×Int×LX×LX×Int)
def Xt:Bt0:=(AO z G N p8 p9).bind λc=>if(Bd c 0)then
some (0,0,0,0,(List.replicate 16 (0:Int32)),(List.replicate 16 (0:Int32)),c)
else(AP z G).bind λ(d,e)=>(eZ N p8 p9 (Ap Brk d)).bind λ(i,j,A,B,C)=>(
some (i,z,Brk,j,A,B,C))
abbrev Btg:=Option UInt32
def vR:Btg:=some (BH (Dy (Ae G:UInt32) (GI.toZ (1:UInt64)).toNat) (Ae (Cn G (GI.toZ (31:UInt64)).toNat):UInt32))
abbrev Eg:=Option (LU×Int)
def Bm8:Eg:=some (Z,0)
def Ast:=Bm8
abbrev Bs0:=List (Int×Int32×(Int×LX×LX×Unit)×Unit)
def Xb(j12:LU->Eg)(TA:Int-> (List (Int×Int32×(Int×LX×LX×Unit)×Unit))->LU->Eg)(b:LX)(a f g:Int)(o:Bs0)(k:LU):Eg:=if(Ck g (Ac b))then(Am b g).bind λ_=>(Am b g).bind λac=>(Is (Bd a 0)).bind λ_=>(Am o (Gz g a)).bind λ_=>(Am o (Gz g a)).bind λp=>(Xt p.1 p.2.1 p.2.2.1.1 p.2.2.1.2.1 p.2.2.1.2.2.1 ac).bind λ(u,ad,ae,v,af,ag,w)=>if(Bd w 0)then
some (([]:LU),w)
else(Nj o (Gz g a) (ad,ae,(v,af,ag,()),())).bind λah=>(vR u).bind λai=>(Ds k ([ai]:LU)).bind λaj=>TA (Ad g 1) ah aj
else
j12 k
def Mw:Nat->Int-> (List (Int×Int32×(Int×LX×LX×Unit)×Unit))->LU->Eg
|0,_,_,_=>none
|z+1,c,d,e=>Xb Ast (Mw z) i B F c d e
def Bqt b a f:=Mw b a f Au
def Ate(j10:LX->Jz3 ( (List (Int×Int32×(Int×LX×LX×Unit)×Unit))->LU->Eg))(a f:Int)(b:LX)(h:Bs0):Eg:=j10 b a f 0 h ([]:LU)
def IM:=Ate Bqt
def Aty(j9:Int->Int->LX-> (List (Int×Int32×(Int×LX×LX×Unit)×Unit))->Eg)(bk7:Int-> (List (Int×Int32×(Int×LX×LX×Unit)×Unit))->Eg)(a f:Int)(m b:LX)(n:Int)(h:Bs0):Eg:=if(Ck n 6)then(Y0 f m).bind λ(ak,al,u,am,an,v)=>(Am h n).bind λ_=>(Nj h n (ak,al,(u,am,an,()),())).bind λao=>bk7 (Ad n 1) ao
else
j9 a f b h
def KK:Nat->Int-> (List (Int×Int32×(Int×LX×LX×Unit)×Unit))->Eg
|0,_,_=>none
|c+1,e,j=>Aty IM (KK c) z d i M e j
def MW a f m b:=KK a f m b Au
def JU(j7:Int->Int->LX->LX->Int-> (List (Int×Int32×(Int×LX×LX×Unit)×Unit))->Eg)(a f:Int)(m y:LX):Eg:=(QQ a f y).bind λaa=>if(Bd aa 0)then
some (([]:LU),aa)
else(vg a y).bind λ(b,ab)=>if(Bd ab 0)then
some (([]:LU),ab)
else
j7 a f m b 0 (List.replicate 6 ((0:Int),(0:Int32),((0:Int),(List.replicate 16 (0:Int32)),(List.replicate 16 (0:Int32)),()),()))
def JT:=JU MW
abbrev Bub:=Option (Int×Int×UInt64×UInt64)
def C7:Bub:=some (10,10,16384,16384)
abbrev Mt:=Option ((List (Int×Int×UInt64×UInt64×Unit)))
abbrev Bsv:=List (Int×Int×UInt64×UInt64×Unit)
def Bmn(a:Bsv):Mt:=some a
def Aw4:=Bmn
abbrev Btw:=Int-> (List (Int×Int×UInt64×UInt64×Unit))->Mt
def Awr(j6:(List (Int×Int×UInt64×UInt64×Unit))->Mt)(Rg:Btw)(b:Int)(a:Bsv):Mt:=if(Ck b 6)then(C7).bind λ(f,g,h,k)=>(Am a b).bind λ_=>(Nj a b (f,g,h,k,())).bind λm=>Rg (Ad b 1) m
else
j6 a
def IH:Nat->Int-> (List (Int×Int×UInt64×UInt64×Unit))->Mt
|0,_,_=>none
|q+1,b,a=>Awr Aw4 (IH q) b a
def Avl:=IH Au
def JM(j4:Btw):Mt:=j4 0 (List.replicate 6 ((0:Int),(0:Int),(0:UInt64),(0:UInt64),()))
def LA:=JM Avl
def Le:Bst:=if(((Ck z 0)||(Ei z 330000))||(Bd (Ac c) (OF (Ad z 7) (GI.toZ (3:UInt64)).toNat)))then
some 8
else
if(Ei (Fb z 7) 0)then(Am c (Ap (Ac c) 1)).bind λd=>(Is (Mv (Fb z 7) 0)).bind λ_=>if(Bd (Cn d (GI.toZ (Fb z 7)).toNat) 0)then
some 8
else
some 0
else
some 0
def Bl4:Bst:=if(!((geq (Fq (wY z 0) 24) z)&&((geq (Fq (wY d 0) 24) d)&&((geq (Fq A 68719476735) A)&&((geq (Fq Y 68719476735) Y)&&true)))))then
some 8
else
some 0
def fD:=Bl4
abbrev Bt8:=Int->Int->UInt64->UInt64->Option Int
def QP(j4:Bt8)(a b:Int)(f g:UInt64):Bst:=(
(
j4 a b f g))
def gN:=QP fD
def QW(j3:Bt8)(a b:Int)(f g:UInt64):Bst:=(
(
j3 a b f g))
def bN:=QW gN
def PX(a f:Int)(g h:UInt64)(b:UInt32):Option (Int×UInt32):=(Is (Mv a 0)).bind λ_=>if(geq (Cn b (GI.toZ a).toNat) 0)then
some (0,b)
else(Is (Mv a 0)).bind λ_=>some (1,(Ap b (Dy (1:UInt32) (GI.toZ a).toNat)))
abbrev Bty:=Option (LB×Int)
def iU:Bty:=(Ca c).bind λd=>some (d,z)
abbrev Ez:=Option (LB×Int×Int)
def Aa6:Ez:=some (e,z,0)
def lN:=Aa6
abbrev Bte:=UInt64->Int->Int->LB->Ez
def Ac2(ZW:Bte)(b:UInt64)(a:Int)(m:UInt64)(h f:Int)(w:LB):Ez:=(Is (Mv (Fq h (Ap 8 (Fb f 7))) 0)).bind λ_=>ZW (Cn m (GI.toZ (Fq h (Ap 8 (Fb f 7)))).toNat) (Ap h (Fq h (Ap 8 (Fb f 7)))) (Ad f (Fq h (Ap 8 (Fb f 7)))) w
def nS ZW:=Ac2 ZW
def mV(j19:Bte)(b:UInt64)(a:Int)(m:UInt64)(h f:Int)(u:LB):Ez:=(Am u (Ap (Ac u) 1)).bind λ_=>(Is (Mv (Fq h (Ap 8 (Fb f 7))) 0)).bind λ_=>(Is (Mv (Fb f 7) 0)).bind λ_=>(Am u (Ap (Ac u) 1)).bind λad=>(Am u (Ap (Ac u) 1)).bind λ_=>Option.bind (Nj u (Ap (Ac u) 1) (zT ad (Dy (Ae (Fb m (Ap (Dy (1:UInt64) (GI.toZ (Fq h (Ap 8 (Fb f 7)))).toNat) 1)):UInt8) (GI.toZ (Fb f 7)).toNat))) λw=>j19 m h f w
def XS ZW b a:=mV (nS ZW b a) b a
def XU(j18:Bte)(j21:Int->LB->Ez)(b:UInt64)(a:Int)(m:UInt64)(h f:Int)(o:LB):Ez:=if(Ei h 0)then
if(geq (Fb f 7) 0)then(Ds o ([(0:UInt8)]:LB)).bind λab=>j18 m h f ab
else
j18 m h f o
else
j21 f o
def So:Nat->UInt64->Int->Int->LB->Ez
|0,_,_,_,_=>none
|z+1,c,d,e,i=>XU (XS (So z) A l7) lN A l7 c d e i
def Aeu b a:=So b a Au
def Ac8:Ez:=some (e,z,0)
def Adg:=Ac8
def Ad0(ZY:Bte)(b:UInt64)(a:Int)(n:UInt64)(k g:Int)(y:LB):Ez:=(Is (Mv (Fq k (Ap 8 (Fb g 7))) 0)).bind λ_=>ZY (Cn n (GI.toZ (Fq k (Ap 8 (Fb g 7)))).toNat) (Ap k (Fq k (Ap 8 (Fb g 7)))) (Ad g (Fq k (Ap 8 (Fb g 7)))) y
def Aba ZY:=Ad0 ZY
def Aan(j26:Bte)(b:UInt64)(a:Int)(n:UInt64)(k g:Int)(v:LB):Ez:=(Am v (Ap (Ac v) 1)).bind λ_=>(Is (Mv (Fq k (Ap 8 (Fb g 7))) 0)).bind λ_=>(Is (Mv (Fb g 7) 0)).bind λ_=>(Am v (Ap (Ac v) 1)).bind λae=>(Am v (Ap (Ac v) 1)).bind λ_=>Option.bind (Nj v (Ap (Ac v) 1) (zT ae (Dy (Ae (Fb n (Ap (Dy (1:UInt64) (GI.toZ (Fq k (Ap 8 (Fb g 7)))).toNat) 1)):UInt8) (GI.toZ (Fb g 7)).toNat))) λy=>j26 n k g y
def Abz ZY b a:=Aan (Aba ZY b a) b a
def Aa8(j25:Bte)(j28:Int->LB->Ez)(b:UInt64)(a:Int)(n:UInt64)(k g:Int)(p:LB):Ez:=if(Ei k 0)then
if(geq (Fb g 7) 0)then(Ds p ([(0:UInt8)]:LB)).bind λw=>j25 n k g w
else
j25 n k g p
else
j28 g p
def mF:Nat->UInt64->Int->Int->LB->Ez
|0,_,_,_,_=>none
|z+1,c,d,e,i=>Aa8 (Abz (mF z) A l7) Adg A l7 c d e i
def Adu b a:=mF b a Au
abbrev Bt7:=UInt64->Int->UInt64->Int->Int->LB->Ez
def qX(j15:Bt7)(j22:Bt7)(ac:LB)(aa:Int)(b:UInt64)(a:Int):Ez:=(Le ac aa).bind λaf=>if(Bd af 0)then
some (([]:LB),0,8)
else
if((Ck a 0)||(Ei a 64))then
some (([]:LB),0,2)
else
if(Ck a 64)then(Is (Mv a 0)).bind λ_=>if(Bd (Cn b (GI.toZ a).toNat) 0)then
some (([]:LB),0,16)
else
if(Ei (Ad aa a) 330000)then
some (([]:LB),0,18)
else(iU ac aa).bind λ(ag,ah)=>j15 b a b a ah ag
else
if(Ei (Ad aa a) 330000)then
some (([]:LB),0,18)
else(iU ac aa).bind λ(ab,ai)=>j22 b a b a ai ab
def bB:=qX Aeu Adu
def CO:Bsu:=(Is (Mv l7 0)).bind λ_=>some (Mv (Cn V (GI.toZ l7).toNat) 48)
def nG:Bs1:=if((Ck z 0)||(Ei z 48))then
some (0,2)
else
some ((Fq (Ad z 1) 48),0)
abbrev Bu2:=Option (LB×Int×Int)
def eL:Bu2:=(Le c z).bind λe=>if(Bd e 0)then
some (([]:LB),0,e)
else(nG d).bind λ(i,j)=>if(Bd j 0)then
some (([]:LB),0,j)
else(Is (Mv d 0)).bind λ_=>(bB c z (Ap (Dy (1:UInt64) (GI.toZ d).toNat) 1) i).bind λ(A,B,C)=>some (A,B,C)
abbrev lF:=Option (LB×Int×Int)
def gP:lF:=(eL c z d).bind λ(e,i,j)=>if(Bd j 0)then
some (([]:LB),0,j)
else(bB e i (Ae V:UInt64) l7).bind λ(A,B,C)=>some (A,B,C)
def QZ:=gP
def fJ(j2:LB->Int->Int->UInt32->Int->lF)(b:LB)(f:Int)(g:UInt32)(a:Int):lF:=(Le b f).bind λo=>if(Bd o 0)then
some (([]:LB),0,o)
else
if((Ck a 0)||(Ei a 24))then
some (([]:LB),0,2)
else(Is (Mv a 0)).bind λ_=>(Is (Mv a 0)).bind λ_=>(CO g a).bind λaa=>if aa then
j2 b f 48 g 32
else
j2 b f (Ae (Cn g (GI.toZ a).toNat):Int) (Fb g (Ap (Dy (1:UInt32) (GI.toZ a).toNat) 1)) a
def mJ:=fJ QZ
abbrev Lf:=Option (LB×Int×Int×Int×UInt64×UInt64×Int)
def MU:Lf:=(
(
some (o7,z,d,j,(Ad A (Ap (Ae V:UInt64) (Cn A (GI.toZ (4:UInt64)).toNat))),Y,0)))
def cF:=MU
def fZ(j10:Jz3 (UInt64->UInt32->UInt64->LB->Lf))(b:UInt32)(k n:Int)(a o:UInt64)(m:LB)(u:Int):Lf:=j10 k u n a b o m
def gI:=fZ cF
def fK(j9:UInt32->Int->Int->UInt64->UInt64->LB->Int->Lf)(b:UInt32)(f:Int)(a:UInt64)(k:Int)(m:LB)(n:Int)(o:UInt64):Lf:=if(Ei f 0)then(Is (Mv f 0)).bind λ_=>if(Ck (Ad a (Ap (Ae b:UInt64) (Cn a (GI.toZ (4:UInt64)).toNat))) (Dy (16:UInt64) (GI.toZ f).toNat))then
j9 b k n a o m (Ap f 1)
else
if(Ck f 24)then(Is (Mv f 0)).bind λ_=>if(Ei (Ad a (Ap (Ae b:UInt64) (Cn a (GI.toZ (4:UInt64)).toNat))) (Dy (32:UInt64) (GI.toZ f).toNat))then
j9 b k n a o m (Ad f 1)
else
j9 b k n a o m f
else
j9 b k n a o m f
else
if(Ck f 24)then(Is (Mv f 0)).bind λ_=>if(Ei (Ad a (Ap (Ae b:UInt64) (Cn a (GI.toZ (4:UInt64)).toNat))) (Dy (32:UInt64) (GI.toZ f).toNat))then
j9 b k n a o m (Ad f 1)
else
j9 b k n a o m f
else
j9 b k n a o m f
def EA:=fK gI
def fF(j8:UInt32->Int->UInt64->Int->LB->Int->UInt64->Lf)(b:UInt32)(f h:Int)(a g:UInt64)(y k:Int)(m:LB):Lf:=if(Bd y 0)then
some (([]:LB),0,0,0,0,0,y)
else(PX f h a g b).bind λ(ag,p)=>if(geq ag 1)then
if(Ei h 0)then(Is (Mv h 0)).bind λ_=>if(Ck (Ad g (Ap (Ae p:UInt64) (Cn g (GI.toZ (4:UInt64)).toNat))) (Dy (16:UInt64) (GI.toZ h).toNat))then
j8 b f a k m (Ap h 1) (Ad g (Ap (Ae p:UInt64) (Cn g (GI.toZ (4:UInt64)).toNat)))
else
if(Ck h 24)then(Is (Mv h 0)).bind λ_=>if(Ei (Ad g (Ap (Ae p:UInt64) (Cn g (GI.toZ (4:UInt64)).toNat))) (Dy (32:UInt64) (GI.toZ h).toNat))then
j8 b f a k m (Ad h 1) (Ad g (Ap (Ae p:UInt64) (Cn g (GI.toZ (4:UInt64)).toNat)))
else
j8 b f a k m h (Ad g (Ap (Ae p:UInt64) (Cn g (GI.toZ (4:UInt64)).toNat)))
else
j8 b f a k m h (Ad g (Ap (Ae p:UInt64) (Cn g (GI.toZ (4:UInt64)).toNat)))
else
if(Ck h 24)then(Is (Mv h 0)).bind λ_=>if(Ei (Ad g (Ap (Ae p:UInt64) (Cn g (GI.toZ (4:UInt64)).toNat))) (Dy (32:UInt64) (GI.toZ h).toNat))then
j8 b f a k m (Ad h 1) (Ad g (Ap (Ae p:UInt64) (Cn g (GI.toZ (4:UInt64)).toNat)))
else
j8 b f a k m h (Ad g (Ap (Ae p:UInt64) (Cn g (GI.toZ (4:UInt64)).toNat)))
else
j8 b f a k m h (Ad g (Ap (Ae p:UInt64) (Cn g (GI.toZ (4:UInt64)).toNat)))
else
j8 b f a k m h g
def QY:=fF EA
def gK(j7:UInt32->Int->Int->UInt64->UInt64->Int->Int->LB->Lf)(b:UInt32)(v:LB)(w f h:Int)(a g:UInt64):Lf:=(PX f h a g b).bind λ(ad,ae)=>(bB v w (Ae ad:UInt64) 1).bind λ(aa,ab,ac)=>if((geq ac 0)&&(geq ad 0))then(bB aa ab (Ae ae:UInt64) f).bind λ(ah,ai,aj)=>j7 b f h a g aj ai ah
else
if(geq ac 0)then(mJ aa ab ae h).bind λ(ak,al,am)=>j7 b f h a g am al ak
else
j7 b f h a g ac ab aa
def fM:=gK QY
def gR(j6:UInt32->LB->Jz3 (UInt64->UInt64->Lf))(v:LB)(w f h:Int)(a g:UInt64)(b:UInt32):Lf:=(Le v w).bind λan=>if(Bd an 0)then
some (([]:LB),0,0,0,0,0,8)
else(bN f h a g).bind λao=>if(Bd ao 0)then
some (([]:LB),0,0,0,0,0,8)
else
j6 b v w f h a g
def lX:=gR fM
abbrev Ct:=Option (UInt32×Int)
def Bic:Ct:=some (V,0)
def ZI:=Bic
def LZ(j30:UInt32->Ct)(Bj6:UInt32->Int->Ct)(a:LB)(b:LU)(k:UInt32)(n:Int):Ct:=if(Ck n (Ac a))then(Am a n).bind λp=>(Am b (GI.toZ (BH (Ae k:UInt8) p))).bind λ_=>(Am b (GI.toZ (BH (Ae k:UInt8) p))).bind λu=>Bj6 (BH (Cn k (GI.toZ (8:UInt64)).toNat) u) (Ad n 1)
else
j30 k
def Vg:Nat->UInt32->Int->Ct
|0,_,_=>none
|z+1,d,e=>LZ ZI (Vg z) c Z d e
def Bj7 a b:=Vg a b Au
def ZX(j28:LB->LU->UInt32->Int->Ct)(f:UInt32)(a:LB)(b:LU):Ct:=j28 a b f 0
def ZO:=ZX Bj7
def ZM(j27:UInt32->LB->LU->Ct)(f:UInt32)(a:LB)(b:LU):Ct:=j27 f a b
def KG:=ZM ZO
abbrev Bu9:=Int->LU->Ct
def Bhr(Je:Bu9)(f:UInt32)(a:LB)(g:Int)(o:LU):Ct:=Je (Ad g 1) o
def bU Je:=Bhr Je
def aG(j24:Bu9)(f:UInt32)(a:LB)(g:Int)(h:UInt32)(b:LU):Ct:=(Am b g).bind λ_=>(Nj b g h).bind λo=>j24 g o
def KD Je f a:=aG (bU Je f a) f a
def JN(j23:Int->UInt32->LU->Ct)(T?:UInt32->Int->Ct)(f:UInt32)(a:LB)(g:Int)(b:LU)(h:UInt32)(m:Int):Ct:=if(Ck m 8)then
T? (BH (Cn h (GI.toZ (1:UInt64)).toNat) (Bg 3988292384 (Fb h 1))) (Ad m 1)
else
j23 g h b
def Up(Je:Bu9)(f:UInt32)(a:LB)(g:Int)(b:LU):Nat->UInt32->Int->Ct
|0,_,_=>none
|q+1,h,m=>JN (KD Je f a) (Up Je f a g b q) f a g b h m
def YW Je f a g b:=Up Je f a g b Au
def MA(j21:Int->LU->UInt32->Int->Ct)(j26:UInt32->LB->LU->Ct)(f:UInt32)(a:LB)(g:Int)(b:LU):Ct:=if(Ck g 256)then
j21 g b (Ae g:UInt32) 0
else
j26 f a b
def Qn:Nat->Int->LU->Ct
|0,_,_=>none
|z+1,c,d=>MA (YW (Qn z) V o7) KG V o7 c d
def Bi5 f a:=Qn f a Au
def fW(j16:UInt32->LB->Int->LU->Ct)(f:UInt32)(a:LB):Ct:=if(Ei (Ac a) 100000)then
some (0,4)
else
j16 f a 0 (List.replicate 256 (0:UInt32))
def nO:=fW Bi5
def BU:Option (UInt32×Int):=(nO 4294967295 c).bind λ(z,d)=>if(Bd d 0)then
some (0,d)
else
some ((b! z),0)
def uy:Bsu:=if(geq l7 8)then
some true
else(Is (Mv (Bg 8 l7) 0)).bind λ_=>some (geq (Cn A (GI.toZ (Bg 8 l7)).toNat) 0)
abbrev GQ:=Option (LB×Int)
def Bdo:GQ:=some (c,0)
def qR:=Bdo
def dQ(j6:LB->GQ)(Rg:Int->LB->GQ)(f:UInt64)(g:LB)(b:Int)(a:LB):GQ:=if(Ck b (Ac g))then(Is (Mv (Bg 8 b) 0)).bind λ_=>(Am a b).bind λ_=>(Nj a b (Ae (Cn f (GI.toZ (Bg 8 b)).toNat):UInt8)).bind λk=>Rg (Ad b 1) k
else
j6 a
def HW:Nat->Int->LB->GQ
|0,_,_=>none
|z+1,c,d=>dQ qR (HW z) A o7 c d
def Bdt f g:=HW f g Au
def sU(j4:UInt64->LB->Int->LB->GQ)(f:UInt64)(h:Int):GQ:=if((Ck h 1)||(Ei h 8))then
some (([]:LB),2)
else(uy f h).bind λm=>if(!m)then
some (([]:LB),16)
else(og h (0:UInt8)).bind λg=>(Is (geq h h)).bind λ_=>j4 f g 0 g
def Qi:=sU Bdt
def Bna:Bsz:=some c
def Aq5:=Bna
def Eb:Bsz:=if(Ck Bqz (Ac Brs))then(Am Brs Bqz).bind λz=>(Ds Brt z).bind λc=>Bro (Ad Bqz 1) c
else
Brn Brt
def Cu:Nat->Int->LB->Option (LB)
|0,_,_=>none
|z+1,c,d=>Eb Aq5 (Cu z) l5 c d
def Pm a:=Cu a Au
abbrev Buh:=(List LB)->Int->LB->Option (LB)
def Ka(j14:Buh)(a:Bsx)(k:LB):Bsz:=j14 a 0 k
def Fc:=Ka Pm
def Ke(j13:(List LB)->LB->Option (LB))(b:Int)(a:Bsx):Bsz:=if(Ei (Ap b (Ap (0:Int) (0:Int))) 0)then(jB 0 0 0).bind λ_=>(og (Ap b (Ap (0:Int) (0:Int))) (0:UInt8)).bind λu=>(Ds ([]:LB) u).bind λm=>(jB (Ac m) 0 0).bind λ_=>j13 a (aW m 0 ((0:Int)-(0:Int)))
else
j13 a ([]:LB)
def Kf:=Ke Fc
def Kb(j12:Int-> (List LB)->Option (LB))(a:Bsx)(b:Int):Bsz:=if(Ck b 0)then
none
else
j12 b a
def Fe:=Kb Kf
abbrev Bu3:=Int->Int->Option (LB)
def Ej(j11:(List LB)->Int->Option (LB))(bk9:Bu3)(a:Bsx)(b h:Int):Bsz:=if(Ck h (Ac a))then(Am a h).bind λn=>if(Ck (Ad b (Ac n)) 0)then
none
else
bk9 (Ad b (Ac n)) (Ad h 1)
else
j11 a b
def Cz:Nat->Int->Int->Option (LB)
|0,_,_=>none
|z+1,c,d=>Ej Fe (Cz z) l5 c d
def AF a:=Cz a Au
def Rc(j9:(List LB)->Int->Int->Option (LB))(a:Bsx):Bsz:=j9 a 0 0
def Fp:=Rc AF
abbrev Bz:=Option (LB×Int)
def Arn(v:Int)(p:LB):Bz:=(BU p).bind λ(af,ac)=>if(Bd ac 0)then
some (([]:LB),ac)
else(Qi (Ae af:UInt64) 4).bind λ(m,h)=>if(Bd h 0)then
some (([]:LB),h)
else(Fp ([p,m]:Bsx)).bind λag=>some (ag,0)
def GC:=Arn
abbrev Bta:=Int-> (List (Int×Int×UInt64×UInt64×Unit))->Int->LB->Bz
def Apm(VX:Bta)(a:LU)(b f g:Int)(k:Bsv)(n:Int)(u:LB):Bz:=VX (Ad g 1) k n u
def GP VX:=Apm VX
abbrev Bur:=Int->Int->LB->Bz
def Asr(m? :Bur)(h:Int)(a:LU)(g b f:Int)(k:Bsv)(m:LB)(o n:Int)(aa:LB):Bz:=m? (Ad o 1) (Ad n 1) aa
def FZ m? :=Asr m?
def FT(j48:Bur)(h:Int)(a:LU)(g b f:Int)(k:Bsv)(m:LB)(o n:Int)(y:LB):Bz:=(Am m (Bo o 8)).bind λ_=>(Am m (Bo o 8)).bind λah=>(Is (Mv (Gz o 8) 0)).bind λ_=>(Am y (Bo n 8)).bind λ_=>(Is (Mv (Gz n 8) 0)).bind λ_=>(Am y (Bo n 8)).bind λai=>(Am y (Bo n 8)).bind λ_=>Option.bind (Nj y (Bo n 8) (zT ai (Dy (Fb (Cn ah (GI.toZ (Gz o 8)).toNat) 1) (GI.toZ (Gz n 8)).toNat))) λaa=>j48 o n aa
def Wj m? h a g b f k m:=FT (FZ m? h a g b f k m) h a g b f k m
def Xe(j47:Bur)(j50:Bta)(a:LU)(b f h g:Int)(k:Bsv)(m:LB)(o n:Int)(u:LB):Bz:=if(Ck o h)then
if(geq (Gz n 8) 0)then(Ds u ([(0:UInt8)]:LB)).bind λaj=>j47 o n aj
else
j47 o n u
else
j50 g k n u
def Hs(VX:Bta)(a:LU)(b f h g:Int)(k:Bsv)(m:LB):Nat->Int->Int->LB->Bz
|0,_,_,_=>none
|q+1,o,n,u=>Xe (Wj (Hs VX a b f h g k m q) h a g b f k m) (GP VX a b f) a b f h g k m o n u
def Aqf VX a b f h g k m:=Hs VX a b f h g k m Au
def Ws(j44:Int->Int-> (List (Int×Int×UInt64×UInt64×Unit))->LB->Int->Int->LB->Bz)(j52:Int->LB->Bz)(a:LU)(b f g:Int)(w:Bsv)(v:Int)(p:LB):Bz:=if(Ck g (Ac a))then(Am a g).bind λ_=>(Am a g).bind λak=>(Is (Bd b 0)).bind λ_=>(Am w (Gz g b)).bind λ_=>(Am w (Gz g b)).bind λab=>(lX ([]:LB) 0 ab.1 ab.2.1 ab.2.2.1 ab.2.2.2.1 ak).bind λ(m,h,al,am,an,ao,ad)=>if(Bd ad 0)then
some (([]:LB),ad)
else(Is (Bd b 0)).bind λ_=>(Am w (Gz g b)).bind λ_=>(Nj w (Gz g b) (al,am,an,ao,())).bind λk=>j44 h g k m 0 v p
else
j52 v p
def Jm:Nat->Int-> (List (Int×Int×UInt64×UInt64×Unit))->Int->LB->Bz
|0,_,_,_,_=>none
|z+1,c,d,e,i=>Ws (Aqf (Jm z) Z Bq3 Bq4) GC Z Bq3 Bq4 c d e i
def Ank a b f:=Jm a b f Au
def JF(j27:LU->Jz3 ( (List (Int×Int×UInt64×UInt64×Unit))->Int->LB->Bz))(b f:Int)(ap aq:LX):Bz:=(JT b f ap aq).bind λ(a,ae)=>if(Bd ae 0)then
some (([]:LB),ae)
else(LA).bind λar=>j27 a b f 0 ar 0 ([]:LB)
def Nx:=JF Ank
def Xa(b f g:Int)(h k:LB)(m:LX)(n:Bsx)(o:LB)(p:Bool)(u a:Int):Btj:=some (b,f,g,h,([]:LB),([]:LX),([]:Bsx),([]:LB),false,a,a)
abbrev Ci:=Option (Int×Int×Int×LB×LB×LX×(List LB)×LB×Bool×Int×Int)
def Ay1:Ci:=some (z,d,j,e,X,Brc,Bry,Bsp,C,D,0)
def QL:=Ay1
abbrev Btt:=Int->LB->LX-> (List LB)->Ci
def BW(vD:Btt)(p:Int)(n:LB)(a b g:Int)(f:LB)(h:Bool)(k o:Int)(m:LB)(u:Int)(ah:LB)(ai:LX)(aj:Bsx):Ci:=vD (Ad u 1) ah ai aj
def Qb vD:=BW vD
def Vf(j24:Btt)(p:Int)(n:LB)(a b g:Int)(f:LB)(h:Bool)(k o:Int)(m:LB)(u ad:Int)(ae:LB)(af:LX)(ag:Bsx):Ci:=if(Bd ad 0)then(Xa a b g f ae af ag m h k ad).bind λ(au,av,aw,ax,ay,az,ba,bb,bc,bd,be)=>some (au,av,aw,ax,ay,az,ba,bb,bc,bd,be)
else
j24 u ae af ag
def Jz vD p n a b g f h k o m:=Vf (Qb vD p n a b g f h k o m) p n a b g f h k o m
abbrev Btk:=Int->Int->LB->LX-> (List LB)->Ci
def Axu(j23:Btk)(p:Int)(n:LB)(a b g:Int)(f:LB)(h:Bool)(k o:Int)(m:LB)(u:Int)(ab:LX)(v:Bsx)(ak:Int):Ci:=j23 u ak ([]:LB) ab v
def Bbs vD p n a b g f h k o m:=Axu (Jz vD p n a b g f h k o m) p n a b g f h k o m
def QE(j23:Btk)(p:Int)(n:LB)(a b g:Int)(f:LB)(h:Bool)(k o:Int)(m:LB)(u:Int)(ac:Bsx):Ci:=j23 u 0 ([]:LB) ([]:LX) ac
def PC vD p n a b g f h k o m:=QE (Jz vD p n a b g f h k o m) p n a b g f h k o m
def OR(j23:Btk)(j21:Int->LX-> (List LB)->Int->Ci)(j22:Int-> (List LB)->Ci)(p:Int)(n:LB)(a b g:Int)(f:LB)(h:Bool)(k o:Int)(m:LB)(u:Int)(aa:LB)(w:LX)(v:Bsx):Ci:=(Tp b aa).bind λ(bf,al)=>if(Bd al 0)then
j23 u al aa w v
else(Ds w bf).bind λab=>if(Ck (Ac ab) (Bg o a))then
j23 u 0 ([]:LB) ab v
else(Oe f).bind λ(bg,am)=>if(Bd am 0)then
j21 u ab v am
else(Nx a b bg ab).bind λ(bh,an)=>if(Bd an 0)then
j21 u ab v an
else(Ds v ([bh]:Bsx)).bind λac=>j22 u ac
def OS vD p n a b g f h k o m:=OR (Jz vD p n a b g f h k o m) (Bbs vD p n a b g f h k o m) (PC vD p n a b g f h k o m) p n a b g f h k o m
def CM(j24:Btt)(j23:Btk)(j20:Btt)(j26:Jz3 (LB->Bool->Int->LB->LX-> (List LB)->LB->Ci))(p:Int)(n:LB)(a b g:Int)(f:LB)(h:Bool)(k o:Int)(m:LB)(u:Int)(y:LB)(w:LX)(v:Bsx):Ci:=if(Ck u (Ac n))then(Am n u).bind λbi=>(Ds y ([bi]:LB)).bind λaa=>if(Ck (Ac aa) p)then
j24 u aa w v
else(Xv a b g f aa w v m h k o).bind λbj=>(Xf a b g f aa w v m h k (Ad (Ac v) 1) (Ad bj 1)).bind λbk=>if(!bk)then
j23 u 18 aa w v
else
j20 u aa w v
else
j26 a b g f h k y w v m
def Jp:Nat->Int->LB->LX-> (List LB)->Ci
|0,_,_,_,_=>none
|c+1,d,i,j,A=>CM (Qb (Jp c) z e B F J L C D Bq5 X) (Jz (Jp c) z e B F J L C D Bq5 X) (OS (Jp c) z e B F J L C D Bq5 X) QL z e B F J L C D Bq5 X d i j A
def Bb7 p n a b g f h k o m:=Jp p n a b g f h k o m Au
def VV(j14:Int->LB->Jz3 (LB->Bool->Int->Int->LB->Int->LB->LX-> (List LB)->Ci))(bl bm bn:Int)(bp bq:LB)(br:LX)(bs:Bsx)(bt:LB)(bu:Bool)(bv:Int)(n:LB):Ci:=(EM bl bm bn bp bq br bs bt bu bv).bind λ(a,b,g,f,ao,ap,aq,m,h,k,o,ar)=>if(Bd ar 0)then
some (a,b,g,f,ao,ap,aq,m,h,k,ar)
else(JI a b).bind λp=>j14 p n a b g f h k o m 0 ao ap aq
def XK:=VV Bb7
def RG:Bs1:=if(Ei (Ac c) 64)then
some (0,2)
else
if(geq (Ac c) 0)then
some (1,0)
else
some (2,0)
def PB(b f a g h:Int):Bsu:=some (((((((geq b 1)||(geq b 2))&&(Ei f 0))&&(T9 f 6))&&(Ei g 0))&&(T9 g 1048576))&&(Ei h 0))
def Qf:=PB
def BT(j2:Jz5 (Option Bool))(b f a g h:Int):Bsu:=if(geq a 8)then
if(geq a 8)then
j2 b f a g h
else
some false
else
if(geq a 16)then
if(geq a 16)then
j2 b f a g h
else
some false
else
if(geq a 24)then
j2 b f a g h
else
some false
def Tn:=BT Qf
def TY(k a m f b:Int):Bsu:=(Is (Bd a 0)).bind λ_=>if(Ei b (Bo 4000 a))then
some false
else(Kk f b).bind λ(g,h)=>some ((geq h 0)&&(T9 g 1000))
def Pj:Bst:=(Tn z d j I O).bind λc=>if(!c)then
some 8
else(TY z d j I O).bind λe=>if(!e)then
some 8
else
some 0
abbrev Qw:=Option (LB×Int)
def Bfe:Qw:=(BU c).bind λ(z,d)=>(Qi (Ae z:UInt64) 4).bind λ(e,i)=>(Ds c e).bind λj=>some (j,0)
def FK:=Bfe
def FI(j6:LB->Qw)(Rg:Int->LB->Qw)(b f g h k m:Int)(a:LB):Qw:=if(Ck m 5)then(Am ([b,f,g,h,k]:LI) m).bind λw=>(Am ([(2:Int),(2:Int),(2:Int),(4:Int),(4:Int)]:LI) m).bind λy=>(Qi (Ae w:UInt64) y).bind λ(n,v)=>(Ds a n).bind λo=>Rg (Ad m 1) o
else
j6 a
def Oj:Nat->Int->LB->Qw
|0,_,_=>none
|c+1,e,i=>FI FK (Oj c) z d j I O e i
def Bfm b f g h k:=Oj b f g h k Au
def VW(j4:Jz6 (LB->Qw))(b f g h k:Int):Qw:=(Pj b f g h k).bind λp=>if(Bd p 0)then
some (([]:LB),p)
else
j4 b f g h k 0 ([(84:UInt8),(84:UInt8),(65:UInt8),(49:UInt8)]:LB)
def KY:=VW Bfm
def U4:Bto:=if(Ei (Ac c) 64)then
some (0,2)
else(iV c).bind λ(z,d)=>some (z,0)
def CI:Bty:=(U4 c).bind λ(z,d)=>if(Bd d 0)then
some (([]:LB),d)
else(Qi z 8).bind λ(e,i)=>some (e,i)
def Bnh:Bst:=some 0
def Bks:=Bnh
def MQ:Bst:=if(Ck y8 (Ac Brf))then(Am Brf y8).bind λz=>if((Ck z 5)||(Ei z Brd))then
some 8
else
Brb (Ap Brd z) (Ad y8 1)
else
Bq9
def Vh:Nat->Int->Int->Option Int
|0,_,_=>none
|z+1,c,d=>MQ Bks (Vh z) E c d
def Bjj a:=Vh a Au
abbrev Bt9:=LI->Int->Int->Option Int
def LM(j4:Bt9)(a:LI):Bst:=if((geq (Ac a) 0)||(Ei (Ac a) 1000))then
some 8
else
j4 a 100000 0
def Tj:=LM Bjj
abbrev Jb:=Option (LB×Int)
def Bp7:Jb:=some (c,0)
def Bfn:=Bp7
def UW(j14:LB->Jb)(b:LB):Jb:=(BU b).bind λ(m,u)=>(Qi (Ae m:UInt64) 4).bind λ(n,v)=>(Ds b n).bind λg=>j14 g
def UR:=UW Bfn
def Bfr(bk8:Int->LB->Jb)(a:LI)(f:Int)(h:LB):Jb:=bk8 (Ad f 1) h
def VA bk8:=Bfr bk8
def MO(j11:Int->LB->Jb)(j13:LB->Jb)(a:LI)(f:Int)(b:LB):Jb:=if(Ck f (Ac a))then(Am a f).bind λo=>(Qi (Ae o:UInt64) 4).bind λ(p,w)=>(Ds b p).bind λh=>j11 f h
else
j13 b
def Un:Nat->Int->LB->Jb
|0,_,_=>none
|z+1,c,d=>MO (VA (Un z) E) UR E c d
def Bmo a:=Un a Au
def ZL(j8:LI->Int->LB->Jb)(a:LI):Jb:=(Tj a).bind λk=>if(Bd k 0)then
some (([]:LB),k)
else
j8 a 0 ([]:LB)
def HZ:=ZL Bmo
abbrev Kq:=Option (LB×Int)
def EY(f g h:Int)(b k:LB)(m:LX)(a:Bsx)(n:LB)(o:Bool)(p:Int)(u:LB)(v:LI):Kq:=(HZ v).bind λ(aa,y)=>if(Bd y 0)then
some (([]:LB),y)
else(
(Ds u aa).bind λab=>(Fp a).bind λac=>(Ds ab ac).bind λad=>some (ad,0))
def Xo:=EY
def EZ(j8:Jz3 (LB->LB->LX-> (List LB)->LB->Bool->Int->LB->LI->Kq))(qw:Int->LI->Kq)(a:Bsx)(f g h:Int)(b k:LB)(m:LX)(n:LB)(o:Bool)(p:Int)(u:LB)(w:Int)(v:LI):Kq:=if(Ck w (Ac a))then(Am a w).bind λai=>(Ds v ([(Ac ai)]:LI)).bind λaj=>qw (Ad w 1) aj
else
j8 f g h b k m a n o p u v
def Sj:Nat->Int->LI->Kq
|0,_,_=>none
|z+1,c,d=>EZ Xo (Sj z) l5 o8 Brh Br1 Brm Br2 Brc Br3 Bsm Bsn Bso c d
def Bpi a f g h b k m n o p u:=Sj a f g h b k m n o p u Au
def FN(j6:(List LB)->Jz3 (LB->LB->LX->LB->Bool->Int->LB->Int->LI->Kq))(f g h:Int)(b k:LB)(m:LX)(a:Bsx)(n:LB)(o:Bool)(p:Int)(u:LB):Kq:=j6 a f g h b k m n o p u 0 ([]:LI)
def ES:=FN Bpi
def UM(j5:Jz3 (LB->LB->LX-> (List LB)->LB->Bool->Int->LB->Kq))(f g h:Int)(b k:LB)(m:LX)(a:Bsx)(n:LB)(o:Bool)(p ak:Int):Kq:=(RG b).bind λ(al,ae)=>if(Bd ae 0)then
some (([]:LB),ae)
else(KY al f g h ak).bind λ(af,ag)=>if(Bd ag 0)then
some (([]:LB),ag)
else
if(b !=([]:LB))then(CI b).bind λ(am,ah)=>if(Bd ah 0)then
some (([]:LB),ah)
else(Ds af am).bind λan=>j5 f g h b k m a n o p an
else
j5 f g h b k m a n o p af
def YD:=UM ES
abbrev Qe:=Option (Int×Int×Int×LB×LB×LX×(List LB)×LB×Bool×Int×Int)
def JK:Qe:=(YD d j I e X Brc Bry Bq6 C D z).bind λ(c,i)=>if(Bd i 0)then(Xa d j I e X Brc Bry Bq6 C D i).bind λ(A,B,E,F,G,J,L,M,N,O,P)=>some (A,B,E,F,G,J,L,M,N,O,P)
else
some (d,j,I,e,([]:LB),([]:LX),([]:Bsx),c,true,0,0)
def Td:=JK
abbrev Btm:=Jz4 (LB->Bool->Int->LB->LB->LX-> (List LB)->Qe)
def JR(j4:Btm)(o a b g:Int)(f:LB)(k:Bool)(m:Int)(h n:LB)(aa:Int)(ab:LX)(ac:Bsx):Qe:=if(Bd aa 0)then(Xa a b g f h ab ac n k m aa).bind λ(au,y,ad,av,aw,ax,ae,af,ay,az,ba)=>some (au,y,ad,av,aw,ax,ae,af,ay,az,ba)
else
j4 o a b g f k m h n ab ac
def KJ:=JR Td
def MK(j3:Jz4 (LB->Bool->Int->LB->LB->Int->LX-> (List LB)->Qe))(j4:Btm)(bb bc bd:Int)(be bf:LB)(bg:LX)(bh:Bsx)(bi:LB)(bj:Bool)(bk:Int):Qe:=(EM bb bc bd be bf bg bh bi bj bk).bind λ(a,b,g,f,h,p,u,n,k,m,bl,ag)=>if(Bd ag 0)then
some (a,b,g,f,h,p,u,n,k,m,ag)
else(Xv a b g f h p u n k m bl).bind λo=>if((Ei (Ac h) 0)||(geq o 0))then(Xa a b g f h p u n k m 24).bind λ(bm,bn,bp,bq,br,bs,bt,bu,bv,bw,bx)=>some (bm,bn,bp,bq,br,bs,bt,bu,bv,bw,bx)
else
if(Ei (Ac p) 0)then(Oe f).bind λ(bz,ah)=>if(Bd ah 0)then
j3 o a b g f k m h n ah p u
else(Nx a b bz p).bind λ(da,ai)=>if(Bd ai 0)then
j3 o a b g f k m h n ai p u
else(Ds u ([da]:Bsx)).bind λdb=>j3 o a b g f k m h n 0 ([]:LX) db
else
j4 o a b g f k m h n p u
def JC:=MK KJ Td
abbrev Jq:=Option (LB×Int)
def Au0(av ay az ba:Int)(bb:LB)(bc:Bool)(bd:Int)(be:LB)(bf:LX)(bg:Bsx)(aw:LB):Jq:=if(Bd av 0)then
some (([]:LB),av)
else
some (aw,0)
def Zq:=Au0
abbrev Btn:=Jz4 (LB->Bool->Int->LB->LX-> (List LB)->LB->Jq)
def MN(j6:Btn)(w a y aa ab:Int)(ac:LB)(ad:Bool)(ae b f g:Int)(h k:LB)(m:LX)(n:Bsx)(o:LB)(p:Bool)(u:Int)(af:LB)(ag:LX)(ah:Bsx)(ai:LB):Jq:=j6 w y aa ab ac ad ae af ag ah ai
def KQ:=MN Zq
abbrev Bs4:=Jz5 (LB->Bool->Int->Int->Int->Int->LB->LB->LX-> (List LB)->LB->Bool->Int->LB->LX-> (List LB)->LB->Jq)
def II(j6:Btn)(j5:Bs4)(v a aj ak al:Int)(am:LB)(an:Bool)(ao b f g:Int)(h k:LB)(m:LX)(n:Bsx)(o:LB)(p:Bool)(u:Int)(ap:LB)(aq:LX)(ar:Bsx)(au:LB):Jq:=if(Bd v 0)then
j6 v 0 0 0 ([]:LB) false 0 ([]:LB) ([]:LX) ([]:Bsx) ([]:LB)
else(JC aj ak al am ap aq ar au an ao).bind λ(y,aa,ab,ac,af,ag,ah,ai,ad,ae,w)=>j5 w a y aa ab ac ad ae b f g h k m n o p u af ag ah ai
def LY:=II Zq KQ
def Zl(j4:Bs4)(bh ax bi:Int)(bj:LX)(bm:LB):Jq:=(En bh ax bi bj).bind λbk=>if(Bd bk 0)then
some (([]:LB),bk)
else(Jy ax bj).bind λ(bn,bl)=>if(Bd bl 0)then
some (([]:LB),bl)
else(eB bh ax bi bm).bind λ(b,f,g,h,k,m,n,o,p,u,a)=>if(Bd a 0)then
some (([]:LB),a)
else(XK b f g h k m n o p u bn).bind λ(aj,ak,al,am,ap,aq,ar,au,an,ao,v)=>j4 v a aj ak al am an ao b f g h k m n o p u ap aq ar au
def Cy:=Zl LY
abbrev gM:=Option (Int×Int×Int×Int×Int×Int)
def Bnq:gM:=if(c !=([]:LB))then
some (2,z,d,j,(Bo (Ac i) z),0)
else
some (1,z,d,j,(Bo (Ac i) z),0)
def Bix:=Bnq
def YQ(j2:LB->Jz3 (LX->gM))(a b f:Int)(g:LX)(h:LB):gM:=(En a b f g).bind λk=>if(Bd k 0)then
some (0,0,0,0,0,k)
else
if(Ei (Ac h) 64)then
some (0,0,0,0,0,2)
else(Is (Bd a 0)).bind λ_=>(
j2 h a b f g)
def Be7:=YQ Bix
abbrev Buv:=Option (UInt64×UInt64)
def VJ:Buv:=some ((Ad (Ad (Bg (Cn A (GI.toZ (32:UInt64)).toNat) (Cn Y (GI.toZ (32:UInt64)).toNat)) (Cn (Ad (Bg (Cn A (GI.toZ (32:UInt64)).toNat) (Fb Y 4294967295)) (Cn (Bg (Fb A 4294967295) (Fb Y 4294967295)) (GI.toZ (32:UInt64)).toNat)) (GI.toZ (32:UInt64)).toNat)) (Cn (Ad (Fb (Ad (Bg (Cn A (GI.toZ (32:UInt64)).toNat) (Fb Y 4294967295)) (Cn (Bg (Fb A 4294967295) (Fb Y 4294967295)) (GI.toZ (32:UInt64)).toNat)) 4294967295) (Bg (Fb A 4294967295) (Cn Y (GI.toZ (32:UInt64)).toNat))) (GI.toZ (32:UInt64)).toNat)),(Bg A Y))
def RC:Buv:=(VJ A Y).bind λ(z,c)=>some (z,c)
abbrev Bs8:=Option (LI)
def Rv:Bs8:=some E
def Ly:=Rv
abbrev Buy:=LI->Option (LI)
def Jc(j10:Buy)(bk8:Bt2)(b:Int)(a:LI):Bs8:=if(Ck b (Ac a))then(
(jB (Ac a) b (Ac a)).bind λ_=>(jB (Ac a) 0 b).bind λ_=>bk8 (Ad b (bE ((Ac a)-b) (aW a 0 (b-(0:Int))).length)) (Yh a b ((Ac a)-b) (aW a 0 (b-(0:Int)))))
else
j10 a
def Gl:Nat->Int->LI->Option (LI)
|0,_,_=>none
|q+1,b,a=>Jc Ly (Gl q) b a
def Aai:=Gl Au
def Tv:Bs8:=(og (Ae Br7:Int) (0:Int)).bind λz=>(Is (geq (Ae Br7:Int) (Ae Br7:Int))).bind λ_=>Bss (bE (Ac z) Bsf.length) (XF z Bsf)
def Tq:=Tv Aai
def To(j7:LI->UInt64->Option (LI))(f:LI)(h:Int):Bs8:=(RC (Ae (Ac f):UInt64) (Ae h:UInt64)).bind λ(m,g)=>if((Ei m 0)||(Ei g 9223372036854775807))then
none
else
j7 f g
def Tw:=To Tq
def Tt(j6:LI->Int->Option (LI))(f:LI)(h:Int):Bs8:=if(Ck h 0)then
none
else
j6 f h
def Rn:=Tt Tw
def Bni:Bs8:=some E
def Aa2:=Bni
def Ii(j16:Buy)(vD:Bt2)(a:Bul)(g:Int)(f:LI):Bs8:=if(Ck g (Ac a))then(Am a g).bind λo=>(Ds f o).bind λp=>vD (Ad g 1) p
else
j16 f
def Fw:Nat->Int->LI->Option (LI)
|0,_,_=>none
|z+1,c,d=>Ii Aa2 (Fw z) Br8 c d
def Aa1 a:=Fw a Au
def Rw(j14:(List LI)->Int->LI->Option (LI))(a:Bul)(k:LI):Bs8:=j14 a 0 k
def Ma:=Rw Aa1
def Ry(j13:(List LI)->LI->Option (LI))(b:Int)(a:Bul):Bs8:=if(Ei (Ap b (Ap (0:Int) (0:Int))) 0)then(jB 0 0 0).bind λ_=>(og (Ap b (Ap (0:Int) (0:Int))) (0:Int)).bind λu=>(Ds ([]:LI) u).bind λm=>(jB (Ac m) 0 0).bind λ_=>j13 a (aW m 0 ((0:Int)-(0:Int)))
else
j13 a ([]:LI)
def Sa:=Ry Ma
def Sc(j12:Int-> (List LI)->Option (LI))(a:Bul)(b:Int):Bs8:=if(Ck b 0)then
none
else
j12 b a
def Rt:=Sc Sa
def Ja(j11:(List LI)->Int->Option (LI))(bk9:Int->Int->Option (LI))(a:Bul)(b h:Int):Bs8:=if(Ck h (Ac a))then(Am a h).bind λn=>if(Ck (Ad b (Ac n)) 0)then
none
else
bk9 (Ad b (Ac n)) (Ad h 1)
else
j11 a b
def Gj:Nat->Int->Int->Option (LI)
|0,_,_=>none
|z+1,c,d=>Ja Rt (Gj z) Br8 c d
def Aah a:=Gj a Au
def Ts(j9:(List LI)->Int->Int->Option (LI))(a:Bul):Bs8:=j9 a 0 0
def Ri:=Ts Aah
def aH:Bs8:=(Ri ([E,l9]:Bul)).bind λz=>some z
abbrev Bus:=Option (LI×Int)
def AH:Bus:=(Kk z d).bind λ(c,e)=>if(Bd e 0)then
some (([]:LI),e)
else(Pk z).bind λ(i,j)=>(Rn ([i]:LI) (Ap c 1)).bind λA=>(aH A ([(Ap d (Bg (Ap c 1) i))]:LI)).bind λB=>some (B,0)
def BN(a:Int)(b:LX):LI->Int->Option (List LX)
  |[],_=>some []
  |n::l,x=>Option.bind (Bm b x (Ad x (Bg n a))) λp=>Option.bind (BN a b l (Ad x (Bg n a))) λps=>some (p::ps)
def RD(a f:Int)(t:LX):List LX->List LB->Option (List LB×Int)
  |[],o=>some (o,0)
  |x::xs,o=>Option.bind (Nx a f t x) λy=>
    if(Bd y.2 0)=true then some ([],y.2)
    else Option.bind (Ds o [y.1]) λo'=>RD a f t xs o'
def tO:Option (List LX):=
  Option.bind (Is (Bd z 0)) λ_=>Option.bind (AH d (Bo (Ac i) z)) λc=>Option.bind (Is (decide (Ac c.1<=17179869184))) λ_=>BN z i c.1 0
def rN:Option (List LB×Int):=
  Option.bind (En z d j i) λc=>
    if(Bd c 0)=true then some ([],c)
    else Option.bind (Oe e) λA=>
      if(Bd A.2 0)=true then some ([],A.2)
      else Option.bind (tO z j i) λB=>RD z d A.1 B []
def Bl7:Bst:=some (Ac c)
def Bnc:Bsz:=some c
def Bk8:=Bnc
def Bjr:Bsz:=if(Ck Bqz (Ac Brs))then(Am Brs Bqz).bind λz=>(Ds Brt z).bind λc=>Bro (Ad Bqz 1) c
else
Brn Brt
def cC:Nat->Int->LB->Option (LB)
|0,_,_=>none
|z+1,c,d=>Bjr Bk8 (cC z) l5 c d
def Bn4 b:=cC b Au
def Bib(j4:Buh)(b:Bsx):Bsz:=j4 b 0 ([]:LB)
def Bft:=Bib Bn4
abbrev Gh:=Option (LB×Int)
def Boi:Gh:=if(Bd z 0)then
some (([]:LB),z)
else(Ds ([X,Bq6,Brm]:Bsx) l5).bind λc=>(Bft c).bind λd=>some (d,0)
def Bg8:=Boi
def Bfa(j14:Int-> (List LB)->LB->LB->LB->Gh)(h:LI)(a:Bsx)(b f:LB):Gh:=(HZ h).bind λ(n,k)=>j14 k a b f n
def Bgb:=Bfa Bg8
def Boh(bk9:Int->LI->Gh)(a:Bsx)(b f:LB)(g:Int)(m:LI):Gh:=bk9 (Ad g 1) m
def Bfi bk9:=Boh bk9
def Bja(j11:Int->LI->Gh)(j13:LI-> (List LB)->LB->LB->Gh)(a:Bsx)(b f:LB)(g:Int)(h:LI):Gh:=if(Ck g (Ac a))then(Am a g).bind λ_=>(Am a g).bind λae=>(Bl7 ae).bind λk=>(Am h g).bind λ_=>(Nj h g k).bind λm=>j11 g m
else
j13 h a b f
def bO:Nat->Int->LI->Gh
|0,_,_=>none
|z+1,c,d=>Bja (Bfi (bO z) l5 X Bq6) Bgb l5 X Bq6 c d
def Bpt a b f:=bO a b f Au
def Bh4(j9:(List LB)->LB->LB->Int->LI->Gh)(a:Bsx)(b f:LB):Gh:=(og (Ac a) (0:Int)).bind λaf=>(Is (geq (Ac a) (Ac a))).bind λ_=>j9 a b f 0 af
def Bih:=Bh4 Bpt
def Bhu(j8:(List LB)->LB->LB->Gh)(p u v:Int)(w:LX)(o:LB):Gh:=(Be7 p u v w o).bind λ(y,ag,ah,ai,aj,aa)=>if(Bd aa 0)then
some (([]:LB),aa)
else(rN p u v w o).bind λ(a,ab)=>if(Bd ab 0)then
some (([]:LB),ab)
else(KY y ag ah ai aj).bind λ(b,ac)=>if(Bd ac 0)then
some (([]:LB),ac)
else
if(geq y 2)then(CI o).bind λ(ak,al)=>j8 a b ak
else
j8 a b ([]:LB)
def eS:=Bhu Bih
abbrev Bsy:=Option (LB×LB×Int×Int×Int×Int×Int×LI×Int×LB×Bool×Int×Int)
def eC:Bsy:=if(Ei (Ac c) 64)then
some (([]:LB),([]:LB),0,0,0,0,0,([]:LI),0,([]:LB),false,0,2)
else
some (c,([]:LB),0,0,0,0,0,([]:LI),0,([]:LB),false,0,0)
def Lr:Bsz:=(
(Ds ([]:LB) c).bind λz=>some z)
def Hr:Bs8:=(
(Ds ([]:LI) E).bind λz=>some z)
abbrev Btl:=Option (LB×LB×Int×Int×Int×Int×Int×LI×Int×LB×Bool×Int)
def Eu:Btl:=(Lr e).bind λz=>(Lr L).bind λd=>(Hr P).bind λi=>some (c,z,B,F,J,T,U,i,R,d,C,D)
def Ee:Bus:=(Pj z d j I O).bind λc=>if(Bd c 0)then
some (([]:LI),c)
else(AH I O).bind λ(e,i)=>some (e,i)
def Qs(a f g h k:Int)(b:LB):Bst:=if((b==([]:LB)) !=(geq a 1))then
some 26
else
some 0
def Bew(w:Int)(o p:LB)(h b f k m:Int)(g:LI)(a:Int)(n:LB)(u:Bool)(v:Int):Bsu:=some (T9 (Ac n) w)
def VM:=Bew
def EU(j8:Int->LB->LB->Jz5 (LI->Int->LB->Bool->Int->Option Bool))(qw:Int->Int->Option Bool)(y:LI)(o p:LB)(h b f k m:Int)(g:LI)(a:Int)(n:LB)(u:Bool)(v w aa:Int):Bsu:=if(Ck aa (Ac y))then(Am y aa).bind λac=>qw (Ad w (Bo (Bg (Bg ac b) f) 8)) (Ad aa 1)
else
j8 w o p h b f k m g a n u v
def Sf:Nat->Int->Int->Option Bool
|0,_,_=>none
|z+1,c,d=>EU VM (Sf z) E e Bq0 B F J T U P R L C D c d
def Bfq y o p h b f k m g a n u v:=Sf y o p h b f k m g a n u v Au
def VL(j6:LI->LB->LB->Jz5 (LI->Int->LB->Bool->Int->Int->Int->Option Bool))(o p:LB)(h b f k m:Int)(g:LI)(a:Int)(n:LB)(u:Bool)(v:Int)(ab:LI):Bsu:=if(geq (Ac g) 0)then
some ((geq a 0)&&(geq (Ac n) 0))
else(Tj g).bind λad=>if((((Bd ad 0)||(Bd (Ac g) (Ac ab)))||(Ck a 0))||(Ei a (Ac ab)))then
some false
else(Bm ab 0 a).bind λy=>j6 y o p h b f k m g a n u v 0 0
def VK:=VL Bfq
def VS(j5:LB->LB->Jz5 (LI->Int->LB->Bool->Int->LI->Option Bool))(o p:LB)(h b f k m:Int)(g:LI)(a:Int)(n:LB)(u:Bool)(v:Int):Bsu:=if((geq h 0)&&((geq b 0)&&((geq f 0)&&((geq k 0)&&((geq m 0)&&true)))))then
some (((geq (Ac g) 0)&&(geq a 0))&&(geq (Ac n) 0))
else(Ee h b f k m).bind λ(ab,ae)=>if(Bd ae 0)then
some false
else(Qs h b f k m o).bind λaf=>if(Bd af 0)then
some false
else
j5 o p h b f k m g a n u v ab
def BS:=VS VK
def Hu:Bsu:=some (c==e)
def Ok:Bsu:=if(Mv (Ac c) (Ac e))then(Bm c 0 (Ac e)).bind λz=>(Hu z e).bind λd=>some d
else
some false
abbrev Ot:=Option (Int×Int)
def Bmw:Ot:=some (z,0)
def Bcp:=Bmw
def CA(j6:Int->Ot)(Rg:Int->Int->Ot)(a:LB)(b f:Int):Ot:=if(Ck f (Ac a))then(Am a f).bind λg=>if(Ei g 127)then
some (0,12)
else
Rg (zT (Dy b (GI.toZ (7:UInt64)).toNat) (Ae g:Int)) (Ad f 1)
else
j6 b
def Qd:Nat->Int->Int->Ot
|0,_,_=>none
|z+1,d,e=>CA Bcp (Qd z) c d e
def Axw a:=Qd a Au
def QD(j4:LB->Int->Int->Ot)(a:LB):Ot:=if(Bd (Ac a) 4)then
some (0,2)
else
j4 a 0 0
def QT:=QD Axw
abbrev Lc:=Option (Int×Int)
def Bfg:Lc:=if(Ei Bq1 4000)then
some (0,4)
else
if(Ck (Ac c) Bq1)then
some (0,24)
else
if(geq Brv 16)then(Bm c (Ap Bq1 10) Bq1).bind λz=>(Bm z 0 3).bind λd=>if(d !=([51,68,73]:LB))then
some (0,12)
else(Bm z 3 (Ac z)).bind λe=>(Bm c 3 10).bind λi=>(Hu e i).bind λj=>if(!j)then
some (0,12)
else
some (Bq1,0)
else
some (Bq1,0)
def EW:=Bfg
def VG(j8:LB->UInt8->Int->Lc)(a:LB)(g:Int)(b:UInt8):Lc:=if(geq b 16)then
j8 a b (Ad (Ad g 10) 10)
else
j8 a b (Ad g 10)
def FL:=VG EW
def UN(j7:LB->Int->UInt8->Lc)(a:LB)(g:Int)(b:UInt8)(m:Bool):Lc:=if m then
some (0,12)
else
j7 a g b
def UO:=UN FL
def VU(j6:LB->Int->UInt8->Bool->Lc)(a:LB)(f b:UInt8):Lc:=(Bm a 6 10).bind λaa=>(QT aa).bind λ(g,ab)=>if(Bd ab 0)then
if true then
j6 a g b true
else
if(geq b 0)then
j6 a g b (!((Mv f 2)&&(T9 f 4)))
else
if(geq b 16)then
j6 a g b (!(geq f 4))
else
j6 a g b (!false)
else(Am a 4).bind λac=>if(Bd ac 0)then
j6 a g b true
else
if(geq b 0)then
j6 a g b (!((Mv f 2)&&(T9 f 4)))
else
if(geq b 16)then
j6 a g b (!(geq f 4))
else
j6 a g b (!false)
def UY:=VU UO
def EX(j5:LB->UInt8->UInt8->Lc)(a:LB):Lc:=(Ok a ([(73:UInt8),(68:UInt8),(51:UInt8)]:LB)).bind λn=>if(!n)then
some (0,6)
else
if(Ck (Ac a) 10)then
some (0,24)
else(Am a 3).bind λf=>(Am a 5).bind λb=>(
(
(
j5 a f b)))
def XJ:=EX UY
abbrev GU:=Option (UInt64×Int)
def Af6:GU:=some (A,0)
def Ba4:=Af6
def dV(j6:UInt64->GU)(Rg:UInt64->Int->GU)(a:LB)(b:UInt64)(f:Int):GU:=if(Ck f (Ac a))then(Am a f).bind λg=>(Is (Mv (Bg 8 f) 0)).bind λ_=>Rg (zT b (Dy (Ae g:UInt64) (GI.toZ (Bg 8 f)).toNat)) (Ad f 1)
else
j6 b
def HC:Nat->UInt64->Int->GU
|0,_,_=>none
|z+1,d,e=>dV Ba4 (HC z) c d e
def Be3 a:=HC a Au
def uX(j4:LB->UInt64->Int->GU)(a:LB):GU:=if((Ck (Ac a) 1)||(Ei (Ac a) 8))then
some (0,2)
else
j4 a 0 0
def rO:=uX Be3
def WZ:Bto:=if(((Ck d 1)||(Ei d 8))||(Ck z 0))then
some (0,2)
else
if(Ei z (Ap (Ac c) d))then
some (0,24)
else(Bm c z (Ad z d)).bind λe=>(rO e).bind λ(i,j)=>some (i,j)
def Bg7:Bsz:=some c
def zL:=Bg7
def mH:Bsz:=if(Ck Bri (Ac ([(2000:UInt64),(Ae (Ad l7 32):UInt64),(Ae Brp:UInt64),Bre,(0:UInt64),(0:UInt64)]:LQ)))then(Am ([(2000:UInt64),(Ae (Ad l7 32):UInt64),(Ae Brp:UInt64),Bre,(0:UInt64),(0:UInt64)]:LQ) Bri).bind λ_=>(Am ([(2000:UInt64),(Ae (Ad l7 32):UInt64),(Ae Brp:UInt64),Bre,(0:UInt64),(0:UInt64)]:LQ) Bri).bind λz=>(Qi z 4).bind λ(c,d)=>(Ds Bsc c).bind λe=>Bro (Ad Bri 1) e
else
Brn Bsc
def GX:Nat->Int->LB->Option (LB)
|0,_,_=>none
|c+1,e,i=>mH zL (GX c) z d A e i
def A_ a b f:=GX a b f Au
def B2(j4:Int->Int->UInt64->Int->LB->Option (LB))(a b:Int)(f:UInt64):Bsz:=j4 a b f 0 ([(65:UInt8),(80:UInt8),(69:UInt8),(84:UInt8),(65:UInt8),(71:UInt8),(69:UInt8),(88:UInt8)]:LB)
def vV:=B2 A_
abbrev Buw:=Option (Int×Int×Bool)
def YJ:Buw:=(WZ c 12 4).bind λ(z,d)=>(WZ c 16 4).bind λ(e,i)=>if(((Ck z 32)||(Ei z 3032))||(Ei e 1000))then
some (0,0,false)
else(vV (Ap (Ae z:Int) 32) (Ae e:Int) A).bind λj=>(Hu c j).bind λB=>some ((Ap (Ae z:Int) 32),(Ae e:Int),B)
def vY:Bs1:=(Ok c ([(65:UInt8),(80:UInt8),(69:UInt8),(84:UInt8),(65:UInt8),(71:UInt8),(69:UInt8),(88:UInt8)]:LB)).bind λz=>if(!z)then
some (0,6)
else
if(Ck (Ac c) 32)then
some (0,24)
else(Bm c 0 32).bind λd=>(YJ d 2684354560).bind λ(e,i,j)=>if(!j)then
some (0,12)
else
if(Ck (Ac c) (Ad e 64))then
some (0,24)
else(Bm c (Ap (Ad e 64) 32) (Ad e 64)).bind λA=>(vV e i 2147483648).bind λB=>(Hu A B).bind λC=>if(!C)then
some (0,12)
else
some ((Ad e 64),0)
def AN:Bs1:=(XJ c).bind λ(z,d)=>if(Bd d 6)then
some (z,d)
else(vY c).bind λ(e,i)=>some (e,i)
def Yb(b:List UInt8):Nat->Int->Option (Int×Int)
  |0,_=>none
  |q+1,x=>Option.bind (Bm b x (Ac b)) λs=>Option.bind (AN s) λr=>
    if geq r.2 (6:Int)=true then some (x,0)
    else if(geq r.2 (0:Int)&&Ei (Ad x r.1) (4000:Int))=true then some (0,4)
    else if Bd r.2 (0:Int)=true then some (0,r.2)
    else Yb b q (Ad x r.1)
def Jv(b:List UInt8):Bs1:=Yb b Au 0
abbrev Buo:=Option (Bool×Int)
def Ao:Buo:=some (false,z)
def Ic:Bsu:=if(Mv (Ac c) (Ac e))then(Bm c 0 (Ac e)).bind λz=>some (z==e)
else
some false
def Kn:Bsu:=(Ic c e).bind λz=>some z
def Bpg:Bsu:=some false
def Bff:=Bpg
def Xk(j6:Bsu)(Rg:Bt4)(a:LB)(b:Int):Bsu:=if(Ck b 2)then(Am ([([73,68,51]:LB),([65,80,69,84,65,71,69,88]:LB)]:Bsx) b).bind λf=>if(Ck (Ac a) (Ac f))then(Kn f a).bind λg=>if g then
some true
else
Rg (Ad b 1)
else
Rg (Ad b 1)
else
j6
def Lq:Nat->Int->Option Bool
|0,_=>none
|z+1,d=>Xk Bff (Lq z) c d
def Bfh a:=Lq a Au
abbrev Bu7:=LB->Int->Option Bool
def VP(j4:Bu7)(a:LB):Bsu:=j4 a 0
def Tl:=VP Bfh
abbrev Tx:=Option (Int×Int×Int×Int×Int×Int)
def Bkc:Tx:=(Am E 0).bind λ_=>(Am E 0).bind λz=>(Am E 1).bind λ_=>(Am E 1).bind λc=>(Am E 2).bind λ_=>(Am E 2).bind λd=>(Am E 3).bind λ_=>(Am E 3).bind λe=>(Am E 4).bind λ_=>(Am E 4).bind λi=>(Tn z c d e i).bind λj=>if(!j)then
some (0,0,0,0,0,12)
else(TY z c d e i).bind λA=>if(!A)then
some (0,0,0,0,0,4)
else
some (z,c,d,e,i,0)
def JD:=Bkc
def JE(j6:LI->Tx)(Rg:Int->Int->LI->Tx)(b:LB)(g f:Int)(a:LI):Tx:=if(Ck f 5)then(Am ([(2:Int),(2:Int),(2:Int),(4:Int),(4:Int)]:LI) f).bind λh=>(WZ b g h).bind λ(v,ae)=>(Am a f).bind λ_=>(Nj a f (Ae v:Int)).bind λw=>Rg (Ad g h) (Ad f 1) w
else
j6 a
def Qm:Nat->Int->Int->LI->Tx
|0,_,_,_=>none
|z+1,d,e,i=>JE JD (Qm z) c d e i
def ZV b:=Qm b Au
def bI(j4:LB->Int->Int->LI->Tx)(b:LB):Tx:=(Bm b 0 (Fq 4 (Ac b))).bind λy=>(Kn ([84,84,65,49]:LB) y).bind λaa=>if(!aa)then
some (0,0,0,0,0,12)
else
if(Ck (Ac b) 22)then
some (0,0,0,0,0,24)
else(WZ b 18 4).bind λ(ab,af)=>(Bm b 0 18).bind λac=>(BU ac).bind λ(ad,ag)=>if(Bd (Ae ad:UInt64) ab)then
some (0,0,0,0,0,22)
else
j4 b 4 0 (List.replicate 5 (0:Int))
def Nn:=bI ZV
def Pr:Buo:=(CI e).bind λ(z,d)=>if((Bd d 0)||(Bd (Ac c) (Ac z)))then
some (false,2)
else(Hu c z).bind λi=>some (i,0)
abbrev Wv:=Option (LI×Int)
def Blv:Wv:=(Tj E).bind λz=>if(Bd z 0)then
some (([]:LI),12)
else
some (E,0)
def QO:=Blv
def QS(j6:LI->Wv)(Rg:Int->LI->Wv)(b:LB)(f:LI)(g:Int)(a:LI):Wv:=if(Ck g (Ac f))then(WZ b (Bg 4 g) 4).bind λ(k,u)=>(Am a g).bind λ_=>(Nj a g (Ae k:Int)).bind λm=>Rg (Ad g 1) m
else
j6 a
def Xx:Nat->Int->LI->Wv
|0,_,_=>none
|z+1,d,e=>QS QO (Xx z) c E d e
def Blb b f:=Xx b f Au
def gQ(j4:LB->LI->Int->LI->Wv)(b:LB)(h:Int):Wv:=if((Ck h 1)||(Ei h 1000))then
some (([]:LI),2)
else
if(Ck (Ac b) (Ad (Bg 4 h) 4))then
some (([]:LI),24)
else(WZ b (Bg 4 h) 4).bind λ(n,v)=>(Bm b 0 (Bg 4 h)).bind λo=>(BU o).bind λ(p,w)=>if(Bd (Ae p:UInt64) n)then
some (([]:LI),22)
else(og h (0:Int)).bind λf=>(Is (geq h h)).bind λ_=>j4 b f 0 f
def GD:=gQ Blb
def EC(f a b g h:Int):Bs1:=some (a,b)
def KR:Bty:=if(Ck (Ac c) 5)then
some (([]:LB),24)
else
if(Ei (Ac c) 41254)then
some (([]:LB),4)
else(Bm c 0 (Ap (Ac c) 4)).bind λz=>(BU z).bind λ(d,e)=>if(Bd e 0)then
some (([]:LB),e)
else(Bm c (Ap (Ac c) 4) (Ac c)).bind λi=>(rO i).bind λ(j,A)=>if((Bd A 0)||(Bd j (Ae d:UInt64)))then
some (([]:LB),22)
else(Bm c 0 (Ap (Ac c) 4)).bind λB=>some (B,0)
def pE:Bu2:=if(Ei (Ac c) 41250)then
some (([]:LB),0,4)
else(Ca c).bind λz=>some (z,(Bg 8 (Ac c)),0)
abbrev Bs3:=Option UInt64
def Ai5:Bs3:=some A
def Bdw:=Ai5
def tB(j6:Bu1)(Rg:Bup)(b f:Int)(h:LB)(k:Int)(g:UInt64)(a:Int):Bs3:=if(Ck a f)then(Am h (OF (Ad b a) (GI.toZ (3:UInt64)).toNat)).bind λm=>(Is (Mv (Fb (Ad b a) 7) 0)).bind λ_=>(Is (Mv (Fq (Ap f a) (Ap 8 (Fb (Ad b a) 7))) 0)).bind λ_=>(Is (Mv a 0)).bind λ_=>Rg (zT g (Dy (Ae (Fb (Cn m (GI.toZ (Fb (Ad b a) 7)).toNat) (Ap (Dy (1:UInt8) (GI.toZ (Fq (Ap f a) (Ap 8 (Fb (Ad b a) 7)))).toNat) 1)):UInt64) (GI.toZ a).toNat)) (Ad a (Fq (Ap f a) (Ap 8 (Fb (Ad b a) 7))))
else
j6 g
def SW:Nat->UInt64->Int->Option UInt64
|0,_,_=>none
|c+1,i,j=>tB Bdw (SW c) z d e B i j
def Agx b f h k:=SW b f h k Au
def Anw(j4:Int->Int->LB->Int->UInt64->Int->Option UInt64)(h:LB)(k b f:Int):Bs3:=j4 b f h k 0 0
def M7:=Anw Agx
abbrev Gv:=Option (LB×Int×Int)
def Ad2:Gv:=some (e,z,0)
def lO:=Ad2
abbrev Buu:=Int->Int->LB->Gv
def Abd(VX:Buu)(a:Int)(g:LB)(f b h:Int)(o:LB):Gv:=VX (Ad b 64) h o
def XI VX:=Abd VX
abbrev Bua:=UInt64->Int->Int->LB->Gv
def Abf(m? :Bua)(a b:Int)(g:LB)(f:Int)(k n:UInt64)(m h:Int)(w:LB):Gv:=(Is (Mv (Fq m (Ap 8 (Fb h 7))) 0)).bind λ_=>m? (Cn n (GI.toZ (Fq m (Ap 8 (Fb h 7)))).toNat) (Ap m (Fq m (Ap 8 (Fb h 7)))) (Ad h (Fq m (Ap 8 (Fb h 7)))) w
def mZ m? :=Abf m?
def nW(j48:Bua)(a b:Int)(g:LB)(f:Int)(k n:UInt64)(m h:Int)(v:LB):Gv:=(Am v (Ap (Ac v) 1)).bind λ_=>(Is (Mv (Fq m (Ap 8 (Fb h 7))) 0)).bind λ_=>(Is (Mv (Fb h 7) 0)).bind λ_=>(Am v (Ap (Ac v) 1)).bind λaa=>(Am v (Ap (Ac v) 1)).bind λ_=>Option.bind (Nj v (Ap (Ac v) 1) (zT aa (Dy (Ae (Fb n (Ap (Dy (1:UInt64) (GI.toZ (Fq m (Ap 8 (Fb h 7)))).toNat) 1)):UInt8) (GI.toZ (Fb h 7)).toNat))) λw=>j48 n m h w
def XV m? a b g f k:=nW (mZ m? a b g f k) a b g f k
def XR(j47:Bua)(j50:Buu)(a:Int)(g:LB)(f b:Int)(k n:UInt64)(m h:Int)(o:LB):Gv:=if(Ei m 0)then
if(geq (Fb h 7) 0)then(Ds o ([(0:UInt8)]:LB)).bind λab=>j47 n m h ab
else
j47 n m h o
else
j50 b h o
def Sp(VX:Buu)(a:Int)(g:LB)(f b:Int)(k:UInt64):Nat->UInt64->Int->Int->LB->Gv
|0,_,_,_,_=>none
|q+1,n,m,h,o=>XR (XV (Sp VX a g f b k q) a b g f k) (XI VX a g f) a g f b k n m h o
def nC VX a g f b k:=Sp VX a g f b k Au
def nA(j44:Int->UInt64->UInt64->Int->Int->LB->Gv)(j52:Int->LB->Gv)(a:Int)(g:LB)(f b p:Int)(u:LB):Gv:=if(Ck b a)then(M7 g f b (Fq 64 (Ap a b))).bind λk=>j44 b k k (Fq 64 (Ap a b)) p u
else
j52 p u
def BR:Nat->Int->Int->LB->Gv
|0,_,_,_=>none
|c+1,d,i,j=>nA (nC (BR c) z e B) lO z e B d i j
def Aa5 a g f:=BR a g f Au
def tG(j27:Int->LB->Jz3 (LB->Gv))(g:LB)(f y a:Int):Gv:=(Le g f).bind λac=>if(Bd ac 0)then
some (([]:LB),0,8)
else
if(((Ck y 0)||(Ei y a))||(Ei a f))then
some (([]:LB),0,2)
else
j27 a g f y 0 ([]:LB)
def sV:=tG Aa5
def LH:Bto:=(Le c z).bind λe=>if(Bd e 0)then
some (0,8)
else
if(((Ck j 0)||(Ei j 64))||(Ck d 0))then
some (0,2)
else
if(Ei d (Ap z j))then
some (0,24)
else(M7 c z d j).bind λi=>some (i,0)
def Ih:Bst:=if(geq A 0)then
some 64
else(Am ([(0:UInt8),(1:UInt8),(56:UInt8),(2:UInt8),(57:UInt8),(49:UInt8),(28:UInt8),(3:UInt8),(61:UInt8),(58:UInt8),(42:UInt8),(50:UInt8),(38:UInt8),(29:UInt8),(17:UInt8),(4:UInt8),(62:UInt8),(47:UInt8),(59:UInt8),(36:UInt8),(45:UInt8),(43:UInt8),(51:UInt8),(22:UInt8),(53:UInt8),(39:UInt8),(33:UInt8),(30:UInt8),(24:UInt8),(18:UInt8),(12:UInt8),(5:UInt8),(63:UInt8),(55:UInt8),(48:UInt8),(27:UInt8),(60:UInt8),(41:UInt8),(37:UInt8),(16:UInt8),(46:UInt8),(35:UInt8),(44:UInt8),(21:UInt8),(52:UInt8),(32:UInt8),(23:UInt8),(11:UInt8),(54:UInt8),(26:UInt8),(40:UInt8),(15:UInt8),(34:UInt8),(20:UInt8),(31:UInt8),(10:UInt8),(25:UInt8),(14:UInt8),(19:UInt8),(9:UInt8),(13:UInt8),(8:UInt8),(7:UInt8),(6:UInt8)]:LB) (GI.toZ (Cn (Bg (Fb A (G0 A)) 285870213051353865) (GI.toZ (58:UInt64)).toNat))).bind λz=>some (Ae z:Int)
abbrev Ku:=Option (Int×Int×Int)
def Bng:Ku:=some (0,0,24)
def Bij:=Bng
def Blp(j10:Ku):Ku:=j10
def Bl5:=Blp Bij
def fS(j9:Ku)(f a:Int):Ku:=if(geq f 48)then
some (f,(Ad 0 (Ad a f)),0)
else
j9
def fY:=fS Bl5
def fX(j8:Int->Int->Ku)(f b a:Int):Ku:=if(Ck f (Fq 48 (Ap b a)))then
some (f,(Ad (Ad (0:Int) (1:Int)) (Ad a f)),0)
else
j8 f a
def gE:=fX fY
def gB(j7:Jz3 Ku)(h:Int)(k:UInt64)(a:Int)(g:LB)(b:Int):Ku:=if(Bd h 0)then
some (0,0,h)
else(Ih (b! k)).bind λf=>j7 f b a
def fO:=gB gE
def EL(j6:Int->UInt64->Int->LB->Int->Ku)(g:LB)(b a:Int):Ku:=(Le g b).bind λm=>if(Bd m 0)then
some (0,0,m)
else
if(Ck a 0)then
some (0,0,2)
else
if(Mv a b)then
some (0,0,24)
else(
(
(LH g b a (Fq 48 (Ap b a))).bind λ(k,h)=>j6 h k a g b))
def PR:=EL fO
abbrev tJ:=Option (UInt32×Int×Int)
def mL:tJ:=(LH e B d F).bind λ(c,i)=>if(Bd i 0)then
some (0,0,i)
else
if(Ck j 48)then(Is (Mv z 0)).bind λ_=>some ((zT (Dy (Ae j:UInt32) (GI.toZ z).toNat) (Ae c:UInt32)),(Ad d F),0)
else(CO (Ae c:UInt32) z).bind λA=>if(!A)then
some (0,0,12)
else
some ((Ae c:UInt32),(Ad d F),0)
def YB:=mL
def mS(j2:Jz3 (LB->Int->Int->tJ))(g:LB)(h v a:Int):tJ:=(Le g h).bind λo=>if(Bd o 0)then
some (0,0,o)
else
if((Ck a 0)||(Ei a 24))then
some (0,0,2)
else(PR g h v).bind λ(f,b,p)=>if(Bd p 0)then
some (0,0,p)
else
if(geq f 48)then
j2 a b f g h 32
else
j2 a b f g h a
def wE:=mS YB
abbrev Nv:=Option (UInt32×Int×Int×Int×UInt64×UInt64×Int)
def Bl2:Nv:=some (V,l7,Brp,Bri,(Ad o9 (Ap (Ae V:UInt64) (Cn o9 (GI.toZ (4:UInt64)).toNat))),Brr,0)
def fV:=Bl2
def nF(j10:UInt32->Jz3 (UInt64->UInt64->Nv))(f:UInt32)(k m:Int)(a n:UInt64)(w:Int):Nv:=j10 f k w m a n
def lC:=nF fV
def nP(j9:UInt32->Int->Int->UInt64->UInt64->Int->Nv)(f:UInt32)(k b:Int)(a:UInt64)(m:Int)(n:UInt64):Nv:=if(Ei b 0)then(Is (Mv b 0)).bind λ_=>if(Ck (Ad a (Ap (Ae f:UInt64) (Cn a (GI.toZ (4:UInt64)).toNat))) (Dy (16:UInt64) (GI.toZ b).toNat))then
j9 f k m a n (Ap b 1)
else
if(Ck b 24)then(Is (Mv b 0)).bind λ_=>if(Ei (Ad a (Ap (Ae f:UInt64) (Cn a (GI.toZ (4:UInt64)).toNat))) (Dy (32:UInt64) (GI.toZ b).toNat))then
j9 f k m a n (Ad b 1)
else
j9 f k m a n b
else
j9 f k m a n b
else
if(Ck b 24)then(Is (Mv b 0)).bind λ_=>if(Ei (Ad a (Ap (Ae f:UInt64) (Cn a (GI.toZ (4:UInt64)).toNat))) (Dy (32:UInt64) (GI.toZ b).toNat))then
j9 f k m a n (Ad b 1)
else
j9 f k m a n b
else
j9 f k m a n b
def MI:=nP lC
def lP(j8:UInt32->Int->Int->UInt64->Int->UInt64->Nv)(b h:Int)(a g:UInt64)(f:UInt32)(k:Int):Nv:=(PX b h a g f).bind λ(ad,o)=>if(geq ad 1)then
if(Ei h 0)then(Is (Mv h 0)).bind λ_=>if(Ck (Ad g (Ap (Ae o:UInt64) (Cn g (GI.toZ (4:UInt64)).toNat))) (Dy (16:UInt64) (GI.toZ h).toNat))then
j8 f k b a (Ap h 1) (Ad g (Ap (Ae o:UInt64) (Cn g (GI.toZ (4:UInt64)).toNat)))
else
if(Ck h 24)then(Is (Mv h 0)).bind λ_=>if(Ei (Ad g (Ap (Ae o:UInt64) (Cn g (GI.toZ (4:UInt64)).toNat))) (Dy (32:UInt64) (GI.toZ h).toNat))then
j8 f k b a (Ad h 1) (Ad g (Ap (Ae o:UInt64) (Cn g (GI.toZ (4:UInt64)).toNat)))
else
j8 f k b a h (Ad g (Ap (Ae o:UInt64) (Cn g (GI.toZ (4:UInt64)).toNat)))
else
j8 f k b a h (Ad g (Ap (Ae o:UInt64) (Cn g (GI.toZ (4:UInt64)).toNat)))
else
if(Ck h 24)then(Is (Mv h 0)).bind λ_=>if(Ei (Ad g (Ap (Ae o:UInt64) (Cn g (GI.toZ (4:UInt64)).toNat))) (Dy (32:UInt64) (GI.toZ h).toNat))then
j8 f k b a (Ad h 1) (Ad g (Ap (Ae o:UInt64) (Cn g (GI.toZ (4:UInt64)).toNat)))
else
j8 f k b a h (Ad g (Ap (Ae o:UInt64) (Cn g (GI.toZ (4:UInt64)).toNat)))
else
j8 f k b a h (Ad g (Ap (Ae o:UInt64) (Cn g (GI.toZ (4:UInt64)).toNat)))
else
j8 f k b a h g
def XQ:=lP MI
def lW(j7:Int->Int->UInt64->UInt64->UInt32->Int->Nv)(p:Int)(u:LB)(v b h:Int)(a g:UInt64):Nv:=(LH u v p 1).bind λ(ae,aa)=>if(Bd aa 0)then
some (0,0,0,0,0,0,aa)
else
if(geq ae 0)then(LH u v (Ad p 1) b).bind λ(af,ab)=>if(Bd ab 0)then
some (0,0,0,0,0,0,ab)
else
j7 b h a g (Ae af:UInt32) (Ad (Ad p 1) b)
else(wE u v (Ad p 1) h).bind λ(y,ag,ac)=>if(Bd ac 0)then
some (0,0,0,0,0,0,ac)
else(Is (Mv b 0)).bind λ_=>if(Ck (Ad y (Dy (1:UInt32) (GI.toZ b).toNat)) y)then
some (0,0,0,0,0,0,12)
else
j7 b h a g (Ad y (Dy (1:UInt32) (GI.toZ b).toNat)) ag
def nV:=lW XQ
def nZ(j6:Int->LB->Jz3 (UInt64->UInt64->Nv))(u:LB)(v p b h:Int)(a g:UInt64):Nv:=(Le u v).bind λah=>if(Bd ah 0)then
some (0,0,0,0,0,0,8)
else(bN b h a g).bind λai=>if(Bd ai 0)then
some (0,0,0,0,0,0,8)
else
j6 p u v b h a g
def PH:=nZ nV
abbrev Cp:=Option (LU×Int×Int)
def Bqw:Cp:=some (Z,z,0)
def Asj:=Bqw
def Asa(Je:Int->Int-> (List (Int×Int×UInt64×UInt64×Unit))->LU->Cp)(a f:Int)(g:LB)(b k v:Int)(w:UInt32)(h:Int)(ag:Bsv)(m:LU):Cp:=(Ds m ([w]:LU)).bind λak=>Je (Ad k v) (Ad h 1) ag ak
def FR Je:=Asa Je
def Wm(j22:Int->Int->UInt32->Int-> (List (Int×Int×UInt64×UInt64×Unit))->LU->Cp)(a f:Int)(g:LB)(b k h y:Int)(w:UInt32)(v:Int)(n:Bsv)(m:LU)(aa ab:Int)(ac ad:UInt64):Cp:=if(Bd y 0)then
some (([]:LU),0,y)
else(Is (Bd a 0)).bind λ_=>(Am n (Gz h a)).bind λ_=>(Nj n (Gz h a) (aa,ab,ac,ad,())).bind λag=>j22 k v w h ag m
def Wn Je a f g b:=Wm (FR Je a f g b) a f g b
def Xg(j21:Jz3 (UInt32->Int-> (List (Int×Int×UInt64×UInt64×Unit))->LU->Int->Int->UInt64->UInt64->Cp))(j24:Int->LU->Cp)(a f:Int)(g:LB)(b k h:Int)(n:Bsv)(m:LU):Cp:=if(Ck h (Bg f a))then(sV g b k (Fq (Ad k 81) b)).bind λ(ah,ae,af)=>if(Bd af 0)then
some (([]:LU),0,af)
else(Is (Bd a 0)).bind λ_=>(Am n (Gz h a)).bind λ_=>(
(
(Am n (Gz h a)).bind λp=>(
(PH ah ae 0 p.1 p.2.1 p.2.2.1 p.2.2.2.1).bind λ(w,v,aa,ab,ac,ad,y)=>j21 k h y w v n m aa ab ac ad)))
else
j24 k m
def Qk:Nat->Int->Int-> (List (Int×Int×UInt64×UInt64×Unit))->LU->Cp
|0,_,_,_,_=>none
|c+1,i,j,A,C=>Xg (Wn (Qk c) z d e B) Asj z d e B i j A C
def Bmd a f g b:=Qk a f g b Au
def Anf(j16:Int->Int->LB->Jz3 ( (List (Int×Int×UInt64×UInt64×Unit))->LU->Cp))(a f:Int)(g:LB)(b:Int)(o:Bsv):Cp:=j16 a f g b 0 0 o ([]:LU)
def FP:=Anf Bmd
def Apc(j15:Int->Int->LB->Int-> (List (Int×Int×UInt64×UInt64×Unit))->Cp)(Z_:Int-> (List (Int×Int×UInt64×UInt64×Unit))->Cp)(a f:Int)(g:LB)(b u:Int)(o:Bsv):Cp:=if(Ck u 6)then(C7).bind λ(al,ae,af,am)=>(Am o u).bind λ_=>(Nj o u (al,ae,af,am,())).bind λan=>Z_ (Ad u 1) an
else
j15 a f g b o
def FU:Nat->Int-> (List (Int×Int×UInt64×UInt64×Unit))->Cp
|0,_,_=>none
|c+1,i,j=>Apc FP (FU c) z d e B i j
def GR a f g b:=FU a f g b Au
def KM(j13:Int->Int->LB->Int->Int-> (List (Int×Int×UInt64×UInt64×Unit))->Cp)(a f:Int)(g:LB)(b:Int):Cp:=j13 a f g b 0 (List.replicate 6 ((0:Int),(0:Int),(0:UInt64),(0:UInt64),()))
def KN:=KM GR
def CN:Btb:=some (BH (Ae (Cn V (GI.toZ (1:UInt64)).toNat):Int32) (G0 (Ae (Fb V 1):Int32)))
def uL:Bue:=(aO z i M).bind λ(c,d)=>if(Bd d 0)then
some (0,0,(List.replicate 16 (0:Int32)),(List.replicate 16 (0:Int32)),d)
else(ZA z i M (Ad G c) G).bind λ(e,j,A)=>some ((Ad G c),e,j,A,0)
def Oq:Bt0:=(AO z G N p8 p9).bind λc=>if(Bd c 0)then
some (0,0,0,0,(List.replicate 16 (0:Int32)),(List.replicate 16 (0:Int32)),c)
else(AP z G).bind λ(d,e)=>(uL N p8 p9 Brk).bind λ(i,j,A,B,C)=>(
some ((Ad i d),z,(Ad i d),j,A,B,C))
abbrev Im:=Option (LX×Int)
def Adl:Im:=some (i,0)
def Aaq:=Adl
abbrev Bun:=Int->LX->Im
def Aby(gS:Bun)(b a:Int)(h:LX):Im:=gS (Ad a b) h
def mQ gS:=Aby gS
def XM(j20:Bun)(NI:Bun)(b a g:Int)(h:LX):Im:=if(Mv g 0)then(Is (decide (0<= (Ad g 1)/\ (Ad g 1)<((Ad a b)-a)))).bind λ_=>(Is (decide (0<=g/\g<((Ad a b)-a)))).bind λ_=>(Am h (a+(Ad g 1))).bind λo=>(Am h (a+g)).bind λp=>(Is (decide (0<=g/\g<((Ad a b)-a)))).bind λ_=>(Nj h (a+g) (Ap o p)).bind λu=>NI (Ap g 1) u
else
j20 a h
def CJ(gS:Bun)(b a:Int):Nat->Int->LX->Im
|0,_,_=>none
|q+1,g,h=>XM (mQ gS b) (CJ gS b a q) b a g h
def Aap gS b a:=CJ gS b a Au
def lB(j18:Int->Int->LX->Im)(b a:Int)(k:LX):Im:=j18 a (Ap (Ap ((Ad a b)-a) 1) 1) k
def YA gS b:=lB (Aap gS b) b
def lI(j17:Bun)(j22:LX->Im)(b a:Int)(f:LX):Im:=if(Ck a (Ac f))then(jB (Ac f) a (Ad a b)).bind λ_=>if(Ei (Ap ((Ad a b)-a) 1) 0)then(Is (decide (0<= (Ap ((Ad a b)-a) 1)/\ (Ap ((Ad a b)-a) 1)<((Ad a b)-a)))).bind λ_=>Option.bind (Is (decide (0<= (Ap (Ap ((Ad a b)-a) 1) 1)/\ (Ap (Ap ((Ad a b)-a) 1) 1)<((Ad a b)-a)))) λ_=>(Am f (a+(Ap ((Ad a b)-a) 1))).bind λv=>(Am f (a+(Ap (Ap ((Ad a b)-a) 1) 1))).bind λw=>(Is (decide (0<= (Ap ((Ad a b)-a) 1)/\ (Ap ((Ad a b)-a) 1)<((Ad a b)-a)))).bind λ_=>(Nj f (a+(Ap ((Ad a b)-a) 1)) (Ad v (Bo w 2))).bind λy=>j17 a y
else
j17 a f
else
j22 f
def Wr:Nat->Int->LX->Im
|0,_,_=>none
|c+1,d,e=>lI (YA (Wr c) z) Aaq z d e
def Ac3 b:=Wr b Au
def uQ(j12:Int->Int->LX->Im)(b:Int)(m:LX):Im:=(jM b m).bind λn=>if(Bd n 0)then
some (([]:LX),n)
else(Dr m).bind λaa=>j12 b 0 aa
def I3:=uQ Ac3
abbrev Db:=Option (LX×Int)
def Akc:Db:=(I3 z i).bind λ(c,e)=>if(Bd e 0)then
some (([]:LX),e)
else(Sr d c).bind λj=>if(Bd j 0)then
some (([]:LX),j)
else
some (c,0)
def Pa:=Akc
def Al6(Z_:Int-> (List (Int×Int32×(Int×LX×LX×Unit)×Unit))->LX->Db)(a:Int)(f:LU)(b g:Int)(u:Int32)(o:Int)(h:Bs0)(k:LX)(v:Int)(p:Int32)(w:Int)(y aa:LX):Db:=if(Bd o 0)then
some (([]:LX),o)
else(Nj h (Gz g a) (v,p,(w,y,aa,()),())).bind λai=>(Ds k ([u]:LX)).bind λaj=>Z_ (Ad g 1) ai aj
def DJ Z_:=Al6 Z_
def Oz(j16:Int->Int32->Int-> (List (Int×Int32×(Int×LX×LX×Unit)×Unit))->LX->Int->Int32->Int->LX->LX->Db)(j18:Int->Int->LX->Db)(f:LU)(a b g:Int)(h:Bs0)(k:LX):Db:=if(Ck g (Ac f))then(Am f g).bind λag=>(Is (Bd a 0)).bind λ_=>(Am h (Gz g a)).bind λ_=>(
(Am h (Gz g a)).bind λm=>(
(CN ag).bind λae=>(
(Oq m.1 m.2.1 m.2.2.1.1 m.2.2.1.2.1 m.2.2.1.2.2.1 ae).bind λ(u,v,p,w,y,aa,o)=>j16 g u o h k v p w y aa)))
else
j18 a b k
def Lj:Nat->Int-> (List (Int×Int32×(Int×LX×LX×Unit)×Unit))->LX->Db
|0,_,_,_=>none
|z+1,c,d,e=>Oz (DJ (Lj z) Bq3 Z Bq4) Pa Z Bq3 Bq4 c d e
def Bqr f a b:=Lj f a b Au
def Alr(j13:LU->Jz3 ( (List (Int×Int32×(Int×LX×LX×Unit)×Unit))->LX->Db))(f:LU)(a b:Int)(n:Bs0):Db:=j13 f a b 0 n ([]:LX)
def DV:=Alr Bqr
def Ama(j12:LU->Int->Int-> (List (Int×Int32×(Int×LX×LX×Unit)×Unit))->Db)(TA:Int-> (List (Int×Int32×(Int×LX×LX×Unit)×Unit))->Db)(f:LU)(a b:Int)(ab:LX)(ac:Int)(n:Bs0):Db:=if(Ck ac 6)then(Y0 b ab).bind λ(ak,af,ae,al,am,p)=>(Am n ac).bind λ_=>(Nj n ac (ak,af,(ae,al,am,()),())).bind λan=>TA (Ad ac 1) an
else
j12 f a b n
def DQ:Nat->Int-> (List (Int×Int32×(Int×LX×LX×Unit)×Unit))->Db
|0,_,_=>none
|z+1,c,d=>Ama DV (DQ z) Z Bq3 Bq4 Br0 c d
def DN f a b ab:=DQ f a b ab Au
def GN(j10:LU->Int->Int->LX->Int-> (List (Int×Int32×(Int×LX×LX×Unit)×Unit))->Db)(a b:Int)(ab:LX)(f:LU):Db:=j10 f a b ab 0 (List.replicate 6 ((0:Int),(0:Int32),((0:Int),(List.replicate 16 (0:Int32)),(List.replicate 16 (0:Int32)),()),()))
def Xm:=GN DN
def Kl:Bud:=(Gk z d).bind λc=>if(Bd c 0)then
some (([]:LX),c)
else
if(Ck B 1)then
some (([]:LX),2)
else(Is (Bd z 0)).bind λ_=>if(Ei B (Bo 4000 z))then
some (([]:LX),2)
else(KR L).bind λ(e,j)=>if(Bd j 0)then
some (([]:LX),j)
else(pE e).bind λ(A,C,D)=>if(Bd D 0)then
some (([]:LX),D)
else(KN z B A C).bind λ(E,F,G)=>if(Bd G 0)then
some (([]:LX),G)
else
if(Mv (Ap C F) 8)then
some (([]:LX),12)
else(LH A C F (Ap C F)).bind λ(I,J)=>if((Bd J 0)||(Bd I 0))then
some (([]:LX),12)
else(Xm z d i E).bind λ(M,N)=>some (M,N)
def Bmf:Bst:=some (-1:Int)
def Aer:=Bmf
def Fu:Bst:=if(Ck y8 (Ac Brf))then(Am Brf y8).bind λz=>if(geq Brd z)then
some y8
else
Bra (Ad y8 1)
else
Bq9
def Ch:Nat->Int->Option Int
|0,_=>none
|c+1,d=>Fu Aer (Ch c) E z d
def Aes a b:=Ch a b Au
def Jd(j4:Bt9)(a:LI)(b:Int):Bst:=j4 a b 0
def Kw:=Jd Aes
def Iz:Bsu:=(Kw E z).bind λc=>some (Mv c 0)
def Tr:Bsu:=(Iz ([(4:Int),(12:Int),(16:Int),(22:Int),(24:Int),(26:Int),(38:Int)]:LI) z).bind λc=>some c
def Awp:Bst:=if(!C)then
some 8
else
some 0
def By:=Awp
def LO:Bst:=r9 ((true==true)&&((geq (0:Int) (0:Int))&&true))
def Zo:=LO By
def IG:Bst:=r9 ((y5==true)&&((geq Brw 0)&&true))
def Fs:=IG By
abbrev Btd:=Bool->Int->Option Int
def MP(j13:Btd)(g ak:LB)(ae af aa ag ab b:Int)(m:Bool)(n:Int)(f:LI)(h:LB):Bst:=(Qs ae af aa ag ab g).bind λdm=>(Ao dm).bind λ(dn,am)=>j13 dn am
def Zg:=MP Fs
def JX:Bst:=r9 ((y5==true)&&((geq Brw 0)&&true))
def Kx:=JX By
def IZ(j25:Btd)(g a:LB)(k p o u v b:Int)(m:Bool)(n:Int)(f:LI)(h:LB)(bg:Int):Bst:=(Ee k p o u v).bind λ(dp,bh)=>if(Bd bh 0)then(Ao bh).bind λ(an,bn)=>j25 an bn
else(Bm a bg (Ac a)).bind λdq=>(GD dq (Ac dp)).bind λ(dr,aa)=>if(geq aa 24)then
j25 true 0
else
if(Bd aa 0)then(Ao aa).bind λ(ds,ab)=>j25 ds ab
else(Bm a (Ad (Ad bg (Bg 4 (Ac dr))) 4) (Ac a)).bind λfc=>j25 false 0
def Li:=IZ Kx
abbrev Btf:=LB->LB->Jz6 (Bool->Int->LI->LB->Int->Option Int)
def JJ(j25:Btd)(j24:Btf)(bd:Bool)(bc:Int)(g a:LB)(k p o u v b:Int)(m:Bool)(n:Int)(f:LI)(h:LB):Bst:=if(Bd bc 0)then(Ao bc).bind λ(dt,bh)=>j25 dt bh
else
if(!bd)then(Ao 26).bind λ(an,bn)=>j25 an bn
else
j24 g a k p o u v b m n f h 8
def MB:=JJ Kx Li
def ML(j15:Bool->Int->LB->LB->Jz6 (Bool->Int->LI->LB->Option Int))(g a:LB)(k p o u v b:Int)(m:Bool)(n:Int)(f:LI)(h:LB):Bst:=(Bm a 0 8).bind λdu=>(Pr du g).bind λ(bd,bc)=>j15 bd bc g a k p o u v b m n f h
def Zd:=ML MB
def IY:Bst:=r9 ((y5==true)&&((geq Brw 0)&&true))
def Iu:=IY By
def Zr(j28:Btd)(w ah:Int)(g a:LB)(k p o u v b:Int)(m:Bool)(n:Int)(ao:LX)(f:LI)(h:LB):Bst:=if(Bd ah 0)then(Ao ah).bind λ(br,bs)=>j28 br bs
else(Jy o ao).bind λ(bt,be)=>if(Bd be 0)then(Ao be).bind λ(bu,bv)=>j28 bu bv
else(Ds h bt).bind λdv=>(
(Bm a w (Ac a)).bind λdw=>j28 false 0)
def MV:=Zr Iu
def KU(j27:Int->Int->LB->LB->Jz6 (Bool->Int->LX->LI->LB->Option Int))(w:Int)(g a:LB)(k p o u v b:Int)(m:Bool)(n:Int)(ap:LX)(ad f:LI)(h:LB):Bst:=(Am ad b).bind λ_=>(Bm a 0 w).bind λdx=>(Am ad b).bind λdy=>(EC k p o u v).bind λ(dz,bf)=>(Kl dz bf ap dy dx).bind λ(ao,ah)=>j27 w ah g a k p o u v b m n ao f h
def Zb:=KU MV
abbrev Bti:=LB->LB->Jz6 (Bool->Int->LI->LB->Option Int)
def CG(j13:Btd)(j12:Bti)(j25:Btd)(j23:Bti)(j24:Btf)(j28:Btd)(j26:Int->LB->LB->Jz6 (Bool->Int->LX->LI->LI->LB->Option Int))(j22:Bt3)(j21:Bst)(aq ar:LB)(au av aw ax ay:Int)(az:LI)(ai:Int)(aj:LB)(ac:Bool)(y:Int):Bst:=if(Ei (Ac aq) 64)then
some 8
else
if((geq y 0)&&(!ac))then(Eu aq ar au av aw ax ay az ai aj ac y).bind λ(g,a,k,p,o,u,v,f,b,h,m,n)=>(BS aq ar au av aw ax ay az ai aj ac y).bind λbw=>if bw then
if(geq k 0)then(Jv a).bind λ(al,ba)=>if(geq ba 24)then
j13 true 0
else
if(Bd ba 0)then(Ao ba).bind λ(bx,bz)=>j13 bx bz
else(Bm a al (Ac a)).bind λda=>(Tl da).bind λan=>if an then
j13 true 0
else(Bm a al (Ac a)).bind λdb=>(Nn db).bind λ(ae,af,aa,ag,ab,bb)=>if(geq bb 24)then
j13 true 0
else
if(Bd bb 0)then(Ao bb).bind λ(dc,dd)=>j13 dc dd
else(
(Bm a (Ad al 22) (Ac a)).bind λak=>(
j12 g ak ae af aa ag ab b m n f h))
else
if(geq (Ac f) 0)then
if(geq k 2)then
if(Ck (Ac a) 8)then
j25 true 0
else
j23 g a k p o u v b m n f h
else
j24 g a k p o u v b m n f h 0
else
if(Ck b (Ac f))then(Am f b).bind λ_=>(Am f b).bind λw=>if(Ck (Ac a) w)then
j28 true 0
else(Oe g).bind λ(ap,am)=>if(Bd am 0)then(Ao am).bind λ(de,df)=>j28 de df
else(Ee k p o u v).bind λ(ad,dg)=>if((Bd dg 0)||(Mv b (Ac ad)))then(Ao 8).bind λ(dh,di)=>j28 dh di
else
j26 w g a k p o u v b m n ap ad f h
else
if(Ei (Ac a) 4000)then(Ao 38).bind λ(dj,bf)=>j22 ((dj==true)&&((geq bf 0)&&true))
else
j21
else
j22 false
else
if((geq (Ac ar) 0)&&(geq (Ac az) 0))then
if((((geq au 0)&&((geq av 0)&&((geq aw 0)&&((geq ax 0)&&((geq ay 0)&&true)))))&&(geq ai 0))&&(T9 (Ac aj) 12000))then
if(geq y 0)then
j22 true
else
if(!ac)then(Tr y).bind λdk=>j22 dk
else
j22 false
else
j22 false
else
if((false&&(geq ai 0))&&(T9 (Ac aj) 12000))then
if(geq y 0)then
j22 true
else
if(!ac)then(Tr y).bind λdl=>j22 dl
else
j22 false
else
j22 false
def Pz:=CG Fs Zg Kx Zd Li Iu Zb By Zo
def Ty:Bsy:=(Pz c e B F J T U P R L C D).bind λz=>if(Bd z 0)then
some (([]:LB),([]:LB),0,0,0,0,0,([]:LI),0,([]:LB),false,0,z)
else
if(Bd D 0)then(
(
(Eu c e B F J T U P R L C D).bind λ(d,i,j,A,E,G,I,M,N,O,V,X)=>(
some (d,i,j,A,E,G,I,M,N,O,V,X,D))))
else
if C then(Eu c e B F J T U P R L C D).bind λ(Y,Z,l5,l6,l7,l9,o7,o8,o9,p8,p9,r9)=>some (Y,Z,l5,l6,l7,l9,o7,o8,o9,p8,p9,r9,36)
else(Eu c e B F J T U P R L C D).bind λ(y5,y7,y8,y9,Bqy,Bqz,Bq0,Bq1,Bq2,Bq3,Bq4,Bq5)=>some (y5,y7,y8,y9,Bqy,Bqz,Bq0,Bq1,Bq2,Bq3,Bq4,Bq5,0)
def YC(b g:LB)(h k m n o:Int)(p:LI)(u:Int)(f:LB)(v:Bool)(w a:Int):Bsy:=some (b,([]:LB),0,0,0,0,0,([]:LI),0,f,false,a,a)
abbrev Ax:=Option (LB×LB×Int×Int×Int×Int×Int×LI×Int×LB×Bool×Int×Int)
abbrev Bs9:=LB->Jz6 (LI->LB->Ax)
def OK(YG:Bs9)(a:LB)(b:Bool)(f:Int)(ar:LB)(au av aw ax ay az:Int)(bh:Bool)(be:Int)(ba:LI)(bb:LB):Ax:=if bh then(Eu a ar au av aw ax ay ba az bb b f).bind λ(fh,fi,fj,bc,bi,ai,fk,fl,fm,fn,fo,aj)=>some (fh,fi,fj,bc,bi,ai,fk,fl,fm,fn,fo,aj,0)
else
if(Bd be 0)then(YC a ar au av aw ax ay ba az bb b f be).bind λ(fp,fq,fs,ft,fu,fv,fw,fx,fy,fz,ga,gb,gc)=>some (fp,fq,fs,ft,fu,fv,fw,fx,fy,fz,ga,gb,gc)
else
YG ar au av aw ax ay az ba bb
def Cs YG:=OK YG
abbrev Bs2:=LB->Jz6 (Bool->Int->LI->LB->Ax)
def Bd9(j71:Bs2)(a:LB)(b:Bool)(f:Int)(g:LB)(m p o u v h:Int)(k:LI)(n:LB):Ax:=j71 g m p o u v h true 0 k n
def CK YG a b f:=Bd9 (Cs YG a b f) a b f
def Bb0(j71:Bs2)(a:LB)(b:Bool)(f h:Int)(k:LI)(n:LB)(bj:Bool)(bk:Int)(bl:LB)(bm bn bp bq br:Int):Ax:=j71 bl bm bn bp bq br h bj bk k n
def Qh YG a b f:=Bb0 (Cs YG a b f) a b f
abbrev Btr:=Int->LI->LB->Bool->Int->LB->Jz5 Ax
def QG(j62:Btr)(a:LB)(b:Bool)(f:Int)(af:LB)(ab ac y ad aa h:Int)(k:LI)(n:LB):Ax:=(Qs ab ac y ad aa a).bind λgd=>(Ao gd).bind λ(ge,ak)=>j62 h k n ge ak af ab ac y ad aa
def Uq YG a b f:=QG (Qh YG a b f) a b f
def Ba9(j71:Bs2)(a:LB)(b:Bool)(f m p o u v h:Int)(n:LB)(bs:Bool)(bt:Int)(bu:LB)(bv:LI):Ax:=j71 bu m p o u v h bs bt bv n
def Mx YG a b f:=Ba9 (Cs YG a b f) a b f
abbrev Btc:=Jz6 (LB->Bool->Int->LB->LI->Ax)
def QM(j75:Btc)(a:LB)(b:Bool)(f:Int)(g:LB)(m p o u v h:Int)(k:LI)(n:LB)(bf:Int):Ax:=(Ee m p o u v).bind λ(gf,bg)=>if(Bd bg 0)then(Ao bg).bind λ(al,bw)=>j75 m p o u v h n al bw g k
else(Bm g bf (Ac g)).bind λgg=>(GD gg (Ac gf)).bind λ(dw,y)=>if(geq y 24)then
j75 m p o u v h n true 0 g k
else
if(Bd y 0)then(Ao y).bind λ(gh,aa)=>j75 m p o u v h n gh aa g k
else(Bm g (Ad (Ad bf (Bg 4 (Ac dw))) 4) (Ac g)).bind λgi=>j75 m p o u v h n false 0 gi dw
def Nd YG a b f:=QM (Mx YG a b f) a b f
abbrev Btx:=LB->Jz6 (LI->LB->Int->Ax)
def QF(j75:Btc)(j74:Btx)(a:LB)(b:Bool)(f:Int)(bd:Bool)(aq:Int)(g:LB)(m p o u v h:Int)(k:LI)(n:LB):Ax:=if(Bd aq 0)then(Ao aq).bind λ(gj,bg)=>j75 m p o u v h n gj bg g k
else
if(!bd)then(Ao 26).bind λ(al,bw)=>j75 m p o u v h n al bw g k
else
j74 g m p o u v h k n 8
def OI YG a b f:=QF (Mx YG a b f) (Nd YG a b f) a b f
def OQ(j64:Bool->Int->LB->Jz6 (LI->LB->Ax))(a:LB)(b:Bool)(f:Int)(g:LB)(m p o u v h:Int)(k:LI)(n:LB):Ax:=(Bm g 0 8).bind λgk=>(Pr gk a).bind λ(bd,aq)=>j64 bd aq g m p o u v h k n
def Us YG a b f:=OQ (OI YG a b f) a b f
def Ayl(j71:Bs2)(a:LB)(b:Bool)(f m p o u v:Int)(k:LI)(bx:Bool)(bz:Int)(da:LB)(db:Int)(dc:LB):Ax:=j71 da m p o u v db bx bz k dc
def Qg YG a b f:=Ayl (Cs YG a b f) a b f
abbrev Bts:=Jz5 (LI->Bool->Int->LB->Int->LB->Ax)
def CE(j78:Bts)(a:LB)(b:Bool)(f w ag:Int)(g:LB)(m p o u v h:Int)(am:LX)(k:LI)(n:LB):Ax:=if(Bd ag 0)then(Ao ag).bind λ(dd,de)=>j78 m p o u v k dd de g h n
else(Jy o am).bind λ(df,aj)=>if(Bd aj 0)then(Ao aj).bind λ(dg,dh)=>j78 m p o u v k dg dh g h n
else(Ds n df).bind λdi=>(
(Bm g w (Ac g)).bind λdj=>j78 m p o u v k false 0 dj (Ad h 1) di)
def PL YG a b f:=CE (Qg YG a b f) a b f
def OP(j77:Int->Int->LB->Jz6 (LX->LI->LB->Ax))(a:LB)(b:Bool)(f w:Int)(g:LB)(m p o u v h:Int)(an:LX)(ae k:LI)(n:LB):Ax:=(Am ae h).bind λ_=>(Bm g 0 w).bind λgl=>(Am ae h).bind λgm=>(EC m p o u v).bind λ(bi,ai)=>(Kl bi ai an gm gl).bind λ(am,ag)=>j77 w ag g m p o u v h am k n
def Vv YG a b f:=OP (PL YG a b f) a b f
def Jo(j62:Btr)(j61:Bs9)(j75:Btc)(j73:Bs9)(j74:Btx)(j78:Bts)(j76:Int->LB->Jz6 (LX->LI->LI->LB->Ax))(j71:Bs2)(j70:Bs9)(a:LB)(b:Bool)(f:Int)(g:LB)(m p o u v h:Int)(k:LI)(n:LB):Ax:=if(geq m 0)then(Jv g).bind λ(ah,ao)=>if(geq ao 24)then
j62 h k n true 0 g m p o u v
else
if(Bd ao 0)then(Ao ao).bind λ(dk,dl)=>j62 h k n dk dl g m p o u v
else(Bm g ah (Ac g)).bind λdm=>(Tl dm).bind λal=>if al then
j62 h k n true 0 g m p o u v
else(Bm g ah (Ac g)).bind λdn=>(Nn dn).bind λ(ab,ac,y,ad,aa,ap)=>if(geq ap 24)then
j62 h k n true 0 g m p o u v
else
if(Bd ap 0)then(Ao ap).bind λ(dp,dq)=>j62 h k n dp dq g m p o u v
else(
(Bm g (Ad ah 22) (Ac g)).bind λaf=>(
j61 af ab ac y ad aa h k n))
else
if(geq (Ac k) 0)then
if(geq m 2)then
if(Ck (Ac g) 8)then
j75 m p o u v h n true 0 g k
else
j73 g m p o u v h k n
else
j74 g m p o u v h k n 0
else
if(Ck h (Ac k))then(Am k h).bind λ_=>(Am k h).bind λw=>if(Ck (Ac g) w)then
j78 m p o u v k true 0 g h n
else(Oe a).bind λ(an,ak)=>if(Bd ak 0)then(Ao ak).bind λ(dr,ds)=>j78 m p o u v k dr ds g h n
else(Ee m p o u v).bind λ(ae,dt)=>if((Bd dt 0)||(Mv h (Ac ae)))then(Ao 8).bind λ(du,bc)=>j78 m p o u v k du bc g h n
else
j76 w g m p o u v h an ae k n
else
if(Ei (Ac g) 4000)then(Ao 38).bind λ(dv,ai)=>j71 g m p o u v h dv ai k n
else
j70 g m p o u v h k n
def Bf:Nat->LB->Jz6 (LI->LB->Ax)
|0,_,_,_,_,_,_,_,_,_=>none
|z+1,d,e,i,j,A,B,E,F,G=>Jo (Qh (Bf z) c C D) (Uq (Bf z) c C D) (Mx (Bf z) c C D) (Us (Bf z) c C D) (Nd (Bf z) c C D) (Qg (Bf z) c C D) (Vv (Bf z) c C D) (Cs (Bf z) c C D) (CK (Bf z) c C D) c C D d e i j A B E F G
def Bmy a b f:=Bf a b f Au
def Xq(j37:LB->Bool->Int->LB->Jz6 (LI->LB->Ax))(gn go:LB)(gp gq gr gs gt:Int)(gu:LI)(gv:Int)(gw:LB)(gx:Bool)(gy:Int)(gz:LB):Ax:=(Ty gn go gp gq gr gs gt gu gv gw gx gy).bind λ(a,dx,dy,dz,fa,fb,fc,fd,fe,ff,b,f,fg)=>if(Bd fg 0)then
some (a,dx,dy,dz,fa,fb,fc,fd,fe,ff,b,f,fg)
else(Ds dx gz).bind λha=>j37 a b f ha dy dz fa fb fc fe fd ff
def Kv:=Xq Bmy
abbrev C1:=Option (Int×Int)
def Bea:C1:=(Bm c (Ap (Ac c) 32) (Ac c)).bind λz=>(YJ z 0).bind λ(d,e,i)=>if i then
if(Ck (Ap (Ac c) 32) d)then
some (0,24)
else
some ((Ad d 32),0)
else(Bm c (Ap (Ac c) 32) (Ac c)).bind λj=>(YJ j 2147483648).bind λ(A,B,C)=>if(!C)then
some (0,12)
else
if(Ck (Ac c) (Ad A 64))then
some (0,24)
else(Bm c (Ap (Ac c) (Ad A 64)) (Ad (Ap (Ac c) (Ad A 64)) 32)).bind λD=>(vV A B 2684354560).bind λE=>(Hu D E).bind λF=>if(!F)then
some (0,12)
else
some ((Ad A 64),0)
def qF:=Bea
def sW(j2:LB->C1)(a:LB):C1:=if(Ck (Ap (Ac a) 32) 0)then
some (0,6)
else(Bm a (Ap (Ac a) 32) (Ac a)).bind λv=>(Ok v ([(65:UInt8),(80:UInt8),(69:UInt8),(84:UInt8),(65:UInt8),(71:UInt8),(69:UInt8),(88:UInt8)]:LB)).bind λw=>if(!w)then
some (0,6)
else
j2 a
def H5:=sW qF
abbrev Hi:=Option (Int×Int)
def Bmz:Hi:=some (z,0)
def Bcr:=Bmz
abbrev Bva:=Int->LB->Hi
def Bd5(bk8:Bva)(a:Int)(g:LB):Hi:=bk8 (Ad a 1) g
def QI bk8:=Bd5 bk8
def QH(j12:Bva)(a f:Int)(b:LB):Hi:=if(geq f 0)then
some (0,38)
else(Bm b 0 (Ap (Ac b) f)).bind λg=>j12 a g
def PK bk8:=QH (QI bk8)
def VT(j11:Int->Int->LB->Hi)(j14:Int->Hi)(a:Int)(b:LB):Hi:=if(Ei (Ac b) 0)then(H5 b).bind λ(f,k)=>j11 a f b
else
j14 a
def Xj:Nat->Int->LB->Hi
|0,_,_=>none
|q+1,a,b=>VT (PK (Xj q)) Bcr a b
def Bpj:=Xj Au
def VN(j8:Bva)(h:LB):Hi:=if(Ei (Ac h) 4000)then
some (0,38)
else
j8 0 h
def KC:=VN Bpj
def JQ(p a:LB)(g u v w y:Int)(b:LI)(h:Int)(aa:LB)(ab:Bool)(ac:Int):Bst:=if(geq g 0)then(Jv a).bind λ(k,f)=>if(Bd f 0)then
some f
else(Bm a k (Ac a)).bind λm=>(Nn m).bind λ(ad,ae,af,ag,ah,n)=>some n
else
if((Ck h (Ac b))||(geq (Ac b) 0))then
some 24
else(KC a).bind λ(ai,o)=>some o
def Hq:Bsy:=(Ty c e B F J T U P R L C D).bind λ(z,d,i,j,A,E,G,I,M,N,O,V,X)=>if(Bd X 0)then
some (z,d,i,j,A,E,G,I,M,N,O,V,X)
else(JQ z d i j A E G I M N O V).bind λY=>if(Bd Y 0)then(YC z d i j A E G I M N O V Y).bind λ(Z,l5,l6,l7,l9,o7,o8,o9,p8,p9,r9,y5,y7)=>some (Z,l5,l6,l7,l9,o7,o8,o9,p8,p9,r9,y5,y7)
else
some (z,([]:LB),0,0,0,0,0,([]:LI),0,N,true,0,0)
abbrev Bui:=Option (Int×Int×Int×LX×Int)
def Da:Bui:=(eC e).bind λ(z,d,i,j,A,B,C,D,E,F,G,I,J)=>if(Bd J 0)then
some (0,0,0,([]:LX),J)
else(Kv z d i j A B C D E F G I c).bind λ(L,M,N,O,P,R,T,U,V,X,Y,Z,l5)=>if(Bd l5 0)then
some (0,0,0,([]:LX),l5)
else(Hq L M N O P R T U V X Y Z).bind λ(l6,l7,l9,o7,o8,o9,p8,p9,r9,y5,y7,y8,y9)=>if(Bd y9 0)then
some (0,0,0,([]:LX),y9)
else
if((geq N 0)&&((geq O 0)&&((geq P 0)&&((geq R 0)&&((geq T 0)&&true)))))then
some (0,0,0,([]:LX),24)
else(Tp P y5).bind λ(Bqy,Bqz)=>if(Bd Bqz 0)then
some (0,0,0,([]:LX),Bqz)
else
some (O,P,R,Bqy,0)
def Bnn:Bsu:=some (geq (Ac c) 4)
def Bk2:=Bnn
def Bjl(j6:LB->Option Bool)(Rg:Bt4)(a:LB)(b:Int):Bsu:=if(Ck b (Ac a))then(Am a b).bind λ_=>(Am a b).bind λf=>if((Ck f 32)||(Ei f 126))then
some false
else
Rg (Ad b 1)
else
j6 a
def bL:Nat->Int->Option Bool
|0,_=>none
|z+1,d=>Bjl Bk2 (bL z) c d
def Bmx a:=bL a Au
def Bkb(j4:Bu7)(a:LB):Bsu:=j4 a 0
def SA:=Bkb Bmx
abbrev SH:=Option (LB×LB×LB×Bool)
def Acv:SH:=if(Ei A (Ae (Ac c):UInt64))then
some (([]:LB),([]:LB),([]:LB),false)
else(Bm c 0 (GI.toZ A)).bind λz=>(Lr z).bind λd=>(Bm c (GI.toZ A) (Ac c)).bind λe=>if(geq (GM A 2) 1)then
if(geq (Ac e) 0)then
some (([]:LB),([]:LB),([]:LB),false)
else(Am e 0).bind λi=>if(Bd i 0)then
some (([]:LB),([]:LB),([]:LB),false)
else(Bm e 1 (Ac e)).bind λj=>some (o7,d,j,true)
else
some (o7,d,e,true)
def Aau:=Acv
def Abb(j4:LB->UInt64->LB->SH)(a:LB):SH:=(WZ a 4 4).bind λ(f,v)=>(Bm a 0 4).bind λg=>(Bm a 8 (Ac a)).bind λb=>j4 b f g
def Aa7:=Abb Aau
def Aeo(j3:LB->SH)(a:LB):SH:=if(Ck (Ac a) 8)then
some (([]:LB),([]:LB),([]:LB),false)
else(Bm a 0 4).bind λp=>(SA p).bind λu=>if(!u)then
some (([]:LB),([]:LB),([]:LB),false)
else
j3 a
def xR:=Aeo Aa7
abbrev Nw:=Option (LB×(List (LB×LB×Unit))×Int)
def Aac:Nw:=if(Ei (Ae (Ac c):UInt64) (Ad A 8))then
some (([]:LB),([]:Bsw),38)
else
some (o7,l6,0)
def Bl1:=Aac
def Ac0(j10:LB->UInt64->LB-> (List (LB×LB×Unit))->Nw)(bk8:LB-> (List (LB×LB×Unit))->Nw)(a:LB)(b:UInt64)(f h:LB)(g:Bsw):Nw:=if(Ei (Ac h) 0)then
if(geq (Ac g) 20)then
some (([]:LB),([]:Bsw),4)
else(xR h).bind λ(m,n,o,p)=>if(!p)then
some (([]:LB),([]:Bsw),12)
else(Ds g ([(m,n,())]:Bsw)).bind λu=>bk8 o u
else
j10 a b f g
def nX:Nat->LB-> (List (LB×LB×Unit))->Nw
|0,_,_=>none
|z+1,d,e=>Ac0 Bl1 (nX z) c A o7 d e
def Ad9 a b f:=nX a b f Au
def Aao(j8:LB->UInt64->LB->LB-> (List (LB×LB×Unit))->Nw)(a:LB)(b:UInt64)(f:LB):Nw:=(Bm a 12 (GI.toZ (Ad b 8))).bind λv=>j8 a b f v ([]:Bsw)
def Aed:=Aao Ad9
def Ad1(j7:LB->UInt64->LB->Nw)(a:LB)(b:UInt64)(f:LB)(k:Bool):Nw:=if k then
some (([]:LB),([]:Bsw),12)
else
if(Ei (Ad b 8) 100000)then
some (([]:LB),([]:Bsw),4)
else
if(Ei (Ad b 8) (Ae (Ac a):UInt64))then
some (([]:LB),([]:Bsw),24)
else
j7 a b f
def Abq:=Ad1 Aed
def Acz(j6:LB->UInt64->LB->Bool->Nw)(a:LB):Nw:=if(Ck (Ac a) 12)then
some (([]:LB),([]:Bsw),24)
else(WZ a 4 4).bind λ(b,aa)=>(Bm a 8 12).bind λf=>(Bm a 0 4).bind λw=>if(w !=([82,73,70,70]:LB))then
j6 a b f (true||(Ck b 4))
else(SA f).bind λy=>j6 a b f ((!y)||(Ck b 4))
def xq:=Acz Abq
abbrev It:=Option (Int×Int)
def Bpm (h:Int):It:=if(Ck h 0)then
some (0,6)
else
some (h,0)
def fQ:=Bpm
def Bky(j16:Int->It):It:=j16 (-1:Int)
def Blu:=Bky fQ
def Bpu (bk9:Int->It)(a:Bsw)(b:LB)(f:Int):It:=bk9 (Ad f 1)
def Blr bk9:=Bpu bk9
def Bkz(j16:Int->It)(j13:Int->It)(a:Bsw)(b:LB)(f:Int)(g:LB×LB×Unit):It:=if(g.1==b)then
j16 f
else
j13 f
def Bkx bk9 a b:=Bkz fQ (Blr bk9 a b) a b
def Ade(j12:Int-> (LB×LB×Unit)->It)(j15:It)(a:Bsw)(b:LB)(f:Int):It:=if(Ck f (Ac a))then(Am a f).bind λg=>j12 f g
else
j15
def lR:Nat->Int->It
|0,_=>none
|z+1,c=>Ade (Bkx (lR z) l6 Brx) Blu l6 Brx c
def Adk a b:=lR a b Au
def Ac1(j9:(List (LB×LB×Unit))->LB->Int->It)(a:Bsw)(b:LB):It:=j9 a b 0
def X1:=Ac1 Adk
def J':Bs1:=(X1 l6 Brx).bind λ(z,c)=>if(Bd c 0)then
some (0,c)
else(Bm l6 (Ad z 1) (Ac l6)).bind λd=>(X1 d Brx).bind λ(e,i)=>if(geq i 0)then
some (0,12)
else
some (z,0)
def cP:Bst:=if((((Ck z 1)||(Ei z 6))||(Ck j 1))||(Ei j 1048576))then
some 8
else
if(geq d 8)then
if(geq d 8)then
some 0
else
some 8
else
if(geq d 16)then
if(geq d 16)then
some 0
else
some 8
else
if(geq d 24)then
some 0
else
some 8
def Bn7:Bsz:=if C then(Bm ([(1:UInt8),(0:UInt8),(0:UInt8),(0:UInt8),(0:UInt8),(0:UInt8),(16:UInt8),(0:UInt8),(128:UInt8),(0:UInt8),(0:UInt8),(170:UInt8),(0:UInt8),(56:UInt8),(155:UInt8),(113:UInt8)]:LB) 0 16).bind λz=>(Ds X z).bind λc=>some c
else
some X
def Bbr:=Bn7
def Axr(j8:Bool->LB->Option (LB))(qw:Bu6)(a:Bool)(g:Int)(f:LQ)(h:Int)(b:LB):Bsz:=if(Ck h g)then(Am f h).bind λ_=>(Am f h).bind λv=>(Am ([(2:Int),(2:Int),(4:Int),(4:Int),(2:Int),(2:Int),(2:Int),(2:Int),(4:Int)]:LI) h).bind λw=>(Qi v w).bind λ(y,ac)=>(Ds b y).bind λaa=>qw (Ad h 1) aa
else
j8 a b
def PD:Nat->Int->LB->Option (LB)
|0,_,_=>none
|z+1,c,d=>Axr Bbr (PD z) C D y9 c d
def Bmq a g f:=PD a g f Au
def Bbu(j6:Bool->Int->LQ->Int->LB->Option (LB))(a:Bool)(g:Int)(f:LQ):Bsz:=j6 a g f 0 ([]:LB)
def Bd2:=Bbu Bmq
def Axz(j5:Bool->Int->LQ->Option (LB))(m k n:Int)(a:Bool)(o:UInt64):Bsz:=if a then(Am ([(1:UInt64),(Ae m:UInt64),(Ae n:UInt64),(Bg (Ae n:UInt64) (Ae (Bo (Bg m k) 8):UInt64)),(Ae (Bo (Bg m k) 8):UInt64),(Ae k:UInt64),(22:UInt64),(Ae k:UInt64),o]:LQ) 0).bind λ_=>(Nj ([(1:UInt64),(Ae m:UInt64),(Ae n:UInt64),(Bg (Ae n:UInt64) (Ae (Bo (Bg m k) 8):UInt64)),(Ae (Bo (Bg m k) 8):UInt64),(Ae k:UInt64),(22:UInt64),(Ae k:UInt64),o]:LQ) 0 65534).bind λab=>j5 a 9 ab
else
j5 a 6 ([(1:UInt64),(Ae m:UInt64),(Ae n:UInt64),(Bg (Ae n:UInt64) (Ae (Bo (Bg m k) 8):UInt64)),(Ae (Bo (Bg m k) 8):UInt64),(Ae k:UInt64),(22:UInt64),(Ae k:UInt64),o]:LQ)
def gL:=Axz Bd2
abbrev On:=Option (Int×Int×Int×Int)
def Bmu:On:=(Am y9 1).bind λ_=>(Am y9 1).bind λz=>(Am y9 5).bind λ_=>(Am y9 5).bind λd=>(Am y9 2).bind λ_=>(Am y9 2).bind λe=>(cP (Ae z:Int) (Ae d:Int) (Ae e:Int)).bind λi=>if(Bd i 0)then
some (0,0,0,12)
else(Am y9 0).bind λ_=>(Am y9 0).bind λj=>(Am y9 8).bind λ_=>(Am y9 8).bind λA=>(gL (Ae z:Int) (Ae d:Int) (Ae e:Int) (geq j 65534) A).bind λB=>(Hu c B).bind λC=>if(!C)then
some (0,0,0,12)
else
some ((Ae z:Int),(Ae d:Int),(Ae e:Int),0)
def Bdc:=Bmu
def Ays(j6:LB->LQ->On)(Rg:Int->Int->LQ->On)(b:LB)(g f:Int)(a:LQ):On:=if(Ck f 9)then(Am ([(2:Int),(2:Int),(4:Int),(4:Int),(2:Int),(2:Int),(2:Int),(2:Int),(4:Int)]:LI) f).bind λh=>if(T9 (Ad g h) (Ac b))then(WZ b g h).bind λ(w,aa)=>(Am a f).bind λ_=>(Nj a f w).bind λy=>Rg (Ad g h) (Ad f 1) y
else
Rg (Ad g h) (Ad f 1) a
else
j6 b a
def QA:Nat->Int->Int->LQ->On
|0,_,_,_=>none
|z+1,d,e,i=>Ays Bdc (QA z) c d e i
def Bmr b:=QA b Au
def Axp(j4:LB->Int->Int->LQ->On)(b:LB):On:=j4 b 0 0 ([(0:UInt64),(0:UInt64),(0:UInt64),(0:UInt64),(0:UInt64),(0:UInt64),(0:UInt64),(0:UInt64),(0:UInt64)]:LQ)
def Bls:=Axp Bmr
def uN:Bui:=(xq c).bind λ(z,d,e)=>if(Bd e 0)then
some (0,0,0,([]:LX),e)
else
if(z !=([87,65,86,69]:LB))then
some (0,0,0,([]:LX),12)
else(J' d ([102,109,116,32]:LB)).bind λ(i,j)=>(J' d ([100,97,116,97]:LB)).bind λ(A,B)=>if((geq j 6)||(geq B 6))then
some (0,0,0,([]:LX),6)
else
if(((Bd j 0)||(Bd B 0))||(Ei i A))then
some (0,0,0,([]:LX),12)
else(Am d i).bind λ_=>(Am d i).bind λC=>(Bls C.2.1).bind λ(D,E,F,G)=>if(Bd G 0)then
some (0,0,0,([]:LX),G)
else(Am d A).bind λ_=>(Am d A).bind λI=>if(geq (Ac I.2.1) 0)then
some (0,0,0,([]:LX),12)
else(Is (Bd (Bo (Bg D E) 8) 0)).bind λ_=>if(Ei (Gz (Ac I.2.1) (Bo (Bg D E) 8)) 0)then
some (0,0,0,([]:LX),12)
else(Tp E I.2.1).bind λ(J,L)=>if(Bd L 0)then
some (0,0,0,([]:LX),4)
else(En D E F J).bind λM=>if(Bd M 0)then
some (0,0,0,([]:LX),4)
else
some (D,E,F,J,0)
abbrev Iv:=Option (LB×Int)
def Bm7:Iv:=some (e,z)
def GK:=Bm7
abbrev Bvb:=Int->LB->Iv
def Atc(j6:Bvb)(b:Int)(f:LB):Iv:=j6 b f
def Aq8:=Atc GK
def As3(j6:Bvb)(j5:Bvb)(a:Int)(g:LB)(h k m:Int)(n:LX):Iv:=if(Bd a 0)then
j6 a ([]:LB)
else(Cy h k m n g).bind λ(f,b)=>j5 b f
def Aqu:=As3 GK Aq8
def Asu(j4:Int->LB->Jz3 (LX->Iv))(u g:LB):Iv:=(uN u).bind λ(h,k,m,n,a)=>j4 a g h k m n
def Lo:=Asu Aqu
def Bln:Buo:=(cP z d j).bind λc=>if(Bd c 0)then
some (false,c)
else
some (((Ei z 2)||(Ei d 16)),0)
def Bko:Bty:=(Bln z d j).bind λ(c,e)=>if(Bd e 0)then
some (([]:LB),e)
else(Is (Mv z 0)).bind λ_=>(gL z d j c (Ap (Dy (1:UInt64) (GI.toZ z).toNat) 1)).bind λi=>some (i,0)
def Ae5:Bst:=some z
def Abc:=Ae5
def Abo:Bst:=if(Ck Br5 (Ac l6))then(Am l6 Br5).bind λz=>Brb (Ad Bru (Ad (Ad 8 (Ac z.2.1)) (Fb (Ac z.2.1) 1))) (Ad Br5 1)
else
Bra Bru
def lL:Nat->Int->Int->Option Int
|0,_,_=>none
|z+1,c,d=>Abo Abc (lL z) l6 c d
def Ac5 b:=lL b Au
def Abs(j4:(List (LB×LB×Unit))->Int->Int->Option Int)(b:Bsw):Bst:=j4 b 4 0
def iM:=Abs Ac5
def mE(a f:LB):Bsu:=(SA a).bind λb=>some (!b)
def Bmg:Bst:=some 0
def Bkr:=Bmg
def Bk0:Bst:=if y5 then
some 8
else
Bq9
def ME:=Bk0 Bkr
def Bid:Bst:=r9 y5
def aN:=Bid ME
def Biw:Bst:=r9 (Mv (-1:Int) (0:Int))
def Bkl:=Biw aN
def Bnk(Zf:Btu)(a:Bsw)(b:Int):Bst:=Zf (Ad b 1)
def Bhv Zf:=Bnk Zf
def Bkp(j26:Bt3)(j23:Btu)(a:Bsw)(b:Int)(g:Bool):Bst:=if g then
j26 (Mv b 0)
else
j23 b
def Bkh Zf a:=Bkp aN (Bhv Zf a) a
abbrev Bu4:=Int->Bool->Option Int
def Bk4(j22:Bu4)(j25:Bst)(a:Bsw)(b:Int):Bst:=if(Ck b (Ac a))then(Am a b).bind λo=>(mE o.1 o.2.1).bind λg=>j22 b g
else
j25
def aD:Nat->Int->Option Int
|0,_=>none
|z+1,c=>Bk4 (Bkh (aD z) l6) Bkl l6 c
def Bnj a:=aD a Au
def Bit:Bst:=r9 y5
def aC:=Bit ME
def Bie:Bst:=r9 (Mv (-1:Int) (0:Int))
def Bk3:=Bie aC
def Bnu(VX:Btu)(a:Bsw)(f:Int):Bst:=VX (Ad f 1)
def Bhz VX:=Bnu VX
def Biv(j34:Bt3)(j31:Btu)(a:Bsw)(f:Int)(h:Bool):Bst:=if h then
j34 (Mv f 0)
else
j31 f
def Bk9 VX a:=Biv aC (Bhz VX a) a
def Bk5(j30:Bu4)(j33:Bst)(a:Bsw)(f:Int):Bst:=if(Ck f (Ac a))then(Am a f).bind λp=>(mE p.1 p.2.1).bind λh=>j30 f h
else
j33
def aF:Nat->Int->Option Int
|0,_=>none
|z+1,c=>Bk5 (Bk9 (aF z) l6) Bk3 l6 c
def Bmv a:=aF a Au
abbrev Bt5:=(List (LB×LB×Unit))->Int->Option Int
def fH(j35:Bt3)(j19:Bt5)(j27:Bt5)(u:LB)(a:Bsw):Bst:=if(Ei (Ac a) 20)then
some 4
else(SA u).bind λv=>if(!v)then
if true then
j35 true
else
j19 a 0
else(iM a).bind λw=>if(Ei (Ad w 8) 100000)then
j35 true
else
j27 a 0
def OX:=fH ME Bnj Bmv
def vO:Option LB:=(Qi (Ae B:UInt64) 4).bind λ(z,_)=>(Ds c e).bind λd=>Ds d z
def E8:List (LB×LB×Unit)->LB->Option LB
|[],o=>some o
|c::l,o=>(vO o c.1 (Ac c.2.1)).bind λp=>(Ds p c.2.1).bind λu=>(og (Fb (Ac c.2.1) 1) (0:UInt8)).bind λz=>(Ds u z).bind λv=>E8 l v
def nM:Bty:=(OX c l6).bind λz=>if(Bd z 0)then
some (([]:LB),z)
else(iM l6).bind λd=>(vO [] [82,73,70,70] d).bind λe=>(Ds e c).bind λi=>(E8 l6 i).bind λj=>some (j,0)
def jT:Bty:=(En z d j i).bind λc=>if(Bd c 0)then
some (([]:LB),c)
else(Bko z d j).bind λ(e,A)=>(Jy d i).bind λ(B,C)=>(nM ([87,65,86,69]:LB) ([(([102,109,116,32]:LB),e,()),(([100,97,116,97]:LB),B,())]:Bsw)).bind λ(D,E)=>some (D,E)
abbrev Lp:=Option (LB×Int)
def Bn5:Lp:=some (e,z)
def PU:=Bn5
abbrev Bvc:=Int->LB->Lp
def Bdb(j6:Bvc)(b:Int)(f:LB):Lp:=j6 b f
def Bbq:=Bdb PU
def Ayk(j6:Bvc)(j5:Bvc)(a g h k:Int)(m:LX):Lp:=if(Bd a 0)then
j6 a ([]:LB)
else(jT g h k m).bind λ(f,b)=>j5 b f
def Bc0:=Ayk PU Bbq
def Bba(j4:Jz4 (LX->Lp))(p u:LB):Lp:=(Da p u).bind λ(g,h,k,m,a)=>j4 a g h k m
def Py:=Bba Bc0
def Bps:Bsu:=some true
def Ak4:=Bps
def Ai7(j6:Bsu)(Rg:Bt4)(a b:LX)(f:Int):Bsu:=if(Ck f (Ac a))then(Am a f).bind λg=>(Am b f).bind λh=>if(Bd g h)then
some false
else
Rg (Ad f 1)
else
j6
def AQ:Nat->Int->Option Bool
|0,_=>none
|z+1,c=>Ai7 Ak4 (AQ z) i M c
def Bpq a b:=AQ a b Au
def Afd(j4:LX->LX->Int->Option Bool)(a b:LX):Bsu:=if(Bd (Ac a) (Ac b))then
some false
else
j4 a b 0
def Au3:=Afd Bpq
def Tg:Bsu:=if(((geq z B)&&(geq d F))&&(geq j J))then(Au3 i M).bind λc=>some c
else
some false
def Fy(a b f:Int)(g:LX):Bs1:=some (a,b)
def Lg:Bst:=if(geq z 8)then
some 128
else
if(geq z 16)then
some 32768
else
if(geq z 24)then
some 8388608
else
some 0
def Dc:Bst:=if((Ck z 1)||(Ei z 6))then
some 2
else(Lg d).bind λc=>if(geq c 0)then
some 2
else
some 0
def Bp2:Bst:=some 0
def Adj:=Bp2
def Cx:Bst:=if(Ck Bqz (Ac Bq2))then(Am Bq2 Bqz).bind λz=>if(Ck (Ae z:Int) (G0 N))then
some 16
else(Am Bq2 Bqz).bind λc=>if(Mv (Ae c:Int) N)then
some 16
else
Bra (Ad Bqz 1)
else
Bq9
def Ba:Nat->Int->Option Int
|0,_=>none
|z+1,c=>Cx Adj (Ba z) i B c
def Bp9 a b:=Ba a b Au
def Dx(j4:LX->Int->Int->Option Int)(k:Int)(a:LX):Bst:=(Lg k).bind λb=>if(geq b 0)then
some 2
else
if(Ei (Ac a) 4000)then
some 4
else
j4 a b 0
def Ay:=Dx Bp9
def Ce:Bst:=(Dc z d).bind λc=>if(Bd c 0)then
some 2
else(Ay d i).bind λe=>if(Bd e 0)then(Ay d i).bind λj=>some j
else
if(Ck (Ac i) 1)then
some 2
else(Is (Bd z 0)).bind λ_=>if(Ei (Gz (Ac i) z) 0)then
some 2
else
some 0
def Dm:Bst:=(Dc z d).bind λc=>if((Bd c 0)||(Ck j 1))then
some 2
else(Is (Bd z 0)).bind λ_=>if(Ei j (Bo 4000 z))then
some 2
else
some 0
def Tc:Bs1:=if((Ck z 1)||(Ei z 1048576))then
some (0,2)
else
if(geq (Bo (Bg z 256) 245) 0)then
some (1,0)
else
some ((Bo (Bg z 256) 245),0)
abbrev Jn:=Option (LI×Int)
def Ul:Jn:=if(Ei (Ac E) 1000)then
some (([]:LI),4)
else
some (E,0)
def Pd:=Ul
def Iq(j6:LI->Jn)(Rg:Int->LI->Jn)(b f:Int)(a:LI):Jn:=if(Ei f 0)then(Ds a ([(Fq f b)]:LI)).bind λh=>Rg (Ap f (Fq f b)) h
else
j6 a
def El:Nat->Int->LI->Jn
|0,_,_=>none
|c+1,d,e=>Iq Pd (El c) z d e
def DK b:=El b Au
def Pg(j4:Int->Int->LI->Jn)(k g:Int):Jn:=(Tc k).bind λ(b,m)=>if(((Bd m 0)||(Ck g 1))||(Ei g 4000))then
some (([]:LI),2)
else
j4 b g ([]:LI)
def Vt:=Pg DK
def Hk:Bs1:=(Vt z d).bind λ(c,e)=>some ((Ac c),e)
def Zu:Bsu:=(Fy z d j i).bind λ(c,e)=>(Dm c e B).bind λA=>if(Bd A 0)then
some false
else(Hk j B).bind λ(C,D)=>some (geq D 0)
def Br:Bst:=(Fy z d j i).bind λ(c,e)=>(Ce c e i).bind λA=>if(Bd A 0)then
some 8
else(Is (Bd z 0)).bind λ_=>(Zu z d j i (Bo (Ac i) z)).bind λB=>if(!B)then
some 8
else
some 0
def Jj:Bsu:=(Fm).bind λ(f,g,h,k)=>(Cy f g h k ([]:LB)).bind λ(a,m)=>(Da a ([]:LB)).bind λ(n,o,p,u,v)=>(Da a ([120]:LB)).bind λ(ad,ae,af,ag,b)=>if(((geq m 0)&&(geq (Ac a) 36))&&(geq v 0))then(Fm).bind λ(w,y,aa,ab)=>(Tg n o p u w y aa ab).bind λac=>some (ac&&(geq b 26))
else
some (false&&(geq b 26))
noncomputable def Amc(a:LB)(f h k m:Int)(n b:LB):Bsu:=(vQ (λx:LB×LB=>Da x.1 x.2) (([]:LB),a)).bind λ(dd,de,df,dg,aq)=>(vQ (λx:LB×LB=>Da x.1 x.2) (([]:LB),([]:LB))).bind λ(dh,di,dj,dk,ar)=>(Bm a 0 64).bind λau=>(vQ (λx:LB×LB=>Da x.1 x.2) (b,au)).bind λ(av,aw,ax,ay,az)=>(vQ (λx:LB×LB=>Da x.1 x.2) (b,([120]:LB))).bind λ(dl,dm,dn,dp,ab)=>(vQ (λx:LB×LB=>Lo x.1 x.2) (([(82:UInt8),(73:UInt8),(70:UInt8),(88:UInt8)]:LB),a)).bind λ(dq,o)=>(vQ (λx:LB=>uN x) (([(82:UInt8),(73:UInt8),(70:UInt8),(88:UInt8)]:LB))).bind λ(dr,ds,dt,du,ac)=>(vQ (λ_:Unit=>Fm) ()).bind λ(ba,bb,bc,bd)=>(vQ (λx:Int×Int×Int×LX=>jT x.1 x.2.1 x.2.2.1 x.2.2.2) (ba,bb,bc,bd)).bind λ(p,ad)=>(vQ (λx:LB×LB=>Lo x.1 x.2) (p,a)).bind λ(dv,ae)=>(vQ (λx:LB×LB=>Lo x.1 x.2) (p,([]:LB))).bind λ(g,af)=>(vQ (λx:LB×LB=>Py x.1 x.2) (g,([]:LB))).bind λ(ag,ah)=>(vQ (λx:LB×LB=>Py x.1 x.2) (g,([120]:LB))).bind λ(dw,ai)=>(Bm g 0 (Fq 35 (Ac g))).bind λbe=>(vQ (λx:LB×LB=>Py x.1 x.2) (be,([]:LB))).bind λ(dx,aj)=>(vQ (λ_:Unit=>Fm) ()).bind λ(u,v,w,dy)=>(og (4000:Int) (0:Int32)).bind λbf=>(Is (geq (4000:Int) (4000:Int))).bind λ_=>(vQ (λx:Int×Int×Int×LX×LB=>Cy x.1 x.2.1 x.2.2.1 x.2.2.2.1 x.2.2.2.2) (u,v,w,bf,([]:LB))).bind λ(bg,ak)=>(vQ (λx:LB×LB=>Da x.1 x.2) (bg,([]:LB))).bind λ(dz,fa,fb,al,am)=>(og (4001:Int) (0:Int32)).bind λaa=>(Is (geq (4001:Int) (4001:Int))).bind λ_=>(vQ (λx:Int×Int×Int×LX×LB=>Cy x.1 x.2.1 x.2.2.1 x.2.2.2.1 x.2.2.2.2) (u,v,w,aa,([]:LB))).bind λ(fc,y)=>if(((((((((true&&(Bd f 0))&&(geq f h))&&(geq (Ac n) 0))&&(geq k 2))&&(geq m 0))&&(geq (Ac b) 44))&&(geq aq 2))&&(geq ar 24))&&(geq az 0))then(vQ (λ_:Unit=>Fm) ()).bind λ(bh,bi,bj,bk)=>(vQ (λx:Int×Int×Int×LX×Int×Int×Int×LX=>Tg x.1 x.2.1 x.2.2.1 x.2.2.2.1 x.2.2.2.2.1 x.2.2.2.2.2.1 x.2.2.2.2.2.2.1 x.2.2.2.2.2.2.2) (av,aw,ax,ay,bh,bi,bj,bk)).bind λbl=>if(((((((((((((((bl&&(geq ab 26))&&(Bd o 0))&&(geq o ac))&&(geq ad 0))&&(geq ae 2))&&(geq af 0))&&(geq (Ac g) 36))&&(geq ah 0))&&(ag==p))&&(geq ai 26))&&(geq aj 24))&&(geq ak 0))&&(geq am 0))&&(geq (Ac al) 4000))&&(Bd y 0))then(vQ (λx:Int×Int×Int×LX=>Br x.1 x.2.1 x.2.2.1 x.2.2.2) (u,v,w,aa)).bind λbm=>if(geq y bm)then(vQ (λ_:Unit=>Jj) ()).bind λbn=>some bn
else
some false
else
if false then(vQ (λ_:Unit=>Jj) ()).bind λbp=>some bp
else
some false
else
if(((((((((((((((false&&(geq ab 26))&&(Bd o 0))&&(geq o ac))&&(geq ad 0))&&(geq ae 2))&&(geq af 0))&&(geq (Ac g) 36))&&(geq ah 0))&&(ag==p))&&(geq ai 26))&&(geq aj 24))&&(geq ak 0))&&(geq am 0))&&(geq (Ac al) 4000))&&(Bd y 0))then(vQ (λx:Int×Int×Int×LX=>Br x.1 x.2.1 x.2.2.1 x.2.2.2) (u,v,w,aa)).bind λbq=>if(geq y bq)then(vQ (λ_:Unit=>Jj) ()).bind λbr=>some br
else
some false
else
if false then(vQ (λ_:Unit=>Jj) ()).bind λbs=>some bs
else
some false
noncomputable def Oh:=Amc
noncomputable def Oo(j2:LB->Jz4 (LB->LB->Option Bool)):Bsu:=(og (65:Int) (0:UInt8)).bind λa=>(Is (geq (65:Int) (65:Int))).bind λ_=>(vQ (λ_:Unit=>Fm) ()).bind λ(an,fd,ao,ap)=>(vQ (λx:Int×Int×Int×LX×LB=>Cy x.1 x.2.1 x.2.2.1 x.2.2.2.1 x.2.2.2.2) (an,(9:Int),ao,ap,a)).bind λ(fe,f)=>(vQ (λx:Int×Int×Int×LX×LB=>eS x.1 x.2.1 x.2.2.1 x.2.2.2.1 x.2.2.2.2) (an,(9:Int),ao,ap,([]:LB))).bind λ(n,h)=>(vQ (λ_:Unit=>Fm) ()).bind λ(bt,bu,bv,bw)=>(vQ (λx:Int×Int×Int×LX×LB=>Cy x.1 x.2.1 x.2.2.1 x.2.2.2.1 x.2.2.2.2) (bt,bu,bv,bw,a)).bind λ(ff,k)=>(Bm a 0 64).bind λbx=>(vQ (λ_:Unit=>Fm) ()).bind λ(bz,da,db,dc)=>(vQ (λx:Int×Int×Int×LX×LB=>Cy x.1 x.2.1 x.2.2.1 x.2.2.2.1 x.2.2.2.2) (bz,da,db,dc,bx)).bind λ(b,m)=>j2 a f h k m n b
noncomputable def Mb:=Oo Oh
def Lk:Bsu:=if((((geq z 1)||(geq z 2))&&(Mv d 1))&&(T9 d 6))then
some ((((((geq j 8)||(geq j 16))||(geq j 24))&&(Mv I 1))&&(T9 I 1048576))&&(Mv O 1))
else
some (((false&&(Mv I 1))&&(T9 I 1048576))&&(Mv O 1))
def Zm:Bst:=some (wY 1 (Bo (Bg 256 z) 245))
def Rj:Bs8:=some E
def Rp:=Rj
def Mk(j6:Buy)(Rg:Bt2)(a f:Int)(b:LI):Bs8:=if(Ei f 0)then(Zm a).bind λg=>(Ds b ([(Fq f g)]:LI)).bind λh=>(Zm a).bind λk=>Rg (Ap f k) h
else
j6 b
def Gs:Nat->Int->LI->Option (LI)
|0,_,_=>none
|c+1,d,e=>Mk Rp (Gs c) z d e
def Adi a:=Gs a Au
def Adx(j4:Int->Int->LI->Option (LI))(a m:Int):Bs8:=j4 a m ([]:LI)
def Ga:=Adx Adi
def Zt(h a k f b:Int):Bsu:=(
(Is (Bd a 0)).bind λ_=>(
if(Ei b (Bo 4000 a))then
some true
else(Ga f b).bind λg=>some (Ei (Ac g) 1000)))
def Na:Bst:=(Lk z d j I O).bind λc=>if(!c)then
some 8
else(Zt z d j I O).bind λe=>if e then
some 8
else
some 0
def Fa(a f g h k:Int)(b:LB):Bst:=if((b==([]:LB)) !=(geq a 1))then
some 26
else
some 0
def Ad4:Bst:=if(Ei z 100000)then
some 8
else
some 0
def Acr:=Ad4
def Adz:Bst:=(Am Brf y8).bind λz=>Brb (Ad Brd z) (Ad y8 1)
def Ae3 qw:=Adz qw
def Yt:Bst:=if(Ck Brz (Ac Br6))then(Am Br6 Brz).bind λz=>if(Ck z 5)then
some 8
else(Am Br6 Brz).bind λc=>if(Ei c 100000)then
some 8
else
Brb Bsd Brz
else
Bsr Bsd
def Mn:Nat->Int->Int->Option Int
|0,_,_=>none
|z+1,c,d=>Yt (Ae3 (Mn z) E) Acr E c d
def Aeg a:=Mn a Au
def Yg(j6:Bt9)(a:LI):Bst:=if((Ck (Ac a) 1)||(Ei (Ac a) 1000))then
some 8
else
j6 a 0 0
def Jh:=Yg Aeg
def Hn(g h k a b:Int):Bs8:=(Ga a b).bind λf=>some f
def Gc(f a b g h:Int):Bs1:=some (a,b)
def Alf:Bst:=some (Bo (Bg z d) 8)
def Aj6:Bst:=(Gc d j I O Bqy).bind λ(c,e)=>(Alf c e).bind λi=>some (Bg z i)
def Aez:=Aj6
def AJ(j6:Jz6 (Option Int))(Rg:Buj)(n a b f g h:Int)(k:LI)(m o:Int):Bst:=if(Ck o n)then(Am k o).bind λ_=>(Am k o).bind λw=>Rg (Ad m w) (Ad o 1)
else
j6 m a b f g h
def Nq:Nat->Int->Int->Option Int
|0,_,_=>none
|c+1,e,i=>AJ Aez (Nq c) z d j I O Bqy l9 e i
def Bpd n a b f g h k:=Nq n a b f g h k Au
def Ahn(j4:Jz6 (LI->Int->Int->Option Int))(a b f g h n:Int):Bst:=(Hn a b f g h).bind λk=>j4 n a b f g h k 0 0
def Zp:=Ahn Bpd
abbrev Hh:=Option (Int×Int)
def Bow:Hh:=some (z,0)
def Bpa:=Bow
def Ys(j6:Int->Hh)(Rg:Int->Int->Hh)(a:LB)(b f:Int):Hh:=if(Ck f 4)then(Am a f).bind λg=>if(Mv g 128)then
some (0,12)
else(Am a f).bind λh=>Rg (Ad (Bg 128 b) (Ae h:Int)) (Ad f 1)
else
j6 b
def Mm:Nat->Int->Int->Hh
|0,_,_=>none
|z+1,d,e=>Ys Bpa (Mm z) c d e
def Adr a:=Mm a Au
def Ae9(j4:LB->Int->Int->Hh)(a:LB):Hh:=if(Bd (Ac a) 4)then
some (0,2)
else
j4 a 0 0
def GJ:=Ae9 Adr
abbrev Ir:=Option (Int×Int)
def Aj4:Ir:=if(Ei z 4000)then
some (0,4)
else
if(Ck (Ac c) z)then
some (0,24)
else(Am c 5).bind λd=>if(geq d 16)then(Bm c (Ap z 10) z).bind λe=>(Bm c 3 10).bind λi=>(Ds ([51,68,73]:LB) i).bind λj=>if(e !=j)then
some (0,12)
else
some (z,0)
else
some (z,0)
def Zw:=Aj4
def Afe(j6:LB->Int->Ir)(a:LB)(b:Int):Ir:=(Am a 5).bind λo=>if(geq o 16)then
j6 a (Ad (Ad 10 b) 10)
else
j6 a (Ad 10 b)
def AD:=Afe Zw
def Agw(j5:LB->Int->Ir)(a:LB):Ir:=if(Ck (Ac a) 10)then
some (0,24)
else(Bm a 6 10).bind λp=>(GJ p).bind λ(b,f)=>(Am a 3).bind λu=>if(Ck u 2)then
if true then
if true then
if(true||(Bd f 0))then
some (0,12)
else
j5 a b
else(Am a 5).bind λv=>if(Bd v 0)then(Am a 5).bind λw=>if(Bd w 16)then
if(true||(Bd f 0))then
some (0,12)
else
j5 a b
else(Am a 3).bind λy=>if((Bd y 4)||(Bd f 0))then
some (0,12)
else
j5 a b
else
if(false||(Bd f 0))then
some (0,12)
else
j5 a b
else(Am a 4).bind λaa=>if(Bd aa 0)then
if(true||(Bd f 0))then
some (0,12)
else
j5 a b
else(Am a 5).bind λab=>if(Bd ab 0)then(Am a 5).bind λac=>if(Bd ac 16)then
if(true||(Bd f 0))then
some (0,12)
else
j5 a b
else(Am a 3).bind λad=>if((Bd ad 4)||(Bd f 0))then
some (0,12)
else
j5 a b
else
if(false||(Bd f 0))then
some (0,12)
else
j5 a b
else(Am a 3).bind λae=>if(Ei ae 4)then
if true then
if(true||(Bd f 0))then
some (0,12)
else
j5 a b
else(Am a 5).bind λaf=>if(Bd af 0)then(Am a 5).bind λag=>if(Bd ag 16)then
if(true||(Bd f 0))then
some (0,12)
else
j5 a b
else(Am a 3).bind λah=>if((Bd ah 4)||(Bd f 0))then
some (0,12)
else
j5 a b
else
if(false||(Bd f 0))then
some (0,12)
else
j5 a b
else(Am a 4).bind λai=>if(Bd ai 0)then
if(true||(Bd f 0))then
some (0,12)
else
j5 a b
else(Am a 5).bind λaj=>if(Bd aj 0)then(Am a 5).bind λak=>if(Bd ak 16)then
if(true||(Bd f 0))then
some (0,12)
else
j5 a b
else(Am a 3).bind λal=>if((Bd al 4)||(Bd f 0))then
some (0,12)
else
j5 a b
else
if(false||(Bd f 0))then
some (0,12)
else
j5 a b
def Ak3:=Agw AD
def Afl(j4:LB->Ir)(a:LB):Ir:=if(Ck (Ac a) 3)then
some (0,6)
else(Bm a 0 3).bind λam=>if(am !=([73,68,51]:LB))then
some (0,6)
else
j4 a
def JS:=Afl Ak3
def Anl:Bs3:=some A
def Arj:=Anl
def GV:Bs3:=if(Mv y7 0)then(Am Brj y7).bind λz=>Bq8 (Ad (Bg 256 o9) (Ae z:UInt64)) (Ap y7 1)
else
Bq7 o9
def Ra:Nat->UInt64->Int->Option UInt64
|0,_,_=>none
|z+1,d,e=>GV Arj (Ra z) c d e
def Aq2 a:=Ra a Au
abbrev Buk:=LB->UInt64->Int->Option UInt64
def Apz(j4:Buk)(a:LB):Bs3:=j4 a 0 (Ap (Ac a) 1)
def Er:=Apz Aq2
def Zc:Buw:=(Bm c 12 16).bind λz=>(Er z).bind λd=>(Bm c 16 20).bind λe=>(Er e).bind λi=>if(((Ck d 32)||(Ei d 3032))||(Ei i 1000))then
some (0,0,false)
else
some ((Ap (Ae d:Int) 32),(Ae i:Int),true)
def Ab2:Bsz:=some c
def Aav:=Ab2
def Vr(j6:LB->Option (LB))(Rg:UInt64->Int->LB->Option (LB))(b:Int)(f:UInt64)(g:Int)(a:LB):Bsz:=if(Ck g b)then(Ds a ([(Ae (GM f 256):UInt8)]:LB)).bind λh=>Rg (Bo f 256) (Ad g 1) h
else
j6 a
def Jr:Nat->UInt64->Int->LB->Option (LB)
|0,_,_,_=>none
|c+1,d,e,i=>Vr Aav (Jr c) z d e i
def Ab1 b:=Jr b Au
def Ab8(j4:Int->UInt64->Int->LB->Option (LB))(k:UInt64)(b:Int):Bsz:=j4 b k 0 ([]:LB)
def Fv:=Ab8 Ab1
def Vk:Bsz:=(Fv 2000 4).bind λc=>(Ds ([(65:UInt8),(80:UInt8),(69:UInt8),(84:UInt8),(65:UInt8),(71:UInt8),(69:UInt8),(88:UInt8)]:LB) c).bind λe=>(Fv (Ae (Ad z 32):UInt64) 4).bind λi=>(Ds e i).bind λj=>(Fv (Ae d:UInt64) 4).bind λB=>(Ds j B).bind λC=>(Fv A 4).bind λD=>(Ds C D).bind λE=>(og (8:Int) (0:UInt8)).bind λF=>(Ds E F).bind λG=>some G
def Zj:Bsz:=(Vk z d 2684354560).bind λc=>some c
def Of:Bsz:=if C then(Vk z d 2147483648).bind λc=>some c
else(Vk z d 0).bind λe=>some e
abbrev Nr:=Option (Int×Int)
def Ae2:Nr:=if(Ck (Ac c) (Ad 64 z))then
some (0,24)
else(Bm c (Ap (Ad 64 z) 32) (Ad 64 z)).bind λe=>(Of z d true).bind λi=>if(e !=i)then
some (0,12)
else
some ((Ad 64 z),0)
def Ael:=Ae2
def Ads(j4:LB->Int->Int->Nr)(a:LB):Nr:=if(Ck (Ac a) 32)then
some (0,24)
else(Bm a 0 32).bind λk=>(Zc k).bind λ(b,f,m)=>if(!m)then
some (0,12)
else(Bm a 0 32).bind λn=>(Zj b f).bind λo=>if(n !=o)then
some (0,12)
else
j4 a b f
def Ae1:=Ads Ael
def Adn(j3:LB->Nr)(a:LB):Nr:=if(Ck (Ac a) 8)then
some (0,6)
else(Bm a 0 8).bind λp=>if(p !=([65,80,69,84,65,71,69,88]:LB))then
some (0,6)
else
j3 a
def GF:=Adn Ae1
abbrev Hm:=Option (LI×Int)
def Ae0(qw:Int->LI->Hm)(a:LB)(b:Int)(f:LI)(g h:Int):Hm:=if(geq h 6)then
some (f,0)
else
if(Bd h 0)then
some (([]:LI),h)
else
if(Ei (Ad b g) 4000)then
some (([]:LI),4)
else(Ds f ([g]:LI)).bind λm=>qw (Ad b g) m
def Ro qw:=Ae0 qw
def Yw(j9:Int->LI->Int->Int->Hm)(a:LB)(b:Int)(f:LI):Hm:=(Bm a b (Ac a)).bind λn=>(JS n).bind λ(o,k)=>if(geq k 6)then(Bm a b (Ac a)).bind λp=>(GF p).bind λ(u,v)=>j9 b f u v
else
j9 b f o k
def Rh:Nat->Int->LI->Hm
|0,_,_=>none
|z+1,d,e=>Yw (Ro (Rh z) c) c d e
def Bpc a:=Rh a Au
def Bor(j6:LB->Int->LI->Hm)(a:LB):Hm:=j6 a 0 ([]:LI)
def Apg:=Bor Bpc
abbrev Ht:=Option (Int×Int)
def Adm:Ht:=some (d,z)
def Aek:=Adm
def Yf(j6:Int->Int->Ht)(Rg:Int->Int->Ht)(a:Int)(b:LI)(f g:Int):Ht:=if(Ck g (Ac b))then(Am b g).bind λ_=>(Am b g).bind λh=>Rg (Ad f h) (Ad g 1)
else
j6 a f
def Mf:Nat->Int->Int->Ht
|0,_,_=>none
|c+1,d,e=>Yf Aek (Mf c) z l9 d e
def Yi a b:=Mf a b Au
def Ady(j4:Int->LI->Int->Int->Ht)(k:LB):Ht:=(Apg k).bind λ(b,a)=>j4 a b 0 0
def Nc:=Ady Yi
def Uj:Bsu:=if(Ck (Ac c) (Ac e))then(Bm e 0 (Ac c)).bind λz=>some (c==z)
else
some false
def Aj3:Btg:=if y5 then
some (BH (Bo V 2) 3988292384)
else
some (Bo V 2)
def Afh:=Aj3
def Aev(j2:UInt32->Bool->Option UInt32)(a:UInt32)(f:Int):Btg:=if(geq f 1)then
j2 a (!(geq (GM a 2) 1))
else
j2 a (geq (GM a 2) 1)
def LR:=Aev Afh
def Ajg:Btg:=some V
def Ak8:=Ajg
abbrev Bu5:=UInt32->Option UInt32
abbrev Buc:=UInt32->UInt8->Int->Option UInt32
def BD(j6:Bu5)(Rg:Buc)(a:UInt32)(b:UInt8)(f:Int):Btg:=if(Ck f 8)then(LR a (Ae (GM b 2):Int)).bind λg=>Rg g (Bo b 2) (Ad f 1)
else
j6 a
def Nl:Nat->UInt32->UInt8->Int->Option UInt32
|0,_,_,_=>none
|q+1,a,b,f=>BD Ak8 (Nl q) a b f
def Bpn:=Nl Au
def Bqd(j4:Buc)(h:UInt32)(k:UInt8):Btg:=j4 h k 0
def Avz:=Bqd Bpn
def Ac9:Btg:=some V
def Ad7:=Ac9
def Wf(j6:Bu5)(Rg:UInt32->Int->Option UInt32)(a:LB)(b:UInt32)(f:Int):Btg:=if(Ck f (Ac a))then(Am a f).bind λg=>(Avz b g).bind λh=>Rg h (Ad f 1)
else
j6 b
def Lb:Nat->UInt32->Int->Option UInt32
|0,_,_=>none
|z+1,d,e=>Wf Ad7 (Lb z) c d e
def Acf a:=Lb a Au
def Ac7(j4:LB->UInt32->Int->Option UInt32)(k:UInt32)(a:LB):Btg:=j4 a k 0
def Akf:=Ac7 Acf
def Xp:Btg:=(Akf 4294967295 c).bind λz=>some (Ap 4294967295 z)
abbrev Ip:=Option (Int×Int×Int×Int×Int×Int)
def Ai8:Ip:=(Lk (Ae A:Int) (Ae Y:Int) (Ae Bre:Int) (Ae o9:Int) (Ae Brr:Int)).bind λz=>if(!z)then
some (0,0,0,0,0,12)
else(Zt (Ae A:Int) (Ae Y:Int) (Ae Bre:Int) (Ae o9:Int) (Ae Brr:Int)).bind λc=>if c then
some (0,0,0,0,0,4)
else
some ((Ae A:Int),(Ae Y:Int),(Ae Bre:Int),(Ae o9:Int),(Ae Brr:Int),0)
def Aj7:=Ai8
def Aib(j6:UInt64->UInt64->UInt64->UInt64->UInt64->Ip)(a:LB):Ip:=(Bm a 4 6).bind λu=>(Bm a 6 8).bind λp=>(Bm a 8 10).bind λo=>(Bm a 10 14).bind λn=>(Bm a 14 18).bind λm=>(
(Er u).bind λk=>(
(Er p).bind λh=>(
(Er o).bind λg=>(
(Er n).bind λf=>(
(Er m).bind λb=>(
j6 k h g f b))))))
def Ajl:=Aib Aj7
def Agv(j5:LB->Ip)(a:LB):Ip:=if(Ck (Ac a) 22)then
some (0,0,0,0,0,24)
else(Bm a 18 22).bind λy=>(Bm a 0 18).bind λaa=>(Er y).bind λab=>(Xp aa).bind λac=>if(Bd ab (Ae ac:UInt64))then
some (0,0,0,0,0,22)
else
j5 a
def Aj9:=Agv Ajl
def Agc(j4:LB->Ip)(a:LB):Ip:=(Bm a 0 (Fq 4 (Ac a))).bind λad=>(Bm ([84,84,65,49]:LB) 0 (Fq 4 (Ac a))).bind λae=>if(ad !=ae)then
some (0,0,0,0,0,12)
else
j4 a
def Nz:=Agc Aj9
abbrev Wd:=Option (Int×Int×Int×Int×Int×Int×Int)
def Ab0:Wd:=(Nz e).bind λ(c,d,i,j,A,B)=>if(geq B 24)then
some (0,0,0,0,0,0,(-1:Int))
else
some ((Ad z 22),c,d,i,j,A,B)
def Aar:=Ab0
def Aaw(j2:Int->LB->Wd)(f:LB):Wd:=(Nc f).bind λ(b,g)=>if(geq g 24)then
some (0,0,0,0,0,0,(-1:Int))
else
if(Bd g 0)then
some (0,0,0,0,0,0,g)
else(Bm f b (Ac f)).bind λa=>(Uj a ([73,68,51]:LB)).bind λu=>if u then
some (0,0,0,0,0,0,(-1:Int))
else(Uj a ([65,80,69,84,65,71,69,88]:LB)).bind λv=>if v then
some (0,0,0,0,0,0,(-1:Int))
else
j2 b a
def AX:=Aaw Aar
def Ajk:Bs3:=if y5 then
some (BH (Bg A 2) 4823603603198064275)
else
some (Bg A 2)
def Zx:=Ajk
def Ahh(j2:UInt64->Bool->Option UInt64)(a:UInt64)(f:Int):Bs3:=if(geq f 1)then
j2 a (!(Mv a 9223372036854775808))
else
j2 a (Mv a 9223372036854775808)
def LV:=Ahh Zx
def Ajo:Bs3:=some A
def Aey:=Ajo
def BL:Bs3:=if(Ei Bq1 0)then(Is (Bd Bq1 0)).bind λ_=>(LV Bse (Gz (Bo (Ae Brv:Int) Bq1) 2)).bind λz=>Bq8 z (Bo Bq1 2)
else
Bq7 Bse
def Np:Nat->UInt64->Int->Option UInt64
|0,_,_=>none
|z+1,c,d=>BL Aey (Np z) Brv c d
def Bpe b:=Np b Au
def Bpp(j4:UInt8->UInt64->Int->Option UInt64)(h:UInt64)(b:UInt8):Bs3:=j4 b h 128
def Atu:=Bpp Bpe
def Ace:Bs3:=some A
def Aca:=Ace
def Wq:Bs3:=if(Ck y7 (Ac Brj))then(Am Brj y7).bind λz=>(Atu o9 z).bind λc=>Bq8 c (Ad y7 1)
else
Bq7 o9
def La:Nat->UInt64->Int->Option UInt64
|0,_,_=>none
|z+1,d,e=>Wq Aca (La z) c d e
def Bob a:=La a Au
def Bo5(j4:Buk)(k:UInt64)(a:LB):Bs3:=j4 a k 0
def DB:=Bo5 Bob
def Aum:Bs3:=(DB 0 c).bind λz=>some z
def Nt:Bsz:=(Aum c).bind λz=>(Fv z 8).bind λd=>some d
abbrev Fi:=Option (LI×Int)
def Aj5:Fi:=(Jh E).bind λz=>if(Bd z 0)then
some (([]:LI),12)
else
some (E,0)
def AT:=Aj5
def AM(j8:LI->Fi)(qw:Int->LI->Fi)(b:LB)(a g:Int)(f:LI):Fi:=if(Ck g a)then(Bm b (Bg 4 g) (Ad (Bg 4 g) 4)).bind λk=>(Er k).bind λm=>(Ds f ([(Ae m:Int)]:LI)).bind λn=>qw (Ad g 1) n
else
j8 f
def Nk:Nat->Int->LI->Fi
|0,_,_=>none
|d+1,e,i=>AM AT (Nk d) c z e i
def Ajn b a:=Nk b a Au
def Af9(j6:LB->Int->Int->LI->Fi)(b:LB)(a:Int):Fi:=j6 b a 0 ([]:LI)
def Agk:=Af9 Ajn
def Afa(j5:LB->Int->Fi)(b:LB)(a:Int):Fi:=if((Ck a 1)||(Ei a 1000))then
some (([]:LI),2)
else
if(Ck (Ac b) (Ad (Bg 4 a) 4))then
some (([]:LI),24)
else(Bm b (Bg 4 a) (Ad (Bg 4 a) 4)).bind λo=>(Bm b 0 (Bg 4 a)).bind λp=>(Er o).bind λu=>(Xp p).bind λv=>if(Bd u (Ae v:UInt64))then
some (([]:LI),22)
else
j5 b a
def Th:=Afa Agk
abbrev Mo:=Option (Int×LI×Int)
def Ad5:Mo:=if(geq d 24)then
some (0,([]:LI),(-1:Int))
else
some ((Ad (Ad z (Bg 4 (Ac l9))) 4),l9,d)
def Acj:=Ad5
def Ad6(j4:Int->Int->LI->Mo)(a:LB)(b k m n o f:Int):Mo:=(Bm a f (Ac a)).bind λp=>(Hn b k m n o).bind λu=>(Th p (Ac u)).bind λ(h,g)=>j4 f g h
def Ec:=Ad6 Acj
def If(j3:LB->Jz6 Mo)(a:LB)(b k m n o:Int)(v:LB):Mo:=if(geq b 2)then
if(Ck (Ac a) 8)then
some (0,([]:LI),(-1:Int))
else(Bm a 0 8).bind λw=>(Nt v).bind λy=>if(w !=y)then
some (0,([]:LI),26)
else
j3 a b k m n o 8
else
j3 a b k m n o 0
def Fk:=If Ec
def Au4:Bto:=if(Ei (Ac o7) 100000)then
some (0,4)
else(DB A o7).bind λz=>some (z,0)
def Bbt:Bto:=(Au4 0 c).bind λ(z,d)=>some (z,d)
def Bqo:Bs6:=some i
def Bqk:=Bqo
def Aqw(qw:Bt1)(b:UInt64)(f:Int)(a:LX)(g:Int32):Bs6:=(Am a f).bind λ_=>(Nj a f g).bind λh=>qw (Bo b 256) (Ad f 1) h
def GG qw:=Aqw qw
def FX(j8:UInt64->Int->LX->Int32->Option (LX))(j10:Bux)(b:UInt64)(f:Int)(a:LX):Bs6:=if(Ck f 8)then
if(Ei (Ae (GM b 256):Int32) 127)then
j8 b f a (Ap (Ae (GM b 256):Int32) 256)
else
j8 b f a (Ae (GM b 256):Int32)
else
j10 a
def Nf:Nat->UInt64->Int->LX->Option (LX)
|0,_,_,_=>none
|q+1,b,f,a=>FX (GG (Nf q)) Bqk b f a
def Bqs:=Nf Au
def Bmb(j6:Bt1)(k:UInt64):Bs6:=j6 k 0 (List.replicate 16 (0:Int32))
def Bfj:=Bmb Bqs
def Ny:Bud:=if(Ei (Ac c) 64)then
some (([(0:Int32),(0:Int32),(0:Int32),(0:Int32),(0:Int32),(0:Int32),(0:Int32),(0:Int32),(0:Int32),(0:Int32),(0:Int32),(0:Int32),(0:Int32),(0:Int32),(0:Int32),(0:Int32)]:LX),2)
else(Bbt c).bind λ(z,d)=>(Bfj z).bind λe=>some (e,0)
def DD:Bsz:=(Xp c).bind λz=>(Ds ([]:LB) c).bind λd=>(Ds d ([(Ae z:UInt8),(Ae (Cn z (GI.toZ (8:UInt64)).toNat):UInt8),(Ae (Cn z (GI.toZ (16:UInt64)).toNat):UInt8),(Ae (Cn z (GI.toZ (24:UInt64)).toNat):UInt8)]:LB)).bind λe=>some e
def Uh:Bst:=if(Ck (Ac c) 5)then
some 24
else
if(Ei (Ac c) 41254)then
some 4
else(Bm c 0 (Ap (Ac c) 4)).bind λz=>(DD z).bind λd=>if(d !=c)then
some 22
else
some 0
def Qp:Bub:=some (10,10,16384,16384)
def Bp1:Bs3:=some A
def Boq:=Bp1
def Yu:Bs3:=if(Ck y7 Br4)then
Bq8 (Bg o9 2) (Ad y7 1)
else
Bq7 o9
def Md:Nat->UInt64->Int->Option UInt64
|0,_,_=>none
|c+1,d,e=>Yu Boq (Md c) z d e
def Boy b:=Md b Au
def Boo(j4:Int->UInt64->Int->Option UInt64)(b:Int):Bs3:=j4 b 1 0
def Ho:=Boo Boy
def PF(a g:Int)(h k:UInt64)(b:UInt32):Bsu:=(Ho a).bind λf=>some (Ck (Ae b:UInt64) f)
def KS(a g:Int)(h k:UInt64)(b:UInt32):Btg:=(Ho a).bind λf=>some (Ae (Ap (Ae b:UInt64) f):UInt32)
abbrev DU:=Option (Int×UInt64)
def Ajx:DU:=if(Ck z 24)then(Ho (Ad z 5)).bind λc=>if(Ei (Ap (Ad A Y) (Bo A 16)) c)then
some ((Ad z 1),(Ap (Ad A Y) (Bo A 16)))
else
some (z,(Ap (Ad A Y) (Bo A 16)))
else
some (z,(Ap (Ad A Y) (Bo A 16)))
def Zy:=Ajx
def Ah9(j2:Int->UInt64->UInt64->DU)(b:Int)(a f:UInt64):DU:=if(Ei b 0)then(Ho (Ad b 4)).bind λh=>if(Ck (Ap (Ad a f) (Bo a 16)) h)then
some ((Ap b 1),(Ap (Ad a f) (Bo a 16)))
else
j2 b a f
else
j2 b a f
def Zi:=Ah9 Zy
abbrev Yp:=Option (Int×Int×UInt64×UInt64)
def Acu(f:UInt32)(g a:Int)(h b:UInt64)(w:Int)(y:UInt64):Yp:=(Zi g h (Ae f:UInt64)).bind λ(aa,ab)=>some (aa,w,ab,y)
def Wk:=Acu
def Abt(j2:UInt32->Int->Int->UInt64->UInt64->Int->UInt64->Yp)(g a:Int)(h b:UInt64)(f:UInt32):Yp:=(PF g a h b f).bind λo=>if(!o)then(
(
(KS g a h b f).bind λk=>(Zi a b (Ae k:UInt64)).bind λ(m,n)=>j2 f g a h b m n))
else
j2 f g a h b a b
def CV:=Abt Wk
abbrev Gt:=Option (Int×Int×UInt64×UInt64)
def Bo9:Gt:=some (z,d,A,Y)
def Bo4:=Bo9
def Acs(j6:Int->Int->UInt64->UInt64->Gt)(Rg:Jz3 (UInt64->UInt64->Gt))(a:Int)(b:LU)(m f g:Int)(h k:UInt64):Gt:=if(Ck m (Ac b))then(Am b m).bind λn=>(CV f g h k n).bind λ(o,p,u,v)=>Rg (Ad m a) o p u v
else
j6 f g h k
def Pq:Nat->Jz3 (UInt64->UInt64->Gt)
|0,_,_,_,_,_=>none
|c+1,d,e,i,j,A=>Acs Bo4 (Pq c) z Z d e i j A
def Bog a b:=Pq a b Au
def Ac6(j4:Int->LU->Jz3 (UInt64->UInt64->Gt))(a:Int)(b:LU):Gt:=(Qp).bind λ(w,y,aa,ab)=>(Is (Bd a 0)).bind λ_=>j4 a b (Gz (Ac b) a) w y aa ab
def Ue:=Ac6 Bog
def Asn:Bst:=some (Gz z 2)
def Ass:=Asn
def GH:Bst:=if(Ck Bru (Gz Brd 8))then
Brb (Bo y8 2) (Ad Bru 1)
else
Bra y8
def Re:Nat->Int->Int->Option Int
|0,_,_=>none
|c+1,d,e=>GH Ass (Re c) z d e
def Aso a:=Re a Au
def Asp(j4:Jz3 (Option Int))(g:LB)(k a:Int):Bst:=(Am g (Bo a 8)).bind λh=>j4 a (Ae h:Int) 0
def Om:=Asp Aso
abbrev Fz:=Option (LB×Int)
def Akr:Fz:=(Am e (Bo j 8)).bind λ_=>(Am e (Bo j 8)).bind λc=>(Am e (Bo j 8)).bind λ_=>(Nj e (Bo j 8) (Ad c (Ae (Bg z d):UInt8))).bind λi=>some (i,(Ad j 1))
def CY:=Akr
def DY(j8:Jz3 (LB->Fz))(qw:Int->Int->Fz)(b a:Int)(f:LB)(g h:Int):Fz:=if(Ck h (Gz a 8))then
qw (Bg g 2) (Ad h 1)
else
j8 b g a f
def Ph:Nat->Int->Int->Fz
|0,_,_=>none
|c+1,i,j=>DY CY (Ph c) z d e i j
def Akm b a f:=Ph b a f Au
def Alp(j6:Int->Int->LB->Int->Int->Fz)(b a:Int)(f:LB):Fz:=j6 b a f 1 0
def DC:=Alp Akm
def Al0(j5:Int->Int->LB->Fz)(k:LB)(a b:Int):Fz:=if(geq (Gz a 8) 0)then(Ds k ([(0:UInt8)]:LB)).bind λo=>j5 b a o
else
j5 b a k
def BY:=Al0 DC
abbrev Ge:=Option (LB×Int)
def Bo0:Ge:=some (e,z)
def Bnw:=Bo0
def Vq(j6:Int->LB->Ge)(Rg:Int->Int->LB->Ge)(f:Int)(g:LB)(h k a:Int)(b:LB):Ge:=if(Ck k f)then(Om g h k).bind λm=>(BY b a m).bind λ(n,o)=>Rg (Ad k 1) o n
else
j6 a b
def Jt:Nat->Int->Int->LB->Ge
|0,_,_,_=>none
|c+1,d,i,j=>Vq Bnw (Jt c) z e B d i j
def Bnt f g h:=Jt f g h Au
def Bo1(j4:Int->LB->Jz3 (LB->Ge))(g:LB)(h p f:Int):Ge:=j4 f g h p 0 ([]:LB)
def Aj2:=Bo1 Bnt
def Bp5:Bs3:=some A
def Bot:=Bp5
def Yr:Bs3:=if(Mv y7 0)then(Om Brj Bsq (Ad Br4 y7)).bind λz=>Bq8 (Ad (Bg 2 o9) (Ae z:UInt64)) (Ap y7 1)
else
Bq7 o9
def Me:Nat->UInt64->Int->Option UInt64
|0,_,_=>none
|c+1,d,i=>Yr Bot (Me c) z e B d i
def Adt b f g:=Me b f g Au
def Ae4(j4:Int->LB->Int->UInt64->Int->Option UInt64)(f:LB)(g b m:Int):Bs3:=j4 b f g 0 (Ap m 1)
def Wz:=Ae4 Adt
abbrev Ji:=Option (Int×Int)
def Als(b a:Int)(g:LB)(f:Int):Ji:=if(geq a 48)then
some (a,(Ad b a))
else
if(Mv (Ad b a) f)then
some ((-1:Int),0)
else
some (a,(Ad (Ad b a) 1))
def DX:=Als
def DP(j6:Int->Int->LB->Int->Ji)(Rg:Int->Ji)(b:Int)(g:LB)(f a:Int):Ji:=if((Ck (Ad b a) f)&&(Ck a 48))then(Om g f (Ad b a)).bind λh=>if(geq h 1)then
Rg (Ad a 1)
else
j6 b a g f
else
j6 b a g f
def Ox:Nat->Int->Ji
|0,_=>none
|c+1,d=>DP DX (Ox c) z e B d
def Bqj b g f:=Ox b g f Au
def Bqq(j4:Int->LB->Int->Int->Ji)(g:LB)(f b:Int):Ji:=j4 b g f 0
def Ay2:=Bqq Bqj
def IS:Bst:=(Ho l7).bind λz=>(Is (Bd z 0)).bind λ_=>some (Ae (Fq 48 (Bo (Ae V:UInt64) z)):Int)
abbrev GA:=Option (UInt32×Int×Int)
def DH:GA:=if((Ck d 0)||(Ck (Ap B j) F))then
some (0,0,24)
else(Wz e B j F).bind λc=>if(Ck d 48)then(Ho z).bind λi=>some ((Ae (Ad (Bg (Ae d:UInt64) i) c):UInt32),(Ad j F),0)
else(IS (Ae c:UInt32) z).bind λA=>if(Ck A d)then
some (0,0,12)
else
some ((Ae c:UInt32),(Ad j F),0)
def DR:=DH
def Akj(j2:Jz3 (LB->Int->Int->GA))(h:LB)(f n g:Int):GA:=if(Mv n f)then
some (0,0,24)
else(Ay2 h f n).bind λ(a,b)=>if(geq a 48)then
j2 g a b h f 32
else
j2 g a b h f g
def PM:=Akj DR
def PJ(g:LB)(b a f n:Int)(v w:UInt64):Option (UInt32×Int×Int):=if(Mv a b)then
some (0,0,24)
else(Om g b a).bind λo=>if(geq o 0)then
if(Ck (Ap (Ap b a) 1) f)then
some (0,0,24)
else(Wz g b (Ad a 1) f).bind λp=>some ((Ae p:UInt32),(Ad (Ad a 1) f),0)
else(PM g b (Ad a 1) n).bind λ(h,u,k)=>if(Bd k 0)then
some (0,0,k)
else(Ho f).bind λm=>if(Ei (Ad (Ae h:UInt64) m) 4294967295)then
some (0,0,12)
else
some ((Ae (Ad (Ae h:UInt64) m):UInt32),u,0)
abbrev Cc:=Option (LU×Int)
def Bp6:Cc:=some (Z,0)
def Bov:=Bp6
def Ym(j18:LU->Cc)(Je:Int->Cc)(a:LB)(b:LU)(m:Int):Cc:=if(Ck m (Bg 8 (Ac a)))then(Om a (Bg 8 (Ac a)) m).bind λn=>if(Bd n 0)then
some (b,12)
else
Je (Ad m 1)
else
j18 b
def Mi:Nat->Int->Cc
|0,_=>none
|z+1,d=>Ym Bov (Mi z) c Z d
def Adv a b:=Mi a b Au
def Adp(j16:LB->LU->Int->Cc)(f:Int)(a:LB)(b:LU):Cc:=if(Ei (Ap (Bg 8 (Ac a)) f) 7)then
some (b,12)
else
j16 a b f
def Yx:=Adp Adv
def Ae6(TA:Int->Int->LU->Cc)(g h:Int)(a:LB)(f k:Int)(b:LU)(p u:Int)(v w:UInt64):Cc:=(Aj2 a (Bg 8 (Ac a)) f (Fq (Ad f 81) (Bg 8 (Ac a)))).bind λ(y,aa)=>(PJ y aa 0 p u v w).bind λ(ab,ac,o)=>if(Bd o 0)then
some (b,o)
else(Ds b ([ab]:LU)).bind λad=>TA (Ad f ac) (Ad k 1) ad
def Mg TA:=Ae6 TA
def Aeh(j13:Int->Int->LU->Int->Int->UInt64->UInt64->Cc)(j15:Int->LB->LU->Cc)(g h:Int)(a:LB)(f k:Int)(b:LU):Cc:=if(Ck k (Bg h g))then(Qp).bind λ(n,ae,af,ag)=>if(Mv k g)then(Ue g b).bind λ(ah,ai,aj,ak)=>j13 f k b ah ai aj ak
else
j13 f k b n ae af ag
else
j15 f a b
def Gu:Nat->Int->Int->LU->Cc
|0,_,_,_=>none
|c+1,i,j,A=>Aeh (Mg (Gu c) z d e) Yx z d e i j A
def Bos g h a:=Gu g h a Au
def Aj8(j10:Int->Int->LB->Int->Int->LU->Cc)(g h:Int)(a:LB):Cc:=j10 g h a 0 0 ([]:LU)
def IV:=Aj8 Bos
def Bmc:Bs1:=if(geq z 8)then
some (4,0)
else
if((geq z 16)||(geq z 24))then
some (5,0)
else
some (0,2)
def Bms:Option (Int×LX×LX×Int):=(Bmc z).bind λ(c,d)=>if(Bd d 0)then
some (0,(List.replicate 16 (0:Int32)),(List.replicate 16 (0:Int32)),2)
else
if(geq z 16)then
some (9,i,(List.replicate 16 (0:Int32)),0)
else
some (10,i,(List.replicate 16 (0:Int32)),0)
def Axq:Bt6:=(Bms z i).bind λ(c,d,e,j)=>if(Bd j 0)then
some (0,0,0,(List.replicate 16 (0:Int32)),(List.replicate 16 (0:Int32)),2)
else
some (z,0,c,d,e,0)
def JW:Btb:=if(geq (GM V 2) 0)then
some (Ae (Bo V 2):Int32)
else
some (Ae (Bo (G0 (Ad (Ae V:Int) 1)) 2):Int32)
def Dw:Btb:=some (Ae (Ae (Ae z:UInt64):UInt32):Int32)
def Amb:Btb:=some (Ae z:Int32)
def Akl:=Amb
def CU(j6:Int->Option Int32)(Rg:Int->Int->Option Int32)(h:Int)(b f:LX)(g a:Int):Btb:=if(Ck a 16)then(Am b a).bind λ_=>(Am f a).bind λ_=>(Am b a).bind λk=>(Am f a).bind λm=>(Dw (Bg (Ae k:Int) (Ae m:Int))).bind λn=>(Dw (Ad g (Ae n:Int))).bind λo=>Rg (Ae o:Int) (Ad a 1)
else
j6 g
def Pb:Nat->Int->Int->Option Int32
|0,_,_=>none
|c+1,d,e=>CU Akl (Pb c) z i M d e
def Bqh h b f:=Pb h b f Au
def Bqp(j4:Int->LX->LX->Int->Int->Option Int32)(h:Int)(b f:LX):Btb:=j4 h b f 0 0
def Axv:=Bqp Bqh
def Afc:Btb:=(Axv z i M).bind λc=>(Dw (Ad (Ae c:Int) (Bo o8 2))).bind λd=>(Is (Bd o8 0)).bind λ_=>(Is (Bd o8 0)).bind λ_=>if(Ck (Gz (Ae d:Int) o8) 0)then
some (Ae (Ap (Bo (Ae d:Int) o8) 1):Int32)
else
some (Ae (Bo (Ae d:Int) o8):Int32)
def BF:=Afc
def Afj(j2:Int->LX->LX->Int->Option Int32)(b:Int)(f g:LX):Btb:=if(geq b 9)then
j2 b f g 512
else
j2 b f g 1024
def KH:=Afj BF
def MH:Btb:=if(geq z 0)then
some 4
else
if(T9 z 3)then
some 2
else
some 1
def Za:Btb:=if(Ck G 0)then
some (-1:Int32)
else
if(Ei G 0)then
some 1
else
some 0
abbrev Gd:=Option (Int×LX×LX)
def Bo2:Gd:=some (z,i,M)
def Bnz:=Bo2
def Ut(j6:Int->LX->LX->Gd)(Rg:Int->LX->Gd)(h:Int32)(g:Int)(b:LX)(a:Int)(f:LX):Gd:=if(Ck a 16)then(Am f a).bind λ_=>(Am b a).bind λ_=>(Am f a).bind λk=>(Am b a).bind λm=>(MH a).bind λn=>(Za m).bind λo=>(Za h).bind λp=>(Am f a).bind λ_=>(Nj f a (Ad k (Bg (Bg n o) p))).bind λu=>Rg (Ad a 1) u
else
j6 g f b
def Jw:Nat->Int->LX->Gd
|0,_,_=>none
|z+1,c,d=>Ut Bnz (Jw z) G N p8 c d
def Bnr h g b:=Jw h g b Au
def Bnp(j4:Int32->Int->LX->Int->LX->Gd)(g:Int)(v b:LX)(h:Int32):Gd:=j4 h g b 0 v
def Afb:=Bnp Bnr
abbrev Gq:=Option (Int×LX×LX)
def Ac4:Gq:=(Am p9 0).bind λ_=>(Nj p9 0 G).bind λz=>some (N,p8,z)
def Abj:=Ac4
def Xd(j6:Int32->Int->LX->LX->Gq)(Rg:Int->LX->Gq)(b:Int32)(f:Int)(g:LX)(h:Int)(a:LX):Gq:=if(Ei h 0)then(Am a (Ap h 1)).bind λ_=>(Am a (Ap h 1)).bind λm=>(Am a h).bind λ_=>(Nj a h m).bind λn=>Rg (Ap h 1) n
else
j6 b f g a
def Ld:Nat->Int->LX->Gq
|0,_,_=>none
|z+1,c,d=>Xd Abj (Ld z) G N p8 c d
def Boc b f g:=Ld b f g Au
def Bo7(j4:Int32->Int->LX->Int->LX->Gq)(f:Int)(g o:LX)(b:Int32):Gq:=j4 b f g 15 o
def Aka:=Bo7 Boc
def AG:Option (Int32×Int×LX×LX):=(KH z i M).bind λc=>(Dw (Ad (Ae G:Int) (Ae c:Int))).bind λd=>(Afb z i M G).bind λ(e,j,A)=>(Aka e j A d).bind λ(B,C,D)=>some (d,B,C,D)
def Abk:Btb:=(Is (Bd N 0)).bind λ_=>(Is (Bd N 0)).bind λ_=>if(Ck (Gz (Bg (Ap N 1) (Ae G:Int)) N) 0)then
some (Ae (Ap (Bo (Bg (Ap N 1) (Ae G:Int)) N) 1):Int32)
else
some (Ae (Bo (Bg (Ap N 1) (Ae G:Int)) N):Int32)
def Wx:=Abk
def Acw(j2:Int32->Int->Option Int32)(f:Int)(b:Int32):Btb:=if(geq f 5)then
j2 b 32
else
j2 b 16
def Ui:=Acw Wx
def DL(b:Int)(a:Int32)(h:Int)(k m:LX):Bst:=if(geq b 8)then(Ui 4 a).bind λf=>some (Ae f:Int)
else(Ui 5 a).bind λg=>some (Ae g:Int)
def AA:Option (Int32×Int×Int32×Int×LX×LX):=(AG N p8 p9 Brk).bind λ(c,d,e,i)=>(DL z G N p8 p9).bind λj=>(Dw (Ad (Ae c:Int) j)).bind λA=>some (A,z,A,d,e,i)
def Wl:Bst:=if((Ck z 1)||(Ei z 6))then
some 2
else
if(Ei (Ac i) 4000)then
some 4
else(Is (Bd z 0)).bind λ_=>if(Ei (Gz (Ac i) z) 0)then
some 2
else
some 0
def Bnx:Bs6:=some i
def Bns:=Bnx
def Vn(j8:Bux)(qw:Btv)(a:LX)(f:Int)(b:LX):Bs6:=if(Mv f 0)then(Am b (Ad f 1)).bind λ_=>(Am a f).bind λk=>(Am b (Ad f 1)).bind λm=>(Dw (Ap (Ae m:Int) (Ae k:Int))).bind λn=>(Am b f).bind λ_=>(Nj b f n).bind λo=>qw (Ap f 1) o
else
j8 b
def Js:Nat->Int->LX->Option (LX)
|0,_,_=>none
|z+1,c,d=>Vn Bns (Js z) i c d
def Bno a:=Js a Au
def Abh(j6:LX->Int->LX->Option (LX))(a p:LX):Bs6:=j6 a (Ap (Ac a) 2) p
def Uw:=Abh Bno
def Aax(j5:LX->LX->Option (LX))(a:LX):Bs6:=(og (Ac a) (0:Int32)).bind λh=>(Is (geq (Ac a) (Ac a))).bind λ_=>(Am a (Ap (Ac a) 1)).bind λu=>(Am h (Ap (Ac a) 1)).bind λ_=>(Nj h (Ap (Ac a) 1) u).bind λg=>if(Ei (Ac a) 1)then(Am a (Ap (Ac a) 1)).bind λv=>(Am a (Ap (Ac a) 2)).bind λw=>(Dw (Ad (Ae v:Int) (Bo (Ae w:Int) 2))).bind λy=>(Am g (Ap (Ac a) 1)).bind λ_=>(Nj g (Ap (Ac a) 1) y).bind λaa=>j5 a aa
else
j5 a g
def BC:=Aax Uw
abbrev Ik:=Option (LX×Int)
def Bpx:Ik:=some (i,0)
def Bqb:=Bpx
def Ak0(j6:LX->Ik)(Rg:Int->LX->Ik)(a:Int)(b:LX)(g:Int)(f:LX):Ik:=if(Ck g (Ac b))then(Bm b g (Ad g a)).bind λh=>(BC h).bind λk=>(Ds f k).bind λm=>Rg (Ad g a) m
else
j6 f
def Sy:Nat->Int->LX->Ik
|0,_,_=>none
|c+1,d,e=>Ak0 Bqb (Sy c) z i d e
def Bpv a b:=Sy a b Au
def Aff(j4:Int->LX->Int->LX->Ik)(a:Int)(b:LX):Ik:=(Wl a b).bind λn=>if(Bd n 0)then(Wl a b).bind λo=>some (([]:LX),o)
else
j4 a b 0 ([]:LX)
def JZ:=Aff Bpv
def Ab5(b f:Int)(w:LX):Bs6:=(JZ b w).bind λ(aj,ai)=>some aj
def Uu:=Ab5
def Ab7(NI:Btv)(a:LU)(b f:Int)(g:LX)(h:Int)(m:LX):Bs6:=NI (Ad h 1) m
def Aay NI:=Ab7 NI
abbrev Btz:=Int->LX->Int->Int32->Int->LX->LX->Option (LX)
def Aaz(SV:Btz)(a:LU)(h b f:Int)(g:LX)(k:Int)(ah:LX)(y:Int)(aa:Int32)(ab:Int)(ac ad:LX):Bs6:=SV (Ad k b) ah y aa ab ac ad
def Aas SV:=Aaz SV
def Ab4(j30:Btz)(a:LU)(h b f:Int)(g:LX)(k:Int)(ae:Int32)(m:LX)(n:Int)(o:Int32)(p:Int)(u v:LX)(y:Int)(aa:Int32)(ab:Int)(ac ad:LX):Bs6:=(Am m k).bind λ_=>(Nj m k ae).bind λah=>j30 k ah y aa ab ac ad
def Ab9 SV a h b f g:=Ab4 (Aas SV a h b f g) a h b f g
def Ab3(j29:Int->Int32->LX->Int->Int32->Int->LX->LX->Int->Int32->Int->LX->LX->Option (LX))(j32:Btv)(a:LU)(b f:Int)(g:LX)(h k:Int)(m:LX)(n:Int)(o:Int32)(p:Int)(u v:LX):Bs6:=if(Ck k (Ac a))then(Am a k).bind λag=>(
(JW ag).bind λaf=>(
(AA n o p u v af).bind λ(ae,y,aa,ab,ac,ad)=>j29 k ae m n o p u v y aa ab ac ad))
else
j32 h m
def Oc(NI:Btv)(a:LU)(b f:Int)(g:LX)(h:Int):Nat->Int->LX->Int->Int32->Int->LX->LX->Option (LX)
|0,_,_,_,_,_,_,_=>none
|q+1,k,m,n,o,p,u,v=>Ab3 (Ab9 (Oc NI a b f g h q) a h b f g) (Aay NI a b f g) a b f g h k m n o p u v
def Ab6 NI a b f g h:=Oc NI a b f g h Au
def Uv(j26:Int->Int->LX->Int->Int32->Int->LX->LX->Option (LX))(j34:Int->Int->LX->Option (LX))(a:LU)(b f:Int)(g:LX)(h:Int)(w:LX):Bs6:=if(Ck h b)then(Axq f g).bind λ(ak,ai,al,am,an,aq)=>j26 h h w ak ai al am an
else
j34 b f w
def He:Nat->Int->LX->Option (LX)
|0,_,_=>none
|z+1,c,d=>Uv (Ab6 (He z) Z Bq3 Bq4 Br0) Uu Z Bq3 Bq4 Br0 c d
def Abi a b f g:=He a b f g Au
def Abw(j18:LU->Int->Int->LX->Int->LX->Option (LX))(b f:Int)(g:LX)(a:LU):Bs6:=(og (Ac a) (0:Int32)).bind λao=>(Is (geq (Ac a) (Ac a))).bind λ_=>j18 a b f g 0 ao
def Ug:=Abw Abi
def Uk(g f:Int)(a:LX):Bud:=(Ay f a).bind λb=>if(Bd b 0)then
some (([]:LX),b)
else
some (a,0)
abbrev Yj:=Option (LX×Int)
def Ig:Yj:=if(Bd z 0)then
some (([]:LX),z)
else(
(
(Ug d j i Z).bind λc=>(Uk d j c).bind λ(e,A)=>some (e,A)))
def Hz:=Ig
def Pv(j2:Jz3 (LX->LU->Yj))(a b:Int)(g:LX)(p:Int)(k:LB):Yj:=(Dm a b p).bind λy=>if(Bd y 0)then
some (([]:LX),2)
else(Uh k).bind λaa=>if(Bd aa 0)then(Uh k).bind λab=>some (([]:LX),ab)
else(Bm k 0 (Ap (Ac k) 4)).bind λac=>(IV a p ac).bind λ(h,f)=>j2 f a b g h
def Dq:=Pv Hz
def DM:Bsz:=if(geq z 24)then(Ds ([(Ae (Gz d 256):UInt8),(Ae (Gz (Bo d 256) 256):UInt8)]:LB) ([(Ae (Bo d 65536):UInt8)]:LB)).bind λc=>some c
else
some ([(Ae (Gz d 256):UInt8),(Ae (Gz (Bo d 256) 256):UInt8)]:LB)
def Pc:=DM
def Alj(j2:Bu3)(a:Int)(f:Int32):Bsz:=if(geq a 8)then
some ([(Ae (Ad (Ae f:Int) 128):UInt8)]:LB)
else
if(Ck (Ae f:Int) 0)then(Lg a).bind λh=>j2 a (Ad (Ae f:Int) (Bg 2 h))
else
j2 a (Ae f:Int)
def OL:=Alj Pc
abbrev Hp:=Option (LB×Int)
def Bou:Hp:=some (c,0)
def Box:=Bou
def Yq(j6:LB->Hp)(Rg:Int->LB->Hp)(b:Int)(a:LX)(g:Int)(f:LB):Hp:=if(Ck g (Ac a))then(Am a g).bind λh=>(OL b h).bind λk=>(Ds f k).bind λm=>Rg (Ad g 1) m
else
j6 f
def Mj:Nat->Int->LB->Hp
|0,_,_=>none
|c+1,d,e=>Yq Box (Mj c) z i d e
def Bp3 b a:=Mj b a Au
def Ae7(j4:Int->LX->Int->LB->Hp)(b:Int)(a:LX):Hp:=(Ay b a).bind λn=>if(Bd n 0)then(Ay b a).bind λo=>some (([]:LB),o)
else
j4 b a 0 ([]:LB)
def Wg:=Ae7 Bp3
abbrev Yo:=Option (LB×Int)
def Et(o:LX)(f:Int)(p g:LB)(h k a m n:Int)(u:LI)(b:Int)(v:LB)(w:Bool)(y:Int):Yo:=if(Bd f 0)then
some (([]:LB),f)
else(Wg a o).bind λ(ac,ai)=>some (ac,0)
def Ex:=Et
def Ev(j2:LX->Int->LB->LB->Jz5 (LI->Int->LB->Bool->Int->Yo))(p g:LB)(h k a m n:Int)(u:LI)(b:Int)(v:LB)(w:Bool)(y:Int):Yo:=(Am u b).bind λaa=>if(Ck (Ac g) aa)then
some (([]:LB),(-1:Int))
else(Ny p).bind λ(ad,aj)=>(Bm g 0 aa).bind λae=>(Gc h k a m n).bind λ(af,ag)=>(Hn h k a m n).bind λab=>(Am ab b).bind λ_=>(Am ab b).bind λah=>(Dq af ag ad ah ae).bind λ(o,f)=>j2 o f p g h k a m n u b v w y
def Dp:=Ev Ex
abbrev Oy:=Option (LB×LB×Int×Int×Int×Int×Int×LI×Int×LB×Bool×Int×Int)
def Bv:Oy:=if(geq (Ac P) 0)then(Fk e B F J T U c).bind λ(z,d,i)=>if(Bd i 0)then
some (c,e,B,F,J,T,U,P,R,L,C,D,i)
else(Bm e z (Ac e)).bind λj=>some (c,j,B,F,J,T,U,d,R,L,C,D,0)
else
if(geq R (Ac P))then
if(Ei (Ac e) 4000)then
some (c,e,B,F,J,T,U,P,R,L,C,D,38)
else
some (c,e,B,F,J,T,U,P,R,L,C,D,(-1:Int))
else(Dp c e B F J T U P R L C D).bind λ(A,E)=>if(Bd E 0)then
some (c,e,B,F,J,T,U,P,R,L,C,D,E)
else(Ds ([]:LB) L).bind λG=>(Ds G A).bind λI=>(
(
(
(Am P R).bind λM=>(
(Bm e M (Ac e)).bind λN=>some (c,N,B,F,J,T,U,P,(Ad R 1),I,C,D,0)))))
def Bw:=Bv
def Hj:Oy:=(Fa B F J T U c).bind λz=>some (c,e,B,F,J,T,U,P,R,L,C,D,z)
def Hl:=Hj
abbrev Btp:=LB->LB->Jz5 (LI->Int->LB->Bool->Int->Oy)
def Bq(j3:Btp)(j4:Btp)(g a:LB)(m n o p u:Int)(b:LI)(f:Int)(v:LB)(h:Bool)(k:Int):Oy:=if(geq m 0)then(AX a).bind λ(ac,ae,w,af,ag,y,ai)=>if(Bd ai 0)then
some (g,a,m,n,o,p,u,b,f,v,h,k,ai)
else(
(Bm a ac (Ac a)).bind λad=>(
j3 g ad ae w af ag y b f v h k))
else
j4 g a m n o p u b f v h k
def Ag:=Bq Hl Bw
def Yy:Bsu:=(Ag c e B F J T U P R L C D).bind λ(z,d,i,j,A,E,G,I,M,N,O,V,X)=>some (geq X (-1:Int))
def Cw:=Yy
abbrev Bs7:=LB->LB->Jz5 (LI->Int->LB->Bool->Int->Option Bool)
def Rk(j4:Bs7)(o p:LB)(b f g h k:Int)(m:LI)(a:Int)(n:LB)(u:Bool)(v:Int):Bsu:=if(geq (Ac m) 0)then
if((Bd a 0)||(Ei (Ac n) 0))then
some false
else
j4 o p b f g h k m a n u v
else(Jh m).bind λy=>if(Bd y 0)then
if((true||(Ck a 0))||(Ei a (Ac m)))then
some false
else(Zp b f g h k a).bind λaa=>if(Ei (Ac n) aa)then
some false
else
j4 o p b f g h k m a n u v
else(Hn b f g h k).bind λab=>if(((Bd (Ac m) (Ac ab))||(Ck a 0))||(Ei a (Ac m)))then
some false
else(Zp b f g h k a).bind λac=>if(Ei (Ac n) ac)then
some false
else
j4 o p b f g h k m a n u v
def Rm:=Rk Cw
def Yv(j4:Bs7)(j3:Bs7)(o p:LB)(b f g h k:Int)(m:LI)(a:Int)(n:LB)(u:Bool)(v:Int):Bsu:=if((geq b 0)&&((geq f 0)&&((geq g 0)&&((geq h 0)&&((geq k 0)&&true)))))then
if(((Ei (Ac m) 0)||(Bd a 0))||(Ei (Ac n) 0))then
some false
else
j4 o p b f g h k m a n u v
else(Na b f g h k).bind λad=>if(Bd ad 0)then
some false
else(Fa b f g h k o).bind λae=>if(Bd ae 0)then
some false
else
j3 o p b f g h k m a n u v
def Mz:=Yv Cw Rm
def AW:Bsu:=some (((((((geq z 4)||(geq z 12))||(geq z 16))||(geq z 22))||(geq z 24))||(geq z 26))||(geq z 38))
def Ek:Bst:=if(Ei (Ac c) 64)then
some 8
else
if((geq D 0)&&(!C))then(Mz c e B F J T U P R L C D).bind λz=>if(!z)then
some 8
else
some 0
else
if((geq (Ac e) 0)&&(geq (Ac P) 0))then
if((!(((geq B 0)&&((geq F 0)&&((geq J 0)&&((geq T 0)&&((geq U 0)&&true)))))&&(geq R 0)))||(Ei (Ac L) 12000))then
some 8
else
if(Bd D 0)then
if C then
some 8
else(AW D).bind λd=>if(!d)then
some 8
else
some 0
else
some 0
else
if((!(false&&(geq R 0)))||(Ei (Ac L) 12000))then
some 8
else
if(Bd D 0)then
if C then
some 8
else(AW D).bind λi=>if(!i)then
some 8
else
some 0
else
some 0
abbrev CZ:=Option (LB×LB×Int×Int×Int×Int×Int×LI×Int×LB×Bool×Int)
def Afk:CZ:=(Ds ([]:LI) l9).bind λe=>some (c,X,z,d,j,I,O,e,B,Bq6,C,D)
def Ag4:=Afk
def Aew(j2:LB->Jz5 (LI->Int->Bool->Int->LB->LB->CZ))(f w:LB)(g h k m n:Int)(o:LI)(p:Int)(y:LB)(u:Bool)(v:Int):CZ:=(
(
(
(Ds ([]:LB) w).bind λa=>(
(Ds ([]:LB) y).bind λb=>j2 f g h k m n o p u v a b))))
def Ze:=Aew Ag4
def Te(f g:LB)(h k m n o:Int)(p:LI)(u:Int)(v:LB)(b:Bool)(a:Int):Bst:=if(Bd a 0)then
some a
else
if b then
some 36
else
some 0
def Awd(a m:LB)(n o p u v:Int)(w:LI)(y:Int)(b:LB)(aa:Bool)(ab:Int):Btl:=(
(
(Ds ([]:LB) b).bind λf=>some (a,([]:LB),0,0,0,0,0,([]:LI),0,f,false,0)))
def DW:Bsy:=(Awd c e B F J T U P R L C D).bind λ(z,d,i,j,A,E,G,I,M,N,O,V)=>some (z,d,i,j,A,E,G,I,M,N,O,Bq5,Bq5)
abbrev Pf:=Option (LB×LB×Int×Int×Int×Int×Int×LI×Int×LB×Bool×Int×Int)
abbrev Btq:=LB->LB->Jz5 (LI->Int->LB->Bool->Int->Pf)
def Cr(bk3:Btq)(a b:LB)(f g h k m:Int)(n:LI)(o:Int)(p:LB)(u:Bool)(v:Int):Pf:=(Ag a b f g h k m n o p u v).bind λ(bb,bc,bd,be,bf,bg,bh,bi,bj,bk,bl,bm,w)=>if(geq w (-1:Int))then(Ze a b f g h k m n o p u v).bind λ(bn,bp,bq,br,bs,bt,bu,bv,bw,bx,bz,da)=>some (bn,bp,bq,br,bs,bt,bu,bv,bw,bx,bz,da,0)
else
if(Bd w 0)then(DW a b f g h k m n o p u v w).bind λ(db,dc,dd,de,df,dg,dh,di,dj,dk,dl,dm,dn)=>some (db,dc,dd,de,df,dg,dh,di,dj,dk,dl,dm,dn)
else
bk3 bb bc bd be bf bg bh bi bj bk bl bm
def Bj:Nat->LB->LB->Jz5 (LI->Int->LB->Bool->Int->Pf)
|0,_,_,_,_,_,_,_,_,_,_,_,_=>none
|q+1,a,b,f,g,h,k,m,n,o,p,u,v=>Cr (Bj q) a b f g h k m n o p u v
def Bpr:=Bj Au
def Tf(j3:Btq)(al am:LB)(an ao ap aq ar:Int)(au:LI)(av:Int)(aw:LB)(ax:Bool)(ay:Int)(dp:LB):Pf:=(Ek al am an ao ap aq ar au av aw ax ay).bind λaz=>if(Bd az 0)then
some (([]:LB),([]:LB),0,0,0,0,0,([]:LI),0,([]:LB),false,0,az)
else(Ze al am an ao ap aq ar au av aw ax ay).bind λ(y,aa,ab,ac,ad,ae,af,ag,ah,ai,aj,ak)=>(Te y aa ab ac ad ae af ag ah ai aj ak).bind λba=>if(Bd ba 0)then
some (y,aa,ab,ac,ad,ae,af,ag,ah,ai,aj,ak,ba)
else(Ds aa dp).bind λdq=>j3 y dq ab ac ad ae af ag ah ai aj ak
def Kr:=Tf Bpr
abbrev Il:=Option (Int×Int)
def BK:Il:=if(Ck (Ac c) B)then
some (0,24)
else
if(e==Bq0)then(Bm c (Ap (Ac c) B) (Ad (Ap (Ac c) B) 32)).bind λi=>(Zj z d).bind λj=>if(i !=j)then
some (0,12)
else
some (B,0)
else
some (B,0)
def BE:=BK
def AB(j6:LB->Int->Int->LB->LB->Int->Il)(a:LB)(f g:Int)(b h:LB):Il:=if(b==h)then
j6 a f g b h (Ad (Ad 32 f) 32)
else
j6 a f g b h (Ad 32 f)
def AU:=AB BE
def Ajj(j5:LB->Int->Int->LB->LB->Il)(a:LB):Il:=(Bm a (Ap (Ac a) 32) (Ac a)).bind λb=>(Zc b).bind λ(f,g,n)=>if(!n)then
some (0,12)
else(Of f g true).bind λh=>(
if(!(b==h))then(Of f g false).bind λm=>if(b !=m)then
some (0,12)
else
j5 a f g b h
else
j5 a f g b h)
def Ajm:=Ajj AU
def Aex(j4:LB->Il)(a:LB):Il:=if(Ck (Ac a) 32)then
some (0,6)
else(Bm a (Ap (Ac a) 32) (Ad (Ap (Ac a) 32) 8)).bind λu=>if(u !=([65,80,69,84,65,71,69,88]:LB))then
some (0,6)
else
j4 a
def JV:=Aex Ajm
abbrev Gw:=Option (Int×Int)
def Bo6:Gw:=some (z,0)
def Bo3:=Bo6
def Ad8(j6:Int->Gw)(Rg:LB->Int->Gw)(b:LB)(a:Int):Gw:=if(Ei (Ac b) 0)then(JV b).bind λ(g,h)=>if(Bd h 0)then
some (0,38)
else(Bm b 0 (Ap (Ac b) g)).bind λk=>Rg k (Ad a 1)
else
j6 a
def Ps:Nat->LB->Int->Gw
|0,_,_=>none
|q+1,b,a=>Ad8 Bo3 (Ps q) b a
def Boa:=Ps Au
def Abl(j4:LB->Int->Gw)(f:LB):Gw:=if(Ei (Ac f) 4000)then
some (0,38)
else
j4 f 0
def Ud:=Abl Boa
def Dd(p a:LB)(g u v w y:Int)(b:LI)(h:Int)(aa:LB)(ab:Bool)(ac:Int):Bst:=if(geq g 0)then(Nc a).bind λ(k,f)=>if(Bd f 0)then
some f
else(Bm a k (Ac a)).bind λm=>(Nz m).bind λ(ad,ae,af,ag,ah,n)=>some n
else
if((geq (Ac b) 0)||(Ck h (Ac b)))then
some 24
else(Ud a).bind λ(ai,o)=>if(Bd o 0)then
some 38
else
some 0
abbrev fG:=Option (Int×Int×Int×Int×Int×Int×LI×Int)
def Bik:fG:=(Ee z d j I O).bind λ(e,i)=>if(Bd i 0)then
some (0,0,0,0,0,0,([]:LI),i)
else(Bm c Bqy (Ac c)).bind λA=>(GD A (Ac e)).bind λ(B,C)=>if(Bd C 0)then
some (0,0,0,0,0,0,([]:LI),C)
else
some (z,d,j,I,O,(Ad (Ad Bqy (Bg 4 (Ac B))) 4),B,0)
def Qt:=Bik
def Ux(j2:LB->Jz6 fG)(a n:LB):fG:=if(Ei (Ac n) 64)then
some (0,0,0,0,0,0,([]:LI),2)
else
if(Ei (Ac a) 100000)then
some (0,0,0,0,0,0,([]:LI),4)
else(Jv a).bind λ(f,w)=>if(Bd w 0)then
some (0,0,0,0,0,0,([]:LI),w)
else(Bm a f (Ac a)).bind λad=>(Nn ad).bind λ(b,g,h,k,m,y)=>if(Bd y 0)then
some (0,0,0,0,0,0,([]:LI),y)
else
if((n==([]:LB)) !=(geq b 1))then
some (0,0,0,0,0,0,([]:LI),26)
else
if(n !=([]:LB))then
if(Ck (Ac a) (Ad (Ad f 22) 8))then
some (0,0,0,0,0,0,([]:LI),24)
else(Bm a (Ad f 22) (Ad (Ad f 22) 8)).bind λae=>(Pr ae n).bind λ(af,aa)=>if(Bd aa 0)then
some (0,0,0,0,0,0,([]:LI),aa)
else
if(!af)then
some (0,0,0,0,0,0,([]:LI),26)
else
j2 a b g h k m (Ad (Ad f 22) 8)
else
j2 a b g h k m (Ad f 22)
def Dl:=Ux Qt
abbrev Mc:=Option (Int×Int×Int×Int×Int×Int×LI×Int)
def Abx:Mc:=if(Bd d 0)then
some (0,0,0,0,0,0,([]:LI),d)
else
some (j,I,O,Bqy,Brg,(Ad (Ad z (Bg 4 (Ac l9))) 4),l9,0)
def Abu:=Abx
def Abv(j4:Jz7 (LI->Mc))(a:LB)(b h k f g n:Int):Mc:=(Bm a n (Ac a)).bind λy=>(Ga f g).bind λaa=>(Th y (Ac aa)).bind λ(p,o)=>j4 n o b h k f g p
def Po:=Abv Abu
def Wc(j3:LB->Jz6 Mc)(a u:LB):Mc:=if(Ei (Ac a) 100000)then
some (0,0,0,0,0,0,([]:LI),4)
else(Nc a).bind λ(m,v)=>if(Bd v 0)then
some (0,0,0,0,0,0,([]:LI),v)
else(Bm a m (Ac a)).bind λab=>(Nz ab).bind λ(b,h,k,f,g,w)=>if(Bd w 0)then
some (0,0,0,0,0,0,([]:LI),w)
else
if((u==([]:LB)) !=(geq b 1))then
some (0,0,0,0,0,0,([]:LI),26)
else
if(geq b 2)then
if(Ck (Ap (Ac a) (Ad m 22)) 8)then
some (0,0,0,0,0,0,([]:LI),24)
else(Bm a (Ad m 22) (Ad (Ad m 22) 8)).bind λac=>(Nt u).bind λad=>if(ac !=ad)then
some (0,0,0,0,0,0,([]:LI),26)
else
j3 a b h k f g (Ad (Ad m 22) 8)
else
j3 a b h k f g (Ad m 22)
def Fl:=Wc Po
def Bpb:Bst:=some z
def Bp0:=Bpb
def Yl(j6:Btu)(Rg:Buj)(b h k m n o f:Int)(g:LI)(a p:Int):Bst:=if(Ck p b)then(Am g p).bind λu=>Rg (Ad a u) (Ad p 1)
else
j6 a
def Ml:Nat->Int->Int->Option Int
|0,_,_=>none
|c+1,e,i=>Yl Bp0 (Ml c) z d j I O Bqy Brg l9 e i
def Bop b h k m n o f g:=Ml b h k m n o f g Au
def Boz(j4:Jz7 (LI->Int->Int->Option Int))(h k m n o f:Int)(g:LI)(b:Int):Bst:=j4 b h k m n o f g f 0
def Ane:=Boz Bop
abbrev GL:=Option (LB×Int)
def Alq(u:LX)(n o g f h k p:Int)(b:LI):GL:=if(Bd n 0)then
some (([]:LB),n)
else(Wg f u).bind λ(af,ai)=>some (af,0)
def Al7:=Alq
def Al2(j2:LX->Jz7 (LI->GL))(v y:LB)(o g f h k p:Int)(b:LI)(a:Int):GL:=(Ane o g f h k p b a).bind λm=>(Am b a).bind λaa=>if(Ck (Ap (Ac v) m) aa)then
some (([]:LB),24)
else(Ny y).bind λ(ab,ag)=>(Am b a).bind λac=>(Bm v m (Ad m ac)).bind λad=>(
(Ga h k).bind λw=>(Am w a).bind λ_=>(Am w a).bind λae=>(Dq g f ab ae ad).bind λ(u,n)=>j2 u n o g f h k p b)
def Vl:=Al2 Al7
def Ami:Option (Int×Int×Int×Int×Int×Int×Int×Int×Int×Int×LI×Int):=if(Ei (Ac c) 100000)then
some (0,0,0,0,0,0,0,0,0,0,([]:LI),4)
else(Jv c).bind λ(z,d)=>if(Bd d 0)then
some (0,0,0,0,0,0,0,0,0,0,([]:LI),d)
else(Bm c z (Ac c)).bind λe=>(Nn e).bind λ(i,j,A,B,C,D)=>if(Bd D 0)then
some (i,j,A,B,C,0,0,0,0,0,([]:LI),D)
else(Ee i j A B C).bind λ(E,F)=>if(geq i 2)then
some (i,j,A,B,C,z,(Ad z 22),(Ad (Ad z 22) 8),0,0,E,0)
else
some (i,j,A,B,C,z,(Ad z 22),(Ad z 22),0,0,E,0)
abbrev Cl:=Option (Int×Int×Int×LX×Int)
def Bh2:Cl:=(Bm c z (Ac c)).bind λe=>(KC e).bind λ(A,B)=>if(Bd B 0)then
some (0,0,0,([]:LX),38)
else
some (d,j,I,i,0)
def Bil:=Bh2
def Bif(T?:Int->Int->LX->Cl)(a:LB)(w:LI)(m f g h o p n b ab ae:Int)(ac:LX)(k:LI)(y aj ak aa:Int)(an ad:LX):Cl:=if(Bd ak 0)then
some (0,0,0,([]:LX),ak)
else(Ds ad an).bind λau=>T? (Ad y aj) (Ad aa 1) au
def Big T?:=Bif T?
def aY(j24:Jz4 (LX->LX->Cl))(j26:LB->Jz4 (LX->Cl))(a:LB)(w:LI)(m f g h o p n b ab ae:Int)(ac:LX)(k:LI)(y aa:Int)(ad:LX):Cl:=if(Ck aa (Ac w))then(Am w aa).bind λ_=>(Am w aa).bind λaj=>if(Ck (Ac a) (Ad y aj))then
some (0,0,0,([]:LX),24)
else(Am k aa).bind λ_=>(Bm a y (Ad y aj)).bind λav=>(Am k aa).bind λaw=>(Kl f g ac aw av).bind λ(an,ak)=>j24 y aj ak aa an ad
else
j26 a y f g h ad
def AI:Nat->Int->Int->LX->Cl
|0,_,_,_=>none
|e+1,A,B,C=>aY (Big (AI e) c E z d j I O Bqy Brg Br9 Bsa Bsb i l9) Bil c E z d j I O Bqy Brg Br9 Bsa Bsb i l9 A B C
def Bn3 a w m f g h o p n b ab ae ac k:=AI a w m f g h o p n b ab ae ac k Au
def aM(j21:LB->LI->Jz10 (LX->LI->Int->Int->LX->Cl))(a u:LB)(m f g h o p n b:Int)(k:LI)(ao ab ae:Int)(w:LI):Cl:=if(Bd ao 0)then
some (0,0,0,([]:LX),ao)
else(Oe u).bind λ(ac,bc)=>j21 a w m f g h o p n b ab ae ac k ab 0 ([]:LX)
def Va:=aM Bn3
abbrev Bs5:=LB->LB->Jz8 (LI->Int->Int->Int->LI->Cl)
def Bh5(j20:Bs5)(a u:LB)(v:LI)(m f g h o p n b af:Int)(k:LI):Cl:=j20 a u m f g h o p n b k 0 (Ad (Ad b (Bg 4 (Ac v))) 4) af v
def ZS:=Bh5 Va
def aA(j19:LB->LB->LI->Jz9 (LI->Cl))(sF:Int->Int->Cl)(v:LI)(a u:LB)(m f g h o p n b:Int)(k:LI)(ag af:Int):Cl:=if(Ck ag (Ac v))then(Am v ag).bind λ_=>(Am v ag).bind λax=>sF (Ad ag 1) (Ad af ax)
else
j19 a u v m f g h o p n b af k
def Zz:Nat->Int->Int->Cl
|0,_,_=>none
|z+1,c,d=>aA ZS (Zz z) E e Bq0 B F J T U R D Bq5 Bsg c d
def Bgx v a u m f g h o p n b k:=Zz v a u m f g h o p n b k Au
def ZD(j20:Bs5)(j17:LI->LB->LB->Jz8 (LI->Int->Int->Cl))(al:Int)(a u:LB)(m f g h o p n b ah ai:Int)(v k:LI):Cl:=if(Bd al 0)then
j20 a u m f g h o p n b k al ah ai ([]:LI)
else
j17 v a u m f g h o p n b k 0 (Ad (Ad b (Bg 4 (Ac v))) 4)
def YO:=ZD Va Bgx
def Bjh(j20:Bs5)(j16:Int->LB->LB->Jz10 (LI->LI->Cl))(a u:LB)(m f g h o p n b ah ai:Int)(k:LI):Cl:=if(Ck (Ac a) b)then
j20 a u m f g h o p n b k 24 ah ai ([]:LI)
else(Bm a b (Ac a)).bind λay=>(GD ay (Ac k)).bind λ(v,al)=>j16 al a u m f g h o p n b ah ai v k
def KX:=Bjh Va YO
def aR(j15:LB->LB->Jz10 (LI->Cl))(a u:LB)(m f g h o p n b ah ai:Int)(k:LI)(am:Int):Cl:=if(Bd am 0)then
some (0,0,0,([]:LX),am)
else
j15 a u m f g h o p n b ah ai k
def AK:=aR KX
def Bl0(j14:LB->LB->Jz10 (LI->Int->Cl))(a u:LB):Cl:=if(Ei (Ac u) 64)then
some (0,0,0,([]:LX),2)
else(Ami a).bind λ(m,f,g,h,o,p,n,b,ah,ai,k,ap)=>if(Bd ap 0)then
some (0,0,0,([]:LX),ap)
else
if((u==([]:LB)) !=(geq m 1))then
j14 a u m f g h o p n b ah ai k 26
else
if(geq m 1)then
j14 a u m f g h o p n b ah ai k 0
else
if(Ck (Ac a) b)then
j14 a u m f g h o p n b ah ai k 24
else(Bm a n b).bind λaz=>(Pr az u).bind λ(ba,bd)=>if(!ba)then
j14 a u m f g h o p n b ah ai k 26
else
j14 a u m f g h o p n b ah ai k 0
def Qy:=Bl0 AK
def Aqo:Option (Int×Int×Int×Int×Int×Int×Int):=if(Ei (Ac c) 100000)then
some (0,0,0,0,0,0,4)
else(Nc c).bind λ(z,d)=>if(Bd d 0)then
some (0,0,0,0,0,0,d)
else(Bm c z (Ac c)).bind λe=>(Nz e).bind λ(i,j,A,B,C,D)=>some (z,i,j,A,B,C,D)
def Al8(f:LB)(a g m n o p:Int)(b:LB):Bs1:=if((b==([]:LB)) !=(geq g 1))then
some (0,26)
else
if(b==([]:LB))then
some (a,0)
else
if(Ck (Ac f) (Ad a 8))then
some (0,24)
else(Bm f a (Ad a 8)).bind λh=>(Nt b).bind λk=>if(h !=k)then
some (0,26)
else
some ((Ad a 8),0)
def GB(a:LB)(b o p u f g:Int):Bus:=(Bm a b (Ac a)).bind λh=>(Ga f g).bind λk=>(Th h (Ac k)).bind λ(m,n)=>some (m,n)
abbrev Fj:=Option (Int×Int×Int×LX×Int)
def Ado:Fj:=(Bm c z (Ac c)).bind λe=>(Ud e).bind λ(A,B)=>if(Bd B 0)then
some (0,0,0,([]:LX),38)
else
some (d,j,I,i,0)
def Aei:=Ado
def Adq(bk7:Int->Int->LX->Fj)(a:LB)(o f g h n:Int)(b p:LI)(u:LX)(m k:Int)(y:LX)(w:Int)(v:LX):Fj:=if(Bd w 0)then
some (0,0,0,([]:LX),w)
else(Ds v y).bind λah=>(Am b k).bind λ_=>(Am b k).bind λai=>bk7 (Ad m ai) (Ad k 1) ah
def Aej bk7:=Adq bk7
def BJ(j10:Int->Int->LX->Int->LX->Fj)(j12:LB->Jz4 (LX->Fj))(a:LB)(o f g h n:Int)(b p:LI)(u:LX)(m k:Int)(v:LX):Fj:=if(Ck k (Ac b))then(Am b k).bind λ_=>(Am b k).bind λaj=>if(Ck (Ap (Ac a) m) aj)then
some (0,0,0,([]:LX),24)
else(Am p k).bind λ_=>(Am b k).bind λ_=>(Am p k).bind λak=>(Am b k).bind λal=>(Bm a m (Ad m al)).bind λam=>(Dq f g u ak am).bind λ(y,w)=>j10 m k y w v
else
j12 a m f g h v
def Ns:Nat->Int->Int->LX->Fj
|0,_,_,_=>none
|e+1,i,A,B=>BJ (Aej (Ns e) c z d j I O l9 P M) Aei c z d j I O l9 P M i A B
def Afm a o f g h n b p u:=Ns a o f g h n b p u Au
def Afn(j7:LB->Jz5 (LI->LI->LX->Int->Int->LX->Fj))(a aa:LB):Fj:=if(Ei (Ac aa) 64)then
some (0,0,0,([]:LX),2)
else(Aqo a).bind λ(an,o,f,g,h,n,ab)=>if(Bd ab 0)then
some (0,0,0,([]:LX),ab)
else(Al8 a (Ad an 22) o f g h n aa).bind λ(ac,ad)=>if(Bd ad 0)then
some (0,0,0,([]:LX),ad)
else(GB a ac o f g h n).bind λ(b,ae)=>if(Bd ae 0)then
some (0,0,0,([]:LX),ae)
else(Ga h n).bind λp=>(Ny aa).bind λ(u,ap)=>j7 a o f g h n b p u (Ad ac (Ad (Bg 4 (Ac b)) 4)) 0 ([]:LX)
def Ky:=Afn Afm
end Go.Pl
