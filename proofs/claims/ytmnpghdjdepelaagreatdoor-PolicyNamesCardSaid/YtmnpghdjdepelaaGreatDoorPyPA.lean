/- A part of a proof (see the text that ends in Proof). No conditions. -/
import Derived.Test.YtmnpghdjdepelaaGreatDoorPyBA
set_option linter.unusedVariables false
namespace Go.Pl
open Go Go.Lv
abbrev LB:=List UInt8
abbrev LI:=List Int
abbrev LX:=List Int32
abbrev LU:=List UInt32
abbrev LQ:=List UInt64
variable(c G:LB)(A:LI)(z d i E I P dx dz eu fq iw:Int)(M:LI)(e:LX)(iy:LI)(C jg:LB)(D V gu jh ji jk jl jm:Int)(jo:LI)(J:LX)(j:UInt64)(L:UInt32)(N:UInt64)(R:LB)(B:Int32)(F:Int)(X T:LX)(Y:Int32)(gy jq:Int)(jf jr:UInt64)(U:List LB)(fu gq jv:LB)(O:LU)(Z cu:Int)(ig:LX)(jw:LQ)(jy:UInt8)(dw:Int)(iq:List LI)
def CD(a b f:Int)(g:LX):Option (Int×Int):=
some (a,b)
abbrev Rc:=Option (Int32×Int32×Int)
def MW(a:Int)(b:Bool):Rc:=
if b then
(Ds (Hi (Ag a 1) 0)).bind λ_=>
some ((eE (Er (1:Int32) (GI.toZ (Ag a 1)).toNat)),(Ag (Er (1:Int32) (GI.toZ (Ag a 1)).toNat) 1),0)
else
some (0,0,2)
def QU:=MW
def OR(j2:Int->Bool->Rc)(a:Int):Rc:=
if(geq a 8)then
j2 a (geq a 8)
else
if(geq a 16)then
j2 a (geq a 16)
else
j2 a (geq a 24)
def Qj:=OR QU
def Hu:Option Int:=
(Qj d).bind λ(c,e,i)=>
if(((Bk i 0)||(Cl z 1))||(Ez z 6))then
some 2
else
some 0
def Tf:Option (Int×Int):=
if((Cl z 1)||(Ez z 1048576))then
some (0,2)
else
some ((XQ 1 (Gs (Dm 256 z) 245)),0)
def Kk:Option (Int×Int):=
(Tf z).bind λ(c,e)=>
if(Bk e 0)then
some (0,e)
else
if((Cl d 1)||(Ez d 4000))then
some (0,2)
else
(Ds (Bk c 0)).bind λ_=>
if(Ez (Gs (Ag (Aa d c) 1) c) 1000)then
some (0,4)
else
some ((Gs (Ag (Aa d c) 1) c),0)
def SQ:Option Int:=
(CD z d i e).bind λ(c,j)=>
(Hu c j).bind λA=>
if((Bk A 0)||(Cl D 1))then
some 8
else
(Ds (Bk z 0)).bind λ_=>
if(Ez D (Gs 4000 z))then
some 8
else
(Kk i D).bind λ(B,C)=>
if(Bk C 0)then
some 8
else
some 0
def QO:Option Int:=
some 0
def Yb:=QO
def Wa(j6:Option Int)(Zg:Int->Option Int)(b f:Int32)(a:LX)(g:Int):Option Int:=
if(Cl g (Ac a))then
(Ah a g).bind λh=>
if((Cl h b)||(Ez h f))then
some 16
else
Zg (Aa g 1)
else
j6
def Mv:Nat->Int->Option Int
|0,_=>none
|z+1,c=>Wa Yb (Mv z) B Y ig c
def MA b f a:=Mv b f a Cn
def Xx(j4:Int32->Int32->LX->Int->Option Int)(m:Int)(a:LX):Option Int:=
(Qj m).bind λ(b,f,k)=>
if(Bk k 0)then
some k
else
if(Ez (Ac a) 4000)then
some 4
else
j4 b f a 0
def Kv:=Xx MA
def Jv:Option Int:=
if(Cl z 1)then
some 8
else
(Ds (Bk z 0)).bind λ_=>
if(Bk (Gc (Ac e) z) 0)then
some 8
else
(Ds (Bk z 0)).bind λ_=>
(SQ z d i e (Gs (Ac e) z)).bind λc=>
if(Bk c 0)then
some c
else
(Kv d e).bind λj=>
if(Bk j 0)then
some 8
else
some 0
abbrev Ri:=Option (Int×Int×Int×Int×Int×Int)
def OD:Ri:=
if(c !=([]:LB))then
some (2,z,d,i,(Gs (Ac e) z),0)
else
some (1,z,d,i,(Gs (Ac e) z),0)
def Xk:=OD
def Ml(j2:LB->Int->Int->Int->LX->Ri)(a b f:Int)(g:LX)(h:LB):Ri:=
(Jv a b f g).bind λk=>
if(Bk k 0)then
some (0,0,0,0,0,k)
else
if(Ez (Ac h) 64)then
some (0,0,0,0,0,2)
else
(Ds (Bk a 0)).bind λ_=>
(
j2 h a b f g)
def JF:=Ml Xk
abbrev Ay:=Option (UInt64×Int)
def OL:Ay:=
some (j,0)
def OP:=OL
def MF(j30:UInt64->Ay)(h b:UInt64)(a:LB)(f:LQ):Ay:=
j30 h
def Xw:=MF OP
def Xb(j29:UInt64->UInt64->LB->LQ->Ay)(Uk:UInt64->Int->Ay)(a:LB)(b:UInt64)(f:LQ)(h:UInt64)(m:Int):Ay:=
if(Cl m (Ac a))then
(Ah a m).bind λp=>
Option.bind (Ah f (GI.toZ (Zz (Ap (Bw h (GI.toZ (56:UInt64)).toNat):UInt8) p))) λ_=>
Option.bind (Ah f (GI.toZ (Zz (Ap (Bw h (GI.toZ (56:UInt64)).toNat):UInt8) p))) λu=>
Uk (Zz (Er h (GI.toZ (8:UInt64)).toNat) u) (Aa m 1)
else
j29 h b a f
def My:Nat->UInt64->Int->Ay
|0,_,_=>none
|z+1,d,e=>Xb Xw (My z) c j jw d e
def Wm a b f:=My a b f Cn
def Vz(j27:LB->UInt64->LQ->UInt64->Int->Ay)(b:UInt64)(a:LB)(f:LQ):Ay:=
j27 a b f b 0
def OT:=Vz Wm
def LW(Dv:Int->LQ->Ay)(b:UInt64)(a:LB)(g:Int)(o:LQ):Ay:=
Dv (Aa g 1) o
def NA Dv:=LW Dv
def MP(j24:Int->LQ->Ay)(b:UInt64)(a:LB)(g:Int)(k:UInt64)(f:LQ):Ay:=
(Ah f g).bind λ_=>
(Gd f g k).bind λo=>
j24 g o
def Wk Dv b a:=MP (NA Dv b a) b a
def Vs(j23:Int->UInt64->LQ->Ay)(Rn:UInt64->Int->Ay)(b:UInt64)(a:LB)(g:Int)(f:LQ)(k:UInt64)(n:Int):Ay:=
if(Cl n 8)then
Rn (Zz (Er k (GI.toZ (1:UInt64)).toNat) (Dm 4823603603198064275 (Bw k (GI.toZ (63:UInt64)).toNat))) (Aa n 1)
else
j23 g k f
def Nt(Dv:Int->LQ->Ay)(b:UInt64)(a:LB)(g:Int)(f:LQ):Nat->UInt64->Int->Ay
|0,_,_=>none
|q+1,k,n=>Vs (Wk Dv b a) (Nt Dv b a g f q) b a g f k n
def Yv Dv b a g f:=Nt Dv b a g f Cn
def Xg(j21:Int->LQ->UInt64->Int->Ay)(j26:UInt64->LB->LQ->Ay)(b:UInt64)(a:LB)(g:Int)(f:LQ):Ay:=
if(Cl g 256)then
j21 g f (Er (Ap g:UInt64) (GI.toZ (56:UInt64)).toNat) 0
else
j26 b a f
def Of:Nat->Int->LQ->Ay
|0,_,_=>none
|z+1,c,d=>Xg (Yv (Of z) j R) OT j R c d
def NW b a:=Of b a Cn
def BF(j16:UInt64->LB->Int->LQ->Ay)(b:UInt64)(a:LB):Ay:=
if(Ez (Ac a) 100000)then
some (0,4)
else
j16 b a 0 (List.replicate 256 (0:UInt64))
def QD:=BF NW
def HC:Option (UInt64×Int):=
(QD 0 c).bind λ(z,d)=>
some (z,d)
def bJ:Option (LX):=
some e
def MX:=bJ
def RG(j6:LX->Option (LX))(Zg:Int->LX->Option (LX))(f:UInt64)(a:Int)(b:LX):Option (LX):=
if(Cl a 8)then
(Ds (Hi (Dm 8 a) 0)).bind λ_=>
(Ah b a).bind λ_=>
(Gd b a (Ap (Ap (Bw f (GI.toZ (Dm 8 a)).toNat):Int8):Int32)).bind λg=>
Zg (Aa a 1) g
else
j6 b
def CP:Nat->Int->LX->Option (LX)
|0,_,_=>none
|z+1,c,d=>RG MX (CP z) j c d
def bL f:=CP f Cn
def QE(j4:UInt64->Int->LX->Option (LX))(f:UInt64):Option (LX):=
j4 f 0 (List.replicate 16 (0:Int32))
def bX:=QE bL
def Mg:Option (LX×Int):=
if(Ez (Ac c) 64)then
some (([(0:Int32),(0:Int32),(0:Int32),(0:Int32),(0:Int32),(0:Int32),(0:Int32),(0:Int32),(0:Int32),(0:Int32),(0:Int32),(0:Int32),(0:Int32),(0:Int32),(0:Int32),(0:Int32)]:LX),2)
else
(HC c).bind λ(z,d)=>
if(Bk d 0)then
some (([(0:Int32),(0:Int32),(0:Int32),(0:Int32),(0:Int32),(0:Int32),(0:Int32),(0:Int32),(0:Int32),(0:Int32),(0:Int32),(0:Int32),(0:Int32),(0:Int32),(0:Int32),(0:Int32)]:LX),d)
else
(bX z).bind λe=>
some (e,0)
def Uz:Option (UInt64×UInt64):=
some ((Aa (Aa (Dm (Bw j (GI.toZ (32:UInt64)).toNat) (Bw N (GI.toZ (32:UInt64)).toNat)) (Bw (Aa (Dm (Bw j (GI.toZ (32:UInt64)).toNat) (Dg N 4294967295)) (Bw (Dm (Dg j 4294967295) (Dg N 4294967295)) (GI.toZ (32:UInt64)).toNat)) (GI.toZ (32:UInt64)).toNat)) (Bw (Aa (Dg (Aa (Dm (Bw j (GI.toZ (32:UInt64)).toNat) (Dg N 4294967295)) (Bw (Dm (Dg j 4294967295) (Dg N 4294967295)) (GI.toZ (32:UInt64)).toNat)) 4294967295) (Dm (Dg j 4294967295) (Bw N (GI.toZ (32:UInt64)).toNat))) (GI.toZ (32:UInt64)).toNat)),(Dm j N))
def BK:Option (UInt64×UInt64):=
(Uz j N).bind λ(z,c)=>
some (z,c)
def Oz:Option (LI):=
some A
def Gw:=Oz
def Ek(j10:LI->Option (LI))(dV:Int->LI->Option (LI))(b:Int)(a:LI):Option (LI):=
if(Cl b (Ac a))then
(
(HH (Ac a) b (Ac a)).bind λ_=>
(HH (Ac a) 0 b).bind λ_=>
dV (Aa b (BA ((Ac a)-b) (Pc a 0 (b-(0:Int))).length)) (Ic a b ((Ac a)-b) (Pc a 0 (b-(0:Int)))))
else
j10 a
def En:Nat->Int->LI->Option (LI)
|0,_,_=>none
|q+1,b,a=>Ek Gw (En q) b a
def Rk:=En Cn
def Hx(j8:Int->LI->Option (LI))(f:LI)(g:UInt64):Option (LI):=
(fR (Ap g:Int) (0:Int)).bind λk=>
(Ds (geq (Ap g:Int) (Ap g:Int))).bind λ_=>
j8 (BA (Ac k) f.length) (dH k f)
def Re:=Hx Rk
def Hl(j7:LI->UInt64->Option (LI))(f:LI)(h:Int):Option (LI):=
(BK (Ap (Ac f):UInt64) (Ap h:UInt64)).bind λ(m,g)=>
if((Ez m 0)||(Ez g 9223372036854775807))then
none
else
j7 f g
def Rm:=Hl Re
def Hw(j6:LI->Int->Option (LI))(f:LI)(h:Int):Option (LI):=
if(Cl h 0)then
none
else
j6 f h
def Ju:=Hw Rm
def Pb:Option (LI):=
some A
def Hb:=Pb
def Gx(j16:LI->Option (LI))(RJ:Int->LI->Option (LI))(a:List LI)(g:Int)(f:LI):Option (LI):=
if(Cl g (Ac a))then
(Ah a g).bind λn=>
(Dk f n).bind λo=>
RJ (Aa g 1) o
else
j16 f
def Ef:Nat->Int->LI->Option (LI)
|0,_,_=>none
|z+1,c,d=>Gx Hb (Ef z) iq c d
def Ha a:=Ef a Cn
def Gy(j14:(List LI)->Int->LI->Option (LI))(a:List LI)(p:LI):Option (LI):=
j14 a 0 p
def Pd:=Gy Ha
def Gz(j13:(List LI)->LI->Option (LI))(b:Int)(a:List LI):Option (LI):=
if(Ez (Ag b (Ag (0:Int) (0:Int))) 0)then
(HH 0 0 0).bind λ_=>
(fR (Ag b (Ag (0:Int) (0:Int))) (0:Int)).bind λu=>
(Dk ([]:LI) u).bind λk=>
(HH (Ac k) 0 0).bind λ_=>
j13 a (Pc k 0 ((0:Int)-(0:Int)))
else
j13 a ([]:LI)
def Pa:=Gz Pd
def Hc(j12:Int-> (List LI)->Option (LI))(a:List LI)(b:Int):Option (LI):=
if(Cl b 0)then
none
else
j12 b a
def Oy:=Hc Pa
def Ho(j11:(List LI)->Int->Option (LI))(oK:Int->Int->Option (LI))(a:List LI)(b h:Int):Option (LI):=
if(Cl h (Ac a))then
(Ah a h).bind λm=>
if(Cl (Aa b (Ac m)) 0)then
none
else
oK (Aa b (Ac m)) (Aa h 1)
else
j11 a b
def El:Nat->Int->Int->Option (LI)
|0,_,_=>none
|z+1,c,d=>Ho Oy (El z) iq c d
def Qw a:=El a Cn
def Hs(j9:(List LI)->Int->Int->Option (LI))(a:List LI):Option (LI):=
j9 a 0 0
def Js:=Hs Qw
def Xm:Option (LI):=
(Js ([A,M]:List LI)).bind λz=>
some z
def Kt:Option (LI×Int):=
(Kk z d).bind λ(c,e)=>
if(Bk e 0)then
some (([]:LI),e)
else
(Tf z).bind λ(i,j)=>
(Ju ([i]:LI) (Ag c 1)).bind λA=>
(Xm A ([(Ag d (Dm (Ag c 1) i))]:LI)).bind λB=>
some (B,0)
def AN:Option Int:=
(Hu z d).bind λc=>
if(Bk c 0)then
some c
else
(Kv d e).bind λi=>
if(Bk i 0)then
some i
else
if(geq (Ac e) 0)then
some 2
else
(Ds (Bk z 0)).bind λ_=>
if(Bk (Gc (Ac e) z) 0)then
some 2
else
some 0
def HO:Option Int:=
if((Cl z 1)||(Ez z 6))then
some 2
else
if(Ez (Ac e) 4000)then
some 4
else
(Ds (Bk z 0)).bind λ_=>
if(Bk (Gc (Ac e) z) 0)then
some 2
else
some 0
def Cj:Option (LX):=
(
(Dk ([]:LX) e).bind λz=>
some z)
abbrev Cy:=Option (LX×Int)
def YJ:Cy:=
some (e,0)
def ID:=YJ
def XC(Ro:Int->LX->Cy)(b a:Int)(u:LX):Cy:=
Ro (Aa a b) u
def YT Ro:=XC Ro
def ZM(j20:Int->LX->Cy)(b a:Int)(g:LX):Cy:=
if(Ez (Ag ((Aa a b)-a) 1) 0)then
(Ds (decide (0<= (Ag ((Aa a b)-a) 1)/\ (Ag ((Aa a b)-a) 1)<((Aa a b)-a)))).bind λ_=>
Option.bind (Ds (decide (0<= (Ag (Ag ((Aa a b)-a) 1) 1)/\ (Ag (Ag ((Aa a b)-a) 1) 1)<((Aa a b)-a)))) λ_=>
(Ah g (a+(Ag ((Aa a b)-a) 1))).bind λk=>
(Ah g (a+(Ag (Ag ((Aa a b)-a) 1) 1))).bind λm=>
(Ds (decide (0<= (Ag ((Aa a b)-a) 1)/\ (Ag ((Aa a b)-a) 1)<((Aa a b)-a)))).bind λ_=>
(Gd g (a+(Ag ((Aa a b)-a) 1)) (Ag k (Gs m 2))).bind λn=>
j20 a n
else
j20 a g
def IF Ro b:=ZM (YT Ro b) b
def IA(j19:Int->LX->Cy)(oL:Int->LX->Cy)(b a f:Int)(g:LX):Cy:=
if(Cl f (Ag ((Aa a b)-a) 1))then
(Ds (decide (0<= (Aa f 1)/\ (Aa f 1)<((Aa a b)-a)))).bind λ_=>
(Ds (decide (0<=f/\f<((Aa a b)-a)))).bind λ_=>
(Ah g (a+(Aa f 1))).bind λk=>
(Ah g (a+f)).bind λm=>
(Ds (decide (0<=f/\f<((Aa a b)-a)))).bind λ_=>
(Gd g (a+f) (Ag k m)).bind λn=>
oL (Aa f 1) n
else
j19 a g
def Ya(Ro:Int->LX->Cy)(b a:Int):Nat->Int->LX->Cy
|0,_,_=>none
|q+1,f,g=>IA (IF Ro b) (Ya Ro b a q) b a f g
def IP Ro b a:=Ya Ro b a Cn
def IL(j17:Int->Int->LX->Cy)(j22:LX->Cy)(b a:Int)(h:LX):Cy:=
if(Cl a (Ac h))then
(HH (Ac h) a (Aa a b)).bind λ_=>
j17 a 0 h
else
j22 h
def Yy:Nat->Int->LX->Cy
|0,_,_=>none
|c+1,d,e=>IL (IP (Yy c) z) ID z d e
def WY b:=Yy b Cn
def OK(j12:Int->Int->LX->Cy)(b:Int)(o:LX):Cy:=
(HO b o).bind λp=>
if(Bk p 0)then
some (([]:LX),p)
else
(Cj o).bind λv=>
j12 b 0 v
def dN:=OK WY
abbrev CC:=Option (Int×LX×LX×Int)
def ZK(a:Int)(b:LX)(f:Bool):CC:=
if f then
some (10,b,(List.replicate 16 (0:Int32)),0)
else
if(geq a 16)then
some (9,b,(List.replicate 16 (0:Int32)),0)
else
some (0,(List.replicate 16 (0:Int32)),(List.replicate 16 (0:Int32)),2)
def XR:=ZK
def YQ(j2:Int->LX->Bool->CC)(a:Int)(b:LX):CC:=
if(geq a 8)then
j2 a b (geq a 8)
else
j2 a b (geq a 24)
def QC:=YQ XR
def HX:Option (Int×Int32×Int×LX×LX×Int):=
(QC z e).bind λ(c,d,i,j)=>
if(Bk j 0)then
some (0,0,0,(List.replicate 16 (0:Int32)),(List.replicate 16 (0:Int32)),j)
else
some (z,0,c,d,i,0)
def Ku(a:Int)(k:Int32)(b:Int)(f m:LX):Option Int:=
(QC a f).bind λ(g,n,o,h)=>
if((Bk h 0)||(Bk g b))then
some 8
else
some 0
def IY:Option (Int×Int):=
if(geq z 8)then
some (4,0)
else
if(geq z 16)then
if(geq z 16)then
some (5,0)
else
some (0,2)
else
if(geq z 24)then
some (5,0)
else
some (0,2)
def IC:Option Int32:=
(Ds (Hi z 0)).bind λ_=>
(Ds (Hi z 0)).bind λ_=>
some (Ap (eX (Ag (Er (Ap B:Int) (GI.toZ z).toNat) (Ap B:Int)) (GI.toZ z).toNat):Int32)
def Kw:Option (Int32×Int):=
(IY z).bind λ(c,d)=>
if(Bk d 0)then
some (0,d)
else
(IC c B).bind λe=>
some (e,0)
def Ns(a:Int)(b f:LX):Option Int:=
if((Bk a 9)&&(Bk a 10))then
some 8
else
some 0
abbrev Ff:=Option (Int32×Int)
def SI(h:Int32)(a:Int)(b f:LX):Ff:=
(Ds (Hi a 0)).bind λ_=>
some ((Bw h (GI.toZ a).toNat),0)
def AR:=SI
def AW(j6:Int32->Int->LX->LX->Ff)(Zg:Int32->Int->Ff)(b:LX)(a:Int)(f:LX)(h:Int32)(g:Int):Ff:=
if(Cl g 16)then
(Ah b g).bind λm=>
(Ah f g).bind λ_=>
(Ah f g).bind λn=>
Zg (Aa h (Dm m n)) (Aa g 1)
else
j6 h a b f
def Rg:Nat->Int32->Int->Ff
|0,_,_=>none
|z+1,c,d=>AW AR (Rg z) e D J c d
def SA b a f:=Rg b a f Cn
def AL(j4:LX->Int->LX->Int32->Int->Ff)(a:Int)(b f:LX):Ff:=
(Ns a b f).bind λk=>
if(Bk k 0)then
some (0,k)
else
(Ds (Hi (Ag a 1) 0)).bind λ_=>
j4 b a f (Er (1:Int32) (GI.toZ (Ag a 1)).toNat) 0
def CM:=AL SA
def GP:Option Int32:=
if(geq z 0)then
some 4
else
if(Cl z 4)then
some 2
else
some 1
abbrev Fb:=Option (Int×LX×LX×Int)
def SK:Fb:=
some (z,e,J,0)
def AY:=SK
def AX(j6:Int->LX->LX->Fb)(Zg:Int->LX->Fb)(h:Int32)(f:LX)(g a:Int)(b:LX):Fb:=
if(Cl a 16)then
(Ah f a).bind λm=>
if(geq m 0)then
Zg (Aa a 1) b
else
if((Cl m 0)==(Cl h 0))then
(Ah b a).bind λ_=>
(Ah b a).bind λo=>
(GP a).bind λp=>
(Ah b a).bind λ_=>
(Gd b a (Aa o p)).bind λu=>
Zg (Aa a 1) u
else
(Ah b a).bind λ_=>
(Ah b a).bind λv=>
(GP a).bind λw=>
(Ah b a).bind λ_=>
(Gd b a (Ag v w)).bind λy=>
Zg (Aa a 1) y
else
j6 g b f
def Qt:Nat->Int->LX->Fb
|0,_,_=>none
|z+1,c,d=>AX AY (Qt z) B X gy c d
def RU h f g:=Qt h f g Cn
def BE(j4:Int32->LX->Int->Int->LX->Fb)(g:Int)(k f:LX)(h:Int32):Fb:=
(Ns g k f).bind λn=>
if(Bk n 0)then
some (0,(List.replicate 16 (0:Int32)),(List.replicate 16 (0:Int32)),n)
else
if(geq h 0)then
some (g,k,f,0)
else
j4 h f g 0 k
def RH:=BE RU
abbrev Yt:=Option (Int×LX×LX×Int)
def UD:Yt:=
(Ah (Ic T 1 ((16:Int)-(1:Int)) (Pc T 0 ((16:Int)-(0:Int)))) 0).bind λ_=>
(Gd (Ic T 1 ((16:Int)-(1:Int)) (Pc T 0 ((16:Int)-(0:Int)))) 0 B).bind λz=>
some (F,X,z,0)
def FE:=UD
def Tt(j2:Int32->Int->LX->LX->Yt)(b:Int)(f a:LX)(g:Int32):Yt:=
(Ns b f a).bind λh=>
if(Bk h 0)then
some (0,(List.replicate 16 (0:Int32)),(List.replicate 16 (0:Int32)),h)
else
(
(HH 16 1 16).bind λ_=>
(HH 16 0 16).bind λ_=>
j2 g b f a)
def TP:=Tt FE
def BU:Option (Int×LX×LX):=
(RH z e J Y).bind λ(c,d,i,j)=>
(TP c d i B).bind λ(A,C,D,E)=>
some (A,C,D)
def Ze:Option (Int32×Int×LX×LX×Int):=
(CM z e J).bind λ(c,d)=>
if(Bk d 0)then
some (0,0,(List.replicate 16 (0:Int32)),(List.replicate 16 (0:Int32)),d)
else
(BU z e J B (Ag B c)).bind λ(i,j,A)=>
some ((Ag B c),i,j,A,0)
def Kj:Option (Int32×Int×Int32×Int×LX×LX×Int):=
(Ku z B F X T).bind λc=>
if(Bk c 0)then
some (0,0,0,0,(List.replicate 16 (0:Int32)),(List.replicate 16 (0:Int32)),c)
else
(Kw z B).bind λ(d,e)=>
(Ze F X T (Ag Y d)).bind λ(i,j,A,C,D)=>
(
some (i,z,Y,j,A,C,D))
def SV:Option UInt32:=
some (Zz (Er (Ap B:UInt32) (GI.toZ (1:UInt64)).toNat) (Ap (Bw B (GI.toZ (31:UInt64)).toNat):UInt32))
abbrev Bh:=Option (LU×Int)
def DA:Bh:=
some (O,0)
def Ot:=DA
def Og(j12:LU->Bh)(oM:Int-> (List (Int×Int32×(Int×LX×LX×Unit)×Unit))->LU->Bh)(b:LX)(a f g:Int)(k:List (Int×Int32×(Int×LX×LX×Unit)×Unit))(h:LU):Bh:=
if(Cl g (Ac b))then
(Ah b g).bind λ_=>
(Ah b g).bind λac=>
(Ds (Bk a 0)).bind λ_=>
(Ah k (Gc g a)).bind λ_=>
(Ah k (Gc g a)).bind λp=>
(Kj p.1 p.2.1 p.2.2.1.1 p.2.2.1.2.1 p.2.2.1.2.2.1 ac).bind λ(u,ad,ae,v,af,ag,w)=>
if(Bk w 0)then
some (([]:LU),w)
else
(Gd k (Gc g a) (ad,ae,(v,af,ag,()),())).bind λah=>
(SV u).bind λai=>
(Dk h ([ai]:LU)).bind λaj=>
oM (Aa g 1) ah aj
else
j12 h
def Ii:Nat->Int-> (List (Int×Int32×(Int×LX×LX×Unit)×Unit))->LU->Bh
|0,_,_,_=>none
|z+1,c,d,i=>Og Ot (Ii z) e D V c d i
def Mt b a f:=Ii b a f Cn
def Pf(j10:LX->Int->Int->Int-> (List (Int×Int32×(Int×LX×LX×Unit)×Unit))->LU->Bh)(a f:Int)(b:LX)(m:List (Int×Int32×(Int×LX×LX×Unit)×Unit)):Bh:=
j10 b a f 0 m ([]:LU)
def DO:=Pf Mt
def Pj(j9:Int->Int->LX-> (List (Int×Int32×(Int×LX×LX×Unit)×Unit))->Bh)(sY:Int-> (List (Int×Int32×(Int×LX×LX×Unit)×Unit))->Bh)(a f:Int)(n b:LX)(o:Int)(m:List (Int×Int32×(Int×LX×LX×Unit)×Unit)):Bh:=
if(Cl o 6)then
(HX f n).bind λ(ak,al,u,am,an,v)=>
(Ah m o).bind λ_=>
(Gd m o (ak,al,(u,am,an,()),())).bind λao=>
sY (Aa o 1) ao
else
j9 a f b m
def Jc:Nat->Int-> (List (Int×Int32×(Int×LX×LX×Unit)×Unit))->Bh
|0,_,_=>none
|c+1,i,j=>Pj DO (Jc c) z d e J i j
def GC a f n b:=Jc a f n b Cn
def Pr(j7:Int->Int->LX->LX->Int-> (List (Int×Int32×(Int×LX×LX×Unit)×Unit))->Bh)(a f:Int)(n y:LX):Bh:=
(AN a f y).bind λaa=>
if(Bk aa 0)then
some (([]:LU),aa)
else
(dN a y).bind λ(b,ab)=>
if(Bk ab 0)then
some (([]:LU),ab)
else
j7 a f n b 0 (List.replicate 6 ((0:Int),(0:Int32),((0:Int),(List.replicate 16 (0:Int32)),(List.replicate 16 (0:Int32)),()),()))
def Wo:=Pr GC
def DJ:Option (Int×Int×UInt64×UInt64):=
some (10,10,16384,16384)
abbrev De:=Option ((List (Int×Int×UInt64×UInt64×Unit)))
def FK(a:List (Int×Int×UInt64×UInt64×Unit)):De:=
some a
def Qe:=FK
def Qh(j6:(List (Int×Int×UInt64×UInt64×Unit))->De)(Zg:Int-> (List (Int×Int×UInt64×UInt64×Unit))->De)(b:Int)(a:List (Int×Int×UInt64×UInt64×Unit)):De:=
if(Cl b 6)then
(DJ).bind λ(f,g,h,k)=>
(Ah a b).bind λ_=>
(Gd a b (f,g,h,k,())).bind λm=>
Zg (Aa b 1) m
else
j6 a
def Iw:Nat->Int-> (List (Int×Int×UInt64×UInt64×Unit))->De
|0,_,_=>none
|q+1,b,a=>Qh Qe (Iw q) b a
def FL:=Iw Cn
def Pp(j4:Int-> (List (Int×Int×UInt64×UInt64×Unit))->De):De:=
j4 0 (List.replicate 6 ((0:Int),(0:Int),(0:UInt64),(0:UInt64),()))
def Xs:=Pp FL
def Ec:Option Int:=
if(((Cl z 0)||(Ez z 330000))||(Bk (Ac c) (eX (Aa z 7) (GI.toZ (3:UInt64)).toNat)))then
some 8
else
if(Ez (Dg z 7) 0)then
(Ah c (Ag (Ac c) 1)).bind λd=>
(Ds (Hi (Dg z 7) 0)).bind λ_=>
if(Bk (Bw d (GI.toZ (Dg z 7)).toNat) 0)then
some 8
else
some 0
else
some 0
def RP:Option Int:=
if(!((geq (Es (XQ z 0) 24) z)&&((geq (Es (XQ d 0) 24) d)&&((geq (Es j 68719476735) j)&&((geq (Es N 68719476735) N)&&true)))))then
some 8
else
some 0
def AD:=RP
def Qs(j4:Int->Int->UInt64->UInt64->Option Int)(a b:Int)(f g:UInt64):Option Int:=
(
(
j4 a b f g))
def BL:=Qs AD
def Qy(j3:Int->Int->UInt64->UInt64->Option Int)(a b:Int)(f g:UInt64):Option Int:=
(
(
j3 a b f g))
def CY:=Qy BL
def Tx(a f:Int)(g h:UInt64)(b:UInt32):Option (Int×UInt32):=
(Ds (Hi a 0)).bind λ_=>
if(geq (Bw b (GI.toZ a).toNat) 0)then
some (0,b)
else
(Ds (Hi a 0)).bind λ_=>
some (1,(Ag b (Er (1:UInt32) (GI.toZ a).toNat)))
def Cx:Option (LB):=
(
(Dk ([]:LB) c).bind λz=>
some z)
def HB:Option (LB×Int):=
(Cx c).bind λd=>
some (d,z)
abbrev Bm:=Option (LB×Int×Int)
def TV:Bm:=
some (C,z,0)
def EB:=TV
def VF(jI:UInt64->Int->Int->LB->Bm)(b:UInt64)(a:Int)(m:UInt64)(h f:Int)(w:LB):Bm:=
(Ds (Hi (Es h (Ag 8 (Dg f 7))) 0)).bind λ_=>
jI (Bw m (GI.toZ (Es h (Ag 8 (Dg f 7)))).toNat) (Ag h (Es h (Ag 8 (Dg f 7)))) (Aa f (Es h (Ag 8 (Dg f 7)))) w
def WA jI:=VF jI
def VG(j19:UInt64->Int->Int->LB->Bm)(b:UInt64)(a:Int)(m:UInt64)(h f:Int)(u:LB):Bm:=
(Ah u (Ag (Ac u) 1)).bind λ_=>
(Ds (Hi (Es h (Ag 8 (Dg f 7))) 0)).bind λ_=>
(Ds (Hi (Dg f 7) 0)).bind λ_=>
(Ah u (Ag (Ac u) 1)).bind λad=>
(Ah u (Ag (Ac u) 1)).bind λ_=>
Option.bind (Gd u (Ag (Ac u) 1) (fQ ad (Er (Ap (Dg m (Ag (Er (1:UInt64) (GI.toZ (Es h (Ag 8 (Dg f 7)))).toNat) 1)):UInt8) (GI.toZ (Dg f 7)).toNat))) λw=>
j19 m h f w
def EO jI b a:=VG (WA jI b a) b a
def ES(j18:UInt64->Int->Int->LB->Bm)(j21:Int->LB->Bm)(b:UInt64)(a:Int)(m:UInt64)(h f:Int)(o:LB):Bm:=
if(Ez h 0)then
if(geq (Dg f 7) 0)then
(Dk o ([(0:UInt8)]:LB)).bind λaa=>
j18 m h f aa
else
j18 m h f o
else
j21 f o
def Tk:Nat->UInt64->Int->Int->LB->Bm
|0,_,_,_,_=>none
|z+1,c,d,e,i=>ES (EO (Tk z) j F) EB j F c d e i
def VV b a:=Tk b a Cn
def UE:Bm:=
some (C,z,0)
def FU:=UE
def UX(jJ:UInt64->Int->Int->LB->Bm)(b:UInt64)(a:Int)(n:UInt64)(k g:Int)(ab:LB):Bm:=
(Ds (Hi (Es k (Ag 8 (Dg g 7))) 0)).bind λ_=>
jJ (Bw n (GI.toZ (Es k (Ag 8 (Dg g 7)))).toNat) (Ag k (Es k (Ag 8 (Dg g 7)))) (Aa g (Es k (Ag 8 (Dg g 7)))) ab
def UK jJ:=UX jJ
def UF(j26:UInt64->Int->Int->LB->Bm)(b:UInt64)(a:Int)(n:UInt64)(k g:Int)(v:LB):Bm:=
(Ah v (Ag (Ac v) 1)).bind λ_=>
(Ds (Hi (Es k (Ag 8 (Dg g 7))) 0)).bind λ_=>
(Ds (Hi (Dg g 7) 0)).bind λ_=>
(Ah v (Ag (Ac v) 1)).bind λae=>
(Ah v (Ag (Ac v) 1)).bind λ_=>
Option.bind (Gd v (Ag (Ac v) 1) (fQ ae (Er (Ap (Dg n (Ag (Er (1:UInt64) (GI.toZ (Es k (Ag 8 (Dg g 7)))).toNat) 1)):UInt8) (GI.toZ (Dg g 7)).toNat))) λab=>
j26 n k g ab
def FC jJ b a:=UF (UK jJ b a) b a
def DP(j25:UInt64->Int->Int->LB->Bm)(j28:Int->LB->Bm)(b:UInt64)(a:Int)(n:UInt64)(k g:Int)(p:LB):Bm:=
if(Ez k 0)then
if(geq (Dg g 7) 0)then
(Dk p ([(0:UInt8)]:LB)).bind λw=>
j25 n k g w
else
j25 n k g p
else
j28 g p
def Tq:Nat->UInt64->Int->Int->LB->Bm
|0,_,_,_,_=>none
|z+1,c,d,e,i=>DP (FC (Tq z) j F) FU j F c d e i
def UT b a:=Tq b a Cn
def IN(j15:UInt64->Int->UInt64->Int->Int->LB->Bm)(j22:UInt64->Int->UInt64->Int->Int->LB->Bm)(ac:LB)(y:Int)(b:UInt64)(a:Int):Bm:=
(Ec ac y).bind λaf=>
if(Bk af 0)then
some (([]:LB),0,8)
else
if((Cl a 0)||(Ez a 64))then
some (([]:LB),0,2)
else
if(Cl a 64)then
(Ds (Hi a 0)).bind λ_=>
if(Bk (Bw b (GI.toZ a).toNat) 0)then
some (([]:LB),0,16)
else
if(Ez (Aa y a) 330000)then
some (([]:LB),0,18)
else
(HB ac y).bind λ(ag,ah)=>
j15 b a b a ah ag
else
if(Ez (Aa y a) 330000)then
some (([]:LB),0,18)
else
(HB ac y).bind λ(aa,ai)=>
j22 b a b a ai aa
def Yc:=IN VV UT
def Uf:Option Bool:=
(Ds (Hi F 0)).bind λ_=>
some (Hi (Bw L (GI.toZ F).toNat) 48)
def FN:Option (Int×Int):=
if((Cl z 0)||(Ez z 48))then
some (0,2)
else
some ((Es (Aa z 1) 48),0)
def JH:Option (LB×Int×Int):=
(Ec c z).bind λe=>
if(Bk e 0)then
some (([]:LB),0,e)
else
(FN d).bind λ(i,j)=>
if(Bk j 0)then
some (([]:LB),0,j)
else
(Ds (Hi d 0)).bind λ_=>
(Yc c z (Ag (Er (1:UInt64) (GI.toZ d).toNat) 1) i).bind λ(A,B,C)=>
some (A,B,C)
abbrev Tg:=Option (LB×Int×Int)
def SJ:Tg:=
(JH c z d).bind λ(e,i,j)=>
if(Bk j 0)then
some (([]:LB),0,j)
else
(Yc e i (Ap L:UInt64) F).bind λ(A,B,C)=>
some (A,B,C)
def SE:=SJ
def RM(j2:LB->Int->Int->UInt32->Int->Tg)(b:LB)(f:Int)(g:UInt32)(a:Int):Tg:=
(Ec b f).bind λk=>
if(Bk k 0)then
some (([]:LB),0,k)
else
if((Cl a 0)||(Ez a 24))then
some (([]:LB),0,2)
else
(Ds (Hi a 0)).bind λ_=>
(Ds (Hi a 0)).bind λ_=>
(Uf g a).bind λaa=>
if aa then
j2 b f 48 g 32
else
j2 b f (Ap (Bw g (GI.toZ a).toNat):Int) (Dg g (Ag (Er (1:UInt32) (GI.toZ a).toNat) 1)) a
def OU:=RM SE
abbrev Cw:=Option (LB×Int×Int×Int×UInt64×UInt64×Int)
def Ou:Cw:=
(
(
some (R,z,d,i,(Aa j (Ag (Ap L:UInt64) (Bw j (GI.toZ (4:UInt64)).toNat))),N,0)))
def Yw:=Ou
def BB(j10:Int->Int->Int->UInt64->UInt32->UInt64->LB->Cw)(b:UInt32)(k n:Int)(a o:UInt64)(m:LB)(u:Int):Cw:=
j10 k u n a b o m
def SG:=BB Yw
def AH(j9:UInt32->Int->Int->UInt64->UInt64->LB->Int->Cw)(b:UInt32)(f:Int)(a:UInt64)(k:Int)(m:LB)(n:Int)(o:UInt64):Cw:=
if(Ez f 0)then
(Ds (Hi f 0)).bind λ_=>
if(Cl (Aa a (Ag (Ap b:UInt64) (Bw a (GI.toZ (4:UInt64)).toNat))) (Er (16:UInt64) (GI.toZ f).toNat))then
j9 b k n a o m (Ag f 1)
else
if(Cl f 24)then
(Ds (Hi f 0)).bind λ_=>
if(Ez (Aa a (Ag (Ap b:UInt64) (Bw a (GI.toZ (4:UInt64)).toNat))) (Er (32:UInt64) (GI.toZ f).toNat))then
j9 b k n a o m (Aa f 1)
else
j9 b k n a o m f
else
j9 b k n a o m f
else
if(Cl f 24)then
(Ds (Hi f 0)).bind λ_=>
if(Ez (Aa a (Ag (Ap b:UInt64) (Bw a (GI.toZ (4:UInt64)).toNat))) (Er (32:UInt64) (GI.toZ f).toNat))then
j9 b k n a o m (Aa f 1)
else
j9 b k n a o m f
else
j9 b k n a o m f
def AM:=AH SG
def AE(j8:UInt32->Int->UInt64->Int->LB->Int->UInt64->Cw)(b:UInt32)(f h:Int)(a g:UInt64)(ac k:Int)(m:LB):Cw:=
if(Bk ac 0)then
some (([]:LB),0,0,0,0,0,ac)
else
(Tx f h a g b).bind λ(ag,p)=>
if(geq ag 1)then
if(Ez h 0)then
(Ds (Hi h 0)).bind λ_=>
if(Cl (Aa g (Ag (Ap p:UInt64) (Bw g (GI.toZ (4:UInt64)).toNat))) (Er (16:UInt64) (GI.toZ h).toNat))then
j8 b f a k m (Ag h 1) (Aa g (Ag (Ap p:UInt64) (Bw g (GI.toZ (4:UInt64)).toNat)))
else
if(Cl h 24)then
(Ds (Hi h 0)).bind λ_=>
if(Ez (Aa g (Ag (Ap p:UInt64) (Bw g (GI.toZ (4:UInt64)).toNat))) (Er (32:UInt64) (GI.toZ h).toNat))then
j8 b f a k m (Aa h 1) (Aa g (Ag (Ap p:UInt64) (Bw g (GI.toZ (4:UInt64)).toNat)))
else
j8 b f a k m h (Aa g (Ag (Ap p:UInt64) (Bw g (GI.toZ (4:UInt64)).toNat)))
else
j8 b f a k m h (Aa g (Ag (Ap p:UInt64) (Bw g (GI.toZ (4:UInt64)).toNat)))
else
if(Cl h 24)then
(Ds (Hi h 0)).bind λ_=>
if(Ez (Aa g (Ag (Ap p:UInt64) (Bw g (GI.toZ (4:UInt64)).toNat))) (Er (32:UInt64) (GI.toZ h).toNat))then
j8 b f a k m (Aa h 1) (Aa g (Ag (Ap p:UInt64) (Bw g (GI.toZ (4:UInt64)).toNat)))
else
j8 b f a k m h (Aa g (Ag (Ap p:UInt64) (Bw g (GI.toZ (4:UInt64)).toNat)))
else
j8 b f a k m h (Aa g (Ag (Ap p:UInt64) (Bw g (GI.toZ (4:UInt64)).toNat)))
else
j8 b f a k m h g
def SD:=AE AM
def BI(j7:UInt32->Int->Int->UInt64->UInt64->Int->Int->LB->Cw)(b:UInt32)(v:LB)(w f h:Int)(a g:UInt64):Cw:=
(Tx f h a g b).bind λ(ad,ae)=>
(Yc v w (Ap ad:UInt64) 1).bind λ(y,aa,ab)=>
if((geq ab 0)&&(geq ad 0))then
(Yc y aa (Ap ae:UInt64) f).bind λ(ah,ai,aj)=>
j7 b f h a g aj ai ah
else
if(geq ab 0)then
(OU y aa ae h).bind λ(ak,al,am)=>
j7 b f h a g am al ak
else
j7 b f h a g ab aa y
def RN:=BI SD
def BO(j6:UInt32->LB->Int->Int->Int->UInt64->UInt64->Cw)(v:LB)(w f h:Int)(a g:UInt64)(b:UInt32):Cw:=
(Ec v w).bind λan=>
if(Bk an 0)then
some (([]:LB),0,0,0,0,0,8)
else
(CY f h a g).bind λao=>
if(Bk ao 0)then
some (([]:LB),0,0,0,0,0,8)
else
j6 b v w f h a g
def OB:=BO RN
abbrev Ax:=Option (UInt32×Int)
def ND:Ax:=
some (L,0)
def Wn:=ND
def Ym(j30:UInt32->Ax)(rM:UInt32->Int->Ax)(a:LB)(b:LU)(h:UInt32)(m:Int):Ax:=
if(Cl m (Ac a))then
(Ah a m).bind λp=>
(Ah b (GI.toZ (Zz (Ap h:UInt8) p))).bind λ_=>
(Ah b (GI.toZ (Zz (Ap h:UInt8) p))).bind λu=>
rM (Zz (Bw h (GI.toZ (8:UInt64)).toNat) u) (Aa m 1)
else
j30 h
def Nh:Nat->UInt32->Int->Ax
|0,_,_=>none
|z+1,d,e=>Ym Wn (Nh z) c O d e
def Xl a b:=Nh a b Cn
def Wy(j28:LB->LU->UInt32->Int->Ax)(f:UInt32)(a:LB)(b:LU):Ax:=
j28 a b f 0
def NF:=Wy Xl
def Wq(j27:UInt32->LB->LU->Ax)(f:UInt32)(a:LB)(b:LU):Ax:=
j27 f a b
def NV:=Wq NF
def MM(Dv:Int->LU->Ax)(f:UInt32)(a:LB)(g:Int)(o:LU):Ax:=
Dv (Aa g 1) o
def QM Dv:=MM Dv
def OE(j24:Int->LU->Ax)(f:UInt32)(a:LB)(g:Int)(k:UInt32)(b:LU):Ax:=
(Ah b g).bind λ_=>
(Gd b g k).bind λo=>
j24 g o
def Wx Dv f a:=OE (QM Dv f a) f a
def Wi(j23:Int->UInt32->LU->Ax)(Rn:UInt32->Int->Ax)(f:UInt32)(a:LB)(g:Int)(b:LU)(k:UInt32)(n:Int):Ax:=
if(Cl n 8)then
Rn (Zz (Bw k (GI.toZ (1:UInt64)).toNat) (Dm 3988292384 (Dg k 1))) (Aa n 1)
else
j23 g k b
def Ms(Dv:Int->LU->Ax)(f:UInt32)(a:LB)(g:Int)(b:LU):Nat->UInt32->Int->Ax
|0,_,_=>none
|q+1,k,n=>Wi (Wx Dv f a) (Ms Dv f a g b q) f a g b k n
def Vx Dv f a g b:=Ms Dv f a g b Cn
def Yn(j21:Int->LU->UInt32->Int->Ax)(j26:UInt32->LB->LU->Ax)(f:UInt32)(a:LB)(g:Int)(b:LU):Ax:=
if(Cl g 256)then
j21 g b (Ap g:UInt32) 0
else
j26 f a b
def Mq:Nat->Int->LU->Ax
|0,_,_=>none
|z+1,c,d=>Yn (Vx (Mq z) L R) NV L R c d
def MY f a:=Mq f a Cn
def AT(j16:UInt32->LB->Int->LU->Ax)(f:UInt32)(a:LB):Ax:=
if(Ez (Ac a) 100000)then
some (0,4)
else
j16 f a 0 (List.replicate 256 (0:UInt32))
def QY:=AT MY
def Jy:Option (UInt32×Int):=
(QY 4294967295 c).bind λ(z,d)=>
if(Bk d 0)then
some (0,d)
else
some ((iE z),0)
def dE:Option Bool:=
if(geq F 8)then
some true
else
(Ds (Hi (Dm 8 F) 0)).bind λ_=>
some (geq (Bw j (GI.toZ (Dm 8 F)).toNat) 0)
abbrev Im:=Option (LB×Int)
def YI:Im:=
some (c,0)
def IJ:=YI
def IS(j6:LB->Im)(Zg:Int->LB->Im)(f:UInt64)(g:LB)(a:Int)(b:LB):Im:=
if(Cl a (Ac g))then
(Ds (Hi (Dm 8 a) 0)).bind λ_=>
(Ah b a).bind λ_=>
(Gd b a (Ap (Bw f (GI.toZ (Dm 8 a)).toNat):UInt8)).bind λk=>
Zg (Aa a 1) k
else
j6 b
def Xt:Nat->Int->LB->Im
|0,_,_=>none
|z+1,c,d=>IS IJ (Xt z) j R c d
def YK f g:=Xt f g Cn
def IZ(j4:UInt64->LB->Int->LB->Im)(f:UInt64)(h:Int):Im:=
if((Cl h 1)||(Ez h 8))then
some (([]:LB),2)
else
(dE f h).bind λm=>
if(!m)then
some (([]:LB),16)
else
(fR h (0:UInt8)).bind λg=>
(Ds (geq h h)).bind λ_=>
j4 f g 0 g
def Kq:=IZ YK
def Mf:Option (LB):=
some c
def Ft:=Mf
def Fu(j16:LB->Option (LB))(RJ:Int->LB->Option (LB))(a:List LB)(g:Int)(f:LB):Option (LB):=
if(Cl g (Ac a))then
(Ah a g).bind λn=>
(Dk f n).bind λo=>
RJ (Aa g 1) o
else
j16 f
def Du:Nat->Int->LB->Option (LB)
|0,_,_=>none
|z+1,c,d=>Fu Ft (Du z) U c d
def Fs a:=Du a Cn
def Fv(j14:(List LB)->Int->LB->Option (LB))(a:List LB)(p:LB):Option (LB):=
j14 a 0 p
def Mb:=Fv Fs
def Fz(j13:(List LB)->LB->Option (LB))(b:Int)(a:List LB):Option (LB):=
if(Ez (Ag b (Ag (0:Int) (0:Int))) 0)then
(HH 0 0 0).bind λ_=>
(fR (Ag b (Ag (0:Int) (0:Int))) (0:UInt8)).bind λu=>
(Dk ([]:LB) u).bind λk=>
(HH (Ac k) 0 0).bind λ_=>
j13 a (Pc k 0 ((0:Int)-(0:Int)))
else
j13 a ([]:LB)
def Mc:=Fz Mb
def Fw(j12:Int-> (List LB)->Option (LB))(a:List LB)(b:Int):Option (LB):=
if(Cl b 0)then
none
else
j12 b a
def Md:=Fw Mc
def Gh(j11:(List LB)->Int->Option (LB))(oK:Int->Int->Option (LB))(a:List LB)(b h:Int):Option (LB):=
if(Cl h (Ac a))then
(Ah a h).bind λm=>
if(Cl (Aa b (Ac m)) 0)then
none
else
oK (Aa b (Ac m)) (Aa h 1)
else
j11 a b
def Eb:Nat->Int->Int->Option (LB)
|0,_,_=>none
|z+1,c,d=>Gh Md (Eb z) U c d
def Mw a:=Eb a Cn
def Gp(j9:(List LB)->Int->Int->Option (LB))(a:List LB):Option (LB):=
j9 a 0 0
def Iv:=Gp Mw
abbrev Aq:=Option (LB×Int)
def CT(v:Int)(p:LB):Aq:=
(Jy p).bind λ(af,ac)=>
if(Bk ac 0)then
some (([]:LB),ac)
else
(Kq (Ap af:UInt64) 4).bind λ(m,h)=>
if(Bk h 0)then
some (([]:LB),h)
else
(Iv ([p,m]:List LB)).bind λag=>
some (ag,0)
def Nq:=CT
def CG(Uk:Int-> (List (Int×Int×UInt64×UInt64×Unit))->Int->LB->Aq)(b:LU)(a g f:Int)(n:List (Int×Int×UInt64×UInt64×Unit))(k:Int)(w:LB):Aq:=
Uk (Aa f 1) n k w
def On Uk:=CG Uk
def DE(RK:Int->Int->LB->Aq)(h:Int)(b:LU)(f a g:Int)(n:List (Int×Int×UInt64×UInt64×Unit))(m:LB)(o k:Int)(ab:LB):Aq:=
RK (Aa o 1) (Aa k 1) ab
def CJ RK:=DE RK
def BY(j48:Int->Int->LB->Aq)(h:Int)(b:LU)(f a g:Int)(n:List (Int×Int×UInt64×UInt64×Unit))(m:LB)(o k:Int)(y:LB):Aq:=
(Ah m (Gs o 8)).bind λ_=>
(Ah m (Gs o 8)).bind λah=>
(Ds (Hi (Gc o 8) 0)).bind λ_=>
(Ah y (Gs k 8)).bind λ_=>
(Ds (Hi (Gc k 8) 0)).bind λ_=>
(Ah y (Gs k 8)).bind λai=>
(Ah y (Gs k 8)).bind λ_=>
Option.bind (Gd y (Gs k 8) (fQ ai (Er (Dg (Bw ah (GI.toZ (Gc o 8)).toNat) 1) (GI.toZ (Gc k 8)).toNat))) λab=>
j48 o k ab
def Nd RK h b f a g n m:=BY (CJ RK h b f a g n m) h b f a g n m
def Ok(j47:Int->Int->LB->Aq)(j50:Int-> (List (Int×Int×UInt64×UInt64×Unit))->Int->LB->Aq)(b:LU)(a g h f:Int)(n:List (Int×Int×UInt64×UInt64×Unit))(m:LB)(o k:Int)(w:LB):Aq:=
if(Cl o h)then
if(geq (Gc k 8) 0)then
(Dk w ([(0:UInt8)]:LB)).bind λaj=>
j47 o k aj
else
j47 o k w
else
j50 f n k w
def Ik(Uk:Int-> (List (Int×Int×UInt64×UInt64×Unit))->Int->LB->Aq)(b:LU)(a g h f:Int)(n:List (Int×Int×UInt64×UInt64×Unit))(m:LB):Nat->Int->Int->LB->Aq
|0,_,_,_=>none
|q+1,o,k,w=>Ok (Nd (Ik Uk b a g h f n m q) h b f a g n m) (On Uk b a g) b a g h f n m o k w
def Nr Uk b a g h f n m:=Ik Uk b a g h f n m Cn
def Nu(j44:Int->Int-> (List (Int×Int×UInt64×UInt64×Unit))->LB->Int->Int->LB->Aq)(j52:Int->LB->Aq)(b:LU)(a g f:Int)(u:List (Int×Int×UInt64×UInt64×Unit))(v:Int)(p:LB):Aq:=
if(Cl f (Ac b))then
(Ah b f).bind λ_=>
(Ah b f).bind λak=>
(Ds (Bk a 0)).bind λ_=>
(Ah u (Gc f a)).bind λ_=>
(Ah u (Gc f a)).bind λaa=>
(OB ([]:LB) 0 aa.1 aa.2.1 aa.2.2.1 aa.2.2.2.1 ak).bind λ(m,h,al,am,an,ao,ad)=>
if(Bk ad 0)then
some (([]:LB),ad)
else
(Ds (Bk a 0)).bind λ_=>
(Ah u (Gc f a)).bind λ_=>
(Gd u (Gc f a) (al,am,an,ao,())).bind λn=>
j44 h f n m 0 v p
else
j52 v p
def Ij:Nat->Int-> (List (Int×Int×UInt64×UInt64×Unit))->Int->LB->Aq
|0,_,_,_,_=>none
|z+1,c,d,e,i=>Nu (Nr (Ij z) O Z cu) Nq O Z cu c d e i
def BT b a g:=Ij b a g Cn
def Pm(j27:LU->Int->Int->Int-> (List (Int×Int×UInt64×UInt64×Unit))->Int->LB->Aq)(a g:Int)(ap aq:LX):Aq:=
(Wo a g ap aq).bind λ(b,ae)=>
if(Bk ae 0)then
some (([]:LB),ae)
else
(Xs).bind λar=>
j27 b a g 0 ar 0 ([]:LB)
def Jm:=Pm BT
def Gt(a:Int)(b:LX):LI->Int->Option (List LX)
  |[],_=>some []
  |n::l,x=>Option.bind (Ee b x (Aa x (Dm n a))) λp=>Option.bind (Gt a b l (Aa x (Dm n a))) λps=>some (p::ps)
def Kn(a f:Int)(t:LX):List LX->List LB->Option (List LB×Int)
  |[],o=>some (o,0)
  |x::xs,o=>Option.bind (Jm a f t x) λy=>
    if(Bk y.2 0)=true then some ([],y.2)
    else Option.bind (Dk o [y.1]) λo'=>Kn a f t xs o'
def Yj:Option (List LX):=
  Option.bind (Ds (Bk z 0)) λ_=>Option.bind (Kt d (Gs (Ac e) z)) λc=>Option.bind (Ds (decide (Ac c.1<=17179869184))) λ_=>Gt z e c.1 0
def Wt:Option (List LB×Int):=
  Option.bind (Jv z d i e) λc=>
    if(Bk c 0)=true then some ([],c)
    else Option.bind (Mg C) λj=>
      if(Bk j.2 0)=true then some ([],j.2)
      else Option.bind (Yj z i e) λA=>Kn z d j.1 A []
def GY(b f a g h:Int):Option Bool:=
some (((((((geq b 1)||(geq b 2))&&(Ez f 0))&&(mM f 6))&&(Ez g 0))&&(mM g 1048576))&&(Ez h 0))
def HF:=GY
def GN(j2:Int->Int->Int->Int->Int->Option Bool)(b f a g h:Int):Option Bool:=
if(geq a 8)then
if(geq a 8)then
j2 b f a g h
else
some false
else
if(geq a 16)then
if(geq a 16)then
j2 b f a g h
else
some false
else
if(geq a 24)then
j2 b f a g h
else
some false
def Qm:=GN HF
def Yp(k a m f b:Int):Option Bool:=
(Ds (Bk a 0)).bind λ_=>
if(Ez b (Gs 4000 a))then
some false
else
(Kk f b).bind λ(g,h)=>
some ((geq h 0)&&(mM g 1000))
def Te:Option Int:=
(Qm z d i E I).bind λc=>
if(!c)then
some 8
else
(Yp z d i E I).bind λe=>
if(!e)then
some 8
else
some 0
abbrev Ea:=Option (LB×Int)
def KC:Ea:=
(Jy c).bind λ(z,d)=>
(Kq (Ap z:UInt64) 4).bind λ(e,i)=>
(Dk c e).bind λj=>
some (j,0)
def Vi:=KC
def Vg(j6:LB->Ea)(Zg:Int->LB->Ea)(b f g h k m:Int)(a:LB):Ea:=
if(Cl m 5)then
(Ah ([b,f,g,h,k]:LI) m).bind λw=>
(Ah ([(2:Int),(2:Int),(2:Int),(4:Int),(4:Int)]:LI) m).bind λy=>
(Kq (Ap w:UInt64) y).bind λ(n,v)=>
(Dk a n).bind λo=>
Zg (Aa m 1) o
else
j6 a
def Li:Nat->Int->LB->Ea
|0,_,_=>none
|c+1,e,j=>Vg Vi (Li c) z d i E I e j
def KI b f g h k:=Li b f g h k Cn
def Vm(j4:Int->Int->Int->Int->Int->Int->LB->Ea)(b f g h k:Int):Ea:=
(Te b f g h k).bind λp=>
if(Bk p 0)then
some (([]:LB),p)
else
j4 b f g h k 0 ([(84:UInt8),(84:UInt8),(65:UInt8),(49:UInt8)]:LB)
def EY:=Vm KI
def TD:Option (UInt64×Int):=
if(Ez (Ac c) 64)then
some (0,2)
else
(HC c).bind λ(z,d)=>
some (z,0)
def Tw:Option (LB×Int):=
(TD c).bind λ(z,d)=>
if(Bk d 0)then
some (([]:LB),d)
else
(Kq z 8).bind λ(e,i)=>
some (e,i)
def PU:Option Int:=
some 0
def Zf:=PU
def Za(j6:Option Int)(Zg:Int->Int->Option Int)(a:LI)(f b:Int):Option Int:=
if(Cl b (Ac a))then
(Ah a b).bind λg=>
if((Cl g 5)||(Ez g f))then
some 8
else
Zg (Ag f g) (Aa b 1)
else
j6
def Nj:Nat->Int->Int->Option Int
|0,_,_=>none
|z+1,c,d=>Za Zf (Nj z) A c d
def OZ a:=Nj a Cn
def Ye(j4:LI->Int->Int->Option Int)(a:LI):Option Int:=
if((geq (Ac a) 0)||(Ez (Ac a) 1000))then
some 8
else
j4 a 100000 0
def Qg:=Ye OZ
abbrev Ck:=Option (LB×Int)
def JY:Ck:=
some (c,0)
def KL:=JY
def KE(j14:LB->Ck)(b:LB):Ck:=
(Jy b).bind λ(m,u)=>
(Kq (Ap m:UInt64) 4).bind λ(n,v)=>
(Dk b n).bind λg=>
j14 g
def Uo:=KE KL
def KR(dV:Int->LB->Ck)(a:LI)(f:Int)(h:LB):Ck:=
dV (Aa f 1) h
def Uv dV:=KR dV
def Yz(j11:Int->LB->Ck)(j13:LB->Ck)(a:LI)(f:Int)(b:LB):Ck:=
if(Cl f (Ac a))then
(Ah a f).bind λo=>
(Kq (Ap o:UInt64) 4).bind λ(p,w)=>
(Dk b p).bind λh=>
j11 f h
else
j13 b
def Mm:Nat->Int->LB->Ck
|0,_,_=>none
|z+1,c,d=>Yz (Uv (Mm z) A) Uo A c d
def QS a:=Mm a Cn
def Wp(j8:LI->Int->LB->Ck)(a:LI):Ck:=
(Qg a).bind λk=>
if(Bk k 0)then
some (([]:LB),k)
else
j8 a 0 ([]:LB)
def JL:=Wp QS
def AP:Option Int:=
some (Ac c)
def NS:Option (LB):=
some c
def Ys:=NS
def Xv(j6:LB->Option (LB))(Zg:Int->LB->Option (LB))(a:List LB)(f:Int)(b:LB):Option (LB):=
if(Cl f (Ac a))then
(Ah a f).bind λg=>
(Dk b g).bind λh=>
Zg (Aa f 1) h
else
j6 b
def Oi:Nat->Int->LB->Option (LB)
|0,_,_=>none
|z+1,c,d=>Xv Ys (Oi z) U c d
def PN a:=Oi a Cn
def Wr(j4:(List LB)->Int->LB->Option (LB))(a:List LB):Option (LB):=
j4 a 0 ([]:LB)
def JN:=Wr PN
abbrev Bq:=Option (LB×Int)
def JU:Bq:=
if(Bk z 0)then
some (([]:LB),z)
else
(Dk ([fu,gq,jv]:List LB) U).bind λc=>
(JN c).bind λd=>
some (d,0)
def KT:=JU
def JX(j14:Int-> (List LB)->LB->LB->LB->Bq)(h:LI)(a:List LB)(b f:LB):Bq:=
(JL h).bind λ(n,k)=>
j14 k a b f n
def Vj:=JX KT
def JS(oK:Int->LI->Bq)(a:List LB)(b f:LB)(g:Int)(m:LI):Bq:=
oK (Aa g 1) m
def Uu oK:=JS oK
def Xp(j11:Int->LI->Bq)(j13:LI-> (List LB)->LB->LB->Bq)(a:List LB)(b f:LB)(g:Int)(h:LI):Bq:=
if(Cl g (Ac a))then
(Ah a g).bind λ_=>
(Ah a g).bind λae=>
(AP ae).bind λk=>
(Ah h g).bind λ_=>
(Gd h g k).bind λm=>
j11 g m
else
j13 h a b f
def Ny:Nat->Int->LI->Bq
|0,_,_=>none
|z+1,c,d=>Xp (Uu (Ny z) U fu gq) Vj U fu gq c d
def QB a b f:=Ny a b f Cn
def Vy(j9:(List LB)->LB->LB->Int->LI->Bq)(a:List LB)(b f:LB):Bq:=
(fR (Ac a) (0:Int)).bind λaf=>
(Ds (geq (Ac a) (Ac a))).bind λ_=>
j9 a b f 0 af
def NP:=Vy QB
def Wh(j8:(List LB)->LB->LB->Bq)(p u v:Int)(w:LX)(o:LB):Bq:=
(JF p u v w o).bind λ(y,ag,ah,ai,aj,aa)=>
if(Bk aa 0)then
some (([]:LB),aa)
else
(Wt p u v w o).bind λ(a,ab)=>
if(Bk ab 0)then
some (([]:LB),ab)
else
(EY y ag ah ai aj).bind λ(b,ac)=>
if(Bk ac 0)then
some (([]:LB),ac)
else
if(geq y 2)then
(Tw o).bind λ(ak,al)=>
j8 a b ak
else
j8 a b ([]:LB)
def JJ:=Wh NP
def Ih:Option (LB×Bool):=
(JJ 1 8 1 ([(1:Int32),(2:Int32),(3:Int32)]:LX) ([]:LB)).bind λ(a,b)=>
if((Bk b 0)||(Bk (Ac a) 56))then
some (([]:LB),false)
else
(Ah a 45).bind λ_=>
(Ah a 45).bind λf=>
(Ah a 45).bind λ_=>
(Gd a 45 (Zz f 1)).bind λg=>
some (g,true)
def Gn:Option Bool:=
some (c==G)
def Fi:Option Bool:=
if(Hi (Ac c) (Ac G))then
(Ee c 0 (Ac G)).bind λz=>
(Gn z G).bind λd=>
some d
else
some false
abbrev Dq:=Option (Int×Int)
def HA:Dq:=
some (z,0)
def Sm:=HA
def Rt(j6:Int->Dq)(Zg:Int->Int->Dq)(a:LB)(b f:Int):Dq:=
if(Cl f (Ac a))then
(Ah a f).bind λg=>
if(Ez g 127)then
some (0,12)
else
Zg (fQ (Er b (GI.toZ (7:UInt64)).toNat) (Ap g:Int)) (Aa f 1)
else
j6 b
def Jw:Nat->Int->Int->Dq
|0,_,_=>none
|z+1,d,e=>Rt Sm (Jw z) c d e
def GF a:=Jw a Cn
def Sk(j4:LB->Int->Int->Dq)(a:LB):Dq:=
if(Bk (Ac a) 4)then
some (0,2)
else
j4 a 0 0
def AV:=Sk GF
abbrev Cv:=Option (Int×Int)
def KG:Cv:=
if(Ez dw 4000)then
some (0,4)
else
if(Cl (Ac c) dw)then
some (0,24)
else
if(geq jy 16)then
(Ee c (Ag dw 10) dw).bind λz=>
(Ee z 0 3).bind λd=>
if(d !=([51,68,73]:LB))then
some (0,12)
else
(Ee z 3 (Ac z)).bind λe=>
(Ee c 3 10).bind λi=>
(Gn e i).bind λj=>
if(!j)then
some (0,12)
else
some (dw,0)
else
some (dw,0)
def KD:=KG
def KM(j8:LB->UInt8->Int->Cv)(a:LB)(g:Int)(b:UInt8):Cv:=
if(geq b 16)then
j8 a b (Aa (Aa g 10) 10)
else
j8 a b (Aa g 10)
def KV:=KM KD
def JT(j7:LB->Int->UInt8->Cv)(a:LB)(g:Int)(b:UInt8)(m:Bool):Cv:=
if m then
some (0,12)
else
j7 a g b
def Um:=JT KV
def Vk(j6:LB->Int->UInt8->Bool->Cv)(a:LB)(f b:UInt8):Cv:=
(Ee a 6 10).bind λaa=>
(AV aa).bind λ(g,ab)=>
if(Bk ab 0)then
if true then
j6 a g b true
else
if(geq b 0)then
j6 a g b (!((Hi f 2)&&(mM f 4)))
else
if(geq b 16)then
j6 a g b (!(geq f 4))
else
j6 a g b (!false)
else
(Ah a 4).bind λac=>
if(Bk ac 0)then
j6 a g b true
else
if(geq b 0)then
j6 a g b (!((Hi f 2)&&(mM f 4)))
else
if(geq b 16)then
j6 a g b (!(geq f 4))
else
j6 a g b (!false)
def Ur:=Vk Um
def Lj(j5:LB->UInt8->UInt8->Cv)(a:LB):Cv:=
(Fi a ([(73:UInt8),(68:UInt8),(51:UInt8)]:LB)).bind λn=>
if(!n)then
some (0,6)
else
if(Cl (Ac a) 10)then
some (0,24)
else
(Ah a 3).bind λf=>
(Ah a 5).bind λb=>
(
(
(
j5 a f b)))
def DS:=Lj Ur
abbrev Io:=Option (UInt64×Int)
def XB:Io:=
some (j,0)
def IQ:=XB
def IX(j6:UInt64->Io)(Zg:UInt64->Int->Io)(a:LB)(f:UInt64)(b:Int):Io:=
if(Cl b (Ac a))then
(Ah a b).bind λg=>
(Ds (Hi (Dm 8 b) 0)).bind λ_=>
Zg (fQ f (Er (Ap g:UInt64) (GI.toZ (Dm 8 b)).toNat)) (Aa b 1)
else
j6 f
def Vw:Nat->UInt64->Int->Io
|0,_,_=>none
|z+1,d,e=>IX IQ (Vw z) c d e
def YP a:=Vw a Cn
def JQ(j4:LB->UInt64->Int->Io)(a:LB):Io:=
if((Cl (Ac a) 1)||(Ez (Ac a) 8))then
some (0,2)
else
j4 a 0 0
def NC:=JQ YP
def QF:Option (UInt64×Int):=
if(((Cl d 1)||(Ez d 8))||(Cl z 0))then
some (0,2)
else
if(Ez z (Ag (Ac c) d))then
some (0,24)
else
(Ee c z (Aa z d)).bind λe=>
(NC e).bind λ(i,j)=>
some (i,j)
def aU:Option (LB):=
some c
def OH:=aU
def ON(j6:LB->Option (LB))(Zg:Int->LB->Option (LB))(a b:Int)(f:UInt64)(h:Int)(g:LB):Option (LB):=
if(Cl h (Ac ([(2000:UInt64),(Ap (Aa a 32):UInt64),(Ap b:UInt64),f,(0:UInt64),(0:UInt64)]:LQ)))then
(Ah ([(2000:UInt64),(Ap (Aa a 32):UInt64),(Ap b:UInt64),f,(0:UInt64),(0:UInt64)]:LQ) h).bind λ_=>
(Ah ([(2000:UInt64),(Ap (Aa a 32):UInt64),(Ap b:UInt64),f,(0:UInt64),(0:UInt64)]:LQ) h).bind λk=>
(Kq k 4).bind λ(m,o)=>
(Dk g m).bind λn=>
Zg (Aa h 1) n
else
j6 g
def DI:Nat->Int->LB->Option (LB)
|0,_,_=>none
|c+1,e,i=>ON OH (DI c) z d j e i
def aJ a b f:=DI a b f Cn
def QN(j4:Int->Int->UInt64->Int->LB->Option (LB))(a b:Int)(f:UInt64):Option (LB):=
j4 a b f 0 ([(65:UInt8),(80:UInt8),(69:UInt8),(84:UInt8),(65:UInt8),(71:UInt8),(69:UInt8),(88:UInt8)]:LB)
def LA:=QN aJ
def Zl:Option (Int×Int×Bool):=
(QF c 12 4).bind λ(z,d)=>
(QF c 16 4).bind λ(e,i)=>
if(((Cl z 32)||(Ez z 3032))||(Ez e 1000))then
some (0,0,false)
else
(LA (Ag (Ap z:Int) 32) (Ap e:Int) j).bind λA=>
(Gn c A).bind λB=>
some ((Ag (Ap z:Int) 32),(Ap e:Int),B)
def TC:Option (Int×Int):=
(Fi c ([(65:UInt8),(80:UInt8),(69:UInt8),(84:UInt8),(65:UInt8),(71:UInt8),(69:UInt8),(88:UInt8)]:LB)).bind λz=>
if(!z)then
some (0,6)
else
if(Cl (Ac c) 32)then
some (0,24)
else
(Ee c 0 32).bind λd=>
(Zl d 2684354560).bind λ(e,i,j)=>
if(!j)then
some (0,12)
else
if(Cl (Ac c) (Aa e 64))then
some (0,24)
else
(Ee c (Ag (Aa e 64) 32) (Aa e 64)).bind λA=>
(LA e i 2147483648).bind λB=>
(Gn A B).bind λC=>
if(!C)then
some (0,12)
else
some ((Aa e 64),0)
def Kb:Option (Int×Int):=
(DS c).bind λ(z,d)=>
if(Bk d 6)then
some (z,d)
else
(TC c).bind λ(e,i)=>
some (e,i)
def Km(b:List UInt8):Nat->Int->Option (Int×Int)
  |0,_=>none
  |q+1,x=>Option.bind (Ee b x (Ac b)) λs=>Option.bind (Kb s) λr=>
    if geq r.2 (6:Int)=true then some (x,0)
    else if(geq r.2 (0:Int)&&Ez (Aa x r.1) (4000:Int))=true then some (0,4)
    else if Bk r.2 (0:Int)=true then some (0,r.2)
    else Km b q (Aa x r.1)
def It(b:List UInt8):Option (Int×Int):=Km b Cn 0
def Ev:Option Bool:=
if(Hi (Ac c) (Ac G))then
(Ee c 0 (Ac G)).bind λz=>
some (z==G)
else
some false
def Ph:Option Bool:=
(Ev c G).bind λz=>
some z
abbrev Eo:=Option (Int×Int×Int×Int×Int×Int)
def QW:Eo:=
(Ah A 0).bind λ_=>
(Ah A 0).bind λz=>
(Ah A 1).bind λ_=>
(Ah A 1).bind λc=>
(Ah A 2).bind λ_=>
(Ah A 2).bind λd=>
(Ah A 3).bind λ_=>
(Ah A 3).bind λe=>
(Ah A 4).bind λ_=>
(Ah A 4).bind λi=>
(Qm z c d e i).bind λj=>
if(!j)then
some (0,0,0,0,0,12)
else
(Yp z c d e i).bind λB=>
if(!B)then
some (0,0,0,0,0,4)
else
some (z,c,d,e,i,0)
def Wc:=QW
def We(j6:LI->Eo)(Zg:Int->Int->LI->Eo)(b:LB)(g f:Int)(a:LI):Eo:=
if(Cl f 5)then
(Ah ([(2:Int),(2:Int),(2:Int),(4:Int),(4:Int)]:LI) f).bind λh=>
(QF b g h).bind λ(v,ae)=>
(Ah a f).bind λ_=>
(Gd a f (Ap v:Int)).bind λw=>
Zg (Aa g h) (Aa f 1) w
else
j6 a
def Mp:Nat->Int->Int->LI->Eo
|0,_,_,_=>none
|z+1,d,e,i=>We Wc (Mp z) c d e i
def NK b:=Mp b Cn
def Yh(j4:LB->Int->Int->LI->Eo)(b:LB):Eo:=
(Ee b 0 (Es 4 (Ac b))).bind λy=>
(Ph ([84,84,65,49]:LB) y).bind λaa=>
if(!aa)then
some (0,0,0,0,0,12)
else
if(Cl (Ac b) 22)then
some (0,0,0,0,0,24)
else
(QF b 18 4).bind λ(ab,af)=>
(Ee b 0 18).bind λac=>
(Jy ac).bind λ(ad,ag)=>
if(Bk (Ap ad:UInt64) ab)then
some (0,0,0,0,0,22)
else
j4 b 4 0 (List.replicate 5 (0:Int))
def Wv:=Yh NK
def Fk:Option (LI×Int):=
(Te z d i E I).bind λc=>
if(Bk c 0)then
some (([]:LI),c)
else
(Kt E I).bind λ(e,j)=>
some (e,j)
def IB:Option (Int×Int×Int×Int×Int×Int×Int×Int×Int×Int×LI×Int):=
if(Ez (Ac c) 100000)then
some (0,0,0,0,0,0,0,0,0,0,([]:LI),4)
else
(It c).bind λ(z,d)=>
if(Bk d 0)then
some (0,0,0,0,0,0,0,0,0,0,([]:LI),d)
else
(Ee c z (Ac c)).bind λe=>
(Wv e).bind λ(i,j,A,B,C,D)=>
if(Bk D 0)then
some (i,j,A,B,C,0,0,0,0,0,([]:LI),D)
else
(Fk i j A B C).bind λ(E,F)=>
if(geq i 2)then
some (i,j,A,B,C,z,(Aa z 22),(Aa (Aa z 22) 8),0,0,E,0)
else
some (i,j,A,B,C,z,(Aa z 22),(Aa z 22),0,0,E,0)
def Uc:Option (Bool×Int):=
(Tw G).bind λ(z,d)=>
if((Bk d 0)||(Bk (Ac c) (Ac z)))then
some (false,2)
else
(Gn c z).bind λe=>
some (e,0)
abbrev Fe:=Option (LI×Int)
def SL:Fe:=
(Qg A).bind λz=>
if(Bk z 0)then
some (([]:LI),12)
else
some (A,0)
def AG:=SL
def AU(j6:LI->Fe)(Zg:Int->LI->Fe)(a:LB)(f:LI)(g:Int)(b:LI):Fe:=
if(Cl g (Ac f))then
(QF a (Dm 4 g) 4).bind λ(k,u)=>
(Ah b g).bind λ_=>
(Gd b g (Ap k:Int)).bind λm=>
Zg (Aa g 1) m
else
j6 b
def Qx:Nat->Int->LI->Fe
|0,_,_=>none
|z+1,d,e=>AU AG (Qx z) c A d e
def RY a f:=Qx a f Cn
def BM(j4:LB->LI->Int->LI->Fe)(a:LB)(h:Int):Fe:=
if((Cl h 1)||(Ez h 1000))then
some (([]:LI),2)
else
if(Cl (Ac a) (Aa (Dm 4 h) 4))then
some (([]:LI),24)
else
(QF a (Dm 4 h) 4).bind λ(n,v)=>
(Ee a 0 (Dm 4 h)).bind λo=>
(Jy o).bind λ(p,w)=>
if(Bk (Ap p:UInt64) n)then
some (([]:LI),22)
else
(fR h (0:Int)).bind λf=>
(Ds (geq h h)).bind λ_=>
j4 a f 0 f
def CK:=BM RY
def Xn:Option (LB×Int):=
if(Cl (Ac c) 5)then
some (([]:LB),24)
else
if(Ez (Ac c) 41254)then
some (([]:LB),4)
else
(Ee c 0 (Ag (Ac c) 4)).bind λz=>
(Jy z).bind λ(d,e)=>
if(Bk e 0)then
some (([]:LB),e)
else
(Ee c (Ag (Ac c) 4) (Ac c)).bind λi=>
(NC i).bind λ(j,A)=>
if((Bk A 0)||(Bk j (Ap d:UInt64)))then
some (([]:LB),22)
else
(Ee c 0 (Ag (Ac c) 4)).bind λB=>
some (B,0)
def dG:Option (LB×Int×Int):=
if(Ez (Ac c) 41250)then
some (([]:LB),0,4)
else
(Cx c).bind λz=>
some (z,(Dm 8 (Ac c)),0)
def ZL:Option UInt64:=
some j
def JE:=ZL
def JB(j6:UInt64->Option UInt64)(Zg:UInt64->Int->Option UInt64)(b f:Int)(h:LB)(k:Int)(g:UInt64)(a:Int):Option UInt64:=
if(Cl a f)then
(Ah h (eX (Aa b a) (GI.toZ (3:UInt64)).toNat)).bind λm=>
(Ds (Hi (Dg (Aa b a) 7) 0)).bind λ_=>
(Ds (Hi (Es (Ag f a) (Ag 8 (Dg (Aa b a) 7))) 0)).bind λ_=>
(Ds (Hi a 0)).bind λ_=>
Zg (fQ g (Er (Ap (Dg (Bw m (GI.toZ (Dg (Aa b a) 7)).toNat) (Ag (Er (1:UInt8) (GI.toZ (Es (Ag f a) (Ag 8 (Dg (Aa b a) 7)))).toNat) 1)):UInt64) (GI.toZ a).toNat)) (Aa a (Es (Ag f a) (Ag 8 (Dg (Aa b a) 7))))
else
j6 g
def Xo:Nat->UInt64->Int->Option UInt64
|0,_,_=>none
|c+1,e,i=>JB JE (Xo c) z d C D e i
def XT b f h k:=Xo b f h k Cn
def IG(j4:Int->Int->LB->Int->UInt64->Int->Option UInt64)(h:LB)(k b f:Int):Option UInt64:=
j4 b f h k 0 0
def QI:=IG XT
abbrev Bt:=Option (LB×Int×Int)
def VS:Bt:=
some (C,z,0)
def EE:=VS
def UO(Uk:Int->Int->LB->Bt)(a:Int)(g:LB)(b f h:Int)(u:LB):Bt:=
Uk (Aa f 64) h u
def DM Uk:=UO Uk
def UP(RK:UInt64->Int->Int->LB->Bt)(a f:Int)(g:LB)(b:Int)(m n:UInt64)(k h:Int)(w:LB):Bt:=
(Ds (Hi (Es k (Ag 8 (Dg h 7))) 0)).bind λ_=>
RK (Bw n (GI.toZ (Es k (Ag 8 (Dg h 7)))).toNat) (Ag k (Es k (Ag 8 (Dg h 7)))) (Aa h (Es k (Ag 8 (Dg h 7)))) w
def VJ RK:=UP RK
def WK(j48:UInt64->Int->Int->LB->Bt)(a f:Int)(g:LB)(b:Int)(m n:UInt64)(k h:Int)(v:LB):Bt:=
(Ah v (Ag (Ac v) 1)).bind λ_=>
(Ds (Hi (Es k (Ag 8 (Dg h 7))) 0)).bind λ_=>
(Ds (Hi (Dg h 7) 0)).bind λ_=>
(Ah v (Ag (Ac v) 1)).bind λaa=>
(Ah v (Ag (Ac v) 1)).bind λ_=>
Option.bind (Gd v (Ag (Ac v) 1) (fQ aa (Er (Ap (Dg n (Ag (Er (1:UInt64) (GI.toZ (Es k (Ag 8 (Dg h 7)))).toNat) 1)):UInt8) (GI.toZ (Dg h 7)).toNat))) λw=>
j48 n k h w
def EW RK a f g b m:=WK (VJ RK a f g b m) a f g b m
def EK(j47:UInt64->Int->Int->LB->Bt)(j50:Int->Int->LB->Bt)(a:Int)(g:LB)(b f:Int)(m n:UInt64)(k h:Int)(u:LB):Bt:=
if(Ez k 0)then
if(geq (Dg h 7) 0)then
(Dk u ([(0:UInt8)]:LB)).bind λab=>
j47 n k h ab
else
j47 n k h u
else
j50 f h u
def Tl(Uk:Int->Int->LB->Bt)(a:Int)(g:LB)(b f:Int)(m:UInt64):Nat->UInt64->Int->Int->LB->Bt
|0,_,_,_,_=>none
|q+1,n,k,h,u=>EK (EW (Tl Uk a g b f m q) a f g b m) (DM Uk a g b) a g b f m n k h u
def FM Uk a g b f m:=Tl Uk a g b f m Cn
def FJ(j44:Int->UInt64->UInt64->Int->Int->LB->Bt)(j52:Int->LB->Bt)(a:Int)(g:LB)(b f o:Int)(p:LB):Bt:=
if(Cl f a)then
(QI g b f (Es 64 (Ag a f))).bind λm=>
j44 f m m (Es 64 (Ag a f)) o p
else
j52 o p
def Ti:Nat->Int->Int->LB->Bt
|0,_,_,_=>none
|c+1,d,e,i=>FJ (FM (Ti c) z C D) EE z C D d e i
def TT a g b:=Ti a g b Cn
def JD(j27:Int->LB->Int->Int->Int->LB->Bt)(g:LB)(b y a:Int):Bt:=
(Ec g b).bind λac=>
if(Bk ac 0)then
some (([]:LB),0,8)
else
if(((Cl y 0)||(Ez y a))||(Ez a b))then
some (([]:LB),0,2)
else
j27 a g b y 0 ([]:LB)
def OW:=JD TT
def Nv:Option (UInt64×Int):=
(Ec c z).bind λe=>
if(Bk e 0)then
some (0,8)
else
if(((Cl i 0)||(Ez i 64))||(Cl d 0))then
some (0,2)
else
if(Ez d (Ag z i))then
some (0,24)
else
(QI c z d i).bind λj=>
some (j,0)
def Gv:Option Int:=
if(geq j 0)then
some 64
else
(Ah ([(0:UInt8),(1:UInt8),(56:UInt8),(2:UInt8),(57:UInt8),(49:UInt8),(28:UInt8),(3:UInt8),(61:UInt8),(58:UInt8),(42:UInt8),(50:UInt8),(38:UInt8),(29:UInt8),(17:UInt8),(4:UInt8),(62:UInt8),(47:UInt8),(59:UInt8),(36:UInt8),(45:UInt8),(43:UInt8),(51:UInt8),(22:UInt8),(53:UInt8),(39:UInt8),(33:UInt8),(30:UInt8),(24:UInt8),(18:UInt8),(12:UInt8),(5:UInt8),(63:UInt8),(55:UInt8),(48:UInt8),(27:UInt8),(60:UInt8),(41:UInt8),(37:UInt8),(16:UInt8),(46:UInt8),(35:UInt8),(44:UInt8),(21:UInt8),(52:UInt8),(32:UInt8),(23:UInt8),(11:UInt8),(54:UInt8),(26:UInt8),(40:UInt8),(15:UInt8),(34:UInt8),(20:UInt8),(31:UInt8),(10:UInt8),(25:UInt8),(14:UInt8),(19:UInt8),(9:UInt8),(13:UInt8),(8:UInt8),(7:UInt8),(6:UInt8)]:LB) (GI.toZ (Bw (Dm (Dg j (eE j)) 285870213051353865) (GI.toZ (58:UInt64)).toNat))).bind λz=>
some (Ap z:Int)
abbrev Ct:=Option (Int×Int×Int)
def NT:Ct:=
some (0,0,24)
def NQ:=NT
def SH(j10:Ct):Ct:=
j10
def RQ:=SH NQ
def RT(j9:Ct)(f a:Int):Ct:=
if(geq f 48)then
some (f,(Aa 0 (Aa a f)),0)
else
j9
def SB:=RT RQ
def RX(j8:Int->Int->Ct)(f b a:Int):Ct:=
if(Cl f (Es 48 (Ag b a)))then
some (f,(Aa (Aa (0:Int) (1:Int)) (Aa a f)),0)
else
j8 f a
def SF:=RX SB
def SC(j7:Int->Int->Int->Ct)(h:Int)(k:UInt64)(a:Int)(g:LB)(b:Int):Ct:=
if(Bk h 0)then
some (0,0,h)
else
(Gv (iE k)).bind λf=>
j7 f b a
def AQ:=SC SF
def Rf(j6:Int->UInt64->Int->LB->Int->Ct)(g:LB)(b a:Int):Ct:=
(Ec g b).bind λm=>
if(Bk m 0)then
some (0,0,m)
else
if(Cl a 0)then
some (0,0,2)
else
if(Hi a b)then
some (0,0,24)
else
(
(
(Nv g b a (Es 48 (Ag b a))).bind λ(k,h)=>
j6 h k a g b))
def PB:=Rf AQ
abbrev Yd:=Option (UInt32×Int×Int)
def UU:Yd:=
(Nv C D d V).bind λ(c,e)=>
if(Bk e 0)then
some (0,0,e)
else
if(Cl i 48)then
(Ds (Hi z 0)).bind λ_=>
some ((fQ (Er (Ap i:UInt32) (GI.toZ z).toNat) (Ap c:UInt32)),(Aa d V),0)
else
(Uf (Ap c:UInt32) z).bind λj=>
if(!j)then
some (0,0,12)
else
some ((Ap c:UInt32),(Aa d V),0)
def VT:=UU
def VD(j2:Int->Int->Int->LB->Int->Int->Yd)(g:LB)(h v a:Int):Yd:=
(Ec g h).bind λo=>
if(Bk o 0)then
some (0,0,o)
else
if((Cl a 0)||(Ez a 24))then
some (0,0,2)
else
(PB g h v).bind λ(f,b,p)=>
if(Bk p 0)then
some (0,0,p)
else
if(geq f 48)then
j2 a b f g h 32
else
j2 a b f g h a
def TH:=VD VT
abbrev Dn:=Option (UInt32×Int×Int×Int×UInt64×UInt64×Int)
def RO:Dn:=
some (L,F,gy,jq,(Aa jf (Ag (Ap L:UInt64) (Bw jf (GI.toZ (4:UInt64)).toNat))),jr,0)
def RV:=RO
def VQ(j10:UInt32->Int->Int->Int->UInt64->UInt64->Dn)(f:UInt32)(k m:Int)(b n:UInt64)(w:Int):Dn:=
j10 f k w m b n
def TX:=VQ RV
def VZ(j9:UInt32->Int->Int->UInt64->UInt64->Int->Dn)(f:UInt32)(k a:Int)(b:UInt64)(m:Int)(n:UInt64):Dn:=
if(Ez a 0)then
(Ds (Hi a 0)).bind λ_=>
if(Cl (Aa b (Ag (Ap f:UInt64) (Bw b (GI.toZ (4:UInt64)).toNat))) (Er (16:UInt64) (GI.toZ a).toNat))then
j9 f k m b n (Ag a 1)
else
if(Cl a 24)then
(Ds (Hi a 0)).bind λ_=>
if(Ez (Aa b (Ag (Ap f:UInt64) (Bw b (GI.toZ (4:UInt64)).toNat))) (Er (32:UInt64) (GI.toZ a).toNat))then
j9 f k m b n (Aa a 1)
else
j9 f k m b n a
else
j9 f k m b n a
else
if(Cl a 24)then
(Ds (Hi a 0)).bind λ_=>
if(Ez (Aa b (Ag (Ap f:UInt64) (Bw b (GI.toZ (4:UInt64)).toNat))) (Er (32:UInt64) (GI.toZ a).toNat))then
j9 f k m b n (Aa a 1)
else
j9 f k m b n a
else
j9 f k m b n a
def FO:=VZ TX
def EF(j8:UInt32->Int->Int->UInt64->Int->UInt64->Dn)(a h:Int)(b g:UInt64)(f:UInt32)(k:Int):Dn:=
(Tx a h b g f).bind λ(ad,o)=>
if(geq ad 1)then
if(Ez h 0)then
(Ds (Hi h 0)).bind λ_=>
if(Cl (Aa g (Ag (Ap o:UInt64) (Bw g (GI.toZ (4:UInt64)).toNat))) (Er (16:UInt64) (GI.toZ h).toNat))then
j8 f k a b (Ag h 1) (Aa g (Ag (Ap o:UInt64) (Bw g (GI.toZ (4:UInt64)).toNat)))
else
if(Cl h 24)then
(Ds (Hi h 0)).bind λ_=>
if(Ez (Aa g (Ag (Ap o:UInt64) (Bw g (GI.toZ (4:UInt64)).toNat))) (Er (32:UInt64) (GI.toZ h).toNat))then
j8 f k a b (Aa h 1) (Aa g (Ag (Ap o:UInt64) (Bw g (GI.toZ (4:UInt64)).toNat)))
else
j8 f k a b h (Aa g (Ag (Ap o:UInt64) (Bw g (GI.toZ (4:UInt64)).toNat)))
else
j8 f k a b h (Aa g (Ag (Ap o:UInt64) (Bw g (GI.toZ (4:UInt64)).toNat)))
else
if(Cl h 24)then
(Ds (Hi h 0)).bind λ_=>
if(Ez (Aa g (Ag (Ap o:UInt64) (Bw g (GI.toZ (4:UInt64)).toNat))) (Er (32:UInt64) (GI.toZ h).toNat))then
j8 f k a b (Aa h 1) (Aa g (Ag (Ap o:UInt64) (Bw g (GI.toZ (4:UInt64)).toNat)))
else
j8 f k a b h (Aa g (Ag (Ap o:UInt64) (Bw g (GI.toZ (4:UInt64)).toNat)))
else
j8 f k a b h (Aa g (Ag (Ap o:UInt64) (Bw g (GI.toZ (4:UInt64)).toNat)))
else
j8 f k a b h g
def UI:=EF FO
def EP(j7:Int->Int->UInt64->UInt64->UInt32->Int->Dn)(p:Int)(u:LB)(v a h:Int)(b g:UInt64):Dn:=
(Nv u v p 1).bind λ(ae,aa)=>
if(Bk aa 0)then
some (0,0,0,0,0,0,aa)
else
if(geq ae 0)then
(Nv u v (Aa p 1) a).bind λ(af,ab)=>
if(Bk ab 0)then
some (0,0,0,0,0,0,ab)
else
j7 a h b g (Ap af:UInt32) (Aa (Aa p 1) a)
else
(TH u v (Aa p 1) h).bind λ(y,ag,ac)=>
if(Bk ac 0)then
some (0,0,0,0,0,0,ac)
else
(Ds (Hi a 0)).bind λ_=>
if(Cl (Aa y (Er (1:UInt32) (GI.toZ a).toNat)) y)then
some (0,0,0,0,0,0,12)
else
j7 a h b g (Aa y (Er (1:UInt32) (GI.toZ a).toNat)) ag
def WH:=EP UI
def GB(j6:Int->LB->Int->Int->Int->UInt64->UInt64->Dn)(u:LB)(v p a h:Int)(b g:UInt64):Dn:=
(Ec u v).bind λah=>
if(Bk ah 0)then
some (0,0,0,0,0,0,8)
else
(CY a h b g).bind λai=>
if(Bk ai 0)then
some (0,0,0,0,0,0,8)
else
j6 p u v a h b g
def Rw:=GB WH
abbrev Au:=Option (LU×Int×Int)
def CO:Au:=
some (O,z,0)
def Nz:=CO
def CW(Dv:Int->Int-> (List (Int×Int×UInt64×UInt64×Unit))->LU->Au)(a f:Int)(g:LB)(b k v:Int)(w:UInt32)(h:Int)(ah:List (Int×Int×UInt64×UInt64×Unit))(n:LU):Au:=
(Dk n ([w]:LU)).bind λak=>
Dv (Aa k v) (Aa h 1) ah ak
def BW Dv:=CW Dv
def CI(j22:Int->Int->UInt32->Int-> (List (Int×Int×UInt64×UInt64×Unit))->LU->Au)(a f:Int)(g:LB)(b k h y:Int)(w:UInt32)(v:Int)(m:List (Int×Int×UInt64×UInt64×Unit))(n:LU)(aa ab:Int)(ac ad:UInt64):Au:=
if(Bk y 0)then
some (([]:LU),0,y)
else
(Ds (Bk a 0)).bind λ_=>
(Ah m (Gc h a)).bind λ_=>
(Gd m (Gc h a) (aa,ab,ac,ad,())).bind λah=>
j22 k v w h ah n
def Np Dv a f g b:=CI (BW Dv a f g b) a f g b
def Il(j21:Int->Int->Int->UInt32->Int-> (List (Int×Int×UInt64×UInt64×Unit))->LU->Int->Int->UInt64->UInt64->Au)(j24:Int->LU->Au)(a f:Int)(g:LB)(b k h:Int)(m:List (Int×Int×UInt64×UInt64×Unit))(n:LU):Au:=
if(Cl h (Dm f a))then
(OW g b k (Es (Aa k 81) b)).bind λ(ag,ae,af)=>
if(Bk af 0)then
some (([]:LU),0,af)
else
(Ds (Bk a 0)).bind λ_=>
(Ah m (Gc h a)).bind λ_=>
(
(
(Ah m (Gc h a)).bind λo=>
(
(Rw ag ae 0 o.1 o.2.1 o.2.2.1 o.2.2.2.1).bind λ(w,v,aa,ab,ac,ad,y)=>
j21 k h y w v m n aa ab ac ad)))
else
j24 k n
def Ib:Nat->Int->Int-> (List (Int×Int×UInt64×UInt64×Unit))->LU->Au
|0,_,_,_,_=>none
|c+1,e,i,j,A=>Il (Np (Ib c) z d C D) Nz z d C D e i j A
def Om a f g b:=Ib a f g b Cn
def Mo(j16:Int->Int->LB->Int->Int->Int-> (List (Int×Int×UInt64×UInt64×Unit))->LU->Au)(a f:Int)(g:LB)(b:Int)(p:List (Int×Int×UInt64×UInt64×Unit)):Au:=
j16 a f g b 0 0 p ([]:LU)
def BQ:=Mo Om
def Mu(j15:Int->Int->LB->Int-> (List (Int×Int×UInt64×UInt64×Unit))->Au)(jK:Int-> (List (Int×Int×UInt64×UInt64×Unit))->Au)(a f:Int)(g:LB)(b u:Int)(p:List (Int×Int×UInt64×UInt64×Unit)):Au:=
if(Cl u 6)then
(DJ).bind λ(al,ae,af,am)=>
(Ah p u).bind λ_=>
(Gd p u (al,ae,af,am,())).bind λan=>
jK (Aa u 1) an
else
j15 a f g b p
def If:Nat->Int-> (List (Int×Int×UInt64×UInt64×Unit))->Au
|0,_,_=>none
|c+1,e,i=>Mu BQ (If c) z d C D e i
def DF a f g b:=If a f g b Cn
def Px(j13:Int->Int->LB->Int->Int-> (List (Int×Int×UInt64×UInt64×Unit))->Au)(a f:Int)(g:LB)(b:Int):Au:=
j13 a f g b 0 (List.replicate 6 ((0:Int),(0:Int),(0:UInt64),(0:UInt64),()))
def Xj:=Px DF
def Kg:Option Int32:=
some (Zz (Ap (Bw L (GI.toZ (1:UInt64)).toNat):Int32) (eE (Ap (Dg L 1):Int32)))
def QX:Option (Int32×Int×LX×LX×Int):=
(CM z e J).bind λ(c,d)=>
if(Bk d 0)then
some (0,0,(List.replicate 16 (0:Int32)),(List.replicate 16 (0:Int32)),d)
else
(BU z e J (Aa B c) B).bind λ(i,j,A)=>
some ((Aa B c),i,j,A,0)
def Em:Option (Int32×Int×Int32×Int×LX×LX×Int):=
(Ku z B F X T).bind λc=>
if(Bk c 0)then
some (0,0,0,0,(List.replicate 16 (0:Int32)),(List.replicate 16 (0:Int32)),c)
else
(Kw z B).bind λ(d,e)=>
(QX F X T Y).bind λ(i,j,A,C,D)=>
(
some ((Aa i d),z,(Aa i d),j,A,C,D))
abbrev Ch:=Option (LX×Int)
def UL:Ch:=
some (e,0)
def EG:=UL
def VA(Ro:Int->LX->Ch)(b a:Int)(h:LX):Ch:=
Ro (Aa a b) h
def FB Ro:=VA Ro
def DY(j20:Int->LX->Ch)(rN:Int->LX->Ch)(b a g:Int)(h:LX):Ch:=
if(Hi g 0)then
(Ds (decide (0<= (Aa g 1)/\ (Aa g 1)<((Aa a b)-a)))).bind λ_=>
(Ds (decide (0<=g/\g<((Aa a b)-a)))).bind λ_=>
(Ah h (a+(Aa g 1))).bind λn=>
(Ah h (a+g)).bind λo=>
(Ds (decide (0<=g/\g<((Aa a b)-a)))).bind λ_=>
(Gd h (a+g) (Ag n o)).bind λp=>
rN (Ag g 1) p
else
j20 a h
def Tz(Ro:Int->LX->Ch)(b a:Int):Nat->Int->LX->Ch
|0,_,_=>none
|q+1,g,h=>DY (FB Ro b) (Tz Ro b a q) b a g h
def ED Ro b a:=Tz Ro b a Cn
def DL(j18:Int->Int->LX->Ch)(b a:Int)(u:LX):Ch:=
j18 a (Ag (Ag ((Aa a b)-a) 1) 1) u
def VK Ro b:=DL (ED Ro b) b
def EA(j17:Int->LX->Ch)(j22:LX->Ch)(b a:Int)(f:LX):Ch:=
if(Cl a (Ac f))then
(HH (Ac f) a (Aa a b)).bind λ_=>
if(Ez (Ag ((Aa a b)-a) 1) 0)then
(Ds (decide (0<= (Ag ((Aa a b)-a) 1)/\ (Ag ((Aa a b)-a) 1)<((Aa a b)-a)))).bind λ_=>
Option.bind (Ds (decide (0<= (Ag (Ag ((Aa a b)-a) 1) 1)/\ (Ag (Ag ((Aa a b)-a) 1) 1)<((Aa a b)-a)))) λ_=>
(Ah f (a+(Ag ((Aa a b)-a) 1))).bind λv=>
(Ah f (a+(Ag (Ag ((Aa a b)-a) 1) 1))).bind λw=>
(Ds (decide (0<= (Ag ((Aa a b)-a) 1)/\ (Ag ((Aa a b)-a) 1)<((Aa a b)-a)))).bind λ_=>
(Gd f (a+(Ag ((Aa a b)-a) 1)) (Aa v (Gs w 2))).bind λy=>
j17 a y
else
j17 a f
else
j22 f
def Tv:Nat->Int->LX->Ch
|0,_,_=>none
|c+1,d,e=>EA (VK (Tv c) z) EG z d e
def VH b:=Tv b Cn
def JP(j12:Int->Int->LX->Ch)(b:Int)(k:LX):Ch:=
(HO b k).bind λm=>
if(Bk m 0)then
some (([]:LX),m)
else
(Cj k).bind λaa=>
j12 b 0 aa
def XX:=JP VH
abbrev Ba:=Option (LX×Int)
def Zt:Ba:=
(XX z e).bind λ(c,i)=>
if(Bk i 0)then
some (([]:LX),i)
else
(Kv d c).bind λj=>
if(Bk j 0)then
some (([]:LX),j)
else
some (c,0)
def Ls:=Zt
def Zw(jK:Int-> (List (Int×Int32×(Int×LX×LX×Unit)×Unit))->LX->Ba)(a:Int)(f:LU)(b g:Int)(y:Int32)(v:Int)(h:List (Int×Int32×(Int×LX×LX×Unit)×Unit))(k:LX)(aa:Int)(w:Int32)(ab:Int)(ac ad:LX):Ba:=
if(Bk v 0)then
some (([]:LX),v)
else
(Gd h (Gc g a) (aa,w,(ab,ac,ad,()),())).bind λai=>
(Dk k ([y]:LX)).bind λaj=>
jK (Aa g 1) ai aj
def Lt jK:=Zw jK
def He(j16:Int->Int32->Int-> (List (Int×Int32×(Int×LX×LX×Unit)×Unit))->LX->Int->Int32->Int->LX->LX->Ba)(j18:Int->Int->LX->Ba)(f:LU)(a b g:Int)(h:List (Int×Int32×(Int×LX×LX×Unit)×Unit))(k:LX):Ba:=
if(Cl g (Ac f))then
(Ah f g).bind λag=>
(Ds (Bk a 0)).bind λ_=>
(Ah h (Gc g a)).bind λ_=>
(
(Ah h (Gc g a)).bind λm=>
(
(Kg ag).bind λae=>
(
(Em m.1 m.2.1 m.2.2.1.1 m.2.2.1.2.1 m.2.2.1.2.2.1 ae).bind λ(y,aa,w,ab,ac,ad,v)=>
j16 g y v h k aa w ab ac ad)))
else
j18 a b k
def Hf:Nat->Int-> (List (Int×Int32×(Int×LX×LX×Unit)×Unit))->LX->Ba
|0,_,_,_=>none
|z+1,c,d,e=>He (Lt (Hf z) Z O cu) Ls O Z cu c d e
def Ly f a b:=Hf f a b Cn
def Lu(j13:LU->Int->Int->Int-> (List (Int×Int32×(Int×LX×LX×Unit)×Unit))->LX->Ba)(f:LU)(a b:Int)(n:List (Int×Int32×(Int×LX×LX×Unit)×Unit)):Ba:=
j13 f a b 0 n ([]:LX)
def AA:=Lu Ly
def Lw(j12:LU->Int->Int-> (List (Int×Int32×(Int×LX×LX×Unit)×Unit))->Ba)(oM:Int-> (List (Int×Int32×(Int×LX×LX×Unit)×Unit))->Ba)(f:LU)(a b:Int)(o:LX)(p:Int)(n:List (Int×Int32×(Int×LX×LX×Unit)×Unit)):Ba:=
if(Cl p 6)then
(HX b o).bind λ(ak,af,ae,al,am,w)=>
(Ah n p).bind λ_=>
(Gd n p (ak,af,(ae,al,am,()),())).bind λan=>
oM (Aa p 1) an
else
j12 f a b n
def Hh:Nat->Int-> (List (Int×Int32×(Int×LX×LX×Unit)×Unit))->Ba
|0,_,_=>none
|z+1,c,d=>Lw AA (Hh z) O Z cu ig c d
def Zy f a b o:=Hh f a b o Cn
def Oj(j10:LU->Int->Int->LX->Int-> (List (Int×Int32×(Int×LX×LX×Unit)×Unit))->Ba)(a b:Int)(o:LX)(f:LU):Ba:=
j10 f a b o 0 (List.replicate 6 ((0:Int),(0:Int32),((0:Int),(List.replicate 16 (0:Int32)),(List.replicate 16 (0:Int32)),()),()))
def Us:=Oj Zy
def Mj:Option (LX×Int):=
(Hu z d).bind λc=>
if(Bk c 0)then
some (([]:LX),c)
else
if(Cl D 1)then
some (([]:LX),2)
else
(Ds (Bk z 0)).bind λ_=>
if(Ez D (Gs 4000 z))then
some (([]:LX),2)
else
(Xn R).bind λ(i,j)=>
if(Bk j 0)then
some (([]:LX),j)
else
(dG i).bind λ(A,B,C)=>
if(Bk C 0)then
some (([]:LX),C)
else
(Xj z D A B).bind λ(E,F,G)=>
if(Bk G 0)then
some (([]:LX),G)
else
if(Hi (Ag B F) 8)then
some (([]:LX),12)
else
(Nv A B F (Ag B F)).bind λ(I,J)=>
if((Bk J 0)||(Bk I 0))then
some (([]:LX),12)
else
(Us z d e E).bind λ(L,M)=>
some (L,M)
abbrev DD:=Option (Int×Int)
def YS:DD:=
(Ee c (Ag (Ac c) 32) (Ac c)).bind λz=>
(Zl z 0).bind λ(d,e,i)=>
if i then
if(Cl (Ag (Ac c) 32) d)then
some (0,24)
else
some ((Aa d 32),0)
else
(Ee c (Ag (Ac c) 32) (Ac c)).bind λj=>
(Zl j 2147483648).bind λ(A,B,C)=>
if(!C)then
some (0,12)
else
if(Cl (Ac c) (Aa A 64))then
some (0,24)
else
(Ee c (Ag (Ac c) (Aa A 64)) (Aa (Ag (Ac c) (Aa A 64)) 32)).bind λD=>
(LA A B 2684354560).bind λE=>
(Gn D E).bind λF=>
if(!F)then
some (0,12)
else
some ((Aa A 64),0)
def WS:=YS
def YD(j2:LB->DD)(a:LB):DD:=
if(Cl (Ag (Ac a) 32) 0)then
some (0,6)
else
(Ee a (Ag (Ac a) 32) (Ac a)).bind λv=>
(Fi v ([(65:UInt8),(80:UInt8),(69:UInt8),(84:UInt8),(65:UInt8),(71:UInt8),(69:UInt8),(88:UInt8)]:LB)).bind λw=>
if(!w)then
some (0,6)
else
j2 a
def XP:=YD WS
abbrev Ca:=Option (Int×Int)
def HL:Ca:=
some (z,0)
def Sp:=HL
def HT(dV:Int->LB->Ca)(a:Int)(g:LB):Ca:=
dV (Aa a 1) g
def HR dV:=HT dV
def HP(j12:Int->LB->Ca)(a f:Int)(b:LB):Ca:=
if(geq f 0)then
some (0,38)
else
(Ee b 0 (Ag (Ac b) f)).bind λg=>
j12 a g
def Ry dV:=HP (HR dV)
def Vh(j11:Int->Int->LB->Ca)(j14:Int->Ca)(a:Int)(b:LB):Ca:=
if(Ez (Ac b) 0)then
(XP b).bind λ(f,k)=>
j11 a f b
else
j14 a
def Lg:Nat->Int->LB->Ca
|0,_,_=>none
|q+1,a,b=>Vh (Ry (Lg q)) Sp a b
def KJ:=Lg Cn
def Va(j8:Int->LB->Ca)(h:LB):Ca:=
if(Ez (Ac h) 4000)then
some (0,38)
else
j8 0 h
def EH:=Va KJ
abbrev As:=Option (Int×Int×Int×LX×Int)
def LR:As:=
(Ee c z (Ac c)).bind λj=>
(EH j).bind λ(A,B)=>
if(Bk B 0)then
some (0,0,0,([]:LX),38)
else
some (d,i,E,e,0)
def Xf:=LR
def NO(Rn:Int->Int->LX->As)(a:LB)(w:LI)(m f g h o p n b ab ae:Int)(ac:LX)(k:LI)(y aj ak aa:Int)(an ad:LX):As:=
if(Bk ak 0)then
some (0,0,0,([]:LX),ak)
else
(Dk ad an).bind λau=>
Rn (Aa y aj) (Aa aa 1) au
def Xa Rn:=NO Rn
def Xy(j24:Int->Int->Int->Int->LX->LX->As)(j26:LB->Int->Int->Int->Int->LX->As)(a:LB)(w:LI)(m f g h o p n b ab ae:Int)(ac:LX)(k:LI)(y aa:Int)(ad:LX):As:=
if(Cl aa (Ac w))then
(Ah w aa).bind λ_=>
(Ah w aa).bind λaj=>
if(Cl (Ac a) (Aa y aj))then
some (0,0,0,([]:LX),24)
else
(Ah k aa).bind λ_=>
(Ee a y (Aa y aj)).bind λav=>
(Ah k aa).bind λaw=>
(Mj f g ac aw av).bind λ(an,ak)=>
j24 y aj ak aa an ad
else
j26 a y f g h ad
def Mz:Nat->Int->Int->LX->As
|0,_,_,_=>none
|j+1,B,C,D=>Xy (Xa (Mz j) c A z d i E I P dx dz eu fq e iy) Xf c A z d i E I P dx dz eu fq e iy B C D
def Xd a w m f g h o p n b ab ae ac k:=Mz a w m f g h o p n b ab ae ac k Cn
def Je(j21:LB->LI->Int->Int->Int->Int->Int->Int->Int->Int->Int->Int->LX->LI->Int->Int->LX->As)(a u:LB)(m f g h o p n b:Int)(k:LI)(ao ab ae:Int)(w:LI):As:=
if(Bk ao 0)then
some (0,0,0,([]:LX),ao)
else
(Mg u).bind λ(ac,bc)=>
j21 a w m f g h o p n b ab ae ac k ab 0 ([]:LX)
def Na:=Je Xd
def Wf(j20:LB->LB->Int->Int->Int->Int->Int->Int->Int->Int->LI->Int->Int->Int->LI->As)(a u:LB)(v:LI)(m f g h o p n b af:Int)(k:LI):As:=
j20 a u m f g h o p n b k 0 (Aa (Aa b (Dm 4 (Ac v))) 4) af v
def NJ:=Wf Na
def Xe(j19:LB->LB->LI->Int->Int->Int->Int->Int->Int->Int->Int->Int->LI->As)(oL:Int->Int->As)(v:LI)(a u:LB)(m f g h o p n b:Int)(k:LI)(ag af:Int):As:=
if(Cl ag (Ac v))then
(Ah v ag).bind λ_=>
(Ah v ag).bind λax=>
oL (Aa ag 1) (Aa af ax)
else
j19 a u v m f g h o p n b af k
def Mr:Nat->Int->Int->As
|0,_,_=>none
|z+1,c,d=>Xe NJ (Mr z) A C jg D V gu jh ji jk jl jm jo c d
def LN v a u m f g h o p n b k:=Mr v a u m f g h o p n b k Cn
def Wd(j20:LB->LB->Int->Int->Int->Int->Int->Int->Int->Int->LI->Int->Int->Int->LI->As)(j17:LI->LB->LB->Int->Int->Int->Int->Int->Int->Int->Int->LI->Int->Int->As)(al:Int)(a u:LB)(m f g h o p n b ah ai:Int)(v k:LI):As:=
if(Bk al 0)then
j20 a u m f g h o p n b k al ah ai ([]:LI)
else
j17 v a u m f g h o p n b k 0 (Aa (Aa b (Dm 4 (Ac v))) 4)
def LJ:=Wd Na LN
def Xq(j20:LB->LB->Int->Int->Int->Int->Int->Int->Int->Int->LI->Int->Int->Int->LI->As)(j16:Int->LB->LB->Int->Int->Int->Int->Int->Int->Int->Int->Int->Int->LI->LI->As)(a u:LB)(m f g h o p n b ah ai:Int)(k:LI):As:=
if(Cl (Ac a) b)then
j20 a u m f g h o p n b k 24 ah ai ([]:LI)
else
(Ee a b (Ac a)).bind λay=>
(CK ay (Ac k)).bind λ(v,al)=>
j16 al a u m f g h o p n b ah ai v k
def PG:=Xq Na LJ
def Xr(j15:LB->LB->Int->Int->Int->Int->Int->Int->Int->Int->Int->Int->LI->As)(a u:LB)(m f g h o p n b ah ai:Int)(k:LI)(am:Int):As:=
if(Bk am 0)then
some (0,0,0,([]:LX),am)
else
j15 a u m f g h o p n b ah ai k
def Wj:=Xr PG
def AI(j14:LB->LB->Int->Int->Int->Int->Int->Int->Int->Int->Int->Int->LI->Int->As)(a u:LB):As:=
if(Ez (Ac u) 64)then
some (0,0,0,([]:LX),2)
else
(IB a).bind λ(m,f,g,h,o,p,n,b,ah,ai,k,ap)=>
if(Bk ap 0)then
some (0,0,0,([]:LX),ap)
else
if((u==([]:LB)) !=(geq m 1))then
j14 a u m f g h o p n b ah ai k 26
else
if(geq m 1)then
j14 a u m f g h o p n b ah ai k 0
else
if(Cl (Ac a) b)then
j14 a u m f g h o p n b ah ai k 24
else
(Ee a n b).bind λaz=>
(Uc az u).bind λ(ba,bd)=>
if(!ba)then
j14 a u m f g h o p n b ah ai k 26
else
j14 a u m f g h o p n b ah ai k 0
def QA:=AI Wj
abbrev Qp:=Option (Int×Int×Int×Int×Int×Int×LI×Int)
def NU:Qp:=
(Fk z d i E I).bind λ(e,j)=>
if(Bk j 0)then
some (0,0,0,0,0,0,([]:LI),j)
else
(Ee c P (Ac c)).bind λA=>
(CK A (Ac e)).bind λ(B,C)=>
if(Bk C 0)then
some (0,0,0,0,0,0,([]:LI),C)
else
some (z,d,i,E,I,(Aa (Aa P (Dm 4 (Ac B))) 4),B,0)
def NZ:=NU
def MJ(j2:LB->Int->Int->Int->Int->Int->Int->Qp)(a n:LB):Qp:=
if(Ez (Ac n) 64)then
some (0,0,0,0,0,0,([]:LI),2)
else
if(Ez (Ac a) 100000)then
some (0,0,0,0,0,0,([]:LI),4)
else
(It a).bind λ(f,w)=>
if(Bk w 0)then
some (0,0,0,0,0,0,([]:LI),w)
else
(Ee a f (Ac a)).bind λad=>
(Wv ad).bind λ(b,g,h,k,m,y)=>
if(Bk y 0)then
some (0,0,0,0,0,0,([]:LI),y)
else
if((n==([]:LB)) !=(geq b 1))then
some (0,0,0,0,0,0,([]:LI),26)
else
if(n !=([]:LB))then
if(Cl (Ac a) (Aa (Aa f 22) 8))then
some (0,0,0,0,0,0,([]:LI),24)
else
(Ee a (Aa f 22) (Aa (Aa f 22) 8)).bind λae=>
(Uc ae n).bind λ(af,aa)=>
if(Bk aa 0)then
some (0,0,0,0,0,0,([]:LI),aa)
else
if(!af)then
some (0,0,0,0,0,0,([]:LI),26)
else
j2 a b g h k m (Aa (Aa f 22) 8)
else
j2 a b g h k m (Aa f 22)
def Lb:=MJ NZ
abbrev Cm:=Option (LI×Int)
def DQ:Cm:=
some (A,0)
def Pn:=DQ
def HK(rO:Int->Int->LI->Cm)(a:LI)(b g h:Int)(k:LI):Cm:=
rO (Aa b 1) (Aa g h) k
def Sa rO:=HK rO
def Rv(j8:Int->Int->Int->LI->Cm)(j10:LI->Cm)(a:LI)(b g:Int)(f:LI):Cm:=
if(Cl b (Ac a))then
(Ah a b).bind λh=>
(Dk f ([(Aa g h)]:LI)).bind λk=>
j8 b g h k
else
j10 f
def Ki:Nat->Int->Int->LI->Cm
|0,_,_,_=>none
|z+1,c,d,e=>Rv (Sa (Ki z) A) Pn A c d e
def HQ a:=Ki a Cn
def Se(j6:LI->Int->Int->LI->Cm)(a:LI):Cm:=
(Qg a).bind λm=>
if(Bk m 0)then
some (([]:LI),m)
else
j6 a 0 0 ([(0:Int)]:LI)
def BN:=Se HQ
abbrev Bj:=Option (LB×Int)
def KB:Bj:=
some (c,0)
def Vl:=KB
def KO(Dv:Int->LB->Bj)(b:Int)(a:LX)(f:Int)(h:LB):Bj:=
Dv (Aa f 1) h
def Ux Dv:=KO Dv
def Uq(j28:Int->LB->Bj)(rP:Int->LB->Bj)(b:Int)(a:LX)(k:Int32)(f m:Int)(h:LB):Bj:=
if(Cl m (Gs b 8))then
(Ds (Hi (Dm 8 m) 0)).bind λ_=>
(Dk h ([(Ap (Bw k (GI.toZ (Dm 8 m)).toNat):UInt8)]:LB)).bind λp=>
rP (Aa m 1) p
else
j28 f h
def Lo(Dv:Int->LB->Bj)(b:Int)(a:LX)(k:Int32)(f:Int):Nat->Int->LB->Bj
|0,_,_=>none
|q+1,m,h=>Uq (Ux Dv b a) (Lo Dv b a k f q) b a k f m h
def Vn Dv b a k f:=Lo Dv b a k f Cn
def Ul(j26:Int32->Int->Int->LB->Bj)(b:Int)(a:LX)(f:Int)(g:LB)(k:Int32):Bj:=
j26 k f 0 g
def KW Dv b a:=Ul (Vn Dv b a) b a
def Vf(j25:Int->LB->Int32->Bj)(j30:LB->Bj)(b:Int)(a:LX)(f:Int)(g:LB):Bj:=
if(Cl f (Ac a))then
(Ah a f).bind λn=>
if(geq b 8)then
j25 f g (Aa n 128)
else
j25 f g n
else
j30 g
def Lp:Nat->Int->LB->Bj
|0,_,_=>none
|c+1,d,i=>Vf (KW (Lp c) z e) Vl z e d i
def KK b a:=Lp b a Cn
def Xz(j16:Int->LX->Int->LB->Bj)(b:Int)(a:LX):Bj:=
(Kv b a).bind λo=>
if(Bk o 0)then
some (([]:LB),o)
else
j16 b a 0 ([]:LB)
def JK:=Xz KK
abbrev Bp:=Option (LB×Int)
def JW:Bp:=
if(Bk d 0)then
some (([]:LB),d)
else
if((Cl z 0)||(Hi z 0))then
some (([]:LB),2)
else
none
def KN:=JW
def GM:Bp:=
some (C,z)
def Rs:=GM
def KU(j10:Int->LB->Bp)(w a m g:Int)(aa:LX)(n o p h:Int)(k:LB)(u:LX)(v b f:LI):Bp:=
if(Bk w 0)then
j10 w ([]:LB)
else
(JK g aa).bind λ(ak,al)=>
j10 al ak
def JZ:=KU Rs
def KS(j10:Int->LB->Bp)(j9:Int->Int->Int->Int->LX->Int->Int->Int->Int->LB->LX->LI->LI->LI->Bp)(a h ab y:Int)(k:LB)(m g:Int)(u:LX)(n o p:Int)(f v b:LI):Bp:=
if(Ez (Aa h y) (Ac k))then
j10 24 ([]:LB)
else
(Ah f a).bind λ_=>
(Ee k (Aa h ab) (Aa h y)).bind λam=>
(Ah f a).bind λan=>
(Mj m g u an am).bind λ(aa,w)=>
j9 w a m g aa n o p h k u v b f
def KQ:=KS Rs JZ
def KA(j8:Int->Int->Int->Int->LB->Int->Int->LX->Int->Int->Int->LI->LI->LI->Bp)(a:Int)(f:LI)(n m g o p h:Int)(k:LB)(u:LX)(v b:LI):Bp:=
if(Bk (0:Int) (0:Int))then
some (([]:LB),0)
else
if((Cl a 0)||(Hi a (Ac f)))then
some (([]:LB),2)
else
(Ah b a).bind λ_=>
(Ah b (Aa a 1)).bind λ_=>
(Ah b a).bind λab=>
(Ah b (Aa a 1)).bind λy=>
j8 a h ab y k m g u n o p f v b
def JV:=KA KQ
def KH(j6:Int->Int->Bp)(j7:Int->LI->Int->Int->Int->Int->Int->Int->LB->LX->LI->LI->Bp)(k ad:LB)(a:Int):Bp:=
(Lb k ad).bind λ(n,m,g,o,p,h,v,ae)=>
if(Bk ae 0)then
j6 a ae
else
(Fk n m g o p).bind λ(f,af)=>
if(Bk af 0)then
j6 a af
else
(BN v).bind λ(b,ag)=>
if(Bk ag 0)then
j6 a ag
else
(Mg ad).bind λ(u,ah)=>
if(Bk ah 0)then
j6 a ah
else
(Ah b (Ac f)).bind λ_=>
(Ah b (Ac f)).bind λao=>
j7 a f n m g o p h k u v b
def Tu:=KH KN JV
abbrev Bb:=Option (LX×Int)
def FI:Bb:=
some (e,0)
def Qa:=FI
def EC(Dv:Int->LX->Bb)(a:Int)(b:LB)(f:Int)(o:LX):Bb:=
Dv (Aa f (Gs a 8)) o
def Jb Dv:=EC Dv
def DN(j28:Int->LX->Bb)(a:Int)(b:LB)(f:Int)(k:Int32)(g:LX):Bb:=
(Ds (Hi (Ag 32 a) 0)).bind λ_=>
(Ds (Hi (Ag 32 a) 0)).bind λ_=>
(Dk g ([(Bw (Er k (GI.toZ (Ag 32 a)).toNat) (GI.toZ (Ag 32 a)).toNat)]:LX)).bind λp=>
j28 f p
def Pz Dv a b:=DN (Jb Dv a b) a b
def Pu(j27:Int->Int32->LX->Bb)(rQ:Int32->Int->Bb)(a:Int)(b:LB)(f:Int)(g:LX)(k:Int32)(h:Int):Bb:=
if(Cl h (Gs a 8))then
(Ah b (Aa f h)).bind λm=>
(Ds (Hi (Dm 8 h) 0)).bind λ_=>
rQ (fQ k (Er (Ap m:Int32) (GI.toZ (Dm 8 h)).toNat)) (Aa h 1)
else
j27 f k g
def Jj(Dv:Int->LX->Bb)(a:Int)(b:LB)(f:Int)(g:LX):Nat->Int32->Int->Bb
|0,_,_=>none
|q+1,k,h=>Pu (Pz Dv a b) (Jj Dv a b f g q) a b f g k h
def Qf Dv a b f g:=Jj Dv a b f g Cn
def Qk(j28:Int->LX->Bb)(j25:Int->LX->Int32->Int->Bb)(j30:LX->Bb)(a:Int)(b:LB)(f:Int)(g:LX):Bb:=
if(Cl f (Ac b))then
if(geq a 8)then
(Ah b f).bind λm=>
(Dk g ([(Ag (Ap m:Int32) 128)]:LX)).bind λu=>
j28 f u
else
j25 f g 0 0
else
j30 g
def Ga:Nat->Int->LX->Bb
|0,_,_=>none
|c+1,d,e=>Qk (Jb (Ga c) z C) (Qf (Ga c) z C) Qa z C d e
def FQ a b:=Ga a b Cn
def Sd(j16:Int->LB->Int->LX->Bb)(a:Int)(b:LB):Bb:=
(Qj a).bind λ(v,w,n)=>
if(Bk n 0)then
some (([]:LX),n)
else
(Ds (Bk (Gs a 8) 0)).bind λ_=>
if(Bk (Gc (Ac b) (Gs a 8)) 0)then
some (([]:LX),12)
else
(Ds (Bk (Gs a 8) 0)).bind λ_=>
if(Ez (Gs (Ac b) (Gs a 8)) 4000)then
some (([]:LX),4)
else
j16 a b 0 ([]:LX)
def Qv:=Sd FQ
def AK:Option Int:=
(Hu z d).bind λc=>
if(Bk c 0)then
some c
else
if(Cl i 1)then
some 2
else
(Ds (Bk z 0)).bind λ_=>
if(Ez i (Gs 4000 z))then
some 2
else
some 0
def Ut:Option (LX×Int):=
(AK z d i).bind λc=>
if(Bk c 0)then
some (([]:LX),c)
else
(fR (Dm i z) (0:Int32)).bind λe=>
(Ds (geq (Dm i z) (Dm i z))).bind λ_=>
some (e,0)
abbrev Al:=Option (Int×Int×Int×LX×LI×Int)
def Jn:Al:=
if(Bk E 0)then
some (0,0,0,([]:LX),([]:LI),E)
else
if(geq (Ac e) 0)then
some (0,0,0,([]:LX),([]:LI),6)
else
(
(
some (z,d,i,e,M,0)))
def Ei:=Jn
def Ql(j40:Int->Int->Int->Int->LI->LX->Al)(g h:LB)(m p u n v w y k a b f:Int)(aa ad:LI)(ac:LX):Al:=
j40 a b f 0 ad ac
def DR:=Ql Ei
def EN(Rn:Int->LI->LX->Al)(g h:LB)(o:LI)(m k a b f p u n v w y:Int)(aa:LI)(ab:Int)(am:LI)(an:LX):Al:=
Rn (Aa ab 1) am an
def Gb Rn:=EN Rn
def Fx(j40:Int->Int->Int->Int->LI->LX->Al)(j37:Int->LI->LX->Al)(g h:LB)(o:LI)(m k a b f p u n v w y:Int)(aa:LI)(ab ao:Int)(am:LI)(an:LX):Al:=
if(Bk ao 0)then
j40 a b f ao am an
else
j37 ab am an
def Ja Rn g h o m k a b f p u n v w y aa:=Fx Ei (Gb Rn g h o m k a b f p u n v w y aa) g h o m k a b f p u n v w y aa
def Pk(j36:Int->Int->LI->LX->Al)(g h:LB)(o:LI)(m a b f k p u n v w y:Int)(aa:LI)(ab af ae:Int)(ak aj ac:LX)(al:LI):Al:=
(Dk ac ak).bind λav=>
j36 ab 0 al av
def FY Rn g h o m a b f k p u n v w y aa:=Pk (Ja Rn g h o m k a b f p u n v w y aa) g h o m a b f k p u n v w y aa
def Pw(j36:Int->Int->LI->LX->Al)(g h:LB)(o:LI)(m a b f k p u n v w y:Int)(aa:LI)(ab af ae:Int)(aj ac:LX)(aw:LI):Al:=
(Dk ac aj).bind λak=>
j36 ab 0 aw ak
def ER Rn g h o m a b f k p u n v w y aa:=Pw (Ja Rn g h o m k a b f p u n v w y aa) g h o m a b f k p u n v w y aa
def Qb(j36:Int->Int->LI->LX->Al)(j34:Int->Int->Int->LX->LX->LX->LI->Al)(j35:Int->Int->Int->LX->LX->LI->Al)(g h:LB)(o:LI)(m k a b f p u n v w y:Int)(aa:LI)(ab af ae:Int)(ad:LI)(ac aj:LX):Al:=
if(!(geq ae 0))then
(Dk ad ([ab]:LI)).bind λal=>
if(geq k 2)then
(Ut a b af).bind λ(ak,ap)=>
if(Bk ap 0)then
j36 ab ap al ac
else
j34 ab af ae ak aj ac al
else
j35 ab af ae aj ac al
else
j35 ab af ae aj ac ad
def DK Rn g h o m k a b f p u n v w y aa:=Qb (Ja Rn g h o m k a b f p u n v w y aa) (FY Rn g h o m a b f k p u n v w y aa) (ER Rn g h o m a b f k p u n v w y aa) g h o m k a b f p u n v w y aa
def Qi(j40:Int->Int->Int->Int->LI->LX->Al)(j33:Int->Int->Int->LI->LX->LX->Al)(j39:LB->LB->Int->Int->Int->Int->Int->Int->Int->Int->Int->Int->Int->LI->LI->LX->Al)(g h:LB)(o:LI)(m k a b f p u n v w y:Int)(aa:LI)(ab:Int)(ad:LI)(ac:LX):Al:=
if(Cl ab (Ac o))then
(Ah o ab).bind λ_=>
(Ah o ab).bind λaf=>
(Tu g h ab).bind λ(ax,ae)=>
if(geq ae 0)then
(Qv n ax).bind λ(ay,aq)=>
if(Bk aq 0)then
j40 a b f aq ad ac
else
j33 ab af ae ad ac ay
else
j33 ab af ae ad ac ([]:LX)
else
j39 g h m p u n v w y k a b f aa ad ac
def Jh:Nat->Int->LI->LX->Al
|0,_,_,_=>none
|e+1,j,B,C=>Qi Ei (DK (Jh e) c G A z d i E I P dx dz eu fq iw M) DR c G A z d i E I P dx dz eu fq iw M j B C
def FP g h o m k a b f p u n v w y aa:=Jh g h o m k a b f p u n v w y aa Cn
def Sg(j40:Int->Int->Int->Int->LI->LX->Al)(j21:LB->LB->LI->Int->Int->Int->Int->Int->Int->Int->Int->Int->Int->Int->LI->Int->LI->LX->Al)(g h:LB)(k:Int):Al:=
if((Cl k 0)||(Ez k 2))then
some (0,0,0,([]:LX),([]:LI),2)
else
if(geq k 0)then
(QA g h).bind λ(az,ba,bb,bc,bd)=>
some (az,ba,bb,bc,([]:LI),bd)
else
(Lb g h).bind λ(be,a,b,f,bf,bg,bh,m)=>
if(Bk m 0)then
some (0,0,0,([]:LX),([]:LI),m)
else
(Lb g h).bind λ(p,u,n,v,w,y,aa,ar)=>
if(Bk ar 0)then
j40 a b f ar ([]:LI) ([]:LX)
else
(Fk p u n v w).bind λ(o,au)=>
if(Bk au 0)then
j40 a b f au ([]:LI) ([]:LX)
else
j21 g h o m k a b f p u n v w y aa 0 ([]:LI) ([]:LX)
def Cc:=Sg Ei FP
abbrev Bi:=Option (LI×Int)
def OI:Bi:=
if(Bk z 0)then
some (([]:LI),z)
else
some (M,0)
def Ex:=OI
def PD(j26:Int->LI->Bi)(a b:LB)(h k f m n o:Int)(p v:LI):Bi:=
j26 0 v
def Yf:=PD Ex
def NH(RJ:Int->LI->Bi)(a b:LB)(g:LI)(h k f m n o:Int)(p:LI)(u:Int)(y:LI):Bi:=
RJ (Aa u 1) y
def QR RJ:=NH RJ
def PC(j26:Int->LI->Bi)(j23:Int->LI->Bi)(a b:LB)(g:LI)(h k f m n o:Int)(p:LI)(u:Int)(y:LI):Bi:=
if(Bk (0:Int) (0:Int))then
j26 0 y
else
j23 u y
def QP RJ a b g h k f m n o p:=PC Ex (QR RJ a b g h k f m n o p) a b g h k f m n o p
def OC(j22:Int->LI->Bi)(a b:LB)(g:LI)(h k f m n o:Int)(p:LI)(u aa w:Int)(v:LI)(aj:LX):Bi:=
if(!(geq w 0))then
(Dk v ([u]:LI)).bind λag=>
j22 u ag
else
j22 u v
def Yr RJ a b g h k f m n o p:=OC (QP RJ a b g h k f m n o p) a b g h k f m n o p
def Xu(j26:Int->LI->Bi)(j21:Int->Int->Int->LI->LX->Bi)(j25:LB->LB->Int->Int->Int->Int->Int->Int->LI->LI->Bi)(a b:LB)(g:LI)(h k f m n o:Int)(p:LI)(u:Int)(v:LI):Bi:=
if(Cl u (Ac g))then
(Ah g u).bind λ_=>
(Ah g u).bind λaa=>
(Tu a b u).bind λ(ah,w)=>
if(geq w 0)then
(Qv f ah).bind λ(ai,ac)=>
if(Bk ac 0)then
j26 ac v
else
j21 u aa w v ai
else
j21 u aa w v ([]:LX)
else
j25 a b h k f m n o p v
def Nb:Nat->Int->LI->Bi
|0,_,_=>none
|e+1,j,B=>Xu Ex (Yr (Nb e) c G A z d i E I P M) Yf c G A z d i E I P M j B
def MZ a b g h k f m n o p:=Nb a b g h k f m n o p Cn
def AJ(j26:Int->LI->Bi)(j14:LB->LB->LI->Int->Int->Int->Int->Int->Int->LI->Int->LI->Bi)(a b:LB):Bi:=
(Lb a b).bind λ(h,k,f,m,n,o,p,ad)=>
if(Bk ad 0)then
j26 ad ([]:LI)
else
(Fk h k f m n).bind λ(g,ae)=>
if(Bk ae 0)then
j26 ae ([]:LI)
else
j14 a b g h k f m n o p 0 ([]:LI)
def Oh:=AJ Ex MZ
def Rj:Option Bool:=
some true
def Hv:=Rj
def Hm(j6:Option Bool)(Zg:Int->Option Bool)(a b:LI)(f:Int):Option Bool:=
if(Cl f (Ac a))then
(Ah a f).bind λg=>
(Ah b f).bind λh=>
if(Bk g h)then
some false
else
Zg (Aa f 1)
else
j6
def Ep:Nat->Int->Option Bool
|0,_=>none
|z+1,c=>Hm Hv (Ep z) A M c
def Qr a b:=Ep a b Cn
def Hr(j4:LI->LI->Int->Option Bool)(a b:LI):Option Bool:=
if(Bk (Ac a) (Ac b))then
some false
else
j4 a b 0
def Ci:=Hr Qr
def Wz:Option Bool:=
some true
def Lf:=Wz
def Ky(j6:Option Bool)(Zg:Int->Option Bool)(a b:LX)(f:Int):Option Bool:=
if(Cl f (Ac a))then
(Ah a f).bind λg=>
(Ah b f).bind λh=>
if(Bk g h)then
some false
else
Zg (Aa f 1)
else
j6
def Gf:Nat->Int->Option Bool
|0,_=>none
|z+1,c=>Ky Lf (Gf z) e J c
def Ww a b:=Gf a b Cn
def Kr(j4:LX->LX->Int->Option Bool)(a b:LX):Option Bool:=
if(Bk (Ac a) (Ac b))then
some false
else
j4 a b 0
def Pv:=Kr Ww
def Ji:Option Bool:=
if(((geq z D)&&(geq d V))&&(geq i gu))then
(Pv e J).bind λc=>
some c
else
some false
def Am:Option Bool:=
(Cc c ([]:LB) z).bind λ(d,i,j,A,B,C)=>
if(geq C 0)then
(Ci B M).bind λD=>
if D then
(Ji d i j A 1 8 1 e).bind λE=>
some E
else
some false
else
if false then
(Ji d i j A 1 8 1 e).bind λF=>
some F
else
some false
def Hz:Option Bool:=
(Ih).bind λ(a,h)=>
if(!h)then
some false
else
(Oh a ([]:LB)).bind λ(k,m)=>
(Ee a 0 44).bind λn=>
(Oh n ([]:LB)).bind λ(f,g)=>
(Cc a ([]:LB) 0).bind λ(aj,ak,al,am,an,b)=>
if(geq m 0)then
(Ci k ([(1:Int)]:LI)).bind λo=>
if(o&&(geq g 0))then
(Ci f ([(1:Int),(2:Int)]:LI)).bind λp=>
if(p&&(geq b 22))then
(Am a 1 ([(1:Int)]:LI) ([(1:Int32),(3:Int32)]:LX)).bind λu=>
if u then
(Am a 2 ([(1:Int)]:LI) ([(1:Int32),(0:Int32),(3:Int32)]:LX)).bind λv=>
some v
else
some false
else
if false then
(Am a 2 ([(1:Int)]:LI) ([(1:Int32),(0:Int32),(3:Int32)]:LX)).bind λw=>
some w
else
some false
else
if(false&&(geq b 22))then
(Am a 1 ([(1:Int)]:LI) ([(1:Int32),(3:Int32)]:LX)).bind λy=>
if y then
(Am a 2 ([(1:Int)]:LI) ([(1:Int32),(0:Int32),(3:Int32)]:LX)).bind λaa=>
some aa
else
some false
else
if false then
(Am a 2 ([(1:Int)]:LI) ([(1:Int32),(0:Int32),(3:Int32)]:LX)).bind λab=>
some ab
else
some false
else
if(false&&(geq g 0))then
(Ci f ([(1:Int),(2:Int)]:LI)).bind λac=>
if(ac&&(geq b 22))then
(Am a 1 ([(1:Int)]:LI) ([(1:Int32),(3:Int32)]:LX)).bind λad=>
if ad then
(Am a 2 ([(1:Int)]:LI) ([(1:Int32),(0:Int32),(3:Int32)]:LX)).bind λae=>
some ae
else
some false
else
if false then
(Am a 2 ([(1:Int)]:LI) ([(1:Int32),(0:Int32),(3:Int32)]:LX)).bind λaf=>
some af
else
some false
else
if(false&&(geq b 22))then
(Am a 1 ([(1:Int)]:LI) ([(1:Int32),(3:Int32)]:LX)).bind λag=>
if ag then
(Am a 2 ([(1:Int)]:LI) ([(1:Int32),(0:Int32),(3:Int32)]:LX)).bind λah=>
some ah
else
some false
else
if false then
(Am a 2 ([(1:Int)]:LI) ([(1:Int32),(0:Int32),(3:Int32)]:LX)).bind λai=>
some ai
else
some false
noncomputable def Ej:Option Bool:=
(KF (λ_:Unit=>Ih) ()).bind λ(a,o)=>
if(!o)then
some false
else
(fR (65:Int) (0:UInt8)).bind λh=>
(Ds (geq (65:Int) (65:Int))).bind λ_=>
(KF (λx:LB×LB×Int=>Cc x.1 x.2.1 x.2.2) (a,h,(3:Int))).bind λ(av,aw,ax,ay,az,p)=>
(KF (λx:LB×LB×Int=>Cc x.1 x.2.1 x.2.2) (a,([]:LB),(-1:Int))).bind λ(ba,bb,bc,bd,be,u)=>
(KF (λx:LB×LB×Int=>Cc x.1 x.2.1 x.2.2) (a,h,(0:Int))).bind λ(bf,bg,bh,bi,bj,v)=>
(KF (λx:LB×LB×Int=>Cc x.1 x.2.1 x.2.2) (a,h,(2:Int))).bind λ(bk,bl,bm,bn,bp,w)=>
(KF (λx:LB×LB=>Oh x.1 x.2) (a,h)).bind λ(bq,y)=>
(KF (λx:LB×LB=>Oh x.1 x.2) (a,([120]:LB))).bind λ(br,aa)=>
(HH (Ac a) 0 37).bind λ_=>
(KF (λx:LB×LB×Int=>Cc x.1 x.2.1 x.2.2) ((Pc a 0 ((37:Int)-(0:Int))),([]:LB),(1:Int))).bind λ(bs,bt,bu,bv,bw,ab)=>
(HH (Ac a) 0 38).bind λ_=>
(KF (λx:LB×LB×Int=>Cc x.1 x.2.1 x.2.2) ((Pc a 0 ((38:Int)-(0:Int))),([]:LB),(1:Int))).bind λ(bx,bz,da,db,dc,ac)=>
(HH (Ac a) 0 38).bind λ_=>
(KF (λx:LB×LB×Int=>Cc x.1 x.2.1 x.2.2) ((Pc a 0 ((38:Int)-(0:Int))),([]:LB),(2:Int))).bind λ(dd,de,df,k,ad,ae)=>
(KF (λx:LB×LB×Int=>Cc x.1 x.2.1 x.2.2) (([(84:UInt8),(84:UInt8),(65:UInt8),(50:UInt8)]:LB),([]:LB),(2:Int))).bind λ(dg,dh,di,dj,dk,m)=>
(Ah a 45).bind λ_=>
(Ah a 45).bind λaf=>
(Ah a 45).bind λ_=>
(Gd a 45 (Zz af 1)).bind λf=>
(Dk ([]:LB) f).bind λag=>
(Dk ag ([(0:UInt8)]:LB)).bind λg=>
(KF (λx:LB×LB×Int=>Cc x.1 x.2.1 x.2.2) (g,([]:LB),(0:Int))).bind λ(dl,dm,dn,dp,dq,n)=>
(Ah f 55).bind λ_=>
(Ah f 55).bind λah=>
(Ah f 55).bind λ_=>
(Gd f 55 (Zz ah 1)).bind λb=>
if(((((((((true&&(geq p 2))&&(geq u 2))&&(geq v 2))&&(geq w 2))&&(geq y 2))&&(geq aa 26))&&(geq ab 24))&&(geq ac 6))&&(geq ae 0))then
(KF (λx:LI×LI=>Ci x.1 x.2) (ad,([(0:Int),(1:Int),(2:Int)]:LI))).bind λai=>
if(((ai&&(geq (Ac k) 3))&&(geq m 12))&&(geq n 38))then
(KF (λx:LB×Int×LI×LX=>Am x.1 x.2.1 x.2.2.1 x.2.2.2) (g,(1:Int),([]:LI),([(1:Int32),(2:Int32),(3:Int32)]:LX))).bind λaj=>
if aj then
(KF (λx:LB×Int×LI×LX=>Am x.1 x.2.1 x.2.2.1 x.2.2.2) (g,(2:Int),([]:LI),([(1:Int32),(2:Int32),(3:Int32)]:LX))).bind λak=>
if ak then
(KF (λx:LB×Int×LI×LX=>Am x.1 x.2.1 x.2.2.1 x.2.2.2) (b,(1:Int),([(2:Int)]:LI),([(1:Int32),(2:Int32)]:LX))).bind λal=>
if al then
(HH (Ac b) 0 50).bind λ_=>
(KF (λx:LB×Int×LI×LX=>Am x.1 x.2.1 x.2.2.1 x.2.2.2) ((Pc b 0 ((50:Int)-(0:Int))),(2:Int),([(2:Int)]:LI),([(1:Int32),(2:Int32),(0:Int32)]:LX))).bind λam=>
if am then
(KF (λ_:Unit=>Hz) ()).bind λan=>
some an
else
some false
else
some false
else
some false
else
some false
else
some false
else
if(((false&&(geq (Ac k) 3))&&(geq m 12))&&(geq n 38))then
(KF (λx:LB×Int×LI×LX=>Am x.1 x.2.1 x.2.2.1 x.2.2.2) (g,(1:Int),([]:LI),([(1:Int32),(2:Int32),(3:Int32)]:LX))).bind λao=>
if ao then
(KF (λx:LB×Int×LI×LX=>Am x.1 x.2.1 x.2.2.1 x.2.2.2) (g,(2:Int),([]:LI),([(1:Int32),(2:Int32),(3:Int32)]:LX))).bind λap=>
if ap then
(KF (λx:LB×Int×LI×LX=>Am x.1 x.2.1 x.2.2.1 x.2.2.2) (b,(1:Int),([(2:Int)]:LI),([(1:Int32),(2:Int32)]:LX))).bind λaq=>
if aq then
(HH (Ac b) 0 50).bind λ_=>
(KF (λx:LB×Int×LI×LX=>Am x.1 x.2.1 x.2.2.1 x.2.2.2) ((Pc b 0 ((50:Int)-(0:Int))),(2:Int),([(2:Int)]:LI),([(1:Int32),(2:Int32),(0:Int32)]:LX))).bind λar=>
if ar then
(KF (λ_:Unit=>Hz) ()).bind λau=>
some au
else
some false
else
some false
else
some false
else
some false
else
some false
end Go.Pl
