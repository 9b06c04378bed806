/- A part of a proof (see the text that ends in Proof). No conditions. -/
import Derived.Test.YtaokmgopghpikaaGreatDoorSeBA
set_option linter.unusedVariables false
namespace Go.Pl
open Go Go.Lv
abbrev Jz3(R:Type):=Int->Int->Int->R
abbrev Jz4(R:Type):=Int->Int->Int->Int->R
abbrev Jz5(R:Type):=Int->Int->Int->Int->Int->R
abbrev Jz6(R:Type):=Int->Int->Int->Int->Int->Int->R
abbrev Jz7(R:Type):=Int->Int->Int->Int->Int->Int->Int->R
abbrev LB:=List UInt8
abbrev LI:=List Int
abbrev LX:=List Int32
abbrev LU:=List UInt32
abbrev LQ:=List UInt64
abbrev Bdr:=List LB
abbrev Bfn:=UInt64->Option UInt64
abbrev Bfa:=UInt64->Int->Option UInt64
abbrev Bdk:=Option Int
abbrev Bes:=Int->Option Int
abbrev Be3:=Int->Int->Option Int
abbrev Ber:=Int->LI->Option (LI)
abbrev Bfc:=Bool->Option Int
abbrev Bdm:=List (UInt8×Int×Unit)
abbrev Be7:=List LI
variable(I:LI)(c D:LB)(z d e A C:Int)(F:LI)(G:Int)(i:LB)(B:Bool)(l U:Int)(V:LB)(j:LX)(T:Bdr)(l7:LB)(Bck:Bool)(J p8:Int)(Bdd:Bdr)(Bc2 Bde Bdf:Int)(r9:LB)(Bcq:Bool)(Bcr:Int)(Bc3:LB)(M:LX)(Bc4:LB)(Bdg:Bool)(o8:Int)(Bcs:LB)(Bda:Bdr)(Bc5:LI)(t:UInt64)(N:UInt32)(O:UInt64)(p9:LB)(Bcg:Bfn)(Bch:Bfa)(R:Int)(Bct:LB)(Bc6:Int)(l9:UInt64)(Y:Int)(Bci:Bdk)(Bcl:Bes)(E Bcw:Int32)(w9:LX)(L:Int)(Z l5:LX)(Bcu:Int32)(Bcv Bcx:UInt64)(Bcm:Be3)(Bcn:LI)(o9 o7:Int)(Bdh:Bes)(Bc7:LI)(Bcy Bc0:Int)(Bcj:UInt8)(Bdb:UInt64)(X:Int)(P:LU)(Bce Bcf:Int)(Bc1:LX)(Bco:Bool)(Bdi:LQ)(Bdj:Ber)(Bdc:LI)(Bc8:UInt64)(q9:Bfc)(Bcp:Bool)(Bcz:Int)(l6:Bdm)(Bc9:Be7)
abbrev Bdy:=Option (Int×Int)
def Qg:Bdy:=some (1,8)
abbrev Bdn:=Option Bool
def CR:Bdn:=if Bco then
some ((Lo X 0)&&(tM X 100000))
else
if(geq Bcj 3)then
some (geq X 0)
else
some false
def Ajr:=CR
def Aj4(j2:UInt8->Int->Bool->Option Bool)(a:UInt8)(b:Int):Bdn:=if(geq a 1)then
j2 a b (geq a 1)
else
j2 a b (geq a 2)
def eY:=Aj4 Ajr
def HY:Bdn:=(eY Bcj X).bind λz=>some (!z)
def Bb7:Bdk:=some 0
def Bbk:=Bb7
def Bbl:Bdk:=if Bco then
some 2
else
Bci
def Bbn:=Bbl Bbk
def Bb8:Bdk:=q9 Bcp
def Ahp:=Bb8 Bbn
def Bbd:Bdk:=q9 (Lo (-1:Int) (0:Int))
def Ahr:=Bbd Ahp
def Aho(cZ:Bes)(a:Bdm)(b:Int):Bdk:=cZ (Ae b 1)
def Ail cZ:=Aho cZ
def Ahv(j18:Bfc)(j15:Bes)(a:Bdm)(b:Int)(g:Bool):Bdk:=if g then
j18 (Lo b 0)
else
j15 b
def LD cZ a:=Ahv Ahp (Ail cZ a) a
def Zl(j14:Int->Bool->Option Int)(j17:Bdk)(a:Bdm)(b:Int):Bdk:=if(Cw b (Ac a))then(Aj a b).bind λh=>(HY h.1 h.2.1).bind λg=>j14 b g
else
j17
def Nr:Nat->Int->Option Int
|0,_=>none
|z+1,c=>Zl (LD (Nr z) l6) Ahr l6 c
def Bbe a:=Nr a As
def QO(j11:(List (UInt8×Int×Unit))->Int->Option Int)(a:Bdm):Bdk:=if(Ef (Ac a) 200)then
some 4
else
j11 a 0
def Zm:=QO Bbe
def Tq:Bdy:=if((Cw z 1)||(Ef z 1048576))then
some (0,2)
else
some ((tA 1 (Ci (Br 256 z) 245)),0)
abbrev ZW:=Option (Int32×Int32×Int)
def Awt:ZW:=if B then(Ke (Lo (Am z 1) 0)).bind λ_=>some ((sO (Dl (1:Int32) (GI.toZ (Am z 1)).toNat)),(Am (Dl (1:Int32) (GI.toZ (Am z 1)).toNat) 1),0)
else
some (0,0,2)
def Axb:=Awt
def Awz(j2:Int->Bool->ZW)(a:Int):ZW:=if(geq a 8)then
j2 a (geq a 8)
else
if(geq a 16)then
j2 a (geq a 16)
else
j2 a (geq a 24)
def Yt:=Awz Axb
def Nk:Bdk:=(Yt d).bind λ(c,e,i)=>if(((Bj i 0)||(Cw z 1))||(Ef z 6))then
some 2
else
some 0
def CA:Option (Int×Bool):=(Tq e).bind λ(c,j)=>(Nk z d).bind λl=>some (c,(((geq l 0)&&(geq j 0))&&(tM (Ac i) 64)))
abbrev Beb:=Option (Int×Int×Int×LB×LB×LX×(List LB)×LB×Bool×Int×Int)
def FF:Beb:=(CA z d e i).bind λ(c,j)=>if(!j)then
some (0,0,0,([]:LB),([]:LB),([]:LX),([]:Bdr),([]:LB),false,0,2)
else
some (z,d,e,i,([]:LB),([]:LX),([]:Bdr),([]:LB),false,0,0)
def GN:Bdk:=some (Ci (Br z d) 8)
def Ax9:Bdk:=some 0
def Ap7:=Ax9
def GF:Bdk:=if(Cw L (Ac w9))then(Aj w9 L).bind λz=>if((Cw z E)||(Ef z Bcw))then
some 16
else
Bcl (Ae L 1)
else
Bci
def Sa:Nat->Int->Option Int
|0,_=>none
|z+1,c=>GF Ap7 (Sa z) E Bcw w9 c
def Awr b f a:=Sa b f a As
def VE(j4:Int32->Int32->LX->Int->Option Int)(m:Int)(a:LX):Bdk:=(Yt m).bind λ(b,f,k)=>if(Bj k 0)then
some k
else
if(Ef (Ac a) 4000)then
some 4
else
j4 b f a 0
def Tn:=VE Awr
def Vf(a h k:Int)(m n:LB)(b:LX)(f:Bdr)(o:LB)(p:Bool)(u g:Int):Bdk:=(Ke (Bj a 0)).bind λ_=>some (Ae (Br (Ac f) g) (Ci (Ac b) a))
def Uq(a g h:Int)(k m:LB)(n:LX)(o:Bdr)(p:LB)(u:Bool)(v b f:Int):Bdn:=some ((tM b 1000)&&(tM (Br f a) 4000))
def Ba8:Bdn:=some (!B)
def Baa:=Ba8
abbrev Bfb:=Bool->Option Bool
def Ba1(j24:Bfb)(y:Bool):Bdn:=j24 y
def Aba:=Ba1 Baa
def Ba7(j23:Bfb):Bdn:=j23 (Lo (-1:Int) (0:Int))
def Aaq:=Ba7 Aba
abbrev Bfd:=Int->Option Bool
def Aaz(If:Bfd)(b:Bdr)(f a h:Int):Bdn:=If (Ae h 1)
def Aas If:=Aaz If
def Ab9(j23:Bfb)(j20:Bfd)(b:Bdr)(f a h:Int)(w:LB):Bdn:=if((Cw (Ac w) 5)||(Ef (Ac w) (Ae (Ci (Ae (Br (Br 81 f) a) 7) 8) 4)))then
j23 (Lo h 0)
else
j20 h
def AJ If b f a:=Ab9 Aba (Aas If b f a) b f a
def Rl(j19:Int->LB->Option Bool)(j22:Bdn)(b:Bdr)(f a h:Int):Bdn:=if(Cw h (Ac b))then(Aj b h).bind λw=>j19 h w
else
j22
def Ka:Nat->Int->Option Bool
|0,_=>none
|z+1,c=>Rl (AJ (Ka z) T J p8) Aaq T J p8 c
def AL b f a:=Ka b f a As
def Rh(j16:(List LB)->Jz3 (Option Bool))(f a k o:Int)(p m:LB)(g:LX)(b:Bdr)(n:LB)(u:Bool)(v:Int):Bdn:=j16 b f a 0
def BJ:=Rh AL
abbrev Bd9:=Jz4 (LB->LB->LX-> (List LB)->LB->Bool->Int->Option Bool)
def Ri(j15:Bd9)(f a k o:Int)(p m:LB)(g:LX)(b:Bdr)(n:LB)(u:Bool)(v aa:Int):Bdn:=(Vf a k o p m g b n u v f).bind λab=>(Uq a k o p m g b n u v aa ab).bind λac=>if(!ac)then
some false
else
j15 f a k o p m g b n u v
def AQ:=Ri BJ
def AW(j14:Jz4 (LB->LB->LX-> (List LB)->LB->Bool->Int->Int->Option Bool))(f a k o:Int)(p m:LB)(g:LX)(b:Bdr)(n:LB)(u:Bool)(v:Int):Bdn:=(Tn k g).bind λad=>if(Bj ad 0)then
some false
else
if(Ef (Ac g) 0)then
j14 f a k o p m g b n u v (Ae (Ac b) 1)
else
j14 f a k o p m g b n u v (Ac b)
def AO:=AW AQ
def DJ(j13:Bd9)(a k o:Int)(p m:LB)(g:LX)(b:Bdr)(n:LB)(u:Bool)(v f:Int):Bdn:=if(Ef (Ac n) 0)then
if true then
if true then
if(true||(Ef (Ac b) 1000))then
some false
else
j13 f a k o p m g b n u v
else(Ke (Bj a 0)).bind λ_=>if((Lo (Ci (Ac g) a) f)||(Ef (Ac b) 1000))then
some false
else
j13 f a k o p m g b n u v
else(Ke (Bj a 0)).bind λ_=>if(Bj (Hl (Ac g) a) 0)then
if(true||(Ef (Ac b) 1000))then
some false
else
j13 f a k o p m g b n u v
else(Ke (Bj a 0)).bind λ_=>if((Lo (Ci (Ac g) a) f)||(Ef (Ac b) 1000))then
some false
else
j13 f a k o p m g b n u v
else(GN a k).bind λae=>if(Lo (Ac m) ae)then
if true then
if(true||(Ef (Ac b) 1000))then
some false
else
j13 f a k o p m g b n u v
else(Ke (Bj a 0)).bind λ_=>if((Lo (Ci (Ac g) a) f)||(Ef (Ac b) 1000))then
some false
else
j13 f a k o p m g b n u v
else(Ke (Bj a 0)).bind λ_=>if(Bj (Hl (Ac g) a) 0)then
if(true||(Ef (Ac b) 1000))then
some false
else
j13 f a k o p m g b n u v
else(Ke (Bj a 0)).bind λ_=>if((Lo (Ci (Ac g) a) f)||(Ef (Ac b) 1000))then
some false
else
j13 f a k o p m g b n u v
def CT:=DJ AO
def Nj:Bdk:=(CA z d e i).bind λ(c,l)=>if(!l)then
some 8
else
if(Bj J 0)then
if(!(((((geq J 18)||(geq J 24))&&(!Bck))&&(geq (Ae (Ae (Ac V) (Ac j)) (Ac T)) 0))&&(geq (Ac l7) 0)))then
some 8
else
some 0
else
if Bck then
if(!((geq (Ae (Ae (Ac V) (Ac j)) (Ac T)) 0)&&(tM (Ac l7) 100000)))then
some 8
else
some 0
else(CT z d e i V j T l7 Bck J c).bind λt=>if(!t)then
some 8
else
some 0
abbrev Bdu:=Option (LB)
def Bm:Bdu:=(
(Da ([]:LB) c).bind λz=>some z)
abbrev Bdx:=Option (LX)
def Dd:Bdx:=(
(Da ([]:LX) j).bind λz=>some z)
abbrev Jn:=Option (Int×Int×Int×LB×LB×LX×(List LB)×LB×Bool×Int)
def Bbz(b f g:Int)(h:LB)(a:Bdr)(k:Bool)(m:Int)(u:Bdr)(n:LB)(o:LX)(p:LB):Jn:=some (b,f,g,h,n,o,u,p,k,m)
def Aju:=Bbz
def DA(j8:Jz3 (LB-> (List LB)->Bool->Int-> (List LB)->LB->LX->LB->Jn))(S9:Int-> (List LB)->Jn)(w a:Bdr)(b f g:Int)(h:LB)(k:Bool)(m:Int)(n:LB)(o:LX)(p:LB)(v:Int)(u:Bdr):Jn:=if(Cw v (Ac (PM w a)))then(Aj u v).bind λ_=>(Aj u v).bind λy=>(Bm y).bind λaa=>(Aj u v).bind λ_=>(Mm u v aa).bind λab=>S9 (Ae v 1) ab
else
j8 b f g h a k m u n o p
def Qb:Nat->Int-> (List LB)->Jn
|0,_,_=>none
|z+1,c,d=>DA Aju (Qb z) T Bdd Bc2 Bde Bdf r9 Bcq Bcr Bc3 M Bc4 c d
def Bbu w a b f g h k m n o p:=Qb w a b f g h k m n o p As
def QM(j6:(List LB)-> (List LB)->Jz3 (LB->Bool->Int->LB->LX->LB->Int-> (List LB)->Jn))(b f g:Int)(h:LB)(a:Bdr)(k:Bool)(m:Int)(n:LB)(o:LX)(p:LB):Jn:=(mkI (Ac a) ([]:LB)).bind λw=>(Ke (geq (Ac a) (Ac a))).bind λ_=>j6 w a b f g h k m n o p 0 (PM w a)
def Ajv:=QM Bbu
def QB(j5:Jz3 (LB-> (List LB)->Bool->Int->LB->LX->LB->Jn))(b f g:Int)(h ac:LB)(ad:LX)(a:Bdr)(ae:LB)(k:Bool)(m:Int):Jn:=(Bm ac).bind λn=>(Dd ad).bind λo=>(Bm ae).bind λp=>j5 b f g h a k m n o p
def HZ:=QB Ajv
abbrev QG:=Option (Int×Int×Int×LB×LB×LX×(List LB)×LB×Bool×Int×Int×Int)
def Ry:QG:=(HZ d e A i V j T l7 Bck J).bind λ(c,l,t,B,C,D,E,F,G,I)=>some (c,l,t,B,C,D,E,F,G,I,z,p8)
def Ti:=Ry
def KY(j2:Jz4 (LB->LB->LX-> (List LB)->LB->Bool->Int->Int->QG))(g h b:Int)(k m:LB)(n:LX)(o:Bdr)(p:LB)(f:Bool)(a:Int):QG:=(Nj g h b k m n o p f a).bind λv=>if(Bj v 0)then
some (0,0,0,([]:LB),([]:LB),([]:LX),([]:Bdr),([]:LB),false,0,0,v)
else(Tq b).bind λ(u,aj)=>if(Bj a 0)then
j2 u g h b k m n o p f a a
else
if f then
j2 u g h b k m n o p f a 36
else
j2 u g h b k m n o p f a aj
def Qz:=KY Ti
abbrev Cx:=Option (LX×Int)
def Baz:Cx:=some (j,0)
def Aec:=Baz
abbrev Bfl:=Int->LX->Cx
def Wp(If:Bfl)(a:Int)(b:LB)(f:Int)(o:LX):Cx:=If (Ae f (Ci a 8)) o
def Ji If:=Wp If
def FR(j28:Bfl)(a:Int)(b:LB)(f:Int)(k:Int32)(g:LX):Cx:=(Ke (Lo (Am 32 a) 0)).bind λ_=>(Ke (Lo (Am 32 a) 0)).bind λ_=>(Da g ([(Cq (Dl k (GI.toZ (Am 32 a)).toNat) (GI.toZ (Am 32 a)).toNat)]:LX)).bind λp=>j28 f p
def Ww If a b:=FR (Ji If a b) a b
def Fz(j27:Int->Int32->LX->Cx)(Av1:Int32->Int->Cx)(a:Int)(b:LB)(f:Int)(g:LX)(k:Int32)(h:Int):Cx:=if(Cw h (Ci a 8))then(Aj b (Ae f h)).bind λm=>(Ke (Lo (Br 8 h) 0)).bind λ_=>Av1 (rA k (Dl (Ad m:Int32) (GI.toZ (Br 8 h)).toNat)) (Ae h 1)
else
j27 f k g
def Et(If:Bfl)(a:Int)(b:LB)(f:Int)(g:LX):Nat->Int32->Int->Cx
|0,_,_=>none
|q+1,k,h=>Fz (Ww If a b) (Et If a b f g q) a b f g k h
def Me If a b f g:=Et If a b f g As
def Gh(j28:Bfl)(j25:Int->LX->Int32->Int->Cx)(j30:LX->Cx)(a:Int)(b:LB)(f:Int)(g:LX):Cx:=if(Cw f (Ac b))then
if(geq a 8)then(Aj b f).bind λm=>(Da g ([(Am (Ad m:Int32) 128)]:LX)).bind λu=>j28 f u
else
j25 f g 0 0
else
j30 g
def Eh:Nat->Int->LX->Cx
|0,_,_=>none
|c+1,d,e=>Gh (Ji (Eh c) z i) (Me (Eh c) z i) Aec z i d e
def Aem a b:=Eh a b As
def MI(j16:Int->LB->Int->LX->Cx)(a:Int)(b:LB):Cx:=(Yt a).bind λ(v,w,n)=>if(Bj n 0)then
some (([]:LX),n)
else(Ke (Bj (Ci a 8) 0)).bind λ_=>if(Bj (Hl (Ac b) (Ci a 8)) 0)then
some (([]:LX),12)
else(Ke (Bj (Ci a 8) 0)).bind λ_=>if(Ef (Ci (Ac b) (Ci a 8)) 4000)then
some (([]:LX),4)
else
j16 a b 0 ([]:LX)
def MU:=MI Aem
abbrev Cn:=Option (UInt64×Int)
def Ap4:Cn:=some (t,0)
def Ap5:=Ap4
def Al5(j30:UInt64->Cn)(h b:UInt64)(a:LB)(f:LQ):Cn:=j30 h
def VD:=Al5 Ap5
def HH(j29:UInt64->UInt64->LB->LQ->Cn)(fV:UInt64->Int->Cn)(a:LB)(b:UInt64)(f:LQ)(h:UInt64)(m:Int):Cn:=if(Cw m (Ac a))then(Aj a m).bind λp=>Option.bind (Aj f (GI.toZ (Yo (Ad (Cq h (GI.toZ (56:UInt64)).toNat):UInt8) p))) λ_=>Option.bind (Aj f (GI.toZ (Yo (Ad (Cq h (GI.toZ (56:UInt64)).toNat):UInt8) p))) λu=>fV (Yo (Dl h (GI.toZ (8:UInt64)).toNat) u) (Ae m 1)
else
j29 h b a f
def Sj:Nat->UInt64->Int->Cn
|0,_,_=>none
|z+1,d,e=>HH VD (Sj z) c t Bdi d e
def UB a b f:=Sj a b f As
def TS(j27:LB->UInt64->LQ->UInt64->Int->Cn)(b:UInt64)(a:LB)(f:LQ):Cn:=j27 a b f b 0
def UY:=TS UB
abbrev Bfr:=Int->LQ->Cn
def Al4(If:Bfr)(b:UInt64)(a:LB)(g:Int)(o:LQ):Cn:=If (Ae g 1) o
def Ame If:=Al4 If
def Al7(j24:Bfr)(b:UInt64)(a:LB)(g:Int)(k:UInt64)(f:LQ):Cn:=(Aj f g).bind λ_=>(Mm f g k).bind λo=>j24 g o
def GR If b a:=Al7 (Ame If b a) b a
def FX(j23:Int->UInt64->LQ->Cn)(mN:UInt64->Int->Cn)(b:UInt64)(a:LB)(g:Int)(f:LQ)(k:UInt64)(n:Int):Cn:=if(Cw n 8)then
mN (Yo (Dl k (GI.toZ (1:UInt64)).toNat) (Br 4823603603198064275 (Cq k (GI.toZ (63:UInt64)).toNat))) (Ae n 1)
else
j23 g k f
def Ta(If:Bfr)(b:UInt64)(a:LB)(g:Int)(f:LQ):Nat->UInt64->Int->Cn
|0,_,_=>none
|q+1,k,n=>FX (GR If b a) (Ta If b a g f q) b a g f k n
def WB If b a g f:=Ta If b a g f As
def HJ(j21:Int->LQ->UInt64->Int->Cn)(j26:UInt64->LB->LQ->Cn)(b:UInt64)(a:LB)(g:Int)(f:LQ):Cn:=if(Cw g 256)then
j21 g f (Dl (Ad g:UInt64) (GI.toZ (56:UInt64)).toNat) 0
else
j26 b a f
def Oo:Nat->Int->LQ->Cn
|0,_,_=>none
|z+1,c,d=>HJ (WB (Oo z) t p9) UY t p9 c d
def Anz b a:=Oo b a As
def ZX(j16:UInt64->LB->Int->LQ->Cn)(b:UInt64)(a:LB):Cn:=if(Ef (Ac a) 100000)then
some (0,4)
else
j16 b a 0 (List.replicate 256 (0:UInt64))
def fB:=ZX Anz
abbrev Bef:=Option (UInt64×Int)
def bI:Bef:=(fB 0 c).bind λ(z,d)=>some (z,d)
def Ace:Bdx:=some j
def I0:=Ace
abbrev Bfj:=LX->Option (LX)
abbrev Bel:=Int->LX->Option (LX)
def fT(j6:Bfj)(Rs:Bel)(f:UInt64)(a:Int)(b:LX):Bdx:=if(Cw a 8)then(Ke (Lo (Br 8 a) 0)).bind λ_=>(Aj b a).bind λ_=>(Mm b a (Ad (Ad (Cq f (GI.toZ (Br 8 a)).toNat):Int8):Int32)).bind λg=>Rs (Ae a 1) g
else
j6 b
def MJ:Nat->Int->LX->Option (LX)
|0,_,_=>none
|z+1,c,d=>fT I0 (MJ z) t c d
def Acg f:=MJ f As
abbrev Beq:=UInt64->Int->LX->Option (LX)
def P6(j4:Beq)(f:UInt64):Bdx:=j4 f 0 (List.replicate 16 (0:Int32))
def qj:=P6 Acg
abbrev Be1:=Option (LX×Int)
def Vm:Be1:=if(Ef (Ac c) 64)then
some (([(0:Int32),(0:Int32),(0:Int32),(0:Int32),(0:Int32),(0:Int32),(0:Int32),(0:Int32),(0:Int32),(0:Int32),(0:Int32),(0:Int32),(0:Int32),(0:Int32),(0:Int32),(0:Int32)]:LX),2)
else(bI c).bind λ(z,d)=>if(Bj d 0)then
some (([(0:Int32),(0:Int32),(0:Int32),(0:Int32),(0:Int32),(0:Int32),(0:Int32),(0:Int32),(0:Int32),(0:Int32),(0:Int32),(0:Int32),(0:Int32),(0:Int32),(0:Int32),(0:Int32)]:LX),d)
else(qj z).bind λe=>some (e,0)
def MT:Bdk:=(Nk z d).bind λc=>if(Bj c 0)then
some c
else(Tn d j).bind λe=>if(Bj e 0)then
some e
else
if(geq (Ac j) 0)then
some 2
else(Ke (Bj z 0)).bind λ_=>if(Bj (Hl (Ac j) z) 0)then
some 2
else
some 0
def bX:Bdk:=if((Cw z 1)||(Ef z 6))then
some 2
else
if(Ef (Ac j) 4000)then
some 4
else(Ke (Bj z 0)).bind λ_=>if(Bj (Hl (Ac j) z) 0)then
some 2
else
some 0
abbrev Kb:=Option (LX×Int)
def Axt:Kb:=some (j,0)
def Aul:=Axt
abbrev Be8:=Int->LX->Kb
def jQ(aF:Be8)(b a:Int)(u:LX):Kb:=aF (Ae a b) u
def lR aF:=jQ aF
def Awi(j20:Be8)(b a:Int)(g:LX):Kb:=if(Ef (Am ((Ae a b)-a) 1) 0)then(Ke (decide (0<= (Am ((Ae a b)-a) 1)/\ (Am ((Ae a b)-a) 1)<((Ae a b)-a)))).bind λ_=>Option.bind (Ke (decide (0<= (Am (Am ((Ae a b)-a) 1) 1)/\ (Am (Am ((Ae a b)-a) 1) 1)<((Ae a b)-a)))) λ_=>(Aj g (a+(Am ((Ae a b)-a) 1))).bind λk=>(Aj g (a+(Am (Am ((Ae a b)-a) 1) 1))).bind λm=>(Ke (decide (0<= (Am ((Ae a b)-a) 1)/\ (Am ((Ae a b)-a) 1)<((Ae a b)-a)))).bind λ_=>(Mm g (a+(Am ((Ae a b)-a) 1)) (Am k (Ci m 2))).bind λn=>j20 a n
else
j20 a g
def jG aF b:=Awi (lR aF b) b
def WW(j19:Be8)(aG:Be8)(b a f:Int)(g:LX):Kb:=if(Cw f (Am ((Ae a b)-a) 1))then(Ke (decide (0<= (Ae f 1)/\ (Ae f 1)<((Ae a b)-a)))).bind λ_=>(Ke (decide (0<=f/\f<((Ae a b)-a)))).bind λ_=>(Aj g (a+(Ae f 1))).bind λk=>(Aj g (a+f)).bind λm=>(Ke (decide (0<=f/\f<((Ae a b)-a)))).bind λ_=>(Mm g (a+f) (Am k m)).bind λn=>aG (Ae f 1) n
else
j19 a g
def FI(aF:Be8)(b a:Int):Nat->Int->LX->Kb
|0,_,_=>none
|q+1,f,g=>WW (jG aF b) (FI aF b a q) b a f g
def Av4 aF b a:=FI aF b a As
def jN(j17:Int->Int->LX->Kb)(j22:LX->Kb)(b a:Int)(h:LX):Kb:=if(Cw a (Ac h))then(VA (Ac h) a (Ae a b)).bind λ_=>j17 a 0 h
else
j22 h
def FL:Nat->Int->LX->Kb
|0,_,_=>none
|c+1,d,e=>jN (Av4 (FL c) z) Aul z d e
def Auq b:=FL b As
def qV(j12:Int->Int->LX->Kb)(b:Int)(o:LX):Kb:=(bX b o).bind λp=>if(Bj p 0)then
some (([]:LX),p)
else(Dd o).bind λv=>j12 b 0 v
def C4:=qV Auq
abbrev qO:=Option (Int×LX×LX×Int)
def Ay0 (a:Int)(b:LX)(f:Bool):qO:=if f then
some (10,b,(List.replicate 16 (0:Int32)),0)
else
if(geq a 16)then
some (9,b,(List.replicate 16 (0:Int32)),0)
else
some (0,(List.replicate 16 (0:Int32)),(List.replicate 16 (0:Int32)),2)
def Bb2:=Ay0
def Azm(j2:Int->LX->Bool->qO)(a:Int)(b:LX):qO:=if(geq a 8)then
j2 a b (geq a 8)
else
j2 a b (geq a 24)
def tY:=Azm Bb2
abbrev Bet:=Option (Int×Int32×Int×LX×LX×Int)
def xP:Bet:=(tY z j).bind λ(c,d,e,i)=>if(Bj i 0)then
some (0,0,0,(List.replicate 16 (0:Int32)),(List.replicate 16 (0:Int32)),i)
else
some (z,0,c,d,e,0)
def Xx(a:Int)(k:Int32)(b:Int)(f m:LX):Bdk:=(tY a f).bind λ(g,n,o,h)=>if((Bj h 0)||(Bj g b))then
some 8
else
some 0
def kU:Bdy:=if(geq z 8)then
some (4,0)
else
if(geq z 16)then
if(geq z 16)then
some (5,0)
else
some (0,2)
else
if(geq z 24)then
some (5,0)
else
some (0,2)
abbrev Bd3:=Option Int32
def WZ:Bd3:=(Ke (Lo z 0)).bind λ_=>(Ke (Lo z 0)).bind λ_=>some (Ad (xw (Am (Dl (Ad E:Int) (GI.toZ z).toNat) (Ad E:Int)) (GI.toZ z).toNat):Int32)
def Xz:Option (Int32×Int):=(kU z).bind λ(c,d)=>if(Bj d 0)then
some (0,d)
else(WZ c E).bind λe=>some (e,0)
def MG(a:Int)(b f:LX):Bdk:=if((Bj a 9)&&(Bj a 10))then
some 8
else
some 0
abbrev Uj:=Option (Int32×Int)
def As2(h:Int32)(a:Int)(b f:LX):Uj:=(Ke (Lo a 0)).bind λ_=>some ((Cq h (GI.toZ a).toNat),0)
def ZN:=As2
def MX(j6:Int32->Int->LX->LX->Uj)(Rs:Int32->Int->Uj)(b:LX)(a:Int)(f:LX)(h:Int32)(g:Int):Uj:=if(Cw g 16)then(Aj b g).bind λm=>(Aj f g).bind λ_=>(Aj f g).bind λn=>Rs (Ae h (Br m n)) (Ae g 1)
else
j6 h a b f
def Vl:Nat->Int32->Int->Uj
|0,_,_=>none
|z+1,c,d=>MX ZN (Vl z) j J M c d
def Arl b a f:=Vl b a f As
def ZK(j4:LX->Int->LX->Int32->Int->Uj)(a:Int)(b f:LX):Uj:=(MG a b f).bind λk=>if(Bj k 0)then
some (0,k)
else(Ke (Lo (Am a 1) 0)).bind λ_=>j4 b a f (Dl (1:Int32) (GI.toZ (Am a 1)).toNat) 0
def UZ:=ZK Arl
def bA:Bd3:=if(geq z 0)then
some 4
else
if(Cw z 4)then
some 2
else
some 1
abbrev Tp:=Option (Int×LX×LX×Int)
def Axp:Tp:=some (z,j,M,0)
def Arm:=Axp
def MY(j6:Int->LX->LX->Tp)(Rs:Int->LX->Tp)(h:Int32)(f:LX)(g a:Int)(b:LX):Tp:=if(Cw a 16)then(Aj f a).bind λm=>if(geq m 0)then
Rs (Ae a 1) b
else
if((Cw m 0)==(Cw h 0))then(Aj b a).bind λ_=>(Aj b a).bind λo=>(bA a).bind λp=>(Aj b a).bind λ_=>(Mm b a (Ae o p)).bind λu=>Rs (Ae a 1) u
else(Aj b a).bind λ_=>(Aj b a).bind λv=>(bA a).bind λw=>(Aj b a).bind λ_=>(Mm b a (Am v w)).bind λy=>Rs (Ae a 1) y
else
j6 g b f
def Ve:Nat->Int->LX->Tp
|0,_,_=>none
|z+1,c,d=>MY Arm (Ve z) E w9 L c d
def Axk h f g:=Ve h f g As
def ZV(j4:Int32->LX->Int->Int->LX->Tp)(g:Int)(k f:LX)(h:Int32):Tp:=(MG g k f).bind λn=>if(Bj n 0)then
some (0,(List.replicate 16 (0:Int32)),(List.replicate 16 (0:Int32)),n)
else
if(geq h 0)then
some (g,k,f,0)
else
j4 h f g 0 k
def fU:=ZV Axk
abbrev mA:=Option (Int×LX×LX×Int)
def Asn:mA:=(Aj (Rv l5 1 ((16:Int)-(1:Int)) (JV l5 0 ((16:Int)-(0:Int)))) 0).bind λ_=>(Mm (Rv l5 1 ((16:Int)-(1:Int)) (JV l5 0 ((16:Int)-(0:Int)))) 0 E).bind λz=>some (L,Z,z,0)
def eV:=Asn
def SS(j2:Int32->Int->LX->LX->mA)(b:Int)(f a:LX)(g:Int32):mA:=(MG b f a).bind λh=>if(Bj h 0)then
some (0,(List.replicate 16 (0:Int32)),(List.replicate 16 (0:Int32)),h)
else(
(VA 16 1 16).bind λ_=>(VA 16 0 16).bind λ_=>j2 g b f a)
def nY:=SS eV
def TV:Option (Int×LX×LX):=(fU z j M Bcw).bind λ(c,d,e,i)=>(nY c d e E).bind λ(l,t,A,B)=>some (l,t,A)
abbrev Be2:=Option (Int32×Int×LX×LX×Int)
def ZC:Be2:=(UZ z j M).bind λ(c,d)=>if(Bj d 0)then
some (0,0,(List.replicate 16 (0:Int32)),(List.replicate 16 (0:Int32)),d)
else(TV z j M E (Am E c)).bind λ(e,i,l)=>some ((Am E c),e,i,l,0)
abbrev Bep:=Option (Int32×Int×Int32×Int×LX×LX×Int)
def Vd:Bep:=(Xx z E L Z l5).bind λc=>if(Bj c 0)then
some (0,0,0,0,(List.replicate 16 (0:Int32)),(List.replicate 16 (0:Int32)),c)
else(Xz z E).bind λ(d,e)=>(ZC L Z l5 (Am Bcu d)).bind λ(i,j,l,t,A)=>(
some (i,z,Bcu,j,l,t,A))
abbrev Bd8:=Option UInt32
def mX:Bd8:=some (Yo (Dl (Ad E:UInt32) (GI.toZ (1:UInt64)).toNat) (Ad (Cq E (GI.toZ (31:UInt64)).toNat):UInt32))
abbrev Dt:=Option (LU×Int)
def Ban:Dt:=some (P,0)
def Ad6:=Ban
abbrev Bdt:=List (Int×Int32×(Int×LX×LX×Unit)×Unit)
def Un(j12:LU->Dt)(YL:Int-> (List (Int×Int32×(Int×LX×LX×Unit)×Unit))->LU->Dt)(b:LX)(a f g:Int)(k:Bdt)(h:LU):Dt:=if(Cw g (Ac b))then(Aj b g).bind λ_=>(Aj b g).bind λac=>(Ke (Bj a 0)).bind λ_=>(Aj k (Hl g a)).bind λ_=>(Aj k (Hl g a)).bind λp=>(Vd p.1 p.2.1 p.2.2.1.1 p.2.2.1.2.1 p.2.2.1.2.2.1 ac).bind λ(u,ad,ae,v,af,ag,w)=>if(Bj w 0)then
some (([]:LU),w)
else(Mm k (Hl g a) (ad,ae,(v,af,ag,()),())).bind λah=>(mX u).bind λai=>(Da h ([ai]:LU)).bind λaj=>YL (Ae g 1) ah aj
else
j12 h
def Li:Nat->Int-> (List (Int×Int32×(Int×LX×LX×Unit)×Unit))->LU->Dt
|0,_,_,_=>none
|z+1,c,d,e=>Un Ad6 (Li z) j J p8 c d e
def Ac1 b a f:=Li b a f As
def Ad8(j10:LX->Jz3 ( (List (Int×Int32×(Int×LX×LX×Unit)×Unit))->LU->Dt))(a f:Int)(b:LX)(m:Bdt):Dt:=j10 b a f 0 m ([]:LU)
def Ad9:=Ad8 Ac1
def Adk(j9:Int->Int->LX-> (List (Int×Int32×(Int×LX×LX×Unit)×Unit))->Dt)(bk7:Int-> (List (Int×Int32×(Int×LX×LX×Unit)×Unit))->Dt)(a f:Int)(n b:LX)(o:Int)(m:Bdt):Dt:=if(Cw o 6)then(xP f n).bind λ(ak,al,u,am,an,v)=>(Aj m o).bind λ_=>(Mm m o (ak,al,(u,am,an,()),())).bind λao=>bk7 (Ae o 1) ao
else
j9 a f b m
def HK:Nat->Int-> (List (Int×Int32×(Int×LX×LX×Unit)×Unit))->Dt
|0,_,_=>none
|c+1,e,i=>Adk Ad9 (HK c) z d j M e i
def JS a f n b:=HK a f n b As
def GY(j7:Int->Int->LX->LX->Int-> (List (Int×Int32×(Int×LX×LX×Unit)×Unit))->Dt)(a f:Int)(n y:LX):Dt:=(MT a f y).bind λaa=>if(Bj aa 0)then
some (([]:LU),aa)
else(C4 a y).bind λ(b,ab)=>if(Bj ab 0)then
some (([]:LU),ab)
else
j7 a f n b 0 (List.replicate 6 ((0:Int),(0:Int32),((0:Int),(List.replicate 16 (0:Int32)),(List.replicate 16 (0:Int32)),()),()))
def GX:=GY JS
abbrev Bez:=Option (Int×Int×UInt64×UInt64)
def rV:Bez:=some (10,10,16384,16384)
abbrev Lh:=Option ((List (Int×Int×UInt64×UInt64×Unit)))
abbrev Bdo:=List (Int×Int×UInt64×UInt64×Unit)
def Bb0(a:Bdo):Lh:=some a
def Aek:=Bb0
abbrev Bem:=Int-> (List (Int×Int×UInt64×UInt64×Unit))->Lh
def Aeq(j6:(List (Int×Int×UInt64×UInt64×Unit))->Lh)(Rs:Bem)(b:Int)(a:Bdo):Lh:=if(Cw b 6)then(rV).bind λ(f,g,h,k)=>(Aj a b).bind λ_=>(Mm a b (f,g,h,k,())).bind λm=>Rs (Ae b 1) m
else
j6 a
def FQ:Nat->Int-> (List (Int×Int×UInt64×UInt64×Unit))->Lh
|0,_,_=>none
|q+1,b,a=>Aeq Aek (FQ q) b a
def Aeg:=FQ As
def GP(j4:Bem):Lh:=j4 0 (List.replicate 6 ((0:Int),(0:Int),(0:UInt64),(0:UInt64),()))
def HX:=GP Aeg
def Ju:Bdk:=if(((Cw z 0)||(Ef z 330000))||(Bj (Ac c) (xw (Ae z 7) (GI.toZ (3:UInt64)).toNat)))then
some 8
else
if(Ef (Ev z 7) 0)then(Aj c (Am (Ac c) 1)).bind λd=>(Ke (Lo (Ev z 7) 0)).bind λ_=>if(Bj (Cq d (GI.toZ (Ev z 7)).toNat) 0)then
some 8
else
some 0
else
some 0
def Aqj:Bdk:=if(!((geq (Ee (tA z 0) 24) z)&&((geq (Ee (tA d 0) 24) d)&&((geq (Ee t 68719476735) t)&&((geq (Ee O 68719476735) O)&&true)))))then
some 8
else
some 0
def ZG:=Aqj
abbrev Bev:=Int->Int->UInt64->UInt64->Option Int
def MS(j4:Bev)(a b:Int)(f g:UInt64):Bdk:=(
(
j4 a b f g))
def aA:=MS ZG
def MZ(j3:Bev)(a b:Int)(f g:UInt64):Bdk:=(
(
j3 a b f g))
def VP:=MZ aA
def MK(a f:Int)(g h:UInt64)(b:UInt32):Option (Int×UInt32):=(Ke (Lo a 0)).bind λ_=>if(geq (Cq b (GI.toZ a).toNat) 0)then
some (0,b)
else(Ke (Lo a 0)).bind λ_=>some (1,(Am b (Dl (1:UInt32) (GI.toZ a).toNat)))
abbrev Bfe:=Option (LB×Int)
def bH:Bfe:=(Bm c).bind λd=>some (d,z)
abbrev Ej:=Option (LB×Int×Int)
def Asc:Ej:=some (i,z,0)
def dN:=Asc
abbrev Bd6:=UInt64->Int->Int->LB->Ej
def Ata(cu:Bd6)(b:UInt64)(a:Int)(m:UInt64)(h f:Int)(w:LB):Ej:=(Ke (Lo (Ee h (Am 8 (Ev f 7))) 0)).bind λ_=>cu (Cq m (GI.toZ (Ee h (Am 8 (Ev f 7)))).toNat) (Am h (Ee h (Am 8 (Ev f 7)))) (Ae f (Ee h (Am 8 (Ev f 7)))) w
def Au0 cu:=Ata cu
def Atb(j19:Bd6)(b:UInt64)(a:Int)(m:UInt64)(h f:Int)(u:LB):Ej:=(Aj u (Am (Ac u) 1)).bind λ_=>(Ke (Lo (Ee h (Am 8 (Ev f 7))) 0)).bind λ_=>(Ke (Lo (Ev f 7) 0)).bind λ_=>(Aj u (Am (Ac u) 1)).bind λad=>(Aj u (Am (Ac u) 1)).bind λ_=>Option.bind (Mm u (Am (Ac u) 1) (rA ad (Dl (Ad (Ev m (Am (Dl (1:UInt64) (GI.toZ (Ee h (Am 8 (Ev f 7)))).toNat) 1)):UInt8) (GI.toZ (Ev f 7)).toNat))) λw=>j19 m h f w
def SN cu b a:=Atb (Au0 cu b a) b a
def SP(j18:Bd6)(j21:Int->LB->Ej)(b:UInt64)(a:Int)(m:UInt64)(h f:Int)(o:LB):Ej:=if(Ef h 0)then
if(geq (Ev f 7) 0)then(Da o ([(0:UInt8)]:LB)).bind λaa=>j18 m h f aa
else
j18 m h f o
else
j21 f o
def Qe:Nat->UInt64->Int->Int->LB->Ej
|0,_,_,_,_=>none
|z+1,c,d,e,i=>SP (SN (Qe z) t R) dN t R c d e i
def Bcc b a:=Qe b a As
def Bak:Ej:=some (i,z,0)
def Atu:=Bak
def Bbj(d!:Bd6)(b:UInt64)(a:Int)(n:UInt64)(k g:Int)(ab:LB):Ej:=(Ke (Lo (Ee k (Am 8 (Ev g 7))) 0)).bind λ_=>d! (Cq n (GI.toZ (Ee k (Am 8 (Ev g 7)))).toNat) (Am k (Ee k (Am 8 (Ev g 7)))) (Ae g (Ee k (Am 8 (Ev g 7)))) ab
def Bay d!:=Bbj d!
def Bal(j26:Bd6)(b:UInt64)(a:Int)(n:UInt64)(k g:Int)(v:LB):Ej:=(Aj v (Am (Ac v) 1)).bind λ_=>(Ke (Lo (Ee k (Am 8 (Ev g 7))) 0)).bind λ_=>(Ke (Lo (Ev g 7) 0)).bind λ_=>(Aj v (Am (Ac v) 1)).bind λae=>(Aj v (Am (Ac v) 1)).bind λ_=>Option.bind (Mm v (Am (Ac v) 1) (rA ae (Dl (Ad (Ev n (Am (Dl (1:UInt64) (GI.toZ (Ee k (Am 8 (Ev g 7)))).toNat) 1)):UInt8) (GI.toZ (Ev g 7)).toNat))) λab=>j26 n k g ab
def At4 d! b a:=Bal (Bay d! b a) b a
def Asg(j25:Bd6)(j28:Int->LB->Ej)(b:UInt64)(a:Int)(n:UInt64)(k g:Int)(p:LB):Ej:=if(Ef k 0)then
if(geq (Ev g 7) 0)then(Da p ([(0:UInt8)]:LB)).bind λw=>j25 n k g w
else
j25 n k g p
else
j28 g p
def eE:Nat->UInt64->Int->Int->LB->Ej
|0,_,_,_,_=>none
|z+1,c,d,e,i=>Asg (At4 (eE z) t R) Atu t R c d e i
def Bb4 b a:=eE b a As
abbrev Beu:=UInt64->Int->UInt64->Int->Int->LB->Ej
def jS(j15:Beu)(j22:Beu)(ac:LB)(y:Int)(b:UInt64)(a:Int):Ej:=(Ju ac y).bind λaf=>if(Bj af 0)then
some (([]:LB),0,8)
else
if((Cw a 0)||(Ef a 64))then
some (([]:LB),0,2)
else
if(Cw a 64)then(Ke (Lo a 0)).bind λ_=>if(Bj (Cq b (GI.toZ a).toNat) 0)then
some (([]:LB),0,16)
else
if(Ef (Ae y a) 330000)then
some (([]:LB),0,18)
else(bH ac y).bind λ(ag,ah)=>j15 b a b a ah ag
else
if(Ef (Ae y a) 330000)then
some (([]:LB),0,18)
else(bH ac y).bind λ(aa,ai)=>j22 b a b a ai aa
def VI:=jS Bcc Bb4
def Zt:Bdn:=(Ke (Lo R 0)).bind λ_=>some (Lo (Cq N (GI.toZ R).toNat) 48)
def fE:Bdy:=if((Cw z 0)||(Ef z 48))then
some (0,2)
else
some ((Ee (Ae z 1) 48),0)
abbrev Bfo:=Option (LB×Int×Int)
def YJ:Bfo:=(Ju c z).bind λe=>if(Bj e 0)then
some (([]:LB),0,e)
else(fE d).bind λ(i,j)=>if(Bj j 0)then
some (([]:LB),0,j)
else(Ke (Lo d 0)).bind λ_=>(VI c z (Am (Dl (1:UInt64) (GI.toZ d).toNat) 1) i).bind λ(l,t,A)=>some (l,t,A)
abbrev dG:=Option (LB×Int×Int)
def aC:dG:=(YJ c z d).bind λ(e,i,j)=>if(Bj j 0)then
some (([]:LB),0,j)
else(VI e i (Ad N:UInt64) R).bind λ(l,t,A)=>some (l,t,A)
def ZU:=aC
def Apy(j2:LB->Int->Int->UInt32->Int->dG)(b:LB)(f:Int)(g:UInt32)(a:Int):dG:=(Ju b f).bind λk=>if(Bj k 0)then
some (([]:LB),0,k)
else
if((Cw a 0)||(Ef a 24))then
some (([]:LB),0,2)
else(Ke (Lo a 0)).bind λ_=>(Ke (Lo a 0)).bind λ_=>(Zt g a).bind λaa=>if aa then
j2 b f 48 g 32
else
j2 b f (Ad (Cq g (GI.toZ a).toNat):Int) (Ev g (Am (Dl (1:UInt32) (GI.toZ a).toNat) 1)) a
def eL:=Apy ZU
abbrev Jv:=Option (LB×Int×Int×Int×UInt64×UInt64×Int)
def JP:Jv:=(
(
some (p9,z,d,e,(Ae t (Am (Ad N:UInt64) (Cq t (GI.toZ (4:UInt64)).toNat))),O,0)))
def WC:=JP
def ZR(j10:Jz3 (UInt64->UInt32->UInt64->LB->Jv))(b:UInt32)(k n:Int)(a o:UInt64)(m:LB)(u:Int):Jv:=j10 k u n a b o m
def As1:=ZR WC
def ZI(j9:UInt32->Int->Int->UInt64->UInt64->LB->Int->Jv)(b:UInt32)(f:Int)(a:UInt64)(k:Int)(m:LB)(n:Int)(o:UInt64):Jv:=if(Ef f 0)then(Ke (Lo f 0)).bind λ_=>if(Cw (Ae a (Am (Ad b:UInt64) (Cq a (GI.toZ (4:UInt64)).toNat))) (Dl (16:UInt64) (GI.toZ f).toNat))then
j9 b k n a o m (Am f 1)
else
if(Cw f 24)then(Ke (Lo f 0)).bind λ_=>if(Ef (Ae a (Am (Ad b:UInt64) (Cq a (GI.toZ (4:UInt64)).toNat))) (Dl (32:UInt64) (GI.toZ f).toNat))then
j9 b k n a o m (Ae f 1)
else
j9 b k n a o m f
else
j9 b k n a o m f
else
if(Cw f 24)then(Ke (Lo f 0)).bind λ_=>if(Ef (Ae a (Am (Ad b:UInt64) (Cq a (GI.toZ (4:UInt64)).toNat))) (Dl (32:UInt64) (GI.toZ f).toNat))then
j9 b k n a o m (Ae f 1)
else
j9 b k n a o m f
else
j9 b k n a o m f
def BQ:=ZI As1
def ZH(j8:UInt32->Int->UInt64->Int->LB->Int->UInt64->Jv)(b:UInt32)(f h:Int)(a g:UInt64)(ac k:Int)(m:LB):Jv:=if(Bj ac 0)then
some (([]:LB),0,0,0,0,0,ac)
else(MK f h a g b).bind λ(ag,p)=>if(geq ag 1)then
if(Ef h 0)then(Ke (Lo h 0)).bind λ_=>if(Cw (Ae g (Am (Ad p:UInt64) (Cq g (GI.toZ (4:UInt64)).toNat))) (Dl (16:UInt64) (GI.toZ h).toNat))then
j8 b f a k m (Am h 1) (Ae g (Am (Ad p:UInt64) (Cq g (GI.toZ (4:UInt64)).toNat)))
else
if(Cw h 24)then(Ke (Lo h 0)).bind λ_=>if(Ef (Ae g (Am (Ad p:UInt64) (Cq g (GI.toZ (4:UInt64)).toNat))) (Dl (32:UInt64) (GI.toZ h).toNat))then
j8 b f a k m (Ae h 1) (Ae g (Am (Ad p:UInt64) (Cq g (GI.toZ (4:UInt64)).toNat)))
else
j8 b f a k m h (Ae g (Am (Ad p:UInt64) (Cq g (GI.toZ (4:UInt64)).toNat)))
else
j8 b f a k m h (Ae g (Am (Ad p:UInt64) (Cq g (GI.toZ (4:UInt64)).toNat)))
else
if(Cw h 24)then(Ke (Lo h 0)).bind λ_=>if(Ef (Ae g (Am (Ad p:UInt64) (Cq g (GI.toZ (4:UInt64)).toNat))) (Dl (32:UInt64) (GI.toZ h).toNat))then
j8 b f a k m (Ae h 1) (Ae g (Am (Ad p:UInt64) (Cq g (GI.toZ (4:UInt64)).toNat)))
else
j8 b f a k m h (Ae g (Am (Ad p:UInt64) (Cq g (GI.toZ (4:UInt64)).toNat)))
else
j8 b f a k m h (Ae g (Am (Ad p:UInt64) (Cq g (GI.toZ (4:UInt64)).toNat)))
else
j8 b f a k m h g
def ZT:=ZH BQ
def ZZ(j7:UInt32->Int->Int->UInt64->UInt64->Int->Int->LB->Jv)(b:UInt32)(v:LB)(w f h:Int)(a g:UInt64):Jv:=(MK f h a g b).bind λ(ad,ae)=>(VI v w (Ad ad:UInt64) 1).bind λ(y,aa,ab)=>if((geq ab 0)&&(geq ad 0))then(VI y aa (Ad ae:UInt64) f).bind λ(ah,ai,aj)=>j7 b f h a g aj ai ah
else
if(geq ab 0)then(eL y aa ae h).bind λ(ak,al,am)=>j7 b f h a g am al ak
else
j7 b f h a g ab aa y
def Apz:=ZZ ZT
def aE(j6:UInt32->LB->Jz3 (UInt64->UInt64->Jv))(v:LB)(w f h:Int)(a g:UInt64)(b:UInt32):Jv:=(Ju v w).bind λan=>if(Bj an 0)then
some (([]:LB),0,0,0,0,0,8)
else(VP f h a g).bind λao=>if(Bj ao 0)then
some (([]:LB),0,0,0,0,0,8)
else
j6 b v w f h a g
def dY:=aE Apz
abbrev Cl:=Option (UInt32×Int)
def Amf:Cl:=some (N,0)
def UD:=Amf
def IU(j30:UInt32->Cl)(Av2:UInt32->Int->Cl)(a:LB)(b:LU)(h:UInt32)(m:Int):Cl:=if(Cw m (Ac a))then(Aj a m).bind λp=>(Aj b (GI.toZ (Yo (Ad h:UInt8) p))).bind λ_=>(Aj b (GI.toZ (Yo (Ad h:UInt8) p))).bind λu=>Av2 (Yo (Cq h (GI.toZ (8:UInt64)).toNat) u) (Ae m 1)
else
j30 h
def Sk:Nat->UInt32->Int->Cl
|0,_,_=>none
|z+1,d,e=>IU UD (Sk z) c P d e
def UT a b:=Sk a b As
def UN(j28:LB->LU->UInt32->Int->Cl)(f:UInt32)(a:LB)(b:LU):Cl:=j28 a b f 0
def Amv:=UN UT
def UG(j27:UInt32->LB->LU->Cl)(f:UInt32)(a:LB)(b:LU):Cl:=j27 f a b
def UR:=UG Amv
abbrev Bfs:=Int->LU->Cl
def Al6(If:Bfs)(f:UInt32)(a:LB)(g:Int)(o:LU):Cl:=If (Ae g 1) o
def Ap8 If:=Al6 If
def Ao0(j24:Bfs)(f:UInt32)(a:LB)(g:Int)(k:UInt32)(b:LU):Cl:=(Aj b g).bind λ_=>(Mm b g k).bind λo=>j24 g o
def HE If f a:=Ao0 (Ap8 If f a) f a
def GQ(j23:Int->UInt32->LU->Cl)(mN:UInt32->Int->Cl)(f:UInt32)(a:LB)(g:Int)(b:LU)(k:UInt32)(n:Int):Cl:=if(Cw n 8)then
mN (Yo (Cq k (GI.toZ (1:UInt64)).toNat) (Br 3988292384 (Ev k 1))) (Ae n 1)
else
j23 g k b
def Rw(If:Bfs)(f:UInt32)(a:LB)(g:Int)(b:LU):Nat->UInt32->Int->Cl
|0,_,_=>none
|q+1,k,n=>GQ (HE If f a) (Rw If f a g b q) f a g b k n
def TN If f a g b:=Rw If f a g b As
def IW(j21:Int->LU->UInt32->Int->Cl)(j26:UInt32->LB->LU->Cl)(f:UInt32)(a:LB)(g:Int)(b:LU):Cl:=if(Cw g 256)then
j21 g b (Ad g:UInt32) 0
else
j26 f a b
def Nz:Nat->Int->LU->Cl
|0,_,_=>none
|z+1,c,d=>IW (TN (Nz z) N p9) UR N p9 c d
def Al9 f a:=Nz f a As
def ZQ(j16:UInt32->LB->Int->LU->Cl)(f:UInt32)(a:LB):Cl:=if(Ef (Ac a) 100000)then
some (0,4)
else
j16 f a 0 (List.replicate 256 (0:UInt32))
def fK:=ZQ Al9
def Zb:Option (UInt32×Int):=(fK 4294967295 c).bind λ(z,d)=>if(Bj d 0)then
some (0,d)
else
some ((O2 z),0)
def C3:Bdn:=if(geq R 8)then
some true
else(Ke (Lo (Br 8 R) 0)).bind λ_=>some (geq (Cq t (GI.toZ (Br 8 R)).toNat) 0)
abbrev EC:=Option (LB×Int)
def Aw2:EC:=some (c,0)
def jM:=Aw2
def XT(j6:LB->EC)(Rs:Int->LB->EC)(f:UInt64)(g:LB)(a:Int)(b:LB):EC:=if(Cw a (Ac g))then(Ke (Lo (Br 8 a) 0)).bind λ_=>(Aj b a).bind λ_=>(Mm b a (Ad (Cq f (GI.toZ (Br 8 a)).toNat):UInt8)).bind λk=>Rs (Ae a 1) k
else
j6 b
def FH:Nat->Int->LB->EC
|0,_,_=>none
|z+1,c,d=>XT jM (FH z) t p9 c d
def Aw4 f g:=FH f g As
def lB(j4:UInt64->LB->Int->LB->EC)(f:UInt64)(h:Int):EC:=if((Cw h 1)||(Ef h 8))then
some (([]:LB),2)
else(C3 f h).bind λm=>if(!m)then
some (([]:LB),16)
else(mkI h (0:UInt8)).bind λg=>(Ke (geq h h)).bind λ_=>j4 f g 0 g
def BN:=lB Aw4
def Axe:Bdu:=some c
def Adb:=Axe
abbrev Be4:=LB->Option (LB)
abbrev Be5:=Int->LB->Option (LB)
def Dn(j16:Be4)(mO:Be5)(a:Bdr)(g:Int)(f:LB):Bdu:=if(Cw g (Ac a))then(Aj a g).bind λn=>(Da f n).bind λo=>mO (Ae g 1) o
else
j16 f
def Cm:Nat->Int->LB->Option (LB)
|0,_,_=>none
|z+1,c,d=>Dn Adb (Cm z) T c d
def Iy a:=Cm a As
def Iz(j14:(List LB)->Int->LB->Option (LB))(a:Bdr)(p:LB):Bdu:=j14 a 0 p
def Ge:=Iz Iy
def Jb(j13:(List LB)->LB->Option (LB))(b:Int)(a:Bdr):Bdu:=if(Ef (Am b (Am (0:Int) (0:Int))) 0)then(VA 0 0 0).bind λ_=>(mkI (Am b (Am (0:Int) (0:Int))) (0:UInt8)).bind λu=>(Da ([]:LB) u).bind λk=>(VA (Ac k) 0 0).bind λ_=>j13 a (JV k 0 ((0:Int)-(0:Int)))
else
j13 a ([]:LB)
def Nf:=Jb Ge
def Ja(j12:Int-> (List LB)->Option (LB))(a:Bdr)(b:Int):Bdu:=if(Cw b 0)then
none
else
j12 b a
def Gg:=Ja Nf
abbrev Bfp:=Int->Int->Option (LB)
def Dw(j11:(List LB)->Int->Option (LB))(bk9:Bfp)(a:Bdr)(b h:Int):Bdu:=if(Cw h (Ac a))then(Aj a h).bind λm=>if(Cw (Ae b (Ac m)) 0)then
none
else
bk9 (Ae b (Ac m)) (Ae h 1)
else
j11 a b
def Ct:Nat->Int->Int->Option (LB)
|0,_,_=>none
|z+1,c,d=>Dw Gg (Ct z) T c d
def Adt a:=Ct a As
def Ou(j9:(List LB)->Int->Int->Option (LB))(a:Bdr):Bdu:=j9 a 0 0
def Ep:=Ou Adt
abbrev Bt:=Option (LB×Int)
def Acp(v:Int)(p:LB):Bt:=(Zb p).bind λ(af,ac)=>if(Bj ac 0)then
some (([]:LB),ac)
else(BN (Ad af:UInt64) 4).bind λ(m,h)=>if(Bj h 0)then
some (([]:LB),h)
else(Ep ([p,m]:Bdr)).bind λag=>some (ag,0)
def DO:=Acp
abbrev Bd2:=Int-> (List (Int×Int×UInt64×UInt64×Unit))->Int->LB->Bt
def Ac6(fV:Bd2)(b:LU)(a g f:Int)(n:Bdo)(k:Int)(w:LB):Bt:=fV (Ae f 1) n k w
def EB fV:=Ac6 fV
abbrev Bff:=Int->Int->LB->Bt
def Ad3(T0:Bff)(h:Int)(b:LU)(f a g:Int)(n:Bdo)(m:LB)(o k:Int)(ab:LB):Bt:=T0 (Ae o 1) (Ae k 1) ab
def Ac9 T0:=Ad3 T0
def Ac3(j48:Bff)(h:Int)(b:LU)(f a g:Int)(n:Bdo)(m:LB)(o k:Int)(y:LB):Bt:=(Aj m (Ci o 8)).bind λ_=>(Aj m (Ci o 8)).bind λah=>(Ke (Lo (Hl o 8) 0)).bind λ_=>(Aj y (Ci k 8)).bind λ_=>(Ke (Lo (Hl k 8) 0)).bind λ_=>(Aj y (Ci k 8)).bind λai=>(Aj y (Ci k 8)).bind λ_=>Option.bind (Mm y (Ci k 8) (rA ai (Dl (Ev (Cq ah (GI.toZ (Hl o 8)).toNat) 1) (GI.toZ (Hl k 8)).toNat))) λab=>j48 o k ab
def Tv T0 h b f a g n m:=Ac3 (Ac9 T0 h b f a g n m) h b f a g n m
def Up(j47:Bff)(j50:Bd2)(b:LU)(a g h f:Int)(n:Bdo)(m:LB)(o k:Int)(w:LB):Bt:=if(Cw o h)then
if(geq (Hl k 8) 0)then(Da w ([(0:UInt8)]:LB)).bind λaj=>j47 o k aj
else
j47 o k w
else
j50 f n k w
def Gy(fV:Bd2)(b:LU)(a g h f:Int)(n:Bdo)(m:LB):Nat->Int->Int->LB->Bt
|0,_,_,_=>none
|q+1,o,k,w=>Up (Tv (Gy fV b a g h f n m q) h b f a g n m) (EB fV b a g) b a g h f n m o k w
def Acf fV b a g h f n m:=Gy fV b a g h f n m As
def Uf(j44:Int->Int-> (List (Int×Int×UInt64×UInt64×Unit))->LB->Int->Int->LB->Bt)(j52:Int->LB->Bt)(b:LU)(a g f:Int)(u:Bdo)(v:Int)(p:LB):Bt:=if(Cw f (Ac b))then(Aj b f).bind λ_=>(Aj b f).bind λak=>(Ke (Bj a 0)).bind λ_=>(Aj u (Hl f a)).bind λ_=>(Aj u (Hl f a)).bind λaa=>(dY ([]:LB) 0 aa.1 aa.2.1 aa.2.2.1 aa.2.2.2.1 ak).bind λ(m,h,al,am,an,ao,ad)=>if(Bj ad 0)then
some (([]:LB),ad)
else(Ke (Bj a 0)).bind λ_=>(Aj u (Hl f a)).bind λ_=>(Mm u (Hl f a) (al,am,an,ao,())).bind λn=>j44 h f n m 0 v p
else
j52 v p
def Ij:Nat->Int-> (List (Int×Int×UInt64×UInt64×Unit))->Int->LB->Bt
|0,_,_,_,_=>none
|z+1,c,d,e,i=>Uf (Acf (Ij z) P Bce Bcf) DO P Bce Bcf c d e i
def Abv b a g:=Ij b a g As
def GL(j27:LU->Jz3 ( (List (Int×Int×UInt64×UInt64×Unit))->Int->LB->Bt))(a g:Int)(ap aq:LX):Bt:=(GX a g ap aq).bind λ(b,ae)=>if(Bj ae 0)then
some (([]:LB),ae)
else(HX).bind λar=>j27 b a g 0 ar 0 ([]:LB)
def Yp:=GL Abv
def Ul(b f g:Int)(h k:LB)(m:LX)(n:Bdr)(o:LB)(p:Bool)(u a:Int):Beb:=some (b,f,g,h,([]:LB),([]:LX),([]:Bdr),([]:LB),false,a,a)
abbrev Cf:=Option (Int×Int×Int×LB×LB×LX×(List LB)×LB×Bool×Int×Int)
def Ah8:Cf:=some (z,d,e,i,V,j,T,l7,B,l,0)
def MP:=Ah8
abbrev Bek:=Int->LB->LX-> (List LB)->Cf
def Zc(mO:Bek)(p:Int)(n:LB)(a b g:Int)(f:LB)(h:Bool)(k o:Int)(m:LB)(u:Int)(ao:LB)(ap:LX)(aq:Bdr):Cf:=mO (Ae u 1) ao ap aq
def Nn mO:=Zc mO
def Ze(j24:Bek)(p:Int)(n:LB)(a b g:Int)(f:LB)(h:Bool)(k o:Int)(m:LB)(u ad:Int)(ae:LB)(af:LX)(ag:Bdr):Cf:=if(Bj ad 0)then(Ul a b g f ae af ag m h k ad).bind λ(ar,au,av,aw,ax,ay,az,ba,bb,bc,bd)=>some (ar,au,av,aw,ax,ay,az,ba,bb,bc,bd)
else
j24 u ae af ag
def Ix mO p n a b g f h k o m:=Ze (Nn mO p n a b g f h k o m) p n a b g f h k o m
abbrev Bec:=Int->Int->LB->LX-> (List LB)->Cf
def Bb6(j23:Bec)(p:Int)(n:LB)(a b g:Int)(f:LB)(h:Bool)(k o:Int)(m:LB)(u:Int)(ab:LX)(v:Bdr)(be:Int):Cf:=j23 u be ([]:LB) ab v
def Bbm mO p n a b g f h k o m:=Bb6 (Ix mO p n a b g f h k o m) p n a b g f h k o m
def Ahz(j23:Bec)(p:Int)(n:LB)(a b g:Int)(f:LB)(h:Bool)(k o:Int)(m:LB)(u:Int)(ac:Bdr):Cf:=j23 u 0 ([]:LB) ([]:LX) ac
def Ahn mO p n a b g f h k o m:=Ahz (Ix mO p n a b g f h k o m) p n a b g f h k o m
def Ah9(j23:Bec)(j21:Int->LX-> (List LB)->Int->Cf)(j22:Int-> (List LB)->Cf)(p:Int)(n:LB)(a b g:Int)(f:LB)(h:Bool)(k o:Int)(m:LB)(u:Int)(aa:LB)(w:LX)(v:Bdr):Cf:=(MU b aa).bind λ(bf,ah)=>if(Bj ah 0)then
j23 u ah aa w v
else(Da w bf).bind λab=>if(Cw (Ac ab) (Br o a))then
j23 u 0 ([]:LB) ab v
else(Vm f).bind λ(bg,ai)=>if(Bj ai 0)then
j21 u ab v ai
else(Yp a b bg ab).bind λ(bh,aj)=>if(Bj aj 0)then
j21 u ab v aj
else(Da v ([bh]:Bdr)).bind λac=>j22 u ac
def LN mO p n a b g f h k o m:=Ah9 (Ix mO p n a b g f h k o m) (Bbm mO p n a b g f h k o m) (Ahn mO p n a b g f h k o m) p n a b g f h k o m
def Zr(j24:Bek)(j23:Bec)(j20:Bek)(j26:Jz3 (LB->Bool->Int->LB->LX-> (List LB)->LB->Cf))(p:Int)(n:LB)(a b g:Int)(f:LB)(h:Bool)(k o:Int)(m:LB)(u:Int)(y:LB)(w:LX)(v:Bdr):Cf:=if(Cw u (Ac n))then(Aj n u).bind λbi=>(Da y ([bi]:LB)).bind λaa=>if(Cw (Ac aa) p)then
j24 u aa w v
else(Vf a b g f aa w v m h k o).bind λbj=>(Uq a b g f aa w v m h k (Ae (Ac v) 1) (Ae bj 1)).bind λbk=>if(!bk)then
j23 u 18 aa w v
else
j20 u aa w v
else
j26 a b g f h k y w v m
def Ip:Nat->Int->LB->LX-> (List LB)->Cf
|0,_,_,_,_=>none
|c+1,d,e,j,t=>Zr (Nn (Ip c) z i l U J r9 Bcq Bcr o8 Bcs) (Ix (Ip c) z i l U J r9 Bcq Bcr o8 Bcs) (LN (Ip c) z i l U J r9 Bcq Bcr o8 Bcs) MP z i l U J r9 Bcq Bcr o8 Bcs d e j t
def Ahs p n a b g f h k o m:=Ip p n a b g f h k o m As
def DC(j14:Int->LB->Jz3 (LB->Bool->Int->Int->LB->Int->LB->LX-> (List LB)->Cf))(bl bm bn:Int)(bp bq:LB)(br:LX)(bs:Bdr)(bt:LB)(bu:Bool)(bv:Int)(n:LB):Cf:=(Qz bl bm bn bp bq br bs bt bu bv).bind λ(a,b,g,f,ak,al,am,m,h,k,o,an)=>if(Bj an 0)then
some (a,b,g,f,ak,al,am,m,h,k,an)
else(GN a b).bind λp=>j14 p n a b g f h k o m 0 ak al am
def Ey:=DC Ahs
def BU:Option (Int×Int×Int×LB×LB×LX×(List LB)×LB×Bool×Int×LB×Int):=(Nj z d e i V j T l7 Bck J).bind λc=>if(Bj c 0)then
some (0,0,0,([]:LB),([]:LB),([]:LX),([]:Bdr),([]:LB),false,0,([]:LB),c)
else
if(Cw p8 0)then
some (0,0,0,([]:LB),([]:LB),([]:LX),([]:Bdr),([]:LB),false,0,([]:LB),2)
else(HZ z d e i V j T l7 Bck J).bind λ(l,t,A,B,C,D,E,F,G,I)=>(Bp F 0 (Ee p8 (Ac F))).bind λL=>(Bm L).bind λM=>(Bp F (Ee p8 (Ac F)) (Ac F)).bind λN=>some (l,t,A,B,C,D,E,N,G,I,M,0)
def NF:Bdy:=if(Ef (Ac c) 64)then
some (0,2)
else
if(geq (Ac c) 0)then
some (1,0)
else
some (2,0)
def LW(b f a g h:Int):Bdn:=some (((((((geq b 1)||(geq b 2))&&(Ef f 0))&&(tM f 6))&&(Ef g 0))&&(tM g 1048576))&&(Ef h 0))
def Sp:=LW
def LM(j2:Jz5 (Option Bool))(b f a g h:Int):Bdn:=if(geq a 8)then
if(geq a 8)then
j2 b f a g h
else
some false
else
if(geq a 16)then
if(geq a 16)then
j2 b f a g h
else
some false
else
if(geq a 24)then
j2 b f a g h
else
some false
def Qt:=LM Sp
def BW:Bdy:=(Tq z).bind λ(c,e)=>if(Bj e 0)then
some (0,e)
else
if((Cw d 1)||(Ef d 4000))then
some (0,2)
else(Ke (Bj c 0)).bind λ_=>if(Ef (Ci (Am (Ae d c) 1) c) 1000)then
some (0,4)
else
some ((Ci (Am (Ae d c) 1) c),0)
def PD(k a m f b:Int):Bdn:=(Ke (Bj a 0)).bind λ_=>if(Ef b (Ci 4000 a))then
some false
else(BW f b).bind λ(g,h)=>some ((geq h 0)&&(tM g 1000))
def Mz:Bdk:=(Qt z d e A C).bind λc=>if(!c)then
some 8
else(PD z d e A C).bind λi=>if(!i)then
some 8
else
some 0
abbrev Oj:=Option (LB×Int)
def Aje:Oj:=(Zb c).bind λ(z,d)=>(BN (Ad z:UInt64) 4).bind λ(e,i)=>(Da c e).bind λj=>some (j,0)
def CZ:=Aje
def CX(j6:LB->Oj)(Rs:Int->LB->Oj)(b f g h k m:Int)(a:LB):Oj:=if(Cw m 5)then(Aj ([b,f,g,h,k]:LI) m).bind λw=>(Aj ([(2:Int),(2:Int),(2:Int),(4:Int),(4:Int)]:LI) m).bind λy=>(BN (Ad w:UInt64) y).bind λ(n,v)=>(Da a n).bind λo=>Rs (Ae m 1) o
else
j6 a
def Mh:Nat->Int->LB->Oj
|0,_,_=>none
|c+1,i,j=>CX CZ (Mh c) z d e A C i j
def Ak0 b f g h k:=Mh b f g h k As
def QZ(j4:Jz6 (LB->Oj))(b f g h k:Int):Oj:=(Mz b f g h k).bind λp=>if(Bj p 0)then
some (([]:LB),p)
else
j4 b f g h k 0 ([(84:UInt8),(84:UInt8),(65:UInt8),(49:UInt8)]:LB)
def SV:=QZ Ak0
def wT:Bef:=if(Ef (Ac c) 64)then
some (0,2)
else(bI c).bind λ(z,d)=>some (z,0)
def HV:Bfe:=(wT c).bind λ(z,d)=>if(Bj d 0)then
some (([]:LB),d)
else(BN z 8).bind λ(e,i)=>some (e,i)
def Ax3:Bdk:=some 0
def Apk:=Ax3
def JL:Bdk:=if(Cw o7 (Ac Bcn))then(Aj Bcn o7).bind λz=>if((Cw z 5)||(Ef z o9))then
some 8
else
Bcm (Am o9 z) (Ae o7 1)
else
Bci
def Sm:Nat->Int->Int->Option Int
|0,_,_=>none
|z+1,c,d=>JL Apk (Sm z) I c d
def Ap6 a:=Sm a As
abbrev Bew:=LI->Int->Int->Option Int
def II(j4:Bew)(a:LI):Bdk:=if((geq (Ac a) 0)||(Ef (Ac a) 1000))then
some 8
else
j4 a 100000 0
def Qr:=II Ap6
abbrev Hz:=Option (LB×Int)
def Bbr:Hz:=some (c,0)
def Bby:=Bbr
def Ajf(j14:LB->Hz)(b:LB):Hz:=(Zb b).bind λ(m,u)=>(BN (Ad m:UInt64) 4).bind λ(n,v)=>(Da b n).bind λg=>j14 g
def QA:=Ajf Bby
def Akd(Z':Int->LB->Hz)(a:LI)(f:Int)(h:LB):Hz:=Z' (Ae f 1) h
def QI Z':=Akd Z'
def JK(j11:Int->LB->Hz)(j13:LB->Hz)(a:LI)(f:Int)(b:LB):Hz:=if(Cw f (Ac a))then(Aj a f).bind λo=>(BN (Ad o:UInt64) 4).bind λ(p,w)=>(Da b p).bind λh=>j11 f h
else
j13 b
def Ru:Nat->Int->LB->Hz
|0,_,_=>none
|z+1,c,d=>JK (QI (Ru z) I) QA I c d
def Axa a:=Ru a As
def UF(j8:LI->Int->LB->Hz)(a:LI):Hz:=(Qr a).bind λk=>if(Bj k 0)then
some (([]:LB),k)
else
j8 a 0 ([]:LB)
def PL:=UF Axa
abbrev Jf:=Option (LB×Int)
def CP(f g h:Int)(b k:LB)(m:LX)(a:Bdr)(n:LB)(o:Bool)(p:Int)(u:LB)(v:LI):Jf:=(PL v).bind λ(aa,y)=>if(Bj y 0)then
some (([]:LB),y)
else(
(Da u aa).bind λab=>(Ep a).bind λac=>(Da ab ac).bind λad=>some (ad,0))
def Uy:=CP
def CQ(j8:Jz3 (LB->LB->LX-> (List LB)->LB->Bool->Int->LB->LI->Jf))(S9:Int->LI->Jf)(a:Bdr)(f g h:Int)(b k:LB)(m:LX)(n:LB)(o:Bool)(p:Int)(u:LB)(w:Int)(v:LI):Jf:=if(Cw w (Ac a))then(Aj a w).bind λai=>(Da v ([(Ac ai)]:LI)).bind λaj=>S9 (Ae w 1) aj
else
j8 f g h b k m a n o p u v
def Qa:Nat->Int->LI->Jf
|0,_,_=>none
|z+1,c,d=>CQ Uy (Qa z) T J p8 Bc2 r9 Bc3 M Bc4 Bdg o8 Bcs c d
def Bbv a f g h b k m n o p u:=Qa a f g h b k m n o p u As
def DB(j6:(List LB)->Jz3 (LB->LB->LX->LB->Bool->Int->LB->Int->LI->Jf))(f g h:Int)(b k:LB)(m:LX)(a:Bdr)(n:LB)(o:Bool)(p:Int)(u:LB):Jf:=j6 a f g h b k m n o p u 0 ([]:LI)
def PR:=DB Bbv
def PU(j5:Jz3 (LB->LB->LX-> (List LB)->LB->Bool->Int->LB->Jf))(f g h:Int)(b k:LB)(m:LX)(a:Bdr)(n:LB)(o:Bool)(p ak:Int):Jf:=(NF b).bind λ(al,ae)=>if(Bj ae 0)then
some (([]:LB),ae)
else(SV al f g h ak).bind λ(af,ag)=>if(Bj ag 0)then
some (([]:LB),ag)
else
if(b !=([]:LB))then(HV b).bind λ(am,ah)=>if(Bj ah 0)then
some (([]:LB),ah)
else(Da af am).bind λan=>j5 f g h b k m a n o p an
else
j5 f g h b k m a n o p af
def SW:=PU PR
abbrev Nu:=Option (Int×Int×Int×LB×LB×LX×(List LB)×LB×Bool×Int×Int)
def GO:Nu:=(SW d e A i V M Bda l7 B l z).bind λ(c,j)=>if(Bj j 0)then(Ul d e A i V M Bda l7 B l j).bind λ(t,C,D,E,F,G,I,J,L,N,O)=>some (t,C,D,E,F,G,I,J,L,N,O)
else
some (d,e,A,i,([]:LB),([]:LX),([]:Bdr),c,true,0,0)
def Wz:=GO
abbrev Bee:=Jz4 (LB->Bool->Int->LB->LB->LX-> (List LB)->Nu)
def Adp(j4:Bee)(o a b g:Int)(f:LB)(k:Bool)(m:Int)(h n:LB)(ad:Int)(ae:LX)(af:Bdr):Nu:=if(Bj ad 0)then(Ul a b g f h ae af n k m ad).bind λ(au,v,w,av,aw,ax,y,aa,ay,az,ba)=>some (au,v,w,av,aw,ax,y,aa,ay,az,ba)
else
j4 o a b g f k m h n ae af
def Ads:=Adp Wz
def JG(j3:Jz4 (LB->Bool->Int->LB->LB->Int->LX-> (List LB)->Nu))(j4:Bee)(bb bc bd:Int)(be bf:LB)(bg:LX)(bh:Bdr)(bi:LB)(bj:Bool)(bk:Int):Nu:=(Qz bb bc bd be bf bg bh bi bj bk).bind λ(a,b,g,f,h,p,u,n,k,m,bl,ag)=>if(Bj ag 0)then
some (a,b,g,f,h,p,u,n,k,m,ag)
else(Vf a b g f h p u n k m bl).bind λo=>if((Ef (Ac h) 0)||(geq o 0))then(Ul a b g f h p u n k m 24).bind λ(bm,bn,bp,bq,br,bs,bt,bu,bv,bw,bx)=>some (bm,bn,bp,bq,br,bs,bt,bu,bv,bw,bx)
else
if(Ef (Ac p) 0)then(Vm f).bind λ(bz,ah)=>if(Bj ah 0)then
j3 o a b g f k m h n ah p u
else(Yp a b bz p).bind λ(da,ai)=>if(Bj ai 0)then
j3 o a b g f k m h n ai p u
else(Da u ([da]:Bdr)).bind λdb=>j3 o a b g f k m h n 0 ([]:LX) db
else
j4 o a b g f k m h n p u
def Gp:=JG Ads Wz
abbrev Bv:=Option (Int×Int×Int×LB×LB×LX×(List LB)×LB×Bool×Int×(List (Int×LB×Unit))×Int)
abbrev Bdl:=List (Int×LB×Unit)
def Aea(f g h:Int)(k m:LB)(n:Bool)(o:Int)(a:LB)(w:Bdl)(p:LB)(u:LX)(v:Bdr):Bv:=some (f,g,h,k,p,u,v,m,n,o,w,0)
def Aer:=Aea
def Agf(j32:Jz3 (LB->LB->Bool->Int->LB-> (List (Int×LB×Unit))->LB->LX-> (List LB)->Bv))(w:Bdl)(f g h:Int)(k m:LB)(n:Bool)(o:Int)(a p:LB)(u:LX)(v:Bdr):Bv:=j32 f g h k m n o a w p u v
def JI:=Agf Aer
abbrev Bdq:=Jz4 (LB->LB->Bool->Int->LB-> (List (Int×LB×Unit))->LB->LX-> (List LB)->Bv)
def Wu(aG:Bdq)(b:Bdm)(y df dg dh:Int)(di dj:LB)(dk:Bool)(dl:Int)(dm:LB)(dn:Bdl)(dp:LB)(dq:LX)(dr:Bdr):Bv:=aG (Ae y 1) df dg dh di dj dk dl dm dn dp dq dr
def Gb aG:=Wu aG
def Ws(j29:Bdq)(b:Bdm)(aa:UInt8×Int×Unit)(a:LB)(ab y f g h:Int)(k p:LB)(u:LX)(v:Bdr)(m:LB)(n:Bool)(o ac ad ae:Int)(af:LB)(ag:Bool)(ah:Int)(w:Bdl)(ai:LB)(aj:LX)(ak:Bdr)(al:LB):Bv:=(
(Bp a (Ee aa.2.1 (Ac a)) (Ac a)).bind λbm=>(Da w ([(ab,([]:LB),())]:Bdl)).bind λbn=>j29 y ac ad ae af al ag ah bm bn ai aj ak)
def HF aG b:=Ws (Gb aG b) b
def Aeh(j29:Bdq)(b:Bdm)(an y f g h:Int)(k p:LB)(u:LX)(v:Bdr)(m:LB)(n:Bool)(o:Int)(a:LB)(ao ap aq:Int)(ar au:LB)(av:Bool)(aw:Int)(ax:LB)(w:Bdl)(ay:LB)(az:LX)(ba:Bdr):Bv:=(Da w ([(an,ax,())]:Bdl)).bind λds=>j29 y ao ap aq ar au av aw a ds ay az ba
def JH aG b:=Aeh (Gb aG b) b
def Adq(j29:Bdq)(b:Bdm)(bb y f g h:Int)(k p:LB)(u:LX)(v:Bdr)(m:LB)(n:Bool)(o:Int)(a:LB)(bc bd be:Int)(bf:LB)(bg:Bool)(bh:Int)(w:Bdl)(bi:LB)(bj:LX)(bk:Bdr)(bl:LB):Bv:=(Da w ([(bb,([]:LB),())]:Bdl)).bind λdt=>j29 y bc bd be bf bl bg bh a dt bi bj bk
def IE aG b:=Adq (Gb aG b) b
def Qk(j26:(UInt8×Int×Unit)->LB->Jz5 (LB->LB->LX-> (List LB)->LB->Bool->Int->Int->Int->Int->LB->Bool->Int-> (List (Int×LB×Unit))->LB->LX-> (List LB)->LB->Bv))(j33:Jz5 (LB->LB->LX-> (List LB)->LB->Bool->Int->LB->Int->Int->Int->LB->LB->Bool->Int->LB-> (List (Int×LB×Unit))->LB->LX-> (List LB)->Bv))(j34:Jz5 (LB->LB->LX-> (List LB)->LB->Bool->Int->LB->Int->Int->Int->LB->Bool->Int-> (List (Int×LB×Unit))->LB->LX-> (List LB)->LB->Bv))(j29:Bdq)(j31:(List (Int×LB×Unit))->Jz3 (LB->LB->Bool->Int->LB->LB->LX-> (List LB)->Bv))(b:Bdm)(y f g h:Int)(k m:LB)(n:Bool)(o:Int)(a:LB)(w:Bdl)(p:LB)(u:LX)(v:Bdr):Bv:=if(Cw y (Ac b))then(Aj b y).bind λaa=>if(geq aa.1 1)then(
(
(
(Bp a 0 (Ee aa.2.1 (Ac a))).bind λam=>(
(Ey f g h k p u v m n o am).bind λ(ac,ad,ae,af,ai,aj,ak,al,ag,ah,ab)=>j26 aa a ab y f g h k p u v m n o ac ad ae af ag ah w ai aj ak al))))
else
if(geq aa.1 2)then(
(
(
(BU f g h k p u v m n o aa.2.1).bind λ(ao,ap,aq,ar,ay,az,ba,au,av,aw,ax,an)=>j33 an y f g h k p u v m n o a ao ap aq ar au av aw ax w ay az ba)))
else
if(geq aa.1 3)then(
(
(
(Gp f g h k p u v m n o).bind λ(bc,bd,be,bf,bi,bj,bk,bl,bg,bh,bb)=>j34 bb y f g h k p u v m n o a bc bd be bf bg bh w bi bj bk bl)))
else
j29 y f g h k m n o a w p u v
else
j31 w f g h k m n o a p u v
def Gc:Nat->Jz4 (LB->LB->Bool->Int->LB-> (List (Int×LB×Unit))->LB->LX-> (List LB)->Bv)
|0,_,_,_,_,_,_,_,_,_,_,_,_,_=>none
|z+1,c,d,e,i,j,l,t,A,B,C,D,E,F=>Qk (HF (Gc z) l6) (JH (Gc z) l6) (IE (Gc z) l6) (Gb (Gc z) l6) JI l6 c d e i j l t A B C D E F
def Bau b:=Gc b As
def MM(j17:(List (UInt8×Int×Unit))->Jz4 (LB->LB->Bool->Int->LB-> (List (Int×LB×Unit))->LB->LX-> (List LB)->Bv))(du dv dw:Int)(dx dy:LB)(b:Bdm):Bv:=(Zm b).bind λbq=>if(Bj bq 0)then
some (0,0,0,([]:LB),([]:LB),([]:LX),([]:Bdr),([]:LB),false,0,([]:Bdl),bq)
else(FF du dv dw dx).bind λ(dz,fa,fb,fc,fd,fe,ff,fg,fh,fi,br)=>if(Bj br 0)then
some (0,0,0,([]:LB),([]:LB),([]:LX),([]:Bdr),([]:LB),false,0,([]:Bdl),br)
else
j17 b 0 dz fa fb fc fg fh fi dy ([]:Bdl) fd fe ff
def Vc:=MM Bau
abbrev Bfh:=Option (UInt64×UInt64)
def QN:Bfh:=some ((Ae (Ae (Br (Cq t (GI.toZ (32:UInt64)).toNat) (Cq O (GI.toZ (32:UInt64)).toNat)) (Cq (Ae (Br (Cq t (GI.toZ (32:UInt64)).toNat) (Ev O 4294967295)) (Cq (Br (Ev t 4294967295) (Ev O 4294967295)) (GI.toZ (32:UInt64)).toNat)) (GI.toZ (32:UInt64)).toNat)) (Cq (Ae (Ev (Ae (Br (Cq t (GI.toZ (32:UInt64)).toNat) (Ev O 4294967295)) (Cq (Br (Ev t 4294967295) (Ev O 4294967295)) (GI.toZ (32:UInt64)).toNat)) 4294967295) (Br (Ev t 4294967295) (Cq O (GI.toZ (32:UInt64)).toNat))) (GI.toZ (32:UInt64)).toNat)),(Br t O))
def CF:Bfh:=(QN t O).bind λ(z,c)=>some (z,c)
abbrev Bf:=Option ((List (UInt8×Int×Unit)))
def Awm:Bf:=some l6
def Ni:=Awm
abbrev Bey:=Int-> (List (UInt8×Int×Unit))->Bf
def Il(j10:(List (UInt8×Int×Unit))->Bf)(Z':Bey)(b:Int)(a:Bdm):Bf:=if(Cw b (Ac a))then(
(VA (Ac a) b (Ac a)).bind λ_=>(VA (Ac a) 0 b).bind λ_=>Z' (Ae b (IK ((Ac a)-b) (JV a 0 (b-(0:Int))).length)) (Rv a b ((Ac a)-b) (JV a 0 (b-(0:Int)))))
else
j10 a
def Im:Nat->Int-> (List (UInt8×Int×Unit))->Bf
|0,_,_=>none
|q+1,b,a=>Il Ni (Im q) b a
def Awq:=Im As
def Od(j8:Bey)(f:Bdm)(g:UInt64):Bf:=(mkI (Ad g:Int) ((0:UInt8),(0:Int),())).bind λk=>(Ke (geq (Ad g:Int) (Ad g:Int))).bind λ_=>j8 (IK (Ac k) f.length) (PM k f)
def Awo:=Od Awq
def Ok(j7:(List (UInt8×Int×Unit))->UInt64->Bf)(f:Bdm)(h:Int):Bf:=(CF (Ad (Ac f):UInt64) (Ad h:UInt64)).bind λ(m,g)=>if((Ef m 0)||(Ef g 9223372036854775807))then
none
else
j7 f g
def Awp:=Ok Awo
def Oa(j6:(List (UInt8×Int×Unit))->Int->Bf)(f:Bdm)(h:Int):Bf:=if(Cw h 0)then
none
else
j6 f h
def Kk:=Oa Awp
def Xu:Option ((List (UInt8×Int×Unit))×Int):=if((((((Cw z 0)||(Ef z 100000))||(Cw d 1))||(Ef d 100000))||(Cw e 0))||(Ef e 100000))then
some (([]:Bdm),2)
else(Ke (Bj d 0)).bind λ_=>if(Ef (Ae (Br 2 (Ci (Am (Ae z d) 1) d)) 2) 200)then
some (([]:Bdm),4)
else(Kk ([((1:UInt8),d,()),((2:UInt8),e,())]:Bdm) (Ci (Am (Ae z d) 1) d)).bind λc=>(Da c ([((3:UInt8),(0:Int),()),((2:UInt8),(100000:Int),())]:Bdm)).bind λi=>some (i,0)
def Ahq:Bdu:=some c
def KX:=Ahq
def Zq(j6:Be4)(Rs:Be5)(a:Bdl)(f:Int)(b:LB):Bdu:=if(Cw f (Ac a))then(Aj a f).bind λg=>(Da b g.2.1).bind λh=>Rs (Ae f 1) h
else
j6 b
def Nt(a:Bdl):Nat->Int->LB->Option (LB)
|0,_,_=>none
|q+1,f,b=>Zq KX (Nt a q) a f b
def Bbo a:=Nt a As
def Ah0(j4:(List (Int×LB×Unit))->Int->LB->Option (LB))(a:Bdl):Bdu:=j4 a 0 ([]:LB)
def Ay:=Ah0 Bbo
def Um:Bdn:=(Qg).bind λ(g,h)=>(Vc g h 8000 ([]:LB) ([(128:UInt8)]:LB) ([((1:UInt8),(1:Int),()),((3:UInt8),(0:Int),()),((2:UInt8),(22:Int),()),((2:UInt8),(100:Int),())]:Bdm)).bind λ(di,dj,dk,dl,dm,dn,dp,dq,k,dr,a,m)=>(Xu 5 2 0).bind λ(b,f)=>if(((geq m 0)&&k)&&(geq (Ac a) 4))then(Aj a 0).bind λ_=>(Aj a 0).bind λn=>if(geq n.1 0)then(Aj a 1).bind λ_=>(Aj a 1).bind λo=>if(geq o.1 0)then(Aj a 1).bind λ_=>(Aj a 1).bind λp=>if(geq (Ac p.2.1) 0)then(Aj a 2).bind λ_=>(Aj a 2).bind λu=>if(geq (Ac u.2.1) 22)then(Aj a 3).bind λ_=>(Aj a 3).bind λv=>if(geq (Ac v.2.1) 14)then(Ay a).bind λw=>some (((geq (Ac w) 36)&&(geq f 0))&&(geq (Ac b) 8))
else
some ((false&&(geq f 0))&&(geq (Ac b) 8))
else
if false then(Ay a).bind λy=>some (((geq (Ac y) 36)&&(geq f 0))&&(geq (Ac b) 8))
else
some ((false&&(geq f 0))&&(geq (Ac b) 8))
else
if false then(Aj a 3).bind λ_=>(Aj a 3).bind λaa=>if(geq (Ac aa.2.1) 14)then(Ay a).bind λab=>some (((geq (Ac ab) 36)&&(geq f 0))&&(geq (Ac b) 8))
else
some ((false&&(geq f 0))&&(geq (Ac b) 8))
else
if false then(Ay a).bind λac=>some (((geq (Ac ac) 36)&&(geq f 0))&&(geq (Ac b) 8))
else
some ((false&&(geq f 0))&&(geq (Ac b) 8))
else
if false then(Aj a 2).bind λ_=>(Aj a 2).bind λad=>if(geq (Ac ad.2.1) 22)then(Aj a 3).bind λ_=>(Aj a 3).bind λae=>if(geq (Ac ae.2.1) 14)then(Ay a).bind λaf=>some (((geq (Ac af) 36)&&(geq f 0))&&(geq (Ac b) 8))
else
some ((false&&(geq f 0))&&(geq (Ac b) 8))
else
if false then(Ay a).bind λag=>some (((geq (Ac ag) 36)&&(geq f 0))&&(geq (Ac b) 8))
else
some ((false&&(geq f 0))&&(geq (Ac b) 8))
else
if false then(Aj a 3).bind λ_=>(Aj a 3).bind λah=>if(geq (Ac ah.2.1) 14)then(Ay a).bind λai=>some (((geq (Ac ai) 36)&&(geq f 0))&&(geq (Ac b) 8))
else
some ((false&&(geq f 0))&&(geq (Ac b) 8))
else
if false then(Ay a).bind λaj=>some (((geq (Ac aj) 36)&&(geq f 0))&&(geq (Ac b) 8))
else
some ((false&&(geq f 0))&&(geq (Ac b) 8))
else
if false then(Aj a 1).bind λ_=>(Aj a 1).bind λak=>if(geq (Ac ak.2.1) 0)then(Aj a 2).bind λ_=>(Aj a 2).bind λal=>if(geq (Ac al.2.1) 22)then(Aj a 3).bind λ_=>(Aj a 3).bind λam=>if(geq (Ac am.2.1) 14)then(Ay a).bind λan=>some (((geq (Ac an) 36)&&(geq f 0))&&(geq (Ac b) 8))
else
some ((false&&(geq f 0))&&(geq (Ac b) 8))
else
if false then(Ay a).bind λao=>some (((geq (Ac ao) 36)&&(geq f 0))&&(geq (Ac b) 8))
else
some ((false&&(geq f 0))&&(geq (Ac b) 8))
else
if false then(Aj a 3).bind λ_=>(Aj a 3).bind λap=>if(geq (Ac ap.2.1) 14)then(Ay a).bind λaq=>some (((geq (Ac aq) 36)&&(geq f 0))&&(geq (Ac b) 8))
else
some ((false&&(geq f 0))&&(geq (Ac b) 8))
else
if false then(Ay a).bind λar=>some (((geq (Ac ar) 36)&&(geq f 0))&&(geq (Ac b) 8))
else
some ((false&&(geq f 0))&&(geq (Ac b) 8))
else
if false then(Aj a 2).bind λ_=>(Aj a 2).bind λau=>if(geq (Ac au.2.1) 22)then(Aj a 3).bind λ_=>(Aj a 3).bind λav=>if(geq (Ac av.2.1) 14)then(Ay a).bind λaw=>some (((geq (Ac aw) 36)&&(geq f 0))&&(geq (Ac b) 8))
else
some ((false&&(geq f 0))&&(geq (Ac b) 8))
else
if false then(Ay a).bind λax=>some (((geq (Ac ax) 36)&&(geq f 0))&&(geq (Ac b) 8))
else
some ((false&&(geq f 0))&&(geq (Ac b) 8))
else
if false then(Aj a 3).bind λ_=>(Aj a 3).bind λay=>if(geq (Ac ay.2.1) 14)then(Ay a).bind λaz=>some (((geq (Ac az) 36)&&(geq f 0))&&(geq (Ac b) 8))
else
some ((false&&(geq f 0))&&(geq (Ac b) 8))
else
if false then(Ay a).bind λba=>some (((geq (Ac ba) 36)&&(geq f 0))&&(geq (Ac b) 8))
else
some ((false&&(geq f 0))&&(geq (Ac b) 8))
else
if false then(Aj a 1).bind λ_=>(Aj a 1).bind λbb=>if(geq bb.1 0)then(Aj a 1).bind λ_=>(Aj a 1).bind λbc=>if(geq (Ac bc.2.1) 0)then(Aj a 2).bind λ_=>(Aj a 2).bind λbd=>if(geq (Ac bd.2.1) 22)then(Aj a 3).bind λ_=>(Aj a 3).bind λbe=>if(geq (Ac be.2.1) 14)then(Ay a).bind λbf=>some (((geq (Ac bf) 36)&&(geq f 0))&&(geq (Ac b) 8))
else
some ((false&&(geq f 0))&&(geq (Ac b) 8))
else
if false then(Ay a).bind λbg=>some (((geq (Ac bg) 36)&&(geq f 0))&&(geq (Ac b) 8))
else
some ((false&&(geq f 0))&&(geq (Ac b) 8))
else
if false then(Aj a 3).bind λ_=>(Aj a 3).bind λbh=>if(geq (Ac bh.2.1) 14)then(Ay a).bind λbi=>some (((geq (Ac bi) 36)&&(geq f 0))&&(geq (Ac b) 8))
else
some ((false&&(geq f 0))&&(geq (Ac b) 8))
else
if false then(Ay a).bind λbj=>some (((geq (Ac bj) 36)&&(geq f 0))&&(geq (Ac b) 8))
else
some ((false&&(geq f 0))&&(geq (Ac b) 8))
else
if false then(Aj a 2).bind λ_=>(Aj a 2).bind λbk=>if(geq (Ac bk.2.1) 22)then(Aj a 3).bind λ_=>(Aj a 3).bind λbl=>if(geq (Ac bl.2.1) 14)then(Ay a).bind λbm=>some (((geq (Ac bm) 36)&&(geq f 0))&&(geq (Ac b) 8))
else
some ((false&&(geq f 0))&&(geq (Ac b) 8))
else
if false then(Ay a).bind λbn=>some (((geq (Ac bn) 36)&&(geq f 0))&&(geq (Ac b) 8))
else
some ((false&&(geq f 0))&&(geq (Ac b) 8))
else
if false then(Aj a 3).bind λ_=>(Aj a 3).bind λbp=>if(geq (Ac bp.2.1) 14)then(Ay a).bind λbq=>some (((geq (Ac bq) 36)&&(geq f 0))&&(geq (Ac b) 8))
else
some ((false&&(geq f 0))&&(geq (Ac b) 8))
else
if false then(Ay a).bind λbr=>some (((geq (Ac br) 36)&&(geq f 0))&&(geq (Ac b) 8))
else
some ((false&&(geq f 0))&&(geq (Ac b) 8))
else
if false then(Aj a 1).bind λ_=>(Aj a 1).bind λbs=>if(geq (Ac bs.2.1) 0)then(Aj a 2).bind λ_=>(Aj a 2).bind λbt=>if(geq (Ac bt.2.1) 22)then(Aj a 3).bind λ_=>(Aj a 3).bind λbu=>if(geq (Ac bu.2.1) 14)then(Ay a).bind λbv=>some (((geq (Ac bv) 36)&&(geq f 0))&&(geq (Ac b) 8))
else
some ((false&&(geq f 0))&&(geq (Ac b) 8))
else
if false then(Ay a).bind λbw=>some (((geq (Ac bw) 36)&&(geq f 0))&&(geq (Ac b) 8))
else
some ((false&&(geq f 0))&&(geq (Ac b) 8))
else
if false then(Aj a 3).bind λ_=>(Aj a 3).bind λbx=>if(geq (Ac bx.2.1) 14)then(Ay a).bind λbz=>some (((geq (Ac bz) 36)&&(geq f 0))&&(geq (Ac b) 8))
else
some ((false&&(geq f 0))&&(geq (Ac b) 8))
else
if false then(Ay a).bind λda=>some (((geq (Ac da) 36)&&(geq f 0))&&(geq (Ac b) 8))
else
some ((false&&(geq f 0))&&(geq (Ac b) 8))
else
if false then(Aj a 2).bind λ_=>(Aj a 2).bind λdb=>if(geq (Ac db.2.1) 22)then(Aj a 3).bind λ_=>(Aj a 3).bind λdc=>if(geq (Ac dc.2.1) 14)then(Ay a).bind λdd=>some (((geq (Ac dd) 36)&&(geq f 0))&&(geq (Ac b) 8))
else
some ((false&&(geq f 0))&&(geq (Ac b) 8))
else
if false then(Ay a).bind λde=>some (((geq (Ac de) 36)&&(geq f 0))&&(geq (Ac b) 8))
else
some ((false&&(geq f 0))&&(geq (Ac b) 8))
else
if false then(Aj a 3).bind λ_=>(Aj a 3).bind λdf=>if(geq (Ac df.2.1) 14)then(Ay a).bind λdg=>some (((geq (Ac dg) 36)&&(geq f 0))&&(geq (Ac b) 8))
else
some ((false&&(geq f 0))&&(geq (Ac b) 8))
else
if false then(Ay a).bind λdh=>some (((geq (Ac dh) 36)&&(geq f 0))&&(geq (Ac b) 8))
else
some ((false&&(geq f 0))&&(geq (Ac b) 8))
abbrev Bds:=Option (LB×LB×Int×Int×Int×Int×Int×LI×Int×LB×Bool×Int×Int)
def OS:Bds:=if(Ef (Ac c) 64)then
some (([]:LB),([]:LB),0,0,0,0,0,([]:LI),0,([]:LB),false,0,2)
else
some (c,([]:LB),0,0,0,0,0,([]:LI),0,([]:LB),false,0,0)
def Iu:Bdu:=(
(Da ([]:LB) c).bind λz=>some z)
abbrev Bd0:=Option (LI)
def Gx:Bd0:=(
(Da ([]:LI) I).bind λz=>some z)
abbrev Bed:=Option (LB×LB×Int×Int×Int×Int×Int×LI×Int×LB×Bool×Int)
def Dz:Bed:=(Iu D).bind λj=>(Iu i).bind λt=>(Gx F).bind λE=>some (c,j,z,d,e,A,C,E,G,t,B,l)
def Pp:Bd0:=some I
def Kn:=Pp
abbrev Bfk:=LI->Option (LI)
def Ib(j10:Bfk)(Z':Ber)(b:Int)(a:LI):Bd0:=if(Cw b (Ac a))then(
(VA (Ac a) b (Ac a)).bind λ_=>(VA (Ac a) 0 b).bind λ_=>Z' (Ae b (IK ((Ac a)-b) (JV a 0 (b-(0:Int))).length)) (Rv a b ((Ac a)-b) (JV a 0 (b-(0:Int)))))
else
j10 a
def Fi:Nat->Int->LI->Option (LI)
|0,_,_=>none
|q+1,b,a=>Ib Kn (Fi q) b a
def CG:=Fi As
def Rc:Bd0:=(mkI (Ad Bc8:Int) (0:Int)).bind λz=>(Ke (geq (Ad Bc8:Int) (Ad Bc8:Int))).bind λ_=>Bdj (IK (Ac z) Bdc.length) (PM z Bdc)
def CB:=Rc CG
def Qv(j7:LI->UInt64->Option (LI))(f:LI)(h:Int):Bd0:=(CF (Ad (Ac f):UInt64) (Ad h:UInt64)).bind λ(m,g)=>if((Ef m 0)||(Ef g 9223372036854775807))then
none
else
j7 f g
def CI:=Qv CB
def Ra(j6:LI->Int->Option (LI))(f:LI)(h:Int):Bd0:=if(Cw h 0)then
none
else
j6 f h
def Ph:=Ra CI
def Axr:Bd0:=some I
def AF:=Axr
def Hj(j16:Bfk)(mO:Ber)(a:Be7)(g:Int)(f:LI):Bd0:=if(Cw g (Ac a))then(Aj a g).bind λn=>(Da f n).bind λo=>mO (Ae g 1) o
else
j16 f
def Ex:Nat->Int->LI->Option (LI)
|0,_,_=>none
|z+1,c,d=>Hj AF (Ex z) Bc9 c d
def Pu a:=Ex a As
def Pq(j14:(List LI)->Int->LI->Option (LI))(a:Be7)(p:LI):Bd0:=j14 a 0 p
def Pv:=Pq Pu
def Pr(j13:(List LI)->LI->Option (LI))(b:Int)(a:Be7):Bd0:=if(Ef (Am b (Am (0:Int) (0:Int))) 0)then(VA 0 0 0).bind λ_=>(mkI (Am b (Am (0:Int) (0:Int))) (0:Int)).bind λu=>(Da ([]:LI) u).bind λk=>(VA (Ac k) 0 0).bind λ_=>j13 a (JV k 0 ((0:Int)-(0:Int)))
else
j13 a ([]:LI)
def AA:=Pr Pv
def Pw(j12:Int-> (List LI)->Option (LI))(a:Be7)(b:Int):Bd0:=if(Cw b 0)then
none
else
j12 b a
def Agg:=Pw AA
def Hy(j11:(List LI)->Int->Option (LI))(bk9:Int->Int->Option (LI))(a:Be7)(b h:Int):Bd0:=if(Cw h (Ac a))then(Aj a h).bind λm=>if(Cw (Ae b (Ac m)) 0)then
none
else
bk9 (Ae b (Ac m)) (Ae h 1)
else
j11 a b
def Fh:Nat->Int->Int->Option (LI)
|0,_,_=>none
|z+1,c,d=>Hy Agg (Fh z) Bc9 c d
def BT a:=Fh a As
def Qy(j9:(List LI)->Int->Int->Option (LI))(a:Be7):Bd0:=j9 a 0 0
def Oz:=Qy BT
def UU:Bd0:=(Oz ([I,F]:Be7)).bind λz=>some z
def XI:Option (LI×Int):=(BW z d).bind λ(c,e)=>if(Bj e 0)then
some (([]:LI),e)
else(Tq z).bind λ(i,j)=>(Ph ([i]:LI) (Am c 1)).bind λl=>(UU l ([(Am d (Br (Am c 1) i))]:LI)).bind λt=>some (t,0)
def Ei:Option (LI×Int):=(Mz z d e A C).bind λc=>if(Bj c 0)then
some (([]:LI),c)
else(XI A C).bind λ(i,j)=>some (i,j)
def Og(a f g h k:Int)(b:LB):Bdk:=if((b==([]:LB)) !=(geq a 1))then
some 26
else
some 0
def Aj0(y:Int)(o p:LB)(h b f k m:Int)(g:LI)(a:Int)(n:LB)(u:Bool)(v:Int):Bdn:=some (tM (Ac n) y)
def QQ:=Aj0
def CM(j8:Int->LB->LB->Jz5 (LI->Int->LB->Bool->Int->Option Bool))(S9:Int->Int->Option Bool)(w:LI)(o p:LB)(h b f k m:Int)(g:LI)(a:Int)(n:LB)(u:Bool)(v y aa:Int):Bdn:=if(Cw aa (Ac w))then(Aj w aa).bind λac=>S9 (Ae y (Ci (Br (Br ac b) f) 8)) (Ae aa 1)
else
j8 y o p h b f k m g a n u v
def Pz:Nat->Int->Int->Option Bool
|0,_,_=>none
|j+1,t,E=>CM QQ (Pz j) I c D z d e A C F G i B l t E
def Akc w o p h b f k m g a n u v:=Pz w o p h b f k m g a n u v As
def QP(j6:LI->LB->LB->Jz5 (LI->Int->LB->Bool->Int->Int->Int->Option Bool))(o p:LB)(h b f k m:Int)(g:LI)(a:Int)(n:LB)(u:Bool)(v:Int)(ab:LI):Bdn:=if(geq (Ac g) 0)then
some ((geq a 0)&&(geq (Ac n) 0))
else(Qr g).bind λad=>if((((Bj ad 0)||(Bj (Ac g) (Ac ab)))||(Cw a 0))||(Ef a (Ac ab)))then
some false
else(Bp ab 0 a).bind λw=>j6 w o p h b f k m g a n u v 0 0
def Ak5:=QP Akc
def QV(j5:LB->LB->Jz5 (LI->Int->LB->Bool->Int->LI->Option Bool))(o p:LB)(h b f k m:Int)(g:LI)(a:Int)(n:LB)(u:Bool)(v:Int):Bdn:=if((geq h 0)&&((geq b 0)&&((geq f 0)&&((geq k 0)&&((geq m 0)&&true)))))then
some (((geq (Ac g) 0)&&(geq a 0))&&(geq (Ac n) 0))
else(Ei h b f k m).bind λ(ab,ae)=>if(Bj ae 0)then
some false
else(Og h b f k m o).bind λaf=>if(Bj af 0)then
some false
else
j5 o p h b f k m g a n u v ab
def Za:=QV Ak5
def Ki:Bdn:=some (c==D)
def Mi:Bdn:=if(Lo (Ac c) (Ac D))then(Bp c 0 (Ac D)).bind λz=>(Ki z D).bind λd=>some d
else
some false
abbrev Ml:=Option (Int×Int)
def Bb9:Ml:=some (z,0)
def Ai0:=Bb9
def Zg(j6:Int->Ml)(Rs:Int->Int->Ml)(a:LB)(b f:Int):Ml:=if(Cw f (Ac a))then(Aj a f).bind λg=>if(Ef g 127)then
some (0,12)
else
Rs (rA (Dl b (GI.toZ (7:UInt64)).toNat) (Ad g:Int)) (Ae f 1)
else
j6 b
def Nq:Nat->Int->Int->Ml
|0,_,_=>none
|z+1,d,e=>Zg Ai0 (Nq z) c d e
def Ah6 a:=Nq a As
def MN(j4:LB->Int->Int->Ml)(a:LB):Ml:=if(Bj (Ac a) 4)then
some (0,2)
else
j4 a 0 0
def MW:=MN Ah6
abbrev Jq:=Option (Int×Int)
def Ajl:Jq:=if(Ef X 4000)then
some (0,4)
else
if(Cw (Ac c) X)then
some (0,24)
else
if(geq Bcj 16)then(Bp c (Am X 10) X).bind λz=>(Bp z 0 3).bind λd=>if(d !=([51,68,73]:LB))then
some (0,12)
else(Bp z 3 (Ac z)).bind λe=>(Bp c 3 10).bind λi=>(Ki e i).bind λj=>if(!j)then
some (0,12)
else
some (X,0)
else
some (X,0)
def QE:=Ajl
def Ak4(j8:LB->UInt8->Int->Jq)(a:LB)(g:Int)(b:UInt8):Jq:=if(geq b 16)then
j8 a b (Ae (Ae g 10) 10)
else
j8 a b (Ae g 10)
def QY:=Ak4 QE
def Aiv(j7:LB->Int->UInt8->Jq)(a:LB)(g:Int)(b:UInt8)(m:Bool):Jq:=if m then
some (0,12)
else
j7 a g b
def PW:=Aiv QY
def QX(j6:LB->Int->UInt8->Bool->Jq)(a:LB)(f b:UInt8):Jq:=(Bp a 6 10).bind λaa=>(MW aa).bind λ(g,ab)=>if(Bj ab 0)then
if true then
j6 a g b true
else
if(geq b 0)then
j6 a g b (!((Lo f 2)&&(tM f 4)))
else
if(geq b 16)then
j6 a g b (!(geq f 4))
else
j6 a g b (!false)
else(Aj a 4).bind λac=>if(Bj ac 0)then
j6 a g b true
else
if(geq b 0)then
j6 a g b (!((Lo f 2)&&(tM f 4)))
else
if(geq b 16)then
j6 a g b (!(geq f 4))
else
j6 a g b (!false)
def QH:=QX PW
def CO(j5:LB->UInt8->UInt8->Jq)(a:LB):Jq:=(Mi a ([(73:UInt8),(68:UInt8),(51:UInt8)]:LB)).bind λn=>if(!n)then
some (0,6)
else
if(Cw (Ac a) 10)then
some (0,24)
else(Aj a 3).bind λf=>(Aj a 5).bind λb=>(
(
(
j5 a f b)))
def SH:=CO QH
abbrev EE:=Option (UInt64×Int)
def Axx:EE:=some (t,0)
def Avf:=Axx
def XZ(j6:UInt64->EE)(Rs:UInt64->Int->EE)(a:LB)(f:UInt64)(b:Int):EE:=if(Cw b (Ac a))then(Aj a b).bind λg=>(Ke (Lo (Br 8 b) 0)).bind λ_=>Rs (rA f (Dl (Ad g:UInt64) (GI.toZ (Br 8 b)).toNat)) (Ae b 1)
else
j6 f
def EM:Nat->UInt64->Int->EE
|0,_,_=>none
|z+1,d,e=>XZ Avf (EM z) c d e
def Aw7 a:=EM a As
def mL(j4:LB->UInt64->Int->EE)(a:LB):EE:=if((Cw (Ac a) 1)||(Ef (Ac a) 8))then
some (0,2)
else
j4 a 0 0
def kG:=mL Aw7
def cA:Bef:=if(((Cw d 1)||(Ef d 8))||(Cw z 0))then
some (0,2)
else
if(Ef z (Am (Ac c) d))then
some (0,24)
else(Bp c z (Ae z d)).bind λe=>(kG e).bind λ(i,j)=>some (i,j)
def P2:Bdu:=some c
def qT:=P2
def eJ(j6:Be4)(Rs:Be5)(a b:Int)(f:UInt64)(h:Int)(g:LB):Bdu:=if(Cw h (Ac ([(2000:UInt64),(Ad (Ae a 32):UInt64),(Ad b:UInt64),f,(0:UInt64),(0:UInt64)]:LQ)))then(Aj ([(2000:UInt64),(Ad (Ae a 32):UInt64),(Ad b:UInt64),f,(0:UInt64),(0:UInt64)]:LQ) h).bind λ_=>(Aj ([(2000:UInt64),(Ad (Ae a 32):UInt64),(Ad b:UInt64),f,(0:UInt64),(0:UInt64)]:LQ) h).bind λk=>(BN k 4).bind λ(m,o)=>(Da g m).bind λn=>Rs (Ae h 1) n
else
j6 g
def EH:Nat->Int->LB->Option (LB)
|0,_,_=>none
|c+1,e,i=>eJ qT (EH c) z d t e i
def I1 a b f:=EH a b f As
def rJ(j4:Int->Int->UInt64->Int->LB->Option (LB))(a b:Int)(f:UInt64):Bdu:=j4 a b f 0 ([(65:UInt8),(80:UInt8),(69:UInt8),(84:UInt8),(65:UInt8),(71:UInt8),(69:UInt8),(88:UInt8)]:LB)
def nB:=rJ I1
abbrev Bfi:=Option (Int×Int×Bool)
def TE:Bfi:=(cA c 12 4).bind λ(z,d)=>(cA c 16 4).bind λ(e,i)=>if(((Cw z 32)||(Ef z 3032))||(Ef e 1000))then
some (0,0,false)
else(nB (Am (Ad z:Int) 32) (Ad e:Int) t).bind λj=>(Ki c j).bind λl=>some ((Am (Ad z:Int) 32),(Ad e:Int),l)
def nG:Bdy:=(Mi c ([(65:UInt8),(80:UInt8),(69:UInt8),(84:UInt8),(65:UInt8),(71:UInt8),(69:UInt8),(88:UInt8)]:LB)).bind λz=>if(!z)then
some (0,6)
else
if(Cw (Ac c) 32)then
some (0,24)
else(Bp c 0 32).bind λd=>(TE d 2684354560).bind λ(e,i,j)=>if(!j)then
some (0,12)
else
if(Cw (Ac c) (Ae e 64))then
some (0,24)
else(Bp c (Am (Ae e 64) 32) (Ae e 64)).bind λl=>(nB e i 2147483648).bind λt=>(Ki l t).bind λA=>if(!A)then
some (0,12)
else
some ((Ae e 64),0)
def Xw:Bdy:=(SH c).bind λ(z,d)=>if(Bj d 6)then
some (z,d)
else(nG c).bind λ(e,i)=>some (e,i)
def Vk(b:List UInt8):Nat->Int->Option (Int×Int)
  |0,_=>none
  |q+1,x=>Option.bind (Bp b x (Ac b)) λs=>Option.bind (Xw s) λr=>
    if geq r.2 (6:Int)=true then some (x,0)
    else if(geq r.2 (0:Int)&&Ef (Ae x r.1) (4000:Int))=true then some (0,4)
    else if Bj r.2 (0:Int)=true then some (0,r.2)
    else Vk b q (Ae x r.1)
def Lw(b:List UInt8):Bdy:=Vk b As 0
def Ak:Option (Bool×Int):=some (false,z)
def Hf:Bdn:=if(Lo (Ac c) (Ac D))then(Bp c 0 (Ac D)).bind λz=>some (z==D)
else
some false
def Je:Bdn:=(Hf c D).bind λz=>some z
def Bbt:Bdn:=some false
def Aji:=Bbt
def Uw(j6:Bdn)(Rs:Bfd)(a:LB)(b:Int):Bdn:=if(Cw b 2)then(Aj ([([73,68,51]:LB),([65,80,69,84,65,71,69,88]:LB)]:Bdr) b).bind λf=>if(Cw (Ac a) (Ac f))then(Je f a).bind λg=>if g then
some true
else
Rs (Ae b 1)
else
Rs (Ae b 1)
else
j6
def Kf:Nat->Int->Option Bool
|0,_=>none
|z+1,d=>Uw Aji (Kf z) c d
def Ajn a:=Kf a As
def QT(j4:LB->Int->Option Bool)(a:LB):Bdn:=j4 a 0
def Qs:=QT Ajn
abbrev Re:=Option (Int×Int×Int×Int×Int×Int)
def Api:Re:=(Aj I 0).bind λ_=>(Aj I 0).bind λz=>(Aj I 1).bind λ_=>(Aj I 1).bind λc=>(Aj I 2).bind λ_=>(Aj I 2).bind λd=>(Aj I 3).bind λ_=>(Aj I 3).bind λe=>(Aj I 4).bind λ_=>(Aj I 4).bind λi=>(Qt z c d e i).bind λj=>if(!j)then
some (0,0,0,0,0,12)
else(PD z c d e i).bind λl=>if(!l)then
some (0,0,0,0,0,4)
else
some (z,c,d,e,i,0)
def GJ:=Api
def GK(j6:LI->Re)(Rs:Int->Int->LI->Re)(b:LB)(g f:Int)(a:LI):Re:=if(Cw f 5)then(Aj ([(2:Int),(2:Int),(2:Int),(4:Int),(4:Int)]:LI) f).bind λh=>(cA b g h).bind λ(v,ae)=>(Aj a f).bind λ_=>(Mm a f (Ad v:Int)).bind λw=>Rs (Ae g h) (Ae f 1) w
else
j6 a
def Ny:Nat->Int->Int->LI->Re
|0,_,_,_=>none
|z+1,d,e,i=>GK GJ (Ny z) c d e i
def UL b:=Ny b As
def VL(j4:LB->Int->Int->LI->Re)(b:LB):Re:=(Bp b 0 (Ee 4 (Ac b))).bind λy=>(Je ([84,84,65,49]:LB) y).bind λaa=>if(!aa)then
some (0,0,0,0,0,12)
else
if(Cw (Ac b) 22)then
some (0,0,0,0,0,24)
else(cA b 18 4).bind λ(ab,af)=>(Bp b 0 18).bind λac=>(Zb ac).bind λ(ad,ag)=>if(Bj (Ad ad:UInt64) ab)then
some (0,0,0,0,0,22)
else
j4 b 4 0 (List.replicate 5 (0:Int))
def Qi:=VL UL
def IY:Option (Bool×Int):=(HV D).bind λ(z,d)=>if((Bj d 0)||(Bj (Ac c) (Ac z)))then
some (false,2)
else(Ki c z).bind λe=>some (e,0)
abbrev Ug:=Option (LI×Int)
def As8:Ug:=(Qr I).bind λz=>if(Bj z 0)then
some (([]:LI),12)
else
some (I,0)
def MR:=As8
def MV(j6:LI->Ug)(Rs:Int->LI->Ug)(a:LB)(f:LI)(g:Int)(b:LI):Ug:=if(Cw g (Ac f))then(cA a (Br 4 g) 4).bind λ(k,u)=>(Aj b g).bind λ_=>(Mm b g (Ad k:Int)).bind λm=>Rs (Ae g 1) m
else
j6 b
def Vh:Nat->Int->LI->Ug
|0,_,_=>none
|z+1,d,e=>MV MR (Vh z) c F d e
def Ari a f:=Vh a f As
def aD(j4:LB->LI->Int->LI->Ug)(a:LB)(h:Int):Ug:=if((Cw h 1)||(Ef h 1000))then
some (([]:LI),2)
else
if(Cw (Ac a) (Ae (Br 4 h) 4))then
some (([]:LI),24)
else(cA a (Br 4 h) 4).bind λ(n,v)=>(Bp a 0 (Br 4 h)).bind λo=>(Zb o).bind λ(p,w)=>if(Bj (Ad p:UInt64) n)then
some (([]:LI),22)
else(mkI h (0:Int)).bind λf=>(Ke (geq h h)).bind λ_=>j4 a f 0 f
def UX:=aD Ari
def BR(f a b g h:Int):Bdy:=some (a,b)
def HQ:Bfe:=if(Cw (Ac c) 5)then
some (([]:LB),24)
else
if(Ef (Ac c) 41254)then
some (([]:LB),4)
else(Bp c 0 (Am (Ac c) 4)).bind λz=>(Zb z).bind λ(d,e)=>if(Bj e 0)then
some (([]:LB),e)
else(Bp c (Am (Ac c) 4) (Ac c)).bind λi=>(kG i).bind λ(j,l)=>if((Bj l 0)||(Bj j (Ad d:UInt64)))then
some (([]:LB),22)
else(Bp c 0 (Am (Ac c) 4)).bind λt=>some (t,0)
def za:Bfo:=if(Ef (Ac c) 41250)then
some (([]:LB),0,4)
else(Bm c).bind λz=>some (z,(Br 8 (Ac c)),0)
abbrev Bdw:=Option UInt64
def Ayj (g:UInt64):Bdw:=some g
def Aw6:=Ayj
def lF(j6:Bfn)(Rs:Bfa)(b f:Int)(h:LB)(k:Int)(g:UInt64)(a:Int):Bdw:=if(Cw a f)then(Aj h (xw (Ae b a) (GI.toZ (3:UInt64)).toNat)).bind λm=>(Ke (Lo (Ev (Ae b a) 7) 0)).bind λ_=>(Ke (Lo (Ee (Am f a) (Am 8 (Ev (Ae b a) 7))) 0)).bind λ_=>(Ke (Lo a 0)).bind λ_=>Rs (rA g (Dl (Ad (Ev (Cq m (GI.toZ (Ev (Ae b a) 7)).toNat) (Am (Dl (1:UInt8) (GI.toZ (Ee (Am f a) (Am 8 (Ev (Ae b a) 7)))).toNat) 1)):UInt64) (GI.toZ a).toNat)) (Ae a (Ee (Am f a) (Am 8 (Ev (Ae b a) 7))))
else
j6 g
def OH:Nat->UInt64->Int->Option UInt64
|0,_,_=>none
|c+1,e,j=>lF Aw6 (OH c) z d i l e j
def Bca b f h k:=OH b f h k As
def Aun(j4:Int->Int->LB->Int->UInt64->Int->Option UInt64)(h:LB)(k b f:Int):Bdw:=j4 b f h k 0 0
def uI:=Aun Bca
abbrev Fv:=Option (LB×Int×Int)
def Atq:Fv:=some (i,z,0)
def dP:=Atq
abbrev Bfg:=Int->Int->LB->Fv
def Ass(fV:Bfg)(a:Int)(g:LB)(b f h:Int)(u:LB):Fv:=fV (Ae f 64) h u
def SG fV:=Ass fV
abbrev Bex:=UInt64->Int->Int->LB->Fv
def Asu(T0:Bex)(a f:Int)(g:LB)(b:Int)(m n:UInt64)(k h:Int)(w:LB):Fv:=(Ke (Lo (Ee k (Am 8 (Ev h 7))) 0)).bind λ_=>T0 (Cq n (GI.toZ (Ee k (Am 8 (Ev h 7)))).toNat) (Am k (Ee k (Am 8 (Ev h 7)))) (Ae h (Ee k (Am 8 (Ev h 7)))) w
def Atd T0:=Asu T0
def Au5(j48:Bex)(a f:Int)(g:LB)(b:Int)(m n:UInt64)(k h:Int)(v:LB):Fv:=(Aj v (Am (Ac v) 1)).bind λ_=>(Ke (Lo (Ee k (Am 8 (Ev h 7))) 0)).bind λ_=>(Ke (Lo (Ev h 7) 0)).bind λ_=>(Aj v (Am (Ac v) 1)).bind λaa=>(Aj v (Am (Ac v) 1)).bind λ_=>Option.bind (Mm v (Am (Ac v) 1) (rA aa (Dl (Ad (Ev n (Am (Dl (1:UInt64) (GI.toZ (Ee k (Am 8 (Ev h 7)))).toNat) 1)):UInt8) (GI.toZ (Ev h 7)).toNat))) λw=>j48 n k h w
def SQ T0 a f g b m:=Au5 (Atd T0 a f g b m) a f g b m
def SM(j47:Bex)(j50:Bfg)(a:Int)(g:LB)(b f:Int)(m n:UInt64)(k h:Int)(u:LB):Fv:=if(Ef k 0)then
if(geq (Ev h 7) 0)then(Da u ([(0:UInt8)]:LB)).bind λab=>j47 n k h ab
else
j47 n k h u
else
j50 f h u
def Qj(fV:Bfg)(a:Int)(g:LB)(b f:Int)(m:UInt64):Nat->UInt64->Int->Int->LB->Fv
|0,_,_,_,_=>none
|q+1,n,k,h,u=>SM (SQ (Qj fV a g b f m q) a f g b m) (SG fV a g b) a g b f m n k h u
def fC fV a g b f m:=Qj fV a g b f m As
def eZ(j44:Int->UInt64->UInt64->Int->Int->LB->Fv)(j52:Int->LB->Fv)(a:Int)(g:LB)(b f o:Int)(p:LB):Fv:=if(Cw f a)then(uI g b f (Ee 64 (Am a f))).bind λm=>j44 f m m (Ee 64 (Am a f)) o p
else
j52 o p
def Yy:Nat->Int->Int->LB->Fv
|0,_,_,_=>none
|c+1,d,e,j=>eZ (fC (Yy c) z i l) dP z i l d e j
def Asb a g b:=Yy a g b As
def lI(j27:Int->LB->Jz3 (LB->Fv))(g:LB)(b y a:Int):Fv:=(Ju g b).bind λac=>if(Bj ac 0)then
some (([]:LB),0,8)
else
if(((Cw y 0)||(Ef y a))||(Ef a b))then
some (([]:LB),0,2)
else
j27 a g b y 0 ([]:LB)
def lD:=lI Asb
def IF:Bef:=(Ju c z).bind λi=>if(Bj i 0)then
some (0,8)
else
if(((Cw e 0)||(Ef e 64))||(Cw d 0))then
some (0,2)
else
if(Ef d (Am z e))then
some (0,24)
else(uI c z d e).bind λj=>some (j,0)
def Hi:Bdk:=if(geq t 0)then
some 64
else(Aj ([(0:UInt8),(1:UInt8),(56:UInt8),(2:UInt8),(57:UInt8),(49:UInt8),(28:UInt8),(3:UInt8),(61:UInt8),(58:UInt8),(42:UInt8),(50:UInt8),(38:UInt8),(29:UInt8),(17:UInt8),(4:UInt8),(62:UInt8),(47:UInt8),(59:UInt8),(36:UInt8),(45:UInt8),(43:UInt8),(51:UInt8),(22:UInt8),(53:UInt8),(39:UInt8),(33:UInt8),(30:UInt8),(24:UInt8),(18:UInt8),(12:UInt8),(5:UInt8),(63:UInt8),(55:UInt8),(48:UInt8),(27:UInt8),(60:UInt8),(41:UInt8),(37:UInt8),(16:UInt8),(46:UInt8),(35:UInt8),(44:UInt8),(21:UInt8),(52:UInt8),(32:UInt8),(23:UInt8),(11:UInt8),(54:UInt8),(26:UInt8),(40:UInt8),(15:UInt8),(34:UInt8),(20:UInt8),(31:UInt8),(10:UInt8),(25:UInt8),(14:UInt8),(19:UInt8),(9:UInt8),(13:UInt8),(8:UInt8),(7:UInt8),(6:UInt8)]:LB) (GI.toZ (Cq (Br (Ev t (sO t)) 285870213051353865) (GI.toZ (58:UInt64)).toNat))).bind λz=>some (Ad z:Int)
abbrev Jk:=Option (Int×Int×Int)
def Aww:Jk:=some (0,0,24)
def Awv:=Aww
def Axn(j10:Jk):Jk:=j10
def Axg:=Axn Awv
def Aqo(j9:Jk)(f a:Int):Jk:=if(geq f 48)then
some (f,(Ae 0 (Ae a f)),0)
else
j9
def Aru:=Aqo Axg
def Arh(j8:Int->Int->Jk)(f b a:Int):Jk:=if(Cw f (Ee 48 (Am b a)))then
some (f,(Ae (Ae (0:Int) (1:Int)) (Ae a f)),0)
else
j8 f a
def Arz:=Arh Aru
def Arx(j7:Jz3 Jk)(h:Int)(k:UInt64)(a:Int)(g:LB)(b:Int):Jk:=if(Bj h 0)then
some (0,0,h)
else(Hi (O2 k)).bind λf=>j7 f b a
def ZL:=Arx Arz
def CE(j6:Int->UInt64->Int->LB->Int->Jk)(g:LB)(b a:Int):Jk:=(Ju g b).bind λm=>if(Bj m 0)then
some (0,0,m)
else
if(Cw a 0)then
some (0,0,2)
else
if(Lo a b)then
some (0,0,24)
else(
(
(IF g b a (Ee 48 (Am b a))).bind λ(k,h)=>j6 h k a g b))
def MH:=CE ZL
abbrev lM:=Option (UInt32×Int×Int)
def eO:lM:=(IF i l d U).bind λ(c,j)=>if(Bj j 0)then
some (0,0,j)
else
if(Cw e 48)then(Ke (Lo z 0)).bind λ_=>some ((rA (Dl (Ad e:UInt32) (GI.toZ z).toNat) (Ad c:UInt32)),(Ae d U),0)
else(Zt (Ad c:UInt32) z).bind λt=>if(!t)then
some (0,0,12)
else
some ((Ad c:UInt32),(Ae d U),0)
def fH:=eO
def At7(j2:Jz3 (LB->Int->Int->lM))(g:LB)(h v a:Int):lM:=(Ju g h).bind λo=>if(Bj o 0)then
some (0,0,o)
else
if((Cw a 0)||(Ef a 24))then
some (0,0,2)
else(MH g h v).bind λ(f,b,p)=>if(Bj p 0)then
some (0,0,p)
else
if(geq f 48)then
j2 a b f g h 32
else
j2 a b f g h a
def nO:=At7 fH
abbrev Lz:=Option (UInt32×Int×Int×Int×UInt64×UInt64×Int)
def Aq1:Lz:=some (N,R,Bc6,Y,(Ae Bcv (Am (Ad N:UInt64) (Cq Bcv (GI.toZ (4:UInt64)).toNat))),Bcx,0)
def Ar8:=Aq1
def Atn(j10:UInt32->Jz3 (UInt64->UInt64->Lz))(f:UInt32)(k m:Int)(b n:UInt64)(w:Int):Lz:=j10 f k w m b n
def Ash:=Atn Ar8
def Atz(j9:UInt32->Int->Int->UInt64->UInt64->Int->Lz)(f:UInt32)(k a:Int)(b:UInt64)(m:Int)(n:UInt64):Lz:=if(Ef a 0)then(Ke (Lo a 0)).bind λ_=>if(Cw (Ae b (Am (Ad f:UInt64) (Cq b (GI.toZ (4:UInt64)).toNat))) (Dl (16:UInt64) (GI.toZ a).toNat))then
j9 f k m b n (Am a 1)
else
if(Cw a 24)then(Ke (Lo a 0)).bind λ_=>if(Ef (Ae b (Am (Ad f:UInt64) (Cq b (GI.toZ (4:UInt64)).toNat))) (Dl (32:UInt64) (GI.toZ a).toNat))then
j9 f k m b n (Ae a 1)
else
j9 f k m b n a
else
j9 f k m b n a
else
if(Cw a 24)then(Ke (Lo a 0)).bind λ_=>if(Ef (Ae b (Am (Ad f:UInt64) (Cq b (GI.toZ (4:UInt64)).toNat))) (Dl (32:UInt64) (GI.toZ a).toNat))then
j9 f k m b n (Ae a 1)
else
j9 f k m b n a
else
j9 f k m b n a
def JE:=Atz Ash
def dQ(j8:UInt32->Int->Int->UInt64->Int->UInt64->Lz)(a h:Int)(b g:UInt64)(f:UInt32)(k:Int):Lz:=(MK a h b g f).bind λ(ad,o)=>if(geq ad 1)then
if(Ef h 0)then(Ke (Lo h 0)).bind λ_=>if(Cw (Ae g (Am (Ad o:UInt64) (Cq g (GI.toZ (4:UInt64)).toNat))) (Dl (16:UInt64) (GI.toZ h).toNat))then
j8 f k a b (Am h 1) (Ae g (Am (Ad o:UInt64) (Cq g (GI.toZ (4:UInt64)).toNat)))
else
if(Cw h 24)then(Ke (Lo h 0)).bind λ_=>if(Ef (Ae g (Am (Ad o:UInt64) (Cq g (GI.toZ (4:UInt64)).toNat))) (Dl (32:UInt64) (GI.toZ h).toNat))then
j8 f k a b (Ae h 1) (Ae g (Am (Ad o:UInt64) (Cq g (GI.toZ (4:UInt64)).toNat)))
else
j8 f k a b h (Ae g (Am (Ad o:UInt64) (Cq g (GI.toZ (4:UInt64)).toNat)))
else
j8 f k a b h (Ae g (Am (Ad o:UInt64) (Cq g (GI.toZ (4:UInt64)).toNat)))
else
if(Cw h 24)then(Ke (Lo h 0)).bind λ_=>if(Ef (Ae g (Am (Ad o:UInt64) (Cq g (GI.toZ (4:UInt64)).toNat))) (Dl (32:UInt64) (GI.toZ h).toNat))then
j8 f k a b (Ae h 1) (Ae g (Am (Ad o:UInt64) (Cq g (GI.toZ (4:UInt64)).toNat)))
else
j8 f k a b h (Ae g (Am (Ad o:UInt64) (Cq g (GI.toZ (4:UInt64)).toNat)))
else
j8 f k a b h (Ae g (Am (Ad o:UInt64) (Cq g (GI.toZ (4:UInt64)).toNat)))
else
j8 f k a b h g
def dU:=dQ JE
def dX(j7:Int->Int->UInt64->UInt64->UInt32->Int->Lz)(p:Int)(u:LB)(v a h:Int)(b g:UInt64):Lz:=(IF u v p 1).bind λ(ae,aa)=>if(Bj aa 0)then
some (0,0,0,0,0,0,aa)
else
if(geq ae 0)then(IF u v (Ae p 1) a).bind λ(af,ab)=>if(Bj ab 0)then
some (0,0,0,0,0,0,ab)
else
j7 a h b g (Ad af:UInt32) (Ae (Ae p 1) a)
else(nO u v (Ae p 1) h).bind λ(y,ag,ac)=>if(Bj ac 0)then
some (0,0,0,0,0,0,ac)
else(Ke (Lo a 0)).bind λ_=>if(Cw (Ae y (Dl (1:UInt32) (GI.toZ a).toNat)) y)then
some (0,0,0,0,0,0,12)
else
j7 a h b g (Ae y (Dl (1:UInt32) (GI.toZ a).toNat)) ag
def Au1:=dX dU
def fR(j6:Int->LB->Jz3 (UInt64->UInt64->Lz))(u:LB)(v p a h:Int)(b g:UInt64):Lz:=(Ju u v).bind λah=>if(Bj ah 0)then
some (0,0,0,0,0,0,8)
else(VP a h b g).bind λai=>if(Bj ai 0)then
some (0,0,0,0,0,0,8)
else
j6 p u v a h b g
def MA:=fR Au1
abbrev Ck:=Option (LU×Int×Int)
def Bai:Ck:=some (P,z,0)
def Acr:=Bai
def Acq(If:Int->Int-> (List (Int×Int×UInt64×UInt64×Unit))->LU->Ck)(a f:Int)(g:LB)(b k v:Int)(w:UInt32)(h:Int)(ah:Bdo)(n:LU):Ck:=(Da n ([w]:LU)).bind λak=>If (Ae k v) (Ae h 1) ah ak
def Ac0 If:=Acq If
def DL(j22:Int->Int->UInt32->Int-> (List (Int×Int×UInt64×UInt64×Unit))->LU->Ck)(a f:Int)(g:LB)(b k h y:Int)(w:UInt32)(v:Int)(m:Bdo)(n:LU)(aa ab:Int)(ac ad:UInt64):Ck:=if(Bj y 0)then
some (([]:LU),0,y)
else(Ke (Bj a 0)).bind λ_=>(Aj m (Hl h a)).bind λ_=>(Mm m (Hl h a) (aa,ab,ac,ad,())).bind λah=>j22 k v w h ah n
def Ty If a f g b:=DL (Ac0 If a f g b) a f g b
def Ur(j21:Jz3 (UInt32->Int-> (List (Int×Int×UInt64×UInt64×Unit))->LU->Int->Int->UInt64->UInt64->Ck))(j24:Int->LU->Ck)(a f:Int)(g:LB)(b k h:Int)(m:Bdo)(n:LU):Ck:=if(Cw h (Br f a))then(lD g b k (Ee (Ae k 81) b)).bind λ(ag,ae,af)=>if(Bj af 0)then
some (([]:LU),0,af)
else(Ke (Bj a 0)).bind λ_=>(Aj m (Hl h a)).bind λ_=>(
(
(Aj m (Hl h a)).bind λo=>(
(MA ag ae 0 o.1 o.2.1 o.2.2.1 o.2.2.2.1).bind λ(w,v,aa,ab,ac,ad,y)=>j21 k h y w v m n aa ab ac ad)))
else
j24 k n
def Nx:Nat->Int->Int-> (List (Int×Int×UInt64×UInt64×Unit))->LU->Ck
|0,_,_,_,_=>none
|c+1,e,j,t,A=>Ur (Ty (Nx c) z d i l) Acr z d i l e j t A
def Ad4 a f g b:=Nx a f g b As
def Abu(j16:Int->Int->LB->Jz3 ( (List (Int×Int×UInt64×UInt64×Unit))->LU->Ck))(a f:Int)(g:LB)(b:Int)(p:Bdo):Ck:=j16 a f g b 0 0 p ([]:LU)
def Abr:=Abu Ad4
def Ac2(j15:Int->Int->LB->Int-> (List (Int×Int×UInt64×UInt64×Unit))->Ck)(d?:Int-> (List (Int×Int×UInt64×UInt64×Unit))->Ck)(a f:Int)(g:LB)(b u:Int)(p:Bdo):Ck:=if(Cw u 6)then(rV).bind λ(al,ae,af,am)=>(Aj p u).bind λ_=>(Mm p u (al,ae,af,am,())).bind λan=>d? (Ae u 1) an
else
j15 a f g b p
def DI:Nat->Int-> (List (Int×Int×UInt64×UInt64×Unit))->Ck
|0,_,_=>none
|c+1,e,j=>Ac2 Abr (DI c) z d i l e j
def ED a f g b:=DI a f g b As
def HM(j13:Int->Int->LB->Int->Int-> (List (Int×Int×UInt64×UInt64×Unit))->Ck)(a f:Int)(g:LB)(b:Int):Ck:=j13 a f g b 0 (List.replicate 6 ((0:Int),(0:Int),(0:UInt64),(0:UInt64),()))
def HN:=HM ED
def Zs:Bd3:=some (Yo (Ad (Cq N (GI.toZ (1:UInt64)).toNat):Int32) (sO (Ad (Ev N 1):Int32)))
def mE:Be2:=(UZ z j M).bind λ(c,d)=>if(Bj d 0)then
some (0,0,(List.replicate 16 (0:Int32)),(List.replicate 16 (0:Int32)),d)
else(TV z j M (Ae E c) E).bind λ(e,i,l)=>some ((Ae E c),e,i,l,0)
def Mk:Bep:=(Xx z E L Z l5).bind λc=>if(Bj c 0)then
some (0,0,0,0,(List.replicate 16 (0:Int32)),(List.replicate 16 (0:Int32)),c)
else(Xz z E).bind λ(d,e)=>(mE L Z l5 Bcu).bind λ(i,j,l,t,A)=>(
some ((Ae i d),z,(Ae i d),j,l,t,A))
abbrev Hp:=Option (LX×Int)
def Bb3:Hp:=some (j,0)
def Aso:=Bb3
abbrev Be9:=Int->LX->Hp
def At1(aF:Be9)(b a:Int)(h:LX):Hp:=aF (Ae a b) h
def eT aF:=At1 aF
def SJ(j20:Be9)(V6:Be9)(b a g:Int)(h:LX):Hp:=if(Lo g 0)then(Ke (decide (0<= (Ae g 1)/\ (Ae g 1)<((Ae a b)-a)))).bind λ_=>(Ke (decide (0<=g/\g<((Ae a b)-a)))).bind λ_=>(Aj h (a+(Ae g 1))).bind λn=>(Aj h (a+g)).bind λo=>(Ke (decide (0<=g/\g<((Ae a b)-a)))).bind λ_=>(Mm h (a+g) (Am n o)).bind λp=>V6 (Am g 1) p
else
j20 a h
def Zo(aF:Be9)(b a:Int):Nat->Int->LX->Hp
|0,_,_=>none
|q+1,g,h=>SJ (eT aF b) (Zo aF b a q) b a g h
def dO aF b a:=Zo aF b a As
def dE(j18:Int->Int->LX->Hp)(b a:Int)(u:LX):Hp:=j18 a (Am (Am ((Ae a b)-a) 1) 1) u
def fA aF b:=dE (dO aF b) b
def dK(j17:Be9)(j22:LX->Hp)(b a:Int)(f:LX):Hp:=if(Cw a (Ac f))then(VA (Ac f) a (Ae a b)).bind λ_=>if(Ef (Am ((Ae a b)-a) 1) 0)then(Ke (decide (0<= (Am ((Ae a b)-a) 1)/\ (Am ((Ae a b)-a) 1)<((Ae a b)-a)))).bind λ_=>Option.bind (Ke (decide (0<= (Am (Am ((Ae a b)-a) 1) 1)/\ (Am (Am ((Ae a b)-a) 1) 1)<((Ae a b)-a)))) λ_=>(Aj f (a+(Am ((Ae a b)-a) 1))).bind λv=>(Aj f (a+(Am (Am ((Ae a b)-a) 1) 1))).bind λw=>(Ke (decide (0<= (Am ((Ae a b)-a) 1)/\ (Am ((Ae a b)-a) 1)<((Ae a b)-a)))).bind λ_=>(Mm f (a+(Am ((Ae a b)-a) 1)) (Ae v (Ci w 2))).bind λy=>j17 a y
else
j17 a f
else
j22 f
def Uc:Nat->Int->LX->Hp
|0,_,_=>none
|c+1,d,e=>dK (fA (Uc c) z) Aso z d e
def Atc b:=Uc b As
def mH(j12:Int->Int->LX->Hp)(b:Int)(k:LX):Hp:=(bX b k).bind λm=>if(Bj m 0)then
some (([]:LX),m)
else(Dd k).bind λaa=>j12 b 0 aa
def tD:=mH Atc
abbrev Cu:=Option (LX×Int)
def Aah:Cu:=(tD z j).bind λ(c,e)=>if(Bj e 0)then
some (([]:LX),e)
else(Tn d c).bind λi=>if(Bj i 0)then
some (([]:LX),i)
else
some (c,0)
def Mr:=Aah
def Aaw(d?:Int-> (List (Int×Int32×(Int×LX×LX×Unit)×Unit))->LX->Cu)(a:Int)(f:LU)(b g:Int)(y:Int32)(v:Int)(h:Bdt)(k:LX)(aa:Int)(w:Int32)(ab:Int)(ac ad:LX):Cu:=if(Bj v 0)then
some (([]:LX),v)
else(Mm h (Hl g a) (aa,w,(ab,ac,ad,()),())).bind λai=>(Da k ([y]:LX)).bind λaj=>d? (Ae g 1) ai aj
def AX d?:=Aaw d?
def Mq(j16:Int->Int32->Int-> (List (Int×Int32×(Int×LX×LX×Unit)×Unit))->LX->Int->Int32->Int->LX->LX->Cu)(j18:Int->Int->LX->Cu)(f:LU)(a b g:Int)(h:Bdt)(k:LX):Cu:=if(Cw g (Ac f))then(Aj f g).bind λag=>(Ke (Bj a 0)).bind λ_=>(Aj h (Hl g a)).bind λ_=>(
(Aj h (Hl g a)).bind λm=>(
(Zs ag).bind λae=>(
(Mk m.1 m.2.1 m.2.2.1.1 m.2.2.1.2.1 m.2.2.1.2.2.1 ae).bind λ(y,aa,w,ab,ac,ad,v)=>j16 g y v h k aa w ab ac ad)))
else
j18 a b k
def Jy:Nat->Int-> (List (Int×Int32×(Int×LX×LX×Unit)×Unit))->LX->Cu
|0,_,_,_=>none
|z+1,c,d,e=>Mq (AX (Jy z) Bce P Bcf) Mr P Bce Bcf c d e
def Abn f a b:=Jy f a b As
def Ab5(j13:LU->Jz3 ( (List (Int×Int32×(Int×LX×LX×Unit)×Unit))->LX->Cu))(f:LU)(a b:Int)(n:Bdt):Cu:=j13 f a b 0 n ([]:LX)
def Abm:=Ab5 Abn
def Abh(j12:LU->Int->Int-> (List (Int×Int32×(Int×LX×LX×Unit)×Unit))->Cu)(YL:Int-> (List (Int×Int32×(Int×LX×LX×Unit)×Unit))->Cu)(f:LU)(a b:Int)(o:LX)(p:Int)(n:Bdt):Cu:=if(Cw p 6)then(xP b o).bind λ(ak,af,ae,al,am,w)=>(Aj n p).bind λ_=>(Mm n p (ak,af,(ae,al,am,()),())).bind λan=>YL (Ae p 1) an
else
j12 f a b n
def BH:Nat->Int-> (List (Int×Int32×(Int×LX×LX×Unit)×Unit))->Cu
|0,_,_=>none
|z+1,c,d=>Abh Abm (BH z) P Bce Bcf Bc1 c d
def BC f a b o:=BH f a b o As
def EA(j10:LU->Int->Int->LX->Int-> (List (Int×Int32×(Int×LX×LX×Unit)×Unit))->Cu)(a b:Int)(o:LX)(f:LU):Cu:=j10 f a b o 0 (List.replicate 6 ((0:Int),(0:Int32),((0:Int),(List.replicate 16 (0:Int32)),(List.replicate 16 (0:Int32)),()),()))
def Ux:=EA BC
def Rt:Be1:=(Nk z d).bind λc=>if(Bj c 0)then
some (([]:LX),c)
else
if(Cw J 1)then
some (([]:LX),2)
else(Ke (Bj z 0)).bind λ_=>if(Ef J (Ci 4000 z))then
some (([]:LX),2)
else(HQ r9).bind λ(e,i)=>if(Bj i 0)then
some (([]:LX),i)
else(za e).bind λ(l,t,A)=>if(Bj A 0)then
some (([]:LX),A)
else(HN z J l t).bind λ(B,C,D)=>if(Bj D 0)then
some (([]:LX),D)
else
if(Lo (Am t C) 8)then
some (([]:LX),12)
else(IF l t C (Am t C)).bind λ(E,F)=>if((Bj F 0)||(Bj E 0))then
some (([]:LX),12)
else(Ux z d j B).bind λ(G,I)=>some (G,I)
abbrev Eb:=Option (LB×Int)
def Bbs:Eb:=some (c,0)
def Akf:=Bbs
abbrev Bfm:=Int->LB->Eb
def Ak8(If:Bfm)(b:Int)(a:LX)(f:Int)(h:LB):Eb:=If (Ae f 1) h
def QJ If:=Ak8 If
def CN(j28:Bfm)(YN:Bfm)(b:Int)(a:LX)(k:Int32)(f m:Int)(h:LB):Eb:=if(Cw m (Ci b 8))then(Ke (Lo (Br 8 m) 0)).bind λ_=>(Da h ([(Ad (Cq k (GI.toZ (Br 8 m)).toNat):UInt8)]:LB)).bind λp=>YN (Ae m 1) p
else
j28 f h
def Kh(If:Bfm)(b:Int)(a:LX)(k:Int32)(f:Int):Nat->Int->LB->Eb
|0,_,_=>none
|q+1,m,h=>CN (QJ If b a) (Kh If b a k f q) b a k f m h
def RA If b a k f:=Kh If b a k f As
def PT(j26:Int32->Int->Int->LB->Eb)(b:Int)(a:LX)(f:Int)(g:LB)(k:Int32):Eb:=j26 k f 0 g
def Qc If b a:=PT (RA If b a) b a
def CW(j25:Int->LB->Int32->Eb)(j30:LB->Eb)(b:Int)(a:LX)(f:Int)(g:LB):Eb:=if(Cw f (Ac a))then(Aj a f).bind λn=>if(geq b 8)then
j25 f g (Ae n 128)
else
j25 f g n
else
j30 g
def Hb:Nat->Int->LB->Eb
|0,_,_=>none
|c+1,d,e=>CW (Qc (Hb c) z j) Akf z j d e
def Bbx b a:=Hb b a As
def VF(j16:Int->LX->Int->LB->Eb)(b:Int)(a:LX):Eb:=(Tn b a).bind λo=>if(Bj o 0)then
some (([]:LB),o)
else
j16 b a 0 ([]:LB)
def To:=VF Bbx
def Awl:Bdk:=some (-1:Int)
def Nh:=Awl
def Eu:Bdk:=if(Cw o7 (Ac Bcn))then(Aj Bcn o7).bind λz=>if(geq o9 z)then
some o7
else
Bcl (Ae o7 1)
else
Bci
def Ce:Nat->Int->Option Int
|0,_=>none
|c+1,d=>Eu Nh (Ce c) I z d
def Nl a b:=Ce a b As
def Ic(j4:Bew)(a:LI)(b:Int):Bdk:=j4 a b 0
def Jl:=Ic Nl
def Hx:Bdn:=(Jl I z).bind λc=>some (Lo c 0)
def Qx:Bdn:=(Hx ([(4:Int),(12:Int),(16:Int),(22:Int),(24:Int),(26:Int),(38:Int)]:LI) z).bind λc=>some c
def Aep:Bdk:=if(!B)then
some 8
else
some 0
def Bs:=Aep
def Aee:Bdk:=q9 ((true==true)&&((geq (0:Int) (0:Int))&&true))
def Wy:=Aee Bs
def Ad7:Bdk:=q9 ((Bcp==true)&&((geq Bcz 0)&&true))
def Er:=Ad7 Bs
abbrev Bd5:=Bool->Int->Option Int
def Aes(j13:Bd5)(g ax:LB)(ay az ab ba af b:Int)(n:Bool)(o:Int)(f:LI)(k:LB):Bdk:=(Og ay az ab ba af g).bind λdi=>(Ak di).bind λ(dj,ai)=>j13 dj ai
def Wm:=Aes Er
def Adr:Bdk:=q9 ((Bcp==true)&&((geq Bcz 0)&&true))
def Jm:=Adr Bs
def Adm(j25:Bd5)(g a:LB)(h p m u v b:Int)(n:Bool)(o:Int)(f:LI)(k:LB)(de:Int):Bdk:=(Ei h p m u v).bind λ(dm,be)=>if(Bj be 0)then(Ak be).bind λ(aj,bg)=>j25 aj bg
else(Bp a de (Ac a)).bind λdn=>(UX dn (Ac dm)).bind λ(dp,ab)=>if(geq ab 24)then
j25 true 0
else
if(Bj ab 0)then(Ak ab).bind λ(dq,af)=>j25 dq af
else(Bp a (Ae (Ae de (Br 4 (Ac dp))) 4) (Ac a)).bind λfc=>j25 false 0
def Jw:=Adm Jm
abbrev Bd7:=LB->LB->Jz6 (Bool->Int->LI->LB->Int->Option Int)
def Ado(j25:Bd5)(j24:Bd7)(bh:Bool)(bf:Int)(g a:LB)(h p m u v b:Int)(n:Bool)(o:Int)(f:LI)(k:LB):Bdk:=if(Bj bf 0)then(Ak bf).bind λ(dr,be)=>j25 dr be
else
if(!bh)then(Ak 26).bind λ(aj,bg)=>j25 aj bg
else
j24 g a h p m u v b n o f k 8
def Aej:=Ado Jm Jw
def Aen(j15:Bool->Int->LB->LB->Jz6 (Bool->Int->LI->LB->Option Int))(g a:LB)(h p m u v b:Int)(n:Bool)(o:Int)(f:LI)(k:LB):Bdk:=(Bp a 0 8).bind λds=>(IY ds g).bind λ(bh,bf)=>j15 bh bf g a h p m u v b n o f k
def Wk:=Aen Aej
def Adl:Bdk:=q9 ((Bcp==true)&&((geq Bcz 0)&&true))
def Fy:=Adl Bs
def Xd(j28:Bd5)(y ac:Int)(g a:LB)(h p m u v b:Int)(n:Bool)(o:Int)(ak:LX)(f:LI)(k:LB):Bdk:=if(Bj ac 0)then(Ak ac).bind λ(bi,bj)=>j28 bi bj
else(To m ak).bind λ(bk,bb)=>if(Bj bb 0)then(Ak bb).bind λ(bl,bm)=>j28 bl bm
else(Da k bk).bind λdv=>(
(Bp a y (Ac a)).bind λdw=>j28 false 0)
def JR:=Xd Fy
def HS(j27:Int->Int->LB->LB->Jz6 (Bool->Int->LX->LI->LB->Option Int))(y:Int)(g a:LB)(h p m u v b:Int)(n:Bool)(o:Int)(bc:LX)(ag f:LI)(k:LB):Bdk:=(Aj ag b).bind λ_=>(Bp a 0 y).bind λdx=>(Aj ag b).bind λdy=>(BR h p m u v).bind λ(dz,bd)=>(Rt dz bd bc dy dx).bind λ(ak,ac)=>j27 y ac g a h p m u v b n o ak f k
def GA:=HS JR
abbrev Bea:=LB->LB->Jz6 (Bool->Int->LI->LB->Option Int)
def Zn(j13:Bd5)(j12:Bea)(j25:Bd5)(j23:Bea)(j24:Bd7)(j28:Bd5)(j26:Int->LB->LB->Jz6 (Bool->Int->LX->LI->LI->LB->Option Int))(j22:Bfc)(j21:Bdk)(al am:LB)(an ao ap aq ar:Int)(au:LI)(ad:Int)(ae:LB)(aa:Bool)(w:Int):Bdk:=if(Ef (Ac al) 64)then
some 8
else
if((geq w 0)&&(!aa))then(Dz al am an ao ap aq ar au ad ae aa w).bind λ(g,a,h,p,m,u,v,f,b,k,n,o)=>(Za al am an ao ap aq ar au ad ae aa w).bind λbn=>if bn then
if(geq h 0)then(Lw a).bind λ(ah,av)=>if(geq av 24)then
j13 true 0
else
if(Bj av 0)then(Ak av).bind λ(bp,bq)=>j13 bp bq
else(Bp a ah (Ac a)).bind λbr=>(Qs br).bind λaj=>if aj then
j13 true 0
else(Bp a ah (Ac a)).bind λbs=>(Qi bs).bind λ(ay,az,ab,ba,af,aw)=>if(geq aw 24)then
j13 true 0
else
if(Bj aw 0)then(Ak aw).bind λ(bt,bu)=>j13 bt bu
else(
(Bp a (Ae ah 22) (Ac a)).bind λax=>(
j12 g ax ay az ab ba af b n o f k))
else
if(geq (Ac f) 0)then
if(geq h 2)then
if(Cw (Ac a) 8)then
j25 true 0
else
j23 g a h p m u v b n o f k
else
j24 g a h p m u v b n o f k 0
else
if(Cw b (Ac f))then(Aj f b).bind λ_=>(Aj f b).bind λy=>if(Cw (Ac a) y)then
j28 true 0
else(Vm g).bind λ(bc,ai)=>if(Bj ai 0)then(Ak ai).bind λ(bv,bw)=>j28 bv bw
else(Ei h p m u v).bind λ(ag,bx)=>if((Bj bx 0)||(Lo b (Ac ag)))then(Ak 8).bind λ(bz,da)=>j28 bz da
else
j26 y g a h p m u v b n o bc ag f k
else
if(Ef (Ac a) 4000)then(Ak 38).bind λ(db,bd)=>j22 ((db==true)&&((geq bd 0)&&true))
else
j21
else
j22 false
else
if((geq (Ac am) 0)&&(geq (Ac au) 0))then
if((((geq an 0)&&((geq ao 0)&&((geq ap 0)&&((geq aq 0)&&((geq ar 0)&&true)))))&&(geq ad 0))&&(tM (Ac ae) 12000))then
if(geq w 0)then
j22 true
else
if(!aa)then(Qx w).bind λdc=>j22 dc
else
j22 false
else
j22 false
else
if((false&&(geq ad 0))&&(tM (Ac ae) 12000))then
if(geq w 0)then
j22 true
else
if(!aa)then(Qx w).bind λdd=>j22 dd
else
j22 false
else
j22 false
def Ie:=Zn Er Wm Jm Wk Jw Fy GA Bs Wy
def Rf:Bds:=(Ie c D z d e A C F G i B l).bind λj=>if(Bj j 0)then
some (([]:LB),([]:LB),0,0,0,0,0,([]:LI),0,([]:LB),false,0,j)
else
if(Bj l 0)then(
(
(Dz c D z d e A C F G i B l).bind λ(t,E,I,J,L,M,N,O,P,R,T,U)=>(
some (t,E,I,J,L,M,N,O,P,R,T,U,l))))
else
if B then(Dz c D z d e A C F G i B l).bind λ(V,X,Y,Z,l5,l6,l7,l9,o7,o8,o9,p8)=>some (V,X,Y,Z,l5,l6,l7,l9,o7,o8,o9,p8,36)
else(Dz c D z d e A C F G i B l).bind λ(p9,q9,r9,w9,Bce,Bcf,Bcg,Bch,Bci,Bcj,Bck,Bcl)=>some (p9,q9,r9,w9,Bce,Bcf,Bcg,Bch,Bci,Bcj,Bck,Bcl,0)
def fL(b g:LB)(h k m n o:Int)(p:LI)(u:Int)(f:LB)(v:Bool)(w a:Int):Bds:=some (b,([]:LB),0,0,0,0,0,([]:LI),0,f,false,a,a)
abbrev Ar:=Option (LB×LB×Int×Int×Int×Int×Int×LI×Int×LB×Bool×Int×Int)
abbrev Bd1:=LB->Jz6 (LI->LB->Ar)
def KZ(SZ:Bd1)(a:LB)(b:Bool)(f:Int)(av:LB)(aw ax ay az ba bb:Int)(dy:Bool)(dk:Int)(bc:LI)(bd:LB):Ar:=if dy then(Dz a av aw ax ay az ba bc bb bd b f).bind λ(dz,fa,fb,ap,be,ae,fc,fd,fe,ff,fg,af)=>some (dz,fa,fb,ap,be,ae,fc,fd,fe,ff,fg,af,0)
else
if(Bj dk 0)then(fL a av aw ax ay az ba bc bb bd b f dk).bind λ(fh,fi,fj,fk,fl,fm,fn,fo,fp,fq,fs,ft,fu)=>some (fh,fi,fj,fk,fl,fm,fn,fo,fp,fq,fs,ft,fu)
else
SZ av aw ax ay az ba bb bc bd
def Cv SZ:=KZ SZ
abbrev Bdv:=LB->Jz6 (Bool->Int->LI->LB->Ar)
def Bbq(j71:Bdv)(a:LB)(b:Bool)(f:Int)(g:LB)(m o n p u h:Int)(k:LI)(v:LB):Ar:=j71 g m o n p u h true 0 k v
def Zp SZ a b f:=Bbq (Cv SZ a b f) a b f
def Bbg(j71:Bdv)(a:LB)(b:Bool)(f h:Int)(k:LI)(v:LB)(fv:Bool)(fw:Int)(fx:LB)(fy fz ga gb gc:Int):Ar:=j71 fx fy fz ga gb gc h fv fw k v
def Nv SZ a b f:=Bbg (Cv SZ a b f) a b f
abbrev Bei:=Int->LI->LB->Bool->Int->LB->Jz5 Ar
def Ai1(j62:Bei)(a:LB)(b:Bool)(f:Int)(ag:LB)(ah ai y aj aa h:Int)(k:LI)(v:LB):Ar:=(Og ah ai y aj aa a).bind λgd=>(Ak gd).bind λ(ge,ak)=>j62 h k v ge ak ag ah ai y aj aa
def Rz SZ a b f:=Ai1 (Nv SZ a b f) a b f
def Bbf(j71:Bdv)(a:LB)(b:Bool)(f m o n p u h:Int)(v:LB)(bf:Bool)(bg:Int)(bh:LB)(bi:LI):Ar:=j71 bh m o n p u h bf bg bi v
def Lj SZ a b f:=Bbf (Cv SZ a b f) a b f
abbrev Bd4:=Jz6 (LB->Bool->Int->LB->LI->Ar)
def Zw(j75:Bd4)(a:LB)(b:Bool)(f:Int)(g:LB)(m o n p u h:Int)(k:LI)(v:LB)(dl:Int):Ar:=(Ei m o n p u).bind λ(gf,ar)=>if(Bj ar 0)then(Ak ar).bind λ(al,bj)=>j75 m o n p u h v al bj g k
else(Bp g dl (Ac g)).bind λgg=>(UX gg (Ac gf)).bind λ(dm,y)=>if(geq y 24)then
j75 m o n p u h v true 0 g k
else
if(Bj y 0)then(Ak y).bind λ(gh,aa)=>j75 m o n p u h v gh aa g k
else(Bp g (Ae (Ae dl (Br 4 (Ac dm))) 4) (Ac g)).bind λgi=>j75 m o n p u h v false 0 gi dm
def Nw SZ a b f:=Zw (Lj SZ a b f) a b f
abbrev Ben:=LB->Jz6 (LI->LB->Int->Ar)
def MO(j75:Bd4)(j74:Ben)(a:LB)(b:Bool)(f:Int)(bk:Bool)(au:Int)(g:LB)(m o n p u h:Int)(k:LI)(v:LB):Ar:=if(Bj au 0)then(Ak au).bind λ(gj,ar)=>j75 m o n p u h v gj ar g k
else
if(!bk)then(Ak 26).bind λ(al,bj)=>j75 m o n p u h v al bj g k
else
j74 g m o n p u h k v 8
def Ah4 SZ a b f:=MO (Lj SZ a b f) (Nw SZ a b f) a b f
def LK(j64:Bool->Int->LB->Jz6 (LI->LB->Ar))(a:LB)(b:Bool)(f:Int)(g:LB)(m o n p u h:Int)(k:LI)(v:LB):Ar:=(Bp g 0 8).bind λgk=>(IY gk a).bind λ(bk,au)=>j64 bk au g m o n p u h k v
def Yx SZ a b f:=LK (Ah4 SZ a b f) a b f
def Bbb(j71:Bdv)(a:LB)(b:Bool)(f m o n p u:Int)(k:LI)(bl:Bool)(bm:Int)(bn:LB)(bp:Int)(bq:LB):Ar:=j71 bn m o n p u bp bl bm k bq
def Sr SZ a b f:=Bbb (Cv SZ a b f) a b f
abbrev Bej:=Jz5 (LI->Bool->Int->LB->Int->LB->Ar)
def Zj(j78:Bej)(a:LB)(b:Bool)(f w ab:Int)(g:LB)(m o n p u h:Int)(am:LX)(k:LI)(v:LB):Ar:=if(Bj ab 0)then(Ak ab).bind λ(br,bs)=>j78 m o n p u k br bs g h v
else(To n am).bind λ(bt,af)=>if(Bj af 0)then(Ak af).bind λ(bu,bv)=>j78 m o n p u k bu bv g h v
else(Da v bt).bind λbw=>(
(Bp g w (Ac g)).bind λbx=>j78 m o n p u k false 0 bx (Ae h 1) bw)
def ME SZ a b f:=Zj (Sr SZ a b f) a b f
def LJ(j77:Int->Int->LB->Jz6 (LX->LI->LB->Ar))(a:LB)(b:Bool)(f w:Int)(g:LB)(m o n p u h:Int)(aq:LX)(ac k:LI)(v:LB):Ar:=(Aj ac h).bind λ_=>(Bp g 0 w).bind λgl=>(Aj ac h).bind λgm=>(BR m o n p u).bind λ(be,ae)=>(Rt be ae aq gm gl).bind λ(am,ab)=>j77 w ab g m o n p u h am k v
def Zv SZ a b f:=LJ (ME SZ a b f) a b f
def Io(j62:Bei)(j61:Bd1)(j75:Bd4)(j73:Bd1)(j74:Ben)(j78:Bej)(j76:Int->LB->Jz6 (LX->LI->LI->LB->Ar))(j71:Bdv)(j70:Bd1)(a:LB)(b:Bool)(f:Int)(g:LB)(m o n p u h:Int)(k:LI)(v:LB):Ar:=if(geq m 0)then(Lw g).bind λ(ad,an)=>if(geq an 24)then
j62 h k v true 0 g m o n p u
else
if(Bj an 0)then(Ak an).bind λ(bz,da)=>j62 h k v bz da g m o n p u
else(Bp g ad (Ac g)).bind λdb=>(Qs db).bind λal=>if al then
j62 h k v true 0 g m o n p u
else(Bp g ad (Ac g)).bind λdc=>(Qi dc).bind λ(ah,ai,y,aj,aa,ao)=>if(geq ao 24)then
j62 h k v true 0 g m o n p u
else
if(Bj ao 0)then(Ak ao).bind λ(dd,de)=>j62 h k v dd de g m o n p u
else(
(Bp g (Ae ad 22) (Ac g)).bind λag=>(
j61 ag ah ai y aj aa h k v))
else
if(geq (Ac k) 0)then
if(geq m 2)then
if(Cw (Ac g) 8)then
j75 m o n p u h v true 0 g k
else
j73 g m o n p u h k v
else
j74 g m o n p u h k v 0
else
if(Cw h (Ac k))then(Aj k h).bind λ_=>(Aj k h).bind λw=>if(Cw (Ac g) w)then
j78 m o n p u k true 0 g h v
else(Vm a).bind λ(aq,ak)=>if(Bj ak 0)then(Ak ak).bind λ(df,dg)=>j78 m o n p u k df dg g h v
else(Ei m o n p u).bind λ(ac,dh)=>if((Bj dh 0)||(Lo h (Ac ac)))then(Ak 8).bind λ(di,ap)=>j78 m o n p u k di ap g h v
else
j76 w g m o n p u h aq ac k v
else
if(Ef (Ac g) 4000)then(Ak 38).bind λ(dj,ae)=>j71 g m o n p u h dj ae k v
else
j70 g m o n p u h k v
def Bd:Nat->LB->Jz6 (LI->LB->Ar)
|0,_,_,_,_,_,_,_,_,_=>none
|z+1,d,e,i,j,t,A,C,D,E=>Io (Nv (Bd z) c B l) (Rz (Bd z) c B l) (Lj (Bd z) c B l) (Yx (Bd z) c B l) (Nw (Bd z) c B l) (Sr (Bd z) c B l) (Zv (Bd z) c B l) (Cv (Bd z) c B l) (Zp (Bd z) c B l) c B l d e i j t A C D E
def Bbc a b f:=Bd a b f As
def Va(j37:LB->Bool->Int->LB->Jz6 (LI->LB->Ar))(gn go:LB)(gp gq gr gs gt:Int)(gu:LI)(gv:Int)(gw:LB)(gx:Bool)(gy:Int)(gz:LB):Ar:=(Rf gn go gp gq gr gs gt gu gv gw gx gy).bind λ(a,dn,dp,dq,dr,ds,dt,du,dv,dw,b,f,dx)=>if(Bj dx 0)then
some (a,dn,dp,dq,dr,ds,dt,du,dv,dw,b,f,dx)
else(Da dn gz).bind λha=>j37 a b f ha dp dq dr ds dt dv du dw
def Dp:=Va Bbc
def Vj:Option (LB×LB×Int×Int×Int×Int×Int×LI×Int×LB×Bool×Int×LB×Int):=(Ie c D z d e A C F G i B l).bind λj=>if(Bj j 0)then
some (([]:LB),([]:LB),0,0,0,0,0,([]:LI),0,([]:LB),false,0,([]:LB),j)
else
if(Cw U 0)then
some (([]:LB),([]:LB),0,0,0,0,0,([]:LI),0,([]:LB),false,0,([]:LB),2)
else(Dz c D z d e A C F G i B l).bind λ(t,E,I,J,L,M,N,O,P,R,T,V)=>(Bp R 0 (Ee U (Ac R))).bind λX=>(Iu X).bind λY=>(Bp R (Ee U (Ac R)) (Ac R)).bind λZ=>some (t,E,I,J,L,M,N,O,P,Z,T,V,Y,0)
abbrev rS:=Option (Int×Int)
def Aw8:rS:=(Bp c (Am (Ac c) 32) (Ac c)).bind λz=>(TE z 0).bind λ(d,e,i)=>if i then
if(Cw (Am (Ac c) 32) d)then
some (0,24)
else
some ((Ae d 32),0)
else(Bp c (Am (Ac c) 32) (Ac c)).bind λj=>(TE j 2147483648).bind λ(l,t,A)=>if(!A)then
some (0,12)
else
if(Cw (Ac c) (Ae l 64))then
some (0,24)
else(Bp c (Am (Ac c) (Ae l 64)) (Ae (Am (Ac c) (Ae l 64)) 32)).bind λB=>(nB l t 2684354560).bind λC=>(Ki B C).bind λD=>if(!D)then
some (0,12)
else
some ((Ae l 64),0)
def Aui:=Aw8
def Avp(j2:LB->rS)(a:LB):rS:=if(Cw (Am (Ac a) 32) 0)then
some (0,6)
else(Bp a (Am (Ac a) 32) (Ac a)).bind λv=>(Mi v ([(65:UInt8),(80:UInt8),(69:UInt8),(84:UInt8),(65:UInt8),(71:UInt8),(69:UInt8),(88:UInt8)]:LB)).bind λw=>if(!w)then
some (0,6)
else
j2 a
def sW:=Avp Aui
abbrev Gn:=Option (Int×Int)
def Bbh:Gn:=some (z,0)
def Aic:=Bbh
abbrev Bft:=Int->LB->Gn
def Aih(Z':Bft)(a:Int)(g:LB):Gn:=Z' (Ae a 1) g
def Aif Z':=Aih Z'
def Ai7(j12:Bft)(a f:Int)(b:LB):Gn:=if(geq f 0)then
some (0,38)
else(Bp b 0 (Am (Ac b) f)).bind λg=>j12 a g
def MC Z':=Ai7 (Aif Z')
def QW(j11:Int->Int->LB->Gn)(j14:Int->Gn)(a:Int)(b:LB):Gn:=if(Ef (Ac b) 0)then(sW b).bind λ(f,k)=>j11 a f b
else
j14 a
def Uv:Nat->Int->LB->Gn
|0,_,_=>none
|q+1,a,b=>QW (MC (Uv q)) Aic a b
def Bbw:=Uv As
def QR(j8:Bft)(h:LB):Gn:=if(Ef (Ac h) 4000)then
some (0,38)
else
j8 0 h
def SL:=QR Bbw
def Xt(p a:LB)(g u v w y:Int)(b:LI)(h:Int)(aa:LB)(ab:Bool)(ac:Int):Bdk:=if(geq g 0)then(Lw a).bind λ(k,f)=>if(Bj f 0)then
some f
else(Bp a k (Ac a)).bind λm=>(Qi m).bind λ(ad,ae,af,ag,ah,n)=>some n
else
if((Cw h (Ac b))||(geq (Ac b) 0))then
some 24
else(SL a).bind λ(ai,o)=>some o
def Dx:Bds:=(Rf c D z d e A C F G i B l).bind λ(j,t,E,I,J,L,M,N,O,P,R,T,U)=>if(Bj U 0)then
some (j,t,E,I,J,L,M,N,O,P,R,T,U)
else(Xt j t E I J L M N O P R T).bind λV=>if(Bj V 0)then(fL j t E I J L M N O P R T V).bind λ(X,Y,Z,l5,l6,l7,l9,o7,o8,o9,p8,p9,q9)=>some (X,Y,Z,l5,l6,l7,l9,o7,o8,o9,p8,p9,q9)
else
some (j,([]:LB),0,0,0,0,0,([]:LI),0,P,true,0,0)
abbrev Bu:=Option (LB×LB×Int×Int×Int×Int×Int×LI×Int×LB×Bool×Int×(List (Int×LB×Unit))×Int)
def Aef(f:LB)(g h k m n o:Int)(p:LB)(u:Bool)(v:Int)(a:LB)(aa:Bdl)(w:LB)(y:LI):Bu:=some (f,w,g,h,k,m,n,y,o,p,u,v,aa,0)
def Adn:=Aef
def Ael(j32:LB->Jz6 (LB->Bool->Int->LB-> (List (Int×LB×Unit))->LB->LI->Bu))(aa:Bdl)(f:LB)(g h k m n o:Int)(p:LB)(u:Bool)(v:Int)(a w:LB)(y:LI):Bu:=j32 f g h k m n o p u v a aa w y
def FZ:=Ael Adn
abbrev Bdp:=Int->LB->Jz6 (LB->Bool->Int->LB-> (List (Int×LB×Unit))->LB->LI->Bu)
def Xa(aG:Bdp)(b:Bdm)(ab:Int)(dm:LB)(dn dp dq dr ds dt:Int)(du:LB)(dv:Bool)(dw:Int)(dx:LB)(dy:Bdl)(dz:LB)(fa:LI):Bu:=aG (Ae ab 1) dm dn dp dq dr ds dt du dv dw dx dy dz fa
def Gf aG:=Xa aG
def Wx(j29:Bdp)(b:Bdm)(ac:UInt8×Int×Unit)(a:LB)(ad ab:Int)(f w:LB)(g h k m n:Int)(y:LI)(o:Int)(p:LB)(u:Bool)(v:Int)(ae:LB)(af ag ah ai aj ak:Int)(al:LB)(am:Bool)(an:Int)(aa:Bdl)(ao:LB)(ap:LI):Bu:=(
(Bp a (Ee ac.2.1 (Ac a)) (Ac a)).bind λbv=>(Da aa ([(ad,([]:LB),())]:Bdl)).bind λar=>j29 ab ae af ag ah ai aj ak al am an bv ar ao ap)
def JQ aG b:=Wx (Gf aG b) b
def Agc(j29:Bdp)(b:Bdm)(au ab:Int)(f w:LB)(g h k m n:Int)(y:LI)(o:Int)(p:LB)(u:Bool)(v:Int)(a av:LB)(aw ax ay az ba bb:Int)(bc:LB)(bd:Bool)(be:Int)(bf:LB)(aa:Bdl)(ar:LB)(bg:LI):Bu:=(Da aa ([(au,bf,())]:Bdl)).bind λfb=>j29 ab av aw ax ay az ba bb bc bd be a fb ar bg
def FV aG b:=Agc (Gf aG b) b
def Aeo(j29:Bdp)(b:Bdm)(bh ab:Int)(f w:LB)(g h k m n:Int)(y:LI)(o:Int)(p:LB)(u:Bool)(v:Int)(a bi:LB)(bj bk bl bm bn bp:Int)(bq:LB)(br:Bool)(bs:Int)(aa:Bdl)(bt:LB)(bu:LI):Bu:=(Da aa ([(bh,([]:LB),())]:Bdl)).bind λfc=>j29 ab bi bj bk bl bm bn bp bq br bs a fc bt bu
def GW aG b:=Aeo (Gf aG b) b
def Ql(j26:(UInt8×Int×Unit)->LB->Int->Int->LB->LB->Jz5 (LI->Int->LB->Bool->Int->LB->Int->Int->Int->Int->Int->Int->LB->Bool->Int-> (List (Int×LB×Unit))->LB->LI->Bu))(j33:Int->Int->LB->LB->Jz5 (LI->Int->LB->Bool->Int->LB->LB->Int->Int->Int->Int->Int->Int->LB->Bool->Int->LB-> (List (Int×LB×Unit))->LB->LI->Bu))(j34:Int->Int->LB->LB->Jz5 (LI->Int->LB->Bool->Int->LB->LB->Int->Int->Int->Int->Int->Int->LB->Bool->Int-> (List (Int×LB×Unit))->LB->LI->Bu))(j29:Bdp)(j31:(List (Int×LB×Unit))->LB->Jz6 (LB->Bool->Int->LB->LB->LI->Bu))(b:Bdm)(ab:Int)(f:LB)(g h k m n o:Int)(p:LB)(u:Bool)(v:Int)(a:LB)(aa:Bdl)(w:LB)(y:LI):Bu:=if(Cw ab (Ac b))then(Aj b ab).bind λac=>if(geq ac.1 1)then(
(
(
(Bp a 0 (Ee ac.2.1 (Ac a))).bind λaq=>(
(Dp f w g h k m n y o p u v aq).bind λ(ae,ao,af,ag,ah,ai,aj,ap,ak,al,am,an,ad)=>j26 ac a ad ab f w g h k m n y o p u v ae af ag ah ai aj ak al am an aa ao ap))))
else
if(geq ac.1 2)then(
(
(
(Vj f w g h k m n y o p u v ac.2.1).bind λ(av,ar,aw,ax,ay,az,ba,bg,bb,bc,bd,be,bf,au)=>j33 au ab f w g h k m n y o p u v a av aw ax ay az ba bb bc bd be bf aa ar bg)))
else
if(geq ac.1 3)then(
(
(
(Dx f w g h k m n y o p u v).bind λ(bi,bt,bj,bk,bl,bm,bn,bu,bp,bq,br,bs,bh)=>j34 bh ab f w g h k m n y o p u v a bi bj bk bl bm bn bp bq br bs aa bt bu)))
else
j29 ab f g h k m n o p u v a aa w y
else
j31 aa f g h k m n o p u v a w y
def Fx:Nat->Int->LB->Jz6 (LB->Bool->Int->LB-> (List (Int×LB×Unit))->LB->LI->Bu)
|0,_,_,_,_,_,_,_,_,_,_,_,_,_,_,_=>none
|z+1,c,d,e,i,j,l,t,A,B,C,D,E,F,G,I=>Ql (JQ (Fx z) l6) (FV (Fx z) l6) (GW (Fx z) l6) (Gf (Fx z) l6) FZ l6 c d e i j l t A B C D E F G I
def Bb1 b:=Fx b As
def LO(j17:(List (UInt8×Int×Unit))->Int->LB->Jz6 (LB->Bool->Int->LB-> (List (Int×LB×Unit))->LB->LI->Bu))(fd fe:LB)(b:Bdm):Bu:=(Zm b).bind λbx=>if(Bj bx 0)then
some (([]:LB),([]:LB),0,0,0,0,0,([]:LI),0,([]:LB),false,0,([]:Bdl),bx)
else(OS fd).bind λ(ff,fg,fh,fi,fj,fk,fl,fm,fn,fo,fp,fq,bz)=>if(Bj bz 0)then
some (([]:LB),([]:LB),0,0,0,0,0,([]:LI),0,([]:LB),false,0,([]:Bdl),bz)
else
j17 b 0 ff fh fi fj fk fl fn fo fp fq fe ([]:Bdl) fg fm
def NA:=LO Bb1
def Aev(a:Bool)(af:LB)(ag ah ai aj ak al:Int)(w:LB)(y:Bool)(aa:Int)(k:Bdl)(am:LB)(an ao ap aq ar au:Int)(ab:LB)(ac:Bool)(ad av aw ax:Int)(ay m:LB)(n:Bool)(o:Int)(g:Bdl)(az ba bb:Int)(bc:LB)(p:Bool)(u:Int)(bd:LB)(be:LI)(bf:LB)(bg:LI)(bh:LB)(bi:LX)(bj:Bdr)(bk:LB)(bl:LX)(bm:Bdr)(v:LB):Bdn:=if(((a&&(geq (Ac w) 0))&&(y==ac))&&(geq aa ad))then(Ay k).bind λbn=>if((((bn==ab)&&(geq (Ac m) 0))&&(n==p))&&(geq o u))then(Ay g).bind λbp=>some (bp==v)
else
some false
else
if(((false&&(geq (Ac m) 0))&&(n==p))&&(geq o u))then(Ay g).bind λbq=>some (bq==v)
else
some false
def Aeu:=Aev
def Adu(j2:Bool->LB->Jz6 (LB->Bool->Int-> (List (Int×LB×Unit))->LB->Int->Int->Int->Int->Int->Int->LB->Bool->Int->Int->Int->Int->LB->LB->Bool->Int-> (List (Int×LB×Unit))->Int->Int->Int->LB->Bool->Int->LB->LI->LB->LI->LB->LX-> (List LB)->LB->LX-> (List LB)->LB->Option Bool))(h b:LB)(br bs:Int):Bdn:=(Um).bind λa=>if(((Ef (Ac h) 64)||(Ef (Ac b) 600))||(!a))then
some a
else(Xu (Ac b) br bs).bind λ(f,ae)=>if(Bj ae 0)then
if a then
some ((geq ae 2)||(geq ae 4))
else
some false
else(NA h b f).bind λ(af,bd,ag,ah,ai,aj,ak,be,al,w,y,aa,k,bt)=>(OS h).bind λ(bu,bv,bw,bx,bz,da,db,dc,dd,de,df,dg,dh)=>(Dp bu bv bw bx bz da db dc dd de df dg b).bind λ(di,dj,dk,dl,dm,dn,dp,dq,dr,ds,dt,du,fx)=>(Dx di dj dk dl dm dn dp dq dr ds dt du).bind λ(am,bf,an,ao,ap,aq,ar,bg,au,ab,ac,ad,fy)=>(Qg).bind λ(dv,dw)=>(Vc dv dw 8000 h b f).bind λ(av,aw,ax,ay,bh,bi,bj,m,n,o,g,dx)=>(Qg).bind λ(dy,dz)=>(FF dy dz 8000 h).bind λ(fa,fb,fc,fd,fe,ff,fg,fh,fi,fj,fk)=>(Ey fa fb fc fd fe ff fg fh fi fj b).bind λ(fl,fm,fn,fo,fp,fq,fs,ft,fu,fv,fz)=>(Gp fl fm fn fo fp fq fs ft fu fv).bind λ(az,ba,bb,bc,bk,bl,bm,v,p,u,ga)=>if(((((((Bj bt 0)||(Bj dh 0))||(Bj dx 0))||(Bj fk 0))||(Bj (Ac k) (Ac f)))||(Bj (Ac g) (Ac f)))||(Ef (Ac f) 200))then
some false
else(Zm f).bind λfw=>if(Bj fw 0)then
some false
else
j2 a af ag ah ai aj ak al w y aa k am an ao ap aq ar au ab ac ad av aw ax ay m n o g az ba bb bc p u bd be bf bg bh bi bj bk bl bm v
def Mb:=Adu Aeu
def Jz:Bdn:=if((((geq z 1)||(geq z 2))&&(Lo d 1))&&(tM d 6))then
some ((((((geq e 8)||(geq e 16))||(geq e 24))&&(Lo A 1))&&(tM A 1048576))&&(Lo C 1))
else
some (((false&&(Lo A 1))&&(tM A 1048576))&&(Lo C 1))
def Wv:Bdk:=some (tA 1 (Ci (Br 256 z) 245))
def Pc:Bd0:=some I
def Pm:=Pc
def Kx(j6:Bfk)(Rs:Ber)(a f:Int)(b:LI):Bd0:=if(Ef f 0)then(Wv a).bind λg=>(Da b ([(Ee f g)]:LI)).bind λh=>(Wv a).bind λk=>Rs (Am f k) h
else
j6 b
def Fs:Nat->Int->LI->Option (LI)
|0,_,_=>none
|c+1,d,e=>Kx Pm (Fs c) z d e
def JX a:=Fs a As
def KF(j4:Int->Int->LI->Option (LI))(a m:Int):Bd0:=j4 a m ([]:LI)
def Om:=KF JX
def Xe(h a k f b:Int):Bdn:=(
(Ke (Bj a 0)).bind λ_=>(
if(Ef b (Ci 4000 a))then
some true
else(Om f b).bind λg=>some (Ef (Ac g) 1000)))
def Ll:Bdk:=(Jz z d e A C).bind λc=>if(!c)then
some 8
else(Xe z d e A C).bind λi=>if i then
some 8
else
some 0
def Ek(a f g h k:Int)(b:LB):Bdk:=if((b==([]:LB)) !=(geq a 1))then
some 26
else
some 0
def IZ:Bdk:=if(Ef z 100000)then
some 8
else
some 0
def IG:=IZ
def KH:Bdk:=(Aj Bcn o7).bind λz=>Bcm (Ae o9 z) (Ae o7 1)
def KL S9:=KH S9
def Wc:Bdk:=if(Cw Bc0 (Ac Bc7))then(Aj Bc7 Bc0).bind λz=>if(Cw z 5)then
some 8
else(Aj Bc7 Bc0).bind λc=>if(Ef c 100000)then
some 8
else
Bcm Bcy Bc0
else
Bdh Bcy
def Lc:Nat->Int->Int->Option Int
|0,_,_=>none
|z+1,c,d=>Wc (KL (Lc z) I) IG I c d
def KT a:=Lc a As
def Vp(j6:Bew)(a:LI):Bdk:=if((Cw (Ac a) 1)||(Ef (Ac a) 1000))then
some 8
else
j6 a 0 0
def Ig:=Vp KT
def Gu(g h k a b:Int):Bd0:=(Om a b).bind λf=>some f
def Ik(f a b g h:Int):Bdy:=some (a,b)
def Ab1:Bdk:=some (Ci (Br z d) 8)
def OQ:Bdk:=(Ik d e A C G).bind λ(c,i)=>(Ab1 c i).bind λj=>some (Br z j)
def NJ:=OQ
def Xs(j6:Jz6 (Option Int))(Rs:Be3)(n a b f g h:Int)(k:LI)(m o:Int):Bdk:=if(Cw o n)then(Aj k o).bind λ_=>(Aj k o).bind λw=>Rs (Ae m w) (Ae o 1)
else
j6 m a b f g h
def Lt:Nat->Int->Int->Option Int
|0,_,_=>none
|c+1,i,j=>Xs NJ (Lt c) z d e A C G Bc5 i j
def Azj n a b f g h k:=Lt n a b f g h k As
def OD(j4:Jz6 (LI->Int->Int->Option Int))(a b f g h n:Int):Bdk:=(Gu a b f g h).bind λk=>j4 n a b f g h k 0 0
def Xb:=OD Azj
abbrev Gm:=Option (Int×Int)
def Az2:Gm:=some (z,0)
def Azg:=Az2
def Wb(j6:Int->Gm)(Rs:Int->Int->Gm)(a:LB)(b f:Int):Gm:=if(Cw f 4)then(Aj a f).bind λg=>if(Lo g 128)then
some (0,12)
else(Aj a f).bind λh=>Rs (Ae (Br 128 b) (Ad h:Int)) (Ae f 1)
else
j6 b
def Lb:Nat->Int->Int->Gm
|0,_,_=>none
|z+1,d,e=>Wb Azg (Lb z) c d e
def KB a:=Lb a As
def KQ(j4:LB->Int->Int->Gm)(a:LB):Gm:=if(Bj (Ac a) 4)then
some (0,2)
else
j4 a 0 0
def DW:=KQ KB
abbrev Hs:=Option (Int×Int)
def OO:Hs:=if(Ef z 4000)then
some (0,4)
else
if(Cw (Ac c) z)then
some (0,24)
else(Aj c 5).bind λd=>if(geq d 16)then(Bp c (Am z 10) z).bind λe=>(Bp c 3 10).bind λi=>(Da ([51,68,73]:LB) i).bind λj=>if(e !=j)then
some (0,12)
else
some (z,0)
else
some (z,0)
def Xk:=OO
def NQ(j6:LB->Int->Hs)(a:LB)(b:Int):Hs:=(Aj a 5).bind λo=>if(geq o 16)then
j6 a (Ae (Ae 10 b) 10)
else
j6 a (Ae 10 b)
def Xp:=NQ Xk
def NZ(j5:LB->Int->Hs)(a:LB):Hs:=if(Cw (Ac a) 10)then
some (0,24)
else(Bp a 6 10).bind λp=>(DW p).bind λ(b,f)=>(Aj a 3).bind λu=>if(Cw u 2)then
if true then
if true then
if(true||(Bj f 0))then
some (0,12)
else
j5 a b
else(Aj a 5).bind λv=>if(Bj v 0)then(Aj a 5).bind λw=>if(Bj w 16)then
if(true||(Bj f 0))then
some (0,12)
else
j5 a b
else(Aj a 3).bind λy=>if((Bj y 4)||(Bj f 0))then
some (0,12)
else
j5 a b
else
if(false||(Bj f 0))then
some (0,12)
else
j5 a b
else(Aj a 4).bind λaa=>if(Bj aa 0)then
if(true||(Bj f 0))then
some (0,12)
else
j5 a b
else(Aj a 5).bind λab=>if(Bj ab 0)then(Aj a 5).bind λac=>if(Bj ac 16)then
if(true||(Bj f 0))then
some (0,12)
else
j5 a b
else(Aj a 3).bind λad=>if((Bj ad 4)||(Bj f 0))then
some (0,12)
else
j5 a b
else
if(false||(Bj f 0))then
some (0,12)
else
j5 a b
else(Aj a 3).bind λae=>if(Ef ae 4)then
if true then
if(true||(Bj f 0))then
some (0,12)
else
j5 a b
else(Aj a 5).bind λaf=>if(Bj af 0)then(Aj a 5).bind λag=>if(Bj ag 16)then
if(true||(Bj f 0))then
some (0,12)
else
j5 a b
else(Aj a 3).bind λah=>if((Bj ah 4)||(Bj f 0))then
some (0,12)
else
j5 a b
else
if(false||(Bj f 0))then
some (0,12)
else
j5 a b
else(Aj a 4).bind λai=>if(Bj ai 0)then
if(true||(Bj f 0))then
some (0,12)
else
j5 a b
else(Aj a 5).bind λaj=>if(Bj aj 0)then(Aj a 5).bind λak=>if(Bj ak 16)then
if(true||(Bj f 0))then
some (0,12)
else
j5 a b
else(Aj a 3).bind λal=>if((Bj al 4)||(Bj f 0))then
some (0,12)
else
j5 a b
else
if(false||(Bj f 0))then
some (0,12)
else
j5 a b
def PN:=NZ Xp
def NU(j4:LB->Hs)(a:LB):Hs:=if(Cw (Ac a) 3)then
some (0,6)
else(Bp a 0 3).bind λam=>if(am !=([73,68,51]:LB))then
some (0,6)
else
j4 a
def GV:=NU PN
def Abx:Bdw:=some t
def Aco:=Abx
def EF:Bdw:=if(Lo Y 0)then(Aj Bct Y).bind λz=>Bch (Ae (Br 256 l9) (Ad z:UInt64)) (Am Y 1)
else
Bcg l9
def On:Nat->UInt64->Int->Option UInt64
|0,_,_=>none
|z+1,d,e=>EF Aco (On z) c d e
def Ac8 a:=On a As
abbrev Be6:=LB->UInt64->Int->Option UInt64
def Ac7(j4:Be6)(a:LB):Bdw:=j4 a 0 (Am (Ac a) 1)
def Ed:=Ac7 Ac8
def Wj:Bfi:=(Bp c 12 16).bind λz=>(Ed z).bind λd=>(Bp c 16 20).bind λe=>(Ed e).bind λi=>if(((Cw d 32)||(Ef d 3032))||(Ef i 1000))then
some (0,0,false)
else
some ((Am (Ad d:Int) 32),(Ad i:Int),true)
def EX:Bdu:=some c
def EK:=EX
def Te(j6:Be4)(Rs:UInt64->Int->LB->Option (LB))(b:Int)(f:UInt64)(g:Int)(a:LB):Bdu:=if(Cw g b)then(Da a ([(Ad (FP f 256):UInt8)]:LB)).bind λh=>Rs (Ci f 256) (Ae g 1) h
else
j6 a
def Iq:Nat->UInt64->Int->LB->Option (LB)
|0,_,_,_=>none
|c+1,d,e,i=>Te EK (Iq c) z d e i
def EW b:=Iq b As
def FD(j4:Int->UInt64->Int->LB->Option (LB))(k:UInt64)(b:Int):Bdu:=j4 b k 0 ([]:LB)
def Ew:=FD EW
def So:Bdu:=(Ew 2000 4).bind λc=>(Da ([(65:UInt8),(80:UInt8),(69:UInt8),(84:UInt8),(65:UInt8),(71:UInt8),(69:UInt8),(88:UInt8)]:LB) c).bind λe=>(Ew (Ad (Ae z 32):UInt64) 4).bind λi=>(Da e i).bind λj=>(Ew (Ad d:UInt64) 4).bind λl=>(Da j l).bind λA=>(Ew t 4).bind λB=>(Da A B).bind λC=>(mkI (8:Int) (0:UInt8)).bind λD=>(Da C D).bind λE=>some E
def Wr:Bdu:=(So z d 2684354560).bind λc=>some c
def Mf:Bdu:=if B then(So z d 2147483648).bind λc=>some c
else(So z d 0).bind λe=>some e
abbrev Lu:=Option (Int×Int)
def KK:Lu:=if(Cw (Ac c) (Ae 64 z))then
some (0,24)
else(Bp c (Am (Ae 64 z) 32) (Ae 64 z)).bind λe=>(Mf z d true).bind λi=>if(e !=i)then
some (0,12)
else
some ((Ae 64 z),0)
def KW:=KK
def KC(j4:LB->Int->Int->Lu)(a:LB):Lu:=if(Cw (Ac a) 32)then
some (0,24)
else(Bp a 0 32).bind λk=>(Wj k).bind λ(b,f,m)=>if(!m)then
some (0,12)
else(Bp a 0 32).bind λn=>(Wr b f).bind λo=>if(n !=o)then
some (0,12)
else
j4 a b f
def KJ:=KC KW
def JZ(j3:LB->Lu)(a:LB):Lu:=if(Cw (Ac a) 8)then
some (0,6)
else(Bp a 0 8).bind λp=>if(p !=([65,80,69,84,65,71,69,88]:LB))then
some (0,6)
else
j3 a
def DQ:=JZ KJ
abbrev Gt:=Option (LI×Int)
def KI(S9:Int->LI->Gt)(a:LB)(b:Int)(f:LI)(g h:Int):Gt:=if(geq h 6)then
some (f,0)
else
if(Bj h 0)then
some (([]:LI),h)
else
if(Ef (Ae b g) 4000)then
some (([]:LI),4)
else(Da f ([g]:LI)).bind λm=>S9 (Ae b g) m
def Pk S9:=KI S9
def Wf(j9:Int->LI->Int->Int->Gt)(a:LB)(b:Int)(f:LI):Gt:=(Bp a b (Ac a)).bind λn=>(GV n).bind λ(o,k)=>if(geq k 6)then(Bp a b (Ac a)).bind λp=>(DQ p).bind λ(u,v)=>j9 b f u v
else
j9 b f o k
def Oy:Nat->Int->LI->Gt
|0,_,_=>none
|z+1,d,e=>Wf (Pk (Oy z) c) c d e
def Azi a:=Oy a As
def Ayv(j6:LB->Int->LI->Gt)(a:LB):Gt:=j6 a 0 ([]:LI)
def Ac5:=Ayv Azi
abbrev Gz:=Option (Int×Int)
def JY:Gz:=some (d,z)
def KV:=JY
def Vo(j6:Int->Int->Gz)(Rs:Int->Int->Gz)(a:Int)(b:LI)(f g:Int):Gz:=if(Cw g (Ac b))then(Aj b g).bind λ_=>(Aj b g).bind λh=>Rs (Ae f h) (Ae g 1)
else
j6 a f
def Kt:Nat->Int->Int->Gz
|0,_,_=>none
|c+1,d,e=>Vo KV (Kt c) z F d e
def Vq a b:=Kt a b As
def KG(j4:Int->LI->Int->Int->Gz)(k:LB):Gz:=(Ac5 k).bind λ(b,a)=>j4 a b 0 0
def Us:=KG Vq
def Rq:Bdn:=if(Cw (Ac c) (Ac D))then(Bp D 0 (Ac c)).bind λz=>some (c==z)
else
some false
def OM:Bd8:=if Bco then
some (Yo (Ci N 2) 3988292384)
else
some (Ci N 2)
def NS:=OM
def NG(j2:UInt32->Bool->Option UInt32)(a:UInt32)(f:Int):Bd8:=if(geq f 1)then
j2 a (!(geq (FP a 2) 1))
else
j2 a (geq (FP a 2) 1)
def IL:=NG NS
def OX:Bd8:=some N
def PQ:=OX
abbrev Bfq:=UInt32->Option UInt32
abbrev Be0:=UInt32->UInt8->Int->Option UInt32
def Yl(j6:Bfq)(Rs:Be0)(a:UInt32)(b:UInt8)(f:Int):Bd8:=if(Cw f 8)then(IL a (Ad (FP b 2):Int)).bind λg=>Rs g (Ci b 2) (Ae f 1)
else
j6 a
def Lr:Nat->UInt32->UInt8->Int->Option UInt32
|0,_,_,_=>none
|q+1,a,b,f=>Yl PQ (Lr q) a b f
def Azl:=Lr As
def Azy(j4:Be0)(h:UInt32)(k:UInt8):Bd8:=j4 h k 0
def Aei:=Azy Azl
def HL:Bd8:=some N
def JO:=HL
def Tt(j6:Bfq)(Rs:UInt32->Int->Option UInt32)(a:LB)(b:UInt32)(f:Int):Bd8:=if(Cw f (Ac a))then(Aj a f).bind λg=>(Aei b g).bind λh=>Rs h (Ae f 1)
else
j6 b
def Jp:Nat->UInt32->Int->Option UInt32
|0,_,_=>none
|z+1,d,e=>Tt JO (Jp z) c d e
def IB a:=Jp a As
def HG(j4:LB->UInt32->Int->Option UInt32)(k:UInt32)(a:LB):Bd8:=j4 a k 0
def Aal:=HG IB
def Uz:Bd8:=(Aal 4294967295 c).bind λz=>some (Am 4294967295 z)
abbrev Hq:=Option (Int×Int×Int×Int×Int×Int)
def OI:Hq:=(Jz (Ad t:Int) (Ad O:Int) (Ad l9:Int) (Ad Bcv:Int) (Ad Bcx:Int)).bind λz=>if(!z)then
some (0,0,0,0,0,12)
else(Xe (Ad t:Int) (Ad O:Int) (Ad l9:Int) (Ad Bcv:Int) (Ad Bcx:Int)).bind λc=>if c then
some (0,0,0,0,0,4)
else
some ((Ad t:Int),(Ad O:Int),(Ad l9:Int),(Ad Bcv:Int),(Ad Bcx:Int),0)
def OT:=OI
def OJ(j6:UInt64->UInt64->UInt64->UInt64->UInt64->Hq)(a:LB):Hq:=(Bp a 4 6).bind λu=>(Bp a 6 8).bind λp=>(Bp a 8 10).bind λo=>(Bp a 10 14).bind λn=>(Bp a 14 18).bind λm=>(
(Ed u).bind λk=>(
(Ed p).bind λh=>(
(Ed o).bind λg=>(
(Ed n).bind λf=>(
(Ed m).bind λb=>(
j6 k h g f b))))))
def PA:=OJ OT
def NY(j5:LB->Hq)(a:LB):Hq:=if(Cw (Ac a) 22)then
some (0,0,0,0,0,24)
else(Bp a 18 22).bind λy=>(Bp a 0 18).bind λaa=>(Ed y).bind λab=>(Uz aa).bind λac=>if(Bj ab (Ad ac:UInt64))then
some (0,0,0,0,0,22)
else
j5 a
def OW:=NY PA
def NV(j4:LB->Hq)(a:LB):Hq:=(Bp a 0 (Ee 4 (Ac a))).bind λad=>(Bp ([84,84,65,49]:LB) 0 (Ee 4 (Ac a))).bind λae=>if(ad !=ae)then
some (0,0,0,0,0,12)
else
j4 a
def Xc:=NV OW
abbrev Tr:=Option (Int×Int×Int×Int×Int×Int×Int)
def EV:Tr:=(Xc i).bind λ(c,d,e,j,l,t)=>if(geq t 24)then
some (0,0,0,0,0,0,(-1:Int))
else
some ((Ae z 22),c,d,e,j,l,t)
def EI:=EV
def EL(j2:Int->LB->Tr)(f:LB):Tr:=(Us f).bind λ(b,g)=>if(geq g 24)then
some (0,0,0,0,0,0,(-1:Int))
else
if(Bj g 0)then
some (0,0,0,0,0,0,g)
else(Bp f b (Ac f)).bind λa=>(Rq a ([73,68,51]:LB)).bind λu=>if u then
some (0,0,0,0,0,0,(-1:Int))
else(Rq a ([65,80,69,84,65,71,69,88]:LB)).bind λv=>if v then
some (0,0,0,0,0,0,(-1:Int))
else
j2 b a
def Ye:=EL EI
def OZ:Bdw:=if Bco then
some (Yo (Br t 2) 4823603603198064275)
else
some (Br t 2)
def Xl:=OZ
def OC(j2:UInt64->Bool->Option UInt64)(a:UInt64)(f:Int):Bdw:=if(geq f 1)then
j2 a (!(Lo a 9223372036854775808))
else
j2 a (Lo a 9223372036854775808)
def IM:=OC Xl
def PF:Bdw:=some t
def NI:=PF
def Yu:Bdw:=if(Ef X 0)then(Ke (Bj X 0)).bind λ_=>(IM Bdb (Hl (Ci (Ad Bcj:Int) X) 2)).bind λz=>Bch z (Ci X 2)
else
Bcg Bdb
def Ls:Nat->UInt64->Int->Option UInt64
|0,_,_=>none
|z+1,c,d=>Yu NI (Ls z) Bcj c d
def Azk b:=Ls b As
def Azo(j4:UInt8->UInt64->Int->Option UInt64)(h:UInt64)(b:UInt8):Bdw:=j4 b h 128
def Ada:=Azo Azk
def IA:Bdw:=some t
def HW:=IA
def Ub:Bdw:=if(Cw Y (Ac Bct))then(Aj Bct Y).bind λz=>(Ada l9 z).bind λc=>Bch c (Ae Y 1)
else
Bcg l9
def Jo:Nat->UInt64->Int->Option UInt64
|0,_,_=>none
|z+1,d,e=>Ub HW (Jo z) c d e
def Aym a:=Jo a As
def Ayg(j4:Be6)(k:UInt64)(a:LB):Bdw:=j4 a k 0
def AP:=Ayg Aym
def Aed:Bdw:=(AP 0 c).bind λz=>some z
def Yh:Bdu:=(Aed c).bind λz=>(Ew z 8).bind λd=>some d
abbrev Eo:=Option (LI×Int)
def OP:Eo:=(Ig I).bind λz=>if(Bj z 0)then
some (([]:LI),12)
else
some (I,0)
def Yb:=OP
def Xv(j8:LI->Eo)(S9:Int->LI->Eo)(b:LB)(a g:Int)(f:LI):Eo:=if(Cw g a)then(Bp b (Br 4 g) (Ae (Br 4 g) 4)).bind λk=>(Ed k).bind λm=>(Da f ([(Ad m:Int)]:LI)).bind λn=>S9 (Ae g 1) n
else
j8 f
def Lq:Nat->Int->LI->Eo
|0,_,_=>none
|d+1,e,i=>Xv Yb (Lq d) c z e i
def PC b a:=Lq b a As
def NK(j6:LB->Int->Int->LI->Eo)(b:LB)(a:Int):Eo:=j6 b a 0 ([]:LI)
def NX:=NK PC
def NL(j5:LB->Int->Eo)(b:LB)(a:Int):Eo:=if((Cw a 1)||(Ef a 1000))then
some (([]:LI),2)
else
if(Cw (Ac b) (Ae (Br 4 a) 4))then
some (([]:LI),24)
else(Bp b (Br 4 a) (Ae (Br 4 a) 4)).bind λo=>(Bp b 0 (Br 4 a)).bind λp=>(Ed o).bind λu=>(Uz p).bind λv=>if(Bj u (Ad v:UInt64))then
some (([]:LI),22)
else
j5 b a
def IP:=NL NX
abbrev Le:=Option (Int×LI×Int)
def JA:Le:=if(geq d 24)then
some (0,([]:LI),(-1:Int))
else
some ((Ae (Ae z (Br 4 (Ac F))) 4),F,d)
def ID:=JA
def JN(j4:Int->Int->LI->Le)(a:LB)(b k m n o f:Int):Le:=(Bp a f (Ac a)).bind λp=>(Gu b k m n o).bind λu=>(IP p (Ac u)).bind λ(h,g)=>j4 f g h
def Eg:=JN ID
def Jr(j3:LB->Jz6 Le)(a:LB)(b k m n o:Int)(v:LB):Le:=if(geq b 2)then
if(Cw (Ac a) 8)then
some (0,([]:LI),(-1:Int))
else(Bp a 0 8).bind λw=>(Yh v).bind λy=>if(w !=y)then
some (0,([]:LI),26)
else
j3 a b k m n o 8
else
j3 a b k m n o 0
def Fm:=Jr Eg
def Aeb:Bef:=if(Ef (Ac p9) 100000)then
some (0,4)
else(AP t p9).bind λz=>some (z,0)
def Ahw:Bef:=(Aeb 0 c).bind λ(z,d)=>some (z,d)
def Bac:Bdx:=some j
def Ba4:=Bac
def Acn(S9:Beq)(b:UInt64)(f:Int)(a:LX)(g:Int32):Bdx:=(Aj a f).bind λ_=>(Mm a f g).bind λh=>S9 (Ci b 256) (Ae f 1) h
def DR S9:=Acn S9
def DK(j8:UInt64->Int->LX->Int32->Option (LX))(j10:Bfj)(b:UInt64)(f:Int)(a:LX):Bdx:=if(Cw f 8)then
if(Ef (Ad (FP b 256):Int32) 127)then
j8 b f a (Am (Ad (FP b 256):Int32) 256)
else
j8 b f a (Ad (FP b 256):Int32)
else
j10 a
def Lm:Nat->UInt64->Int->LX->Option (LX)
|0,_,_,_=>none
|q+1,b,f,a=>DK (DR (Lm q)) Ba4 b f a
def Bah:=Lm As
def Bap(j6:Beq)(k:UInt64):Bdx:=j6 k 0 (List.replicate 16 (0:Int32))
def Ajq:=Bap Bah
def Wn:Be1:=if(Ef (Ac c) 64)then
some (([(0:Int32),(0:Int32),(0:Int32),(0:Int32),(0:Int32),(0:Int32),(0:Int32),(0:Int32),(0:Int32),(0:Int32),(0:Int32),(0:Int32),(0:Int32),(0:Int32),(0:Int32),(0:Int32)]:LX),2)
else(Ahw c).bind λ(z,d)=>(Ajq z).bind λe=>some (e,0)
def Xg:Bdk:=if(geq z 8)then
some 128
else
if(geq z 16)then
some 32768
else
if(geq z 24)then
some 8388608
else
some 0
def DZ:Bdk:=if((Cw z 1)||(Ef z 6))then
some 2
else(Xg d).bind λc=>if(geq c 0)then
some 2
else
some 0
def Oq:Bdk:=(DZ z d).bind λc=>if((Bj c 0)||(Cw e 1))then
some 2
else(Ke (Bj z 0)).bind λ_=>if(Ef e (Ci 4000 z))then
some 2
else
some 0
def AT:Bdu:=(Uz c).bind λz=>(Da ([]:LB) c).bind λd=>(Da d ([(Ad z:UInt8),(Ad (Cq z (GI.toZ (8:UInt64)).toNat):UInt8),(Ad (Cq z (GI.toZ (16:UInt64)).toNat):UInt8),(Ad (Cq z (GI.toZ (24:UInt64)).toNat):UInt8)]:LB)).bind λe=>some e
def Rn:Bdk:=if(Cw (Ac c) 5)then
some 24
else
if(Ef (Ac c) 41254)then
some 4
else(Bp c 0 (Am (Ac c) 4)).bind λz=>(AT z).bind λd=>if(d !=c)then
some 22
else
some 0
def Oe:Bez:=some (10,10,16384,16384)
def Az7:Bdw:=some t
def Ayu:=Az7
def Wd:Bdw:=if(Cw Y R)then
Bch (Br l9 2) (Ae Y 1)
else
Bcg l9
def Kq:Nat->UInt64->Int->Option UInt64
|0,_,_=>none
|c+1,d,e=>Wd Ayu (Kq c) z d e
def Az4 b:=Kq b As
def Ayr(j4:Int->UInt64->Int->Option UInt64)(b:Int):Bdw:=j4 b 1 0
def Gv:=Ayr Az4
def LY(a g:Int)(h k:UInt64)(b:UInt32):Bdn:=(Gv a).bind λf=>some (Cw (Ad b:UInt64) f)
def HR(a g:Int)(h k:UInt64)(b:UInt32):Bd8:=(Gv a).bind λf=>some (Ad (Am (Ad b:UInt64) f):UInt32)
abbrev BK:=Option (Int×UInt64)
def PJ:BK:=if(Cw z 24)then(Gv (Ae z 5)).bind λc=>if(Ef (Am (Ae t O) (Ci t 16)) c)then
some ((Ae z 1),(Am (Ae t O) (Ci t 16)))
else
some (z,(Am (Ae t O) (Ci t 16)))
else
some (z,(Am (Ae t O) (Ci t 16)))
def Xm:=PJ
def OA(j2:Int->UInt64->UInt64->BK)(b:Int)(a f:UInt64):BK:=if(Ef b 0)then(Gv (Ae b 4)).bind λh=>if(Cw (Am (Ae a f) (Ci a 16)) h)then
some ((Am b 1),(Am (Ae a f) (Ci a 16)))
else
j2 b a f
else
j2 b a f
def Wq:=OA Xm
abbrev Vx:=Option (Int×Int×UInt64×UInt64)
def IJ(f:UInt32)(g a:Int)(h b:UInt64)(w:Int)(y:UInt64):Vx:=(Wq g h (Ad f:UInt64)).bind λ(aa,ab)=>some (aa,w,ab,y)
def Tw:=IJ
def GH(j2:UInt32->Int->Int->UInt64->UInt64->Int->UInt64->Vx)(g a:Int)(h b:UInt64)(f:UInt32):Vx:=(LY g a h b f).bind λo=>if(!o)then(
(
(HR g a h b f).bind λk=>(Wq a b (Ad k:UInt64)).bind λ(m,n)=>j2 f g a h b m n))
else
j2 f g a h b a b
def AI:=GH Tw
abbrev Ft:=Option (Int×Int×UInt64×UInt64)
def Ayk:Ft:=some (z,d,t,O)
def Ayf:=Ayk
def IH(j6:Int->Int->UInt64->UInt64->Ft)(Rs:Jz3 (UInt64->UInt64->Ft))(a:Int)(b:LU)(m f g:Int)(h k:UInt64):Ft:=if(Cw m (Ac b))then(Aj b m).bind λn=>(AI f g h k n).bind λ(o,p,u,v)=>Rs (Ae m a) o p u v
else
j6 f g h k
def Nd:Nat->Jz3 (UInt64->UInt64->Ft)
|0,_,_,_,_,_=>none
|c+1,d,e,i,j,l=>IH Ayf (Nd c) z P d e i j l
def Ayp a b:=Nd a b As
def HD(j4:Int->LU->Jz3 (UInt64->UInt64->Ft))(a:Int)(b:LU):Ft:=(Oe).bind λ(w,y,aa,ab)=>(Ke (Bj a 0)).bind λ_=>j4 a b (Hl (Ac b) a) w y aa ab
def Rk:=HD Ayp
def Acs:Bdk:=some (Hl z 2)
def Ad5:=Acs
def DS:Bdk:=if(Cw Bcy (Hl o9 8))then
Bcm (Ci o7 2) (Ae Bcy 1)
else
Bcl o7
def Ox:Nat->Int->Int->Option Int
|0,_,_=>none
|c+1,d,e=>DS Ad5 (Ox c) z d e
def Acu a:=Ox a As
def Acv(j4:Jz3 (Option Int))(g:LB)(k a:Int):Bdk:=(Aj g (Ci a 8)).bind λh=>j4 a (Ad h:Int) 0
def Mj:=Acv Acu
abbrev Ez:=Option (LB×Int)
def Aap:Ez:=(Aj i (Ci e 8)).bind λ_=>(Aj i (Ci e 8)).bind λc=>(Aj i (Ci e 8)).bind λ_=>(Mm i (Ci e 8) (Ae c (Ad (Br z d):UInt8))).bind λj=>some (j,(Ae e 1))
def AM:=Aap
def BM(j8:Jz3 (LB->Ez))(S9:Int->Int->Ez)(b a:Int)(f:LB)(g h:Int):Ez:=if(Cw h (Hl a 8))then
S9 (Br g 2) (Ae h 1)
else
j8 b g a f
def Mx:Nat->Int->Int->Ez
|0,_,_=>none
|c+1,e,j=>BM AM (Mx c) z d i e j
def Aao b a f:=Mx b a f As
def Ab3(j6:Int->Int->LB->Int->Int->Ez)(b a:Int)(f:LB):Ez:=j6 b a f 1 0
def AR:=Ab3 Aao
def Aar(j5:Int->Int->LB->Ez)(k:LB)(a b:Int):Ez:=if(geq (Hl a 8) 0)then(Da k ([(0:UInt8)]:LB)).bind λo=>j5 b a o
else
j5 b a k
def Zd:=Aar AR
abbrev Fb:=Option (LB×Int)
def Ay9:Fb:=some (i,z)
def Ay6:=Ay9
def Td(j6:Int->LB->Fb)(Rs:Int->Int->LB->Fb)(f:Int)(g:LB)(h k a:Int)(b:LB):Fb:=if(Cw k f)then(Mj g h k).bind λm=>(Zd b a m).bind λ(n,o)=>Rs (Ae k 1) o n
else
j6 a b
def Is:Nat->Int->Int->LB->Fb
|0,_,_,_=>none
|c+1,d,e,j=>Td Ay6 (Is c) z i l d e j
def Ay5 f g h:=Is f g h As
def Aya(j4:Int->LB->Jz3 (LB->Fb))(g:LB)(h p f:Int):Fb:=j4 f g h p 0 ([]:LB)
def OK:=Aya Ay5
def Azd:Bdw:=some t
def Ayy:=Azd
def Vz:Bdw:=if(Lo Y 0)then(Mj Bct Bc6 (Ae R Y)).bind λz=>Bch (Ae (Br 2 l9) (Ad z:UInt64)) (Am Y 1)
else
Bcg l9
def Ks:Nat->UInt64->Int->Option UInt64
|0,_,_=>none
|c+1,d,e=>Vz Ayy (Ks c) z i l d e
def KD b f g:=Ks b f g As
def KM(j4:Int->LB->Int->UInt64->Int->Option UInt64)(f:LB)(g b m:Int):Bdw:=j4 b f g 0 (Am m 1)
def Uk:=KM KD
abbrev Ih:=Option (Int×Int)
def Ab6(b a:Int)(g:LB)(f:Int):Ih:=if(geq a 48)then
some (a,(Ae b a))
else
if(Lo (Ae b a) f)then
some ((-1:Int),0)
else
some (a,(Ae (Ae b a) 1))
def BL:=Ab6
def BF(j6:Int->Int->LB->Int->Ih)(Rs:Int->Ih)(b:Int)(g:LB)(f a:Int):Ih:=if((Cw (Ae b a) f)&&(Cw a 48))then(Mj g f (Ae b a)).bind λh=>if(geq h 1)then
Rs (Ae a 1)
else
j6 b a g f
else
j6 b a g f
def Mo:Nat->Int->Ih
|0,_=>none
|c+1,d=>BF BL (Mo c) z i l d
def Ba3 b g f:=Mo b g f As
def Bae(j4:Int->LB->Int->Int->Ih)(g:LB)(f b:Int):Ih:=j4 b g f 0
def Ahd:=Bae Ba3
def GB:Bdk:=(Gv R).bind λz=>(Ke (Bj z 0)).bind λ_=>some (Ad (Ee 48 (Ci (Ad N:UInt64) z)):Int)
abbrev DN:=Option (UInt32×Int×Int)
def AV:DN:=if((Cw d 0)||(Cw (Am l e) U))then
some (0,0,24)
else(Uk i l e U).bind λc=>if(Cw d 48)then(Gv z).bind λj=>some ((Ad (Ae (Br (Ad d:UInt64) j) c):UInt32),(Ae e U),0)
else(GB (Ad c:UInt32) z).bind λt=>if(Cw t d)then
some (0,0,12)
else
some ((Ad c:UInt32),(Ae e U),0)
def BI:=AV
def Aam(j2:Jz3 (LB->Int->Int->DN))(h:LB)(f n g:Int):DN:=if(Lo n f)then
some (0,0,24)
else(Ahd h f n).bind λ(a,b)=>if(geq a 48)then
j2 g a b h f 32
else
j2 g a b h f g
def MF:=Aam BI
def MB(g:LB)(b a f n:Int)(v w:UInt64):Option (UInt32×Int×Int):=if(Lo a b)then
some (0,0,24)
else(Mj g b a).bind λo=>if(geq o 0)then
if(Cw (Am (Am b a) 1) f)then
some (0,0,24)
else(Uk g b (Ae a 1) f).bind λp=>some ((Ad p:UInt32),(Ae (Ae a 1) f),0)
else(MF g b (Ae a 1) n).bind λ(h,u,k)=>if(Bj k 0)then
some (0,0,k)
else(Gv f).bind λm=>if(Ef (Ae (Ad h:UInt64) m) 4294967295)then
some (0,0,12)
else
some ((Ad (Ae (Ad h:UInt64) m):UInt32),u,0)
abbrev Bw:=Option (LU×Int)
def Aze:Bw:=some (P,0)
def Az1:=Aze
def Vu(j18:LU->Bw)(If:Int->Bw)(a:LB)(b:LU)(m:Int):Bw:=if(Cw m (Br 8 (Ac a)))then(Mj a (Br 8 (Ac a)) m).bind λn=>if(Bj n 0)then
some (b,12)
else
If (Ae m 1)
else
j18 b
def Kv:Nat->Int->Bw
|0,_=>none
|z+1,d=>Vu Az1 (Kv z) c P d
def KE a b:=Kv a b As
def KA(j16:LB->LU->Int->Bw)(f:Int)(a:LB)(b:LU):Bw:=if(Ef (Am (Br 8 (Ac a)) f) 7)then
some (b,12)
else
j16 a b f
def Wg:=KA KE
def KN(YL:Int->Int->LU->Bw)(g h:Int)(a:LB)(f k:Int)(b:LU)(p u:Int)(v w:UInt64):Bw:=(OK a (Br 8 (Ac a)) f (Ee (Ae f 81) (Br 8 (Ac a)))).bind λ(y,aa)=>(MB y aa 0 p u v w).bind λ(ab,ac,o)=>if(Bj o 0)then
some (b,o)
else(Da b ([ab]:LU)).bind λad=>YL (Ae f ac) (Ae k 1) ad
def Ku YL:=KN YL
def KU(j13:Int->Int->LU->Int->Int->UInt64->UInt64->Bw)(j15:Int->LB->LU->Bw)(g h:Int)(a:LB)(f k:Int)(b:LU):Bw:=if(Cw k (Br h g))then(Oe).bind λ(n,ae,af,ag)=>if(Lo k g)then(Rk g b).bind λ(ah,ai,aj,ak)=>j13 f k b ah ai aj ak
else
j13 f k b n ae af ag
else
j15 f a b
def Fu:Nat->Int->Int->LU->Bw
|0,_,_,_=>none
|c+1,e,j,l=>KU (Ku (Fu c) z d i) Wg z d i e j l
def Ayw g h a:=Fu g h a As
def OU(j10:Int->Int->LB->Int->Int->LU->Bw)(g h:Int)(a:LB):Bw:=j10 g h a 0 0 ([]:LU)
def GD:=OU Ayw
def Baq:Bdy:=if(geq z 8)then
some (4,0)
else
if((geq z 16)||(geq z 24))then
some (5,0)
else
some (0,2)
def Bb5:Option (Int×LX×LX×Int):=(Baq z).bind λ(c,d)=>if(Bj d 0)then
some (0,(List.replicate 16 (0:Int32)),(List.replicate 16 (0:Int32)),2)
else
if(geq z 16)then
some (9,j,(List.replicate 16 (0:Int32)),0)
else
some (10,j,(List.replicate 16 (0:Int32)),0)
def Agt:Bet:=(Bb5 z j).bind λ(c,d,e,i)=>if(Bj i 0)then
some (0,0,0,(List.replicate 16 (0:Int32)),(List.replicate 16 (0:Int32)),2)
else
some (z,0,c,d,e,0)
def HA:Bd3:=if(geq (FP N 2) 0)then
some (Ad (Ci N 2):Int32)
else
some (Ad (Ci (sO (Ae (Ad N:Int) 1)) 2):Int32)
def Dh:Bd3:=some (Ad (Ad (Ad z:UInt64):UInt32):Int32)
def Abk:Bd3:=some (Ad z:Int32)
def Aan:=Abk
def AG(j6:Int->Option Int32)(Rs:Int->Int->Option Int32)(h:Int)(b f:LX)(g a:Int):Bd3:=if(Cw a 16)then(Aj b a).bind λ_=>(Aj f a).bind λ_=>(Aj b a).bind λk=>(Aj f a).bind λm=>(Dh (Br (Ad k:Int) (Ad m:Int))).bind λn=>(Dh (Ae g (Ad n:Int))).bind λo=>Rs (Ad o:Int) (Ae a 1)
else
j6 g
def Ms:Nat->Int->Int->Option Int32
|0,_,_=>none
|c+1,d,e=>AG Aan (Ms c) z j M d e
def Ba0 h b f:=Ms h b f As
def Bad(j4:Int->LX->LX->Int->Int->Option Int32)(h:Int)(b f:LX):Bd3:=j4 h b f 0 0
def Ah5:=Bad Ba0
def NN:Bd3:=(Ah5 z j M).bind λc=>(Dh (Ae (Ad c:Int) (Ci o8 2))).bind λd=>(Ke (Bj o8 0)).bind λ_=>(Ke (Bj o8 0)).bind λ_=>if(Cw (Hl (Ad d:Int) o8) 0)then
some (Ad (Am (Ci (Ad d:Int) o8) 1):Int32)
else
some (Ad (Ci (Ad d:Int) o8):Int32)
def Yn:=NN
def NT(j2:Int->LX->LX->Int->Option Int32)(b:Int)(f g:LX):Bd3:=if(geq b 9)then
j2 b f g 512
else
j2 b f g 1024
def HI:=NT Yn
def JD:Bd3:=if(geq z 0)then
some 4
else
if(tM z 3)then
some 2
else
some 1
def Wi:Bd3:=if(Cw E 0)then
some (-1:Int32)
else
if(Ef E 0)then
some 1
else
some 0
abbrev Fa:=Option (Int×LX×LX)
def Ayd:Fa:=some (z,j,M)
def Ay8:=Ayd
def Sd(j6:Int->LX->LX->Fa)(Rs:Int->LX->Fa)(h:Int32)(g:Int)(b:LX)(a:Int)(f:LX):Fa:=if(Cw a 16)then(Aj f a).bind λ_=>(Aj b a).bind λ_=>(Aj f a).bind λk=>(Aj b a).bind λm=>(JD a).bind λn=>(Wi m).bind λo=>(Wi h).bind λp=>(Aj f a).bind λ_=>(Mm f a (Ae k (Br (Br n o) p))).bind λu=>Rs (Ae a 1) u
else
j6 g f b
def Iv:Nat->Int->LX->Fa
|0,_,_=>none
|z+1,c,d=>Sd Ay8 (Iv z) E L Z c d
def Ay2 h g b:=Iv h g b As
def Ay1(j4:Int32->Int->LX->Int->LX->Fa)(g:Int)(v b:LX)(h:Int32):Fa:=j4 h g b 0 v
def NM:=Ay1 Ay2
abbrev Fp:=Option (Int×LX×LX)
def HC:Fp:=(Aj l5 0).bind λ_=>(Mm l5 0 E).bind λz=>some (L,Z,z)
def FY:=HC
def Uo(j6:Int32->Int->LX->LX->Fp)(Rs:Int->LX->Fp)(b:Int32)(f:Int)(g:LX)(h:Int)(a:LX):Fp:=if(Ef h 0)then(Aj a (Am h 1)).bind λ_=>(Aj a (Am h 1)).bind λm=>(Aj a h).bind λ_=>(Mm a h m).bind λn=>Rs (Am h 1) n
else
j6 b f g a
def Jt:Nat->Int->LX->Fp
|0,_,_=>none
|z+1,c,d=>Uo FY (Jt z) E L Z c d
def Ayn b f g:=Jt b f g As
def Ayi(j4:Int32->Int->LX->Int->LX->Fp)(f:Int)(g o:LX)(b:Int32):Fp:=j4 b f g 15 o
def Aae:=Ayi Ayn
def Xr:Option (Int32×Int×LX×LX):=(HI z j M).bind λc=>(Dh (Ae (Ad E:Int) (Ad c:Int))).bind λd=>(NM z j M E).bind λ(e,i,l)=>(Aae e i l d).bind λ(t,A,B)=>some (d,t,A,B)
def GC:Bd3:=(Ke (Bj L 0)).bind λ_=>(Ke (Bj L 0)).bind λ_=>if(Cw (Hl (Br (Am L 1) (Ad E:Int)) L) 0)then
some (Ad (Am (Ci (Br (Am L 1) (Ad E:Int)) L) 1):Int32)
else
some (Ad (Ci (Br (Am L 1) (Ad E:Int)) L):Int32)
def Ui:=GC
def IQ(j2:Int32->Int->Option Int32)(f:Int)(b:Int32):Bd3:=if(geq f 5)then
j2 b 32
else
j2 b 16
def Ro:=IQ Ui
def AY(b:Int)(a:Int32)(h:Int)(k m:LX):Bdk:=if(geq b 8)then(Ro 4 a).bind λf=>some (Ad f:Int)
else(Ro 5 a).bind λg=>some (Ad g:Int)
def Xn:Option (Int32×Int×Int32×Int×LX×LX):=(Xr L Z l5 Bcu).bind λ(c,d,e,i)=>(AY z E L Z l5).bind λj=>(Dh (Ae (Ad c:Int) j)).bind λl=>some (l,z,l,d,e,i)
def Tx:Bdk:=if((Cw z 1)||(Ef z 6))then
some 2
else
if(Ef (Ac j) 4000)then
some 4
else(Ke (Bj z 0)).bind λ_=>if(Ef (Hl (Ac j) z) 0)then
some 2
else
some 0
def Ay7:Bdx:=some j
def Ay4:=Ay7
def Sy(j8:Bfj)(S9:Bel)(a:LX)(f:Int)(b:LX):Bdx:=if(Lo f 0)then(Aj b (Ae f 1)).bind λ_=>(Aj a f).bind λk=>(Aj b (Ae f 1)).bind λm=>(Dh (Am (Ad m:Int) (Ad k:Int))).bind λn=>(Aj b f).bind λ_=>(Mm b f n).bind λo=>S9 (Am f 1) o
else
j8 b
def Ir:Nat->Int->LX->Option (LX)
|0,_,_=>none
|z+1,c,d=>Sy Ay4 (Ir z) j c d
def Axz a:=Ir a As
def FM(j6:LX->Int->LX->Option (LX))(a p:LX):Bdx:=j6 a (Am (Ac a) 2) p
def Sg:=FM Axz
def EO(j5:LX->LX->Option (LX))(a:LX):Bdx:=(mkI (Ac a) (0:Int32)).bind λh=>(Ke (geq (Ac a) (Ac a))).bind λ_=>(Aj a (Am (Ac a) 1)).bind λu=>(Aj h (Am (Ac a) 1)).bind λ_=>(Mm h (Am (Ac a) 1) u).bind λg=>if(Ef (Ac a) 1)then(Aj a (Am (Ac a) 1)).bind λv=>(Aj a (Am (Ac a) 2)).bind λw=>(Dh (Ae (Ad v:Int) (Ci (Ad w:Int) 2))).bind λy=>(Aj g (Am (Ac a) 1)).bind λ_=>(Mm g (Am (Ac a) 1) y).bind λaa=>j5 a aa
else
j5 a g
def Yk:=EO Sg
abbrev Hn:=Option (LX×Int)
def Azs:Hn:=some (j,0)
def Azw:=Azs
def PK(j6:LX->Hn)(Rs:Int->LX->Hn)(a:Int)(b:LX)(g:Int)(f:LX):Hn:=if(Cw g (Ac b))then(Bp b g (Ae g a)).bind λh=>(Yk h).bind λk=>(Da f k).bind λm=>Rs (Ae g a) m
else
j6 f
def Qm:Nat->Int->LX->Hn
|0,_,_=>none
|c+1,d,e=>PK Azw (Qm c) z j d e
def Azq a b:=Qm a b As
def NR(j4:Int->LX->Int->LX->Hn)(a:Int)(b:LX):Hn:=(Tx a b).bind λn=>if(Bj n 0)then(Tx a b).bind λo=>some (([]:LX),o)
else
j4 a b 0 ([]:LX)
def HB:=NR Azq
def FA(b f:Int)(w:LX):Bdx:=(HB b w).bind λ(aj,ai)=>some aj
def Se:=FA
def FC(V6:Bel)(a:LU)(b f:Int)(g:LX)(h:Int)(m:LX):Bdx:=V6 (Ae h 1) m
def ER V6:=FC V6
abbrev Beo:=Int->LX->Int->Int32->Int->LX->LX->Option (LX)
def EU(YN:Beo)(a:LU)(h b f:Int)(g:LX)(k:Int)(ah:LX)(y:Int)(aa:Int32)(ab:Int)(ac ad:LX):Bdx:=YN (Ae k b) ah y aa ab ac ad
def EJ YN:=EU YN
def EZ(j30:Beo)(a:LU)(h b f:Int)(g:LX)(k:Int)(ae:Int32)(m:LX)(n:Int)(o:Int32)(p:Int)(u v:LX)(y:Int)(aa:Int32)(ab:Int)(ac ad:LX):Bdx:=(Aj m k).bind λ_=>(Mm m k ae).bind λah=>j30 k ah y aa ab ac ad
def FG YN a h b f g:=EZ (EJ YN a h b f g) a h b f g
def EY(j29:Int->Int32->LX->Int->Int32->Int->LX->LX->Int->Int32->Int->LX->LX->Option (LX))(j32:Bel)(a:LU)(b f:Int)(g:LX)(h k:Int)(m:LX)(n:Int)(o:Int32)(p:Int)(u v:LX):Bdx:=if(Cw k (Ac a))then(Aj a k).bind λag=>(
(HA ag).bind λaf=>(
(Xn n o p u v af).bind λ(ae,y,aa,ab,ac,ad)=>j29 k ae m n o p u v y aa ab ac ad))
else
j32 h m
def Md(V6:Bel)(a:LU)(b f:Int)(g:LX)(h:Int):Nat->Int->LX->Int->Int32->Int->LX->LX->Option (LX)
|0,_,_,_,_,_,_,_=>none
|q+1,k,m,n,o,p,u,v=>EY (FG (Md V6 a b f g h q) a h b f g) (ER V6 a b f g) a b f g h k m n o p u v
def FB V6 a b f g h:=Md V6 a b f g h As
def Sf(j26:Int->Int->LX->Int->Int32->Int->LX->LX->Option (LX))(j34:Int->Int->LX->Option (LX))(a:LU)(b f:Int)(g:LX)(h:Int)(w:LX):Bdx:=if(Cw h b)then(Agt f g).bind λ(ak,ai,al,am,an,aq)=>j26 h h w ak ai al am an
else
j34 b f w
def Gk:Nat->Int->LX->Option (LX)
|0,_,_=>none
|z+1,c,d=>Sf (FB (Gk z) P Bce Bcf Bc1) Se P Bce Bcf Bc1 c d
def FN a b f g:=Gk a b f g As
def GU(j18:LU->Int->Int->LX->Int->LX->Option (LX))(b f:Int)(g:LX)(a:LU):Bdx:=(mkI (Ac a) (0:Int32)).bind λao=>(Ke (geq (Ac a) (Ac a))).bind λ_=>j18 a b f g 0 ao
def Rm:=GU FN
def Az8:Bdk:=some 0
def Ayt:=Az8
def Dy:Bdk:=if(Cw o9 (Ac w9))then(Aj w9 o9).bind λz=>if(Cw (Ad z:Int) (sO L))then
some 16
else(Aj w9 o9).bind λc=>if(Lo (Ad c:Int) L)then
some 16
else
Bcl (Ae o9 1)
else
Bci
def Bk:Nat->Int->Option Int
|0,_=>none
|z+1,c=>Dy Ayt (Bk z) j J c
def Azf a b:=Bk a b As
def Hu(j4:LX->Int->Int->Option Int)(k:Int)(a:LX):Bdk:=(Xg k).bind λb=>if(geq b 0)then
some 2
else
if(Ef (Ac a) 4000)then
some 4
else
j4 a b 0
def Bo:=Hu Azf
def BE(g f:Int)(a:LX):Be1:=(Bo f a).bind λb=>if(Bj b 0)then
some (([]:LX),b)
else
some (a,0)
abbrev Vr:=Option (LX×Int)
def Js:Vr:=if(Bj z 0)then
some (([]:LX),z)
else(
(
(Rm d e j P).bind λc=>(BE d e c).bind λ(i,l)=>some (i,l)))
def Jg:=Js
def Uu(j2:Jz3 (LX->LU->Vr))(a b:Int)(g:LX)(p:Int)(k:LB):Vr:=(Oq a b p).bind λy=>if(Bj y 0)then
some (([]:LX),2)
else(Rn k).bind λaa=>if(Bj aa 0)then(Rn k).bind λab=>some (([]:LX),ab)
else(Bp k 0 (Am (Ac k) 4)).bind λac=>(GD a p ac).bind λ(h,f)=>j2 f a b g h
def Fl:=Uu Jg
def BA:Bdu:=if(geq z 24)then(Da ([(Ad (Hl d 256):UInt8),(Ad (Hl (Ci d 256) 256):UInt8)]:LB) ([(Ad (Ci d 65536):UInt8)]:LB)).bind λc=>some c
else
some ([(Ad (Hl d 256):UInt8),(Ad (Hl (Ci d 256) 256):UInt8)]:LB)
def Mt:=BA
def Ab2(j2:Bfp)(a:Int)(f:Int32):Bdu:=if(geq a 8)then
some ([(Ad (Ae (Ad f:Int) 128):UInt8)]:LB)
else
if(Cw (Ad f:Int) 0)then(Xg a).bind λh=>j2 a (Ae (Ad f:Int) (Br 2 h))
else
j2 a (Ad f:Int)
def LA:=Ab2 Mt
abbrev Gw:=Option (LB×Int)
def Az0:Gw:=some (c,0)
def Az3:=Az0
def Vy(j6:LB->Gw)(Rs:Int->LB->Gw)(b:Int)(a:LX)(g:Int)(f:LB):Gw:=if(Cw g (Ac a))then(Aj a g).bind λh=>(LA b h).bind λk=>(Da f k).bind λm=>Rs (Ae g 1) m
else
j6 f
def Kw:Nat->Int->LB->Gw
|0,_,_=>none
|c+1,d,e=>Vy Az3 (Kw c) z j d e
def Aza b a:=Kw b a As
def KP(j4:Int->LX->Int->LB->Gw)(b:Int)(a:LX):Gw:=(Bo b a).bind λn=>if(Bj n 0)then(Bo b a).bind λo=>some (([]:LB),o)
else
j4 b a 0 ([]:LB)
def Tu:=KP Aza
abbrev Vw:=Option (LB×Int)
def Hc(o:LX)(f:Int)(p g:LB)(h k a m n:Int)(u:LI)(b:Int)(v:LB)(w:Bool)(y:Int):Vw:=if(Bj f 0)then
some (([]:LB),f)
else(Tu a o).bind λ(ac,ai)=>some (ac,0)
def Hh:=Hc
def Hg(j2:LX->Int->LB->LB->Jz5 (LI->Int->LB->Bool->Int->Vw))(p g:LB)(h k a m n:Int)(u:LI)(b:Int)(v:LB)(w:Bool)(y:Int):Vw:=(Aj u b).bind λaa=>if(Cw (Ac g) aa)then
some (([]:LB),(-1:Int))
else(Wn p).bind λ(ad,aj)=>(Bp g 0 aa).bind λae=>(Ik h k a m n).bind λ(af,ag)=>(Gu h k a m n).bind λab=>(Aj ab b).bind λ_=>(Aj ab b).bind λah=>(Fl af ag ad ah ae).bind λ(o,f)=>j2 o f p g h k a m n u b v w y
def Dc:=Hg Hh
abbrev Mp:=Option (LB×LB×Int×Int×Int×Int×Int×LI×Int×LB×Bool×Int×Int)
def Bc:Mp:=if(geq (Ac F) 0)then(Fm D z d e A C c).bind λ(j,t,E)=>if(Bj E 0)then
some (c,D,z,d,e,A,C,F,G,i,B,l,E)
else(Bp D j (Ac D)).bind λI=>some (c,I,z,d,e,A,C,t,G,i,B,l,0)
else
if(geq G (Ac F))then
if(Ef (Ac D) 4000)then
some (c,D,z,d,e,A,C,F,G,i,B,l,38)
else
some (c,D,z,d,e,A,C,F,G,i,B,l,(-1:Int))
else(Dc c D z d e A C F G i B l).bind λ(J,L)=>if(Bj L 0)then
some (c,D,z,d,e,A,C,F,G,i,B,l,L)
else(Da ([]:LB) i).bind λM=>(Da M J).bind λN=>(
(
(
(Aj F G).bind λO=>(
(Bp D O (Ac D)).bind λP=>some (c,P,z,d,e,A,C,F,(Ae G 1),N,B,l,0)))))
def Ca:=Bc
def Gq:Mp:=(Ek z d e A C c).bind λj=>some (c,D,z,d,e,A,C,F,G,i,B,l,j)
def Gs:=Gq
abbrev Beg:=LB->LB->Jz5 (LI->Int->LB->Bool->Int->Mp)
def By(j3:Beg)(j4:Beg)(g a:LB)(m n o p u:Int)(b:LI)(f:Int)(v:LB)(h:Bool)(k:Int):Mp:=if(geq m 0)then(Ye a).bind λ(ac,ae,w,af,ag,y,ai)=>if(Bj ai 0)then
some (g,a,m,n,o,p,u,b,f,v,h,k,ai)
else(
(Bp a ac (Ac a)).bind λad=>(
j3 g ad ae w af ag y b f v h k))
else
j4 g a m n o p u b f v h k
def Ah:=By Gs Ca
def Wh:Bdn:=(Ah c D z d e A C F G i B l).bind λ(j,t,E,I,J,L,M,N,O,P,R,T,U)=>some (geq U (-1:Int))
def Cr:=Wh
abbrev Bdz:=LB->LB->Jz5 (LI->Int->LB->Bool->Int->Option Bool)
def Pd(j4:Bdz)(o p:LB)(b f g h k:Int)(m:LI)(a:Int)(n:LB)(u:Bool)(v:Int):Bdn:=if(geq (Ac m) 0)then
if((Bj a 0)||(Ef (Ac n) 0))then
some false
else
j4 o p b f g h k m a n u v
else(Ig m).bind λy=>if(Bj y 0)then
if((true||(Cw a 0))||(Ef a (Ac m)))then
some false
else(Xb b f g h k a).bind λaa=>if(Ef (Ac n) aa)then
some false
else
j4 o p b f g h k m a n u v
else(Gu b f g h k).bind λab=>if(((Bj (Ac m) (Ac ab))||(Cw a 0))||(Ef a (Ac m)))then
some false
else(Xb b f g h k a).bind λac=>if(Ef (Ac n) ac)then
some false
else
j4 o p b f g h k m a n u v
def Pf:=Pd Cr
def We(j4:Bdz)(j3:Bdz)(o p:LB)(b f g h k:Int)(m:LI)(a:Int)(n:LB)(u:Bool)(v:Int):Bdn:=if((geq b 0)&&((geq f 0)&&((geq g 0)&&((geq h 0)&&((geq k 0)&&true)))))then
if(((Ef (Ac m) 0)||(Bj a 0))||(Ef (Ac n) 0))then
some false
else
j4 o p b f g h k m a n u v
else(Ll b f g h k).bind λad=>if(Bj ad 0)then
some false
else(Ek b f g h k o).bind λae=>if(Bj ae 0)then
some false
else
j3 o p b f g h k m a n u v
def Lk:=We Cr Pf
def Yd:Bdn:=some (((((((geq z 4)||(geq z 12))||(geq z 16))||(geq z 22))||(geq z 24))||(geq z 26))||(geq z 38))
def Dj:Bdk:=if(Ef (Ac c) 64)then
some 8
else
if((geq l 0)&&(!B))then(Lk c D z d e A C F G i B l).bind λj=>if(!j)then
some 8
else
some 0
else
if((geq (Ac D) 0)&&(geq (Ac F) 0))then
if((!(((geq z 0)&&((geq d 0)&&((geq e 0)&&((geq A 0)&&((geq C 0)&&true)))))&&(geq G 0)))||(Ef (Ac i) 12000))then
some 8
else
if(Bj l 0)then
if B then
some 8
else(Yd l).bind λt=>if(!t)then
some 8
else
some 0
else
some 0
else
if((!(false&&(geq G 0)))||(Ef (Ac i) 12000))then
some 8
else
if(Bj l 0)then
if B then
some 8
else(Yd l).bind λE=>if(!E)then
some 8
else
some 0
else
some 0
abbrev AN:=Option (LB×LB×Int×Int×Int×Int×Int×LI×Int×LB×Bool×Int)
def Qf:AN:=(Da ([]:LI) F).bind λi=>some (c,V,z,d,e,A,C,i,G,l7,B,l)
def Qh:=Qf
def Qd(j2:LB->Jz5 (LI->Int->Bool->Int->LB->LB->AN))(f w:LB)(g h k m n:Int)(o:LI)(p:Int)(y:LB)(u:Bool)(v:Int):AN:=(
(
(
(Da ([]:LB) w).bind λa=>(
(Da ([]:LB) y).bind λb=>j2 f g h k m n o p u v a b))))
def Ma:=Qd Qh
def Qo(f g:LB)(h k m n o:Int)(p:LI)(u:Int)(v:LB)(b:Bool)(a:Int):Bdk:=if(Bj a 0)then
some a
else
if b then
some 36
else
some 0
def Xf(a m:LB)(n o p u v:Int)(w:LI)(y:Int)(b:LB)(aa:Bool)(ab:Int):Bed:=(
(
(Da ([]:LB) b).bind λf=>some (a,([]:LB),0,0,0,0,0,([]:LI),0,f,false,0)))
def My:Bds:=(Xf c D z d e A C F G i B l).bind λ(j,t,E,I,J,L,M,N,O,P,R,T)=>some (j,t,E,I,J,L,M,N,O,P,R,U,U)
abbrev Mv:=Option (LB×LB×Int×Int×Int×Int×Int×LI×Int×LB×Bool×Int×Int)
abbrev Beh:=LB->LB->Jz5 (LI->Int->LB->Bool->Int->Mv)
def Bz(bk3:Beh)(a b:LB)(f g h k m:Int)(n:LI)(o:Int)(p:LB)(u:Bool)(v:Int):Mv:=(Ah a b f g h k m n o p u v).bind λ(bb,bc,bd,be,bf,bg,bh,bi,bj,bk,bl,bm,w)=>if(geq w (-1:Int))then(Ma a b f g h k m n o p u v).bind λ(bn,bp,bq,br,bs,bt,bu,bv,bw,bx,bz,da)=>some (bn,bp,bq,br,bs,bt,bu,bv,bw,bx,bz,da,0)
else
if(Bj w 0)then(My a b f g h k m n o p u v w).bind λ(db,dc,dd,de,df,dg,dh,di,dj,dk,dl,dm,dn)=>some (db,dc,dd,de,df,dg,dh,di,dj,dk,dl,dm,dn)
else
bk3 bb bc bd be bf bg bh bi bj bk bl bm
def Az:Nat->LB->LB->Jz5 (LI->Int->LB->Bool->Int->Mv)
|0,_,_,_,_,_,_,_,_,_,_,_,_=>none
|q+1,a,b,f,g,h,k,m,n,o,p,u,v=>Bz (Az q) a b f g h k m n o p u v
def Azp:=Az As
def Qp(j3:Beh)(al am:LB)(an ao ap aq ar:Int)(au:LI)(av:Int)(aw:LB)(ax:Bool)(ay:Int)(dp:LB):Mv:=(Dj al am an ao ap aq ar au av aw ax ay).bind λaz=>if(Bj az 0)then
some (([]:LB),([]:LB),0,0,0,0,0,([]:LI),0,([]:LB),false,0,az)
else(Ma al am an ao ap aq ar au av aw ax ay).bind λ(y,aa,ab,ac,ad,ae,af,ag,ah,ai,aj,ak)=>(Qo y aa ab ac ad ae af ag ah ai aj ak).bind λba=>if(Bj ba 0)then
some (y,aa,ab,ac,ad,ae,af,ag,ah,ai,aj,ak,ba)
else(Da aa dp).bind λdq=>j3 y dq ab ac ad ae af ag ah ai aj ak
def Jh:=Qp Azp
abbrev Ho:=Option (Int×Int)
def Yr:Ho:=if(Cw (Ac c) J)then
some (0,24)
else
if(i==V)then(Bp c (Am (Ac c) J) (Ae (Am (Ac c) J) 32)).bind λe=>(Wr z d).bind λj=>if(e !=j)then
some (0,12)
else
some (J,0)
else
some (J,0)
def Ym:=Yr
def Xo(j6:LB->Int->Int->LB->LB->Int->Ho)(a:LB)(f g:Int)(b h:LB):Ho:=if(b==h)then
j6 a f g b h (Ae (Ae 32 f) 32)
else
j6 a f g b h (Ae 32 f)
def Yc:=Xo Ym
def OY(j5:LB->Int->Int->LB->LB->Ho)(a:LB):Ho:=(Bp a (Am (Ac a) 32) (Ac a)).bind λb=>(Wj b).bind λ(f,g,n)=>if(!n)then
some (0,12)
else(Mf f g true).bind λh=>(
if(!(b==h))then(Mf f g false).bind λm=>if(b !=m)then
some (0,12)
else
j5 a f g b h
else
j5 a f g b h)
def PB:=OY Yc
def NH(j4:LB->Ho)(a:LB):Ho:=if(Cw (Ac a) 32)then
some (0,6)
else(Bp a (Am (Ac a) 32) (Ae (Am (Ac a) 32) 8)).bind λu=>if(u !=([65,80,69,84,65,71,69,88]:LB))then
some (0,6)
else
j4 a
def GZ:=NH PB
abbrev Fw:=Option (Int×Int)
def Ayh:Fw:=some (z,0)
def Aye:=Ayh
def JT(j6:Int->Fw)(Rs:LB->Int->Fw)(b:LB)(a:Int):Fw:=if(Ef (Ac b) 0)then(GZ b).bind λ(g,h)=>if(Bj h 0)then
some (0,38)
else(Bp b 0 (Am (Ac b) g)).bind λk=>Rs k (Ae a 1)
else
j6 a
def Ng:Nat->LB->Int->Fw
|0,_,_=>none
|q+1,b,a=>JT Aye (Ng q) b a
def Ayl:=Ng As
def GG(j4:LB->Int->Fw)(f:LB):Fw:=if(Ef (Ac f) 4000)then
some (0,38)
else
j4 f 0
def AS:=GG Ayl
def Rj(p a:LB)(g u v w y:Int)(b:LI)(h:Int)(aa:LB)(ab:Bool)(ac:Int):Bdk:=if(geq g 0)then(Us a).bind λ(k,f)=>if(Bj f 0)then
some f
else(Bp a k (Ac a)).bind λm=>(Xc m).bind λ(ad,ae,af,ag,ah,n)=>some n
else
if((geq (Ac b) 0)||(Cw h (Ac b)))then
some 24
else(AS a).bind λ(ai,o)=>if(Bj o 0)then
some 38
else
some 0
def Azh:Bdk:=some z
def Az6:=Azh
def Ayz(j6:Bes)(Rs:Be3)(b h k m n o f:Int)(g:LI)(a p:Int):Bdk:=if(Cw p b)then(Aj g p).bind λu=>Rs (Ae a u) (Ae p 1)
else
j6 a
def KR:Nat->Int->Int->Option Int
|0,_,_=>none
|c+1,i,j=>Ayz Az6 (KR c) z d e A C G l Bc5 i j
def Ays b h k m n o f g:=KR b h k m n o f g As
def Az5(j4:Jz7 (LI->Int->Int->Option Int))(h k m n o f:Int)(g:LI)(b:Int):Bdk:=j4 b h k m n o f g f 0
def Bag:=Az5 Ays
abbrev DY:=Option (LB×Int)
def Bab(u:LX)(n o g f h k p:Int)(b:LI):DY:=if(Bj n 0)then
some (([]:LB),n)
else(Tu f u).bind λ(af,ai)=>some (af,0)
def Ba6:=Bab
def Ba5(j2:LX->Jz7 (LI->DY))(v y:LB)(o g f h k p:Int)(b:LI)(a:Int):DY:=(Bag o g f h k p b a).bind λm=>(Aj b a).bind λaa=>if(Cw (Am (Ac v) m) aa)then
some (([]:LB),24)
else(Wn y).bind λ(ab,ag)=>(Aj b a).bind λac=>(Bp v m (Ae m ac)).bind λad=>(
(Om h k).bind λw=>(Aj w a).bind λ_=>(Aj w a).bind λae=>(Fl g f ab ae ad).bind λ(u,n)=>j2 u n o g f h k p b)
def Bba:=Ba5 Ba6
end Go.Pl
