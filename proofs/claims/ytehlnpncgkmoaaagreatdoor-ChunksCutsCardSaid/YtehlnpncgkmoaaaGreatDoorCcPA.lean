/- A part of a proof (see the text that ends in Proof). No conditions. -/
import Derived.Test.YtehlnpncgkmoaaaGreatDoorCcBA
set_option linter.unusedVariables false
namespace Go.Pl
open Go Go.Lv
abbrev LB:=List UInt8
abbrev LI:=List Int
abbrev LX:=List Int32
abbrev LU:=List UInt32
abbrev LQ:=List UInt64
variable(O:Int->Int->Int->Int->LB->LB->LX-> (List LB)->LB->Bool->Int->Option Bool)(x c i I:Int)(z s:LB)(e:LX)(q:List LB)(C:LB)(r:Bool)(d l G V X:Int)(A:LI)(Y:Int)(D:LB)(R:Bool)(T y8:Int)(Asv:List LB)(o8 As8:LB)(As9 Ata Atb:Int)(Atc:LB)(Atd:Bool)(Ate:Int)(Atf:LB)(B:LX)(Asq:LB)(Atg:Bool)(x9:Int)(Ath:LB)(Z:List LB)(o9:LB)(j:UInt64)(E:UInt32)(M:UInt64)(p9:LB)(L Asm y9:Int)(y5 Ash:UInt64)(Asr Asw:LB)(r9:UInt64->Option UInt64)(w9:UInt64->Int->Option UInt64)(Asx:Int)(Asn:LB)(Ati:Int)(l5:UInt64)(l7:Int)(t:Int32)(J:Int)(P U:LX)(p8:Int32)(Asi:LX->Option (LX))(q9:Int->LX->Option (LX))(l8:LX)(N Asy:Int)(l6:LX)(F:LU)(l9 o7:Int)(y7:LX)(As4:Int)(Atj:UInt64)(Aso:Int)(Asz:LX)(As0:UInt8)(As5:UInt64)(Ass:Int)(As1:Int->Int->Option Int)(As2:Int->Option Int)(Asj:LI)(Asu Asl:Int)(Atk:Int->Int->Option Int)(Atl As6 As7:Int)(Atm:LQ)(As3:Bool)(Asp:List (Int×Int×UInt64×UInt64×Unit))
def AZ:Option Bool:=
some (((Em (Ac z) 400)&&(sV (Ac z) 100000))||(Em (Ac z) 100100))
abbrev Ko:=Option (LI×Int)
def lN:Ko:=
some (A,0)
def QT:=lN
def Vz(j6:LI->Ko)(Nf:Int->Int->LI->Ko)(b:Int)(g:UInt64)(h a:Int)(f:LI):Ko:=
if(Cj a b)then
if(geq a (Ag b 1))then
(Bx f ([(Ag (Ae a 1) h)]:LI)).bind λk=>
Nf (Ae a 1) (Ae a 1) k
else
(Hq (Jz (Ed a 64) 0)).bind λ_=>
if(geq (Eb (Bu g (GI.toZ (Ed a 64)).toNat) 1) 1)then
(Bx f ([(Ag (Ae a 1) h)]:LI)).bind λm=>
Nf (Ae a 1) (Ae a 1) m
else
Nf h (Ae a 1) f
else
j6 f
def Mb:Nat->Int->Int->LI->Ko
|0,_,_,_=>none
|z+1,c,d,e=>Vz QT (Mb z) x j c d e
def SU b g:=Mb b g Aq
def Vn(j4:Int->UInt64->Int->Int->LI->Ko)(b:Int)(g:UInt64):Ko:=
if((Cj b 0)||(Em b 100000))then
some (([]:LI),2)
else
j4 b g 0 0 ([]:LI)
def Lt:=Vn SU
def IK:Option Bool:=
some (geq (Te j 2) 1)
def Wi:=IK
def Wk(j6:UInt64->Option Bool)(Nf:UInt64->Int->Option Bool)(b:Int)(a:UInt64)(f:Int):Option Bool:=
if(Cj f (Ed b 64))then
Nf (Ba a 2) (Ae f 1)
else
j6 a
def Kv:Nat->UInt64->Int->Option Bool
|0,_,_=>none
|z+1,c,d=>Wk Wi (Kv z) x c d
def cJ b:=Kv b Aq
def IZ(j4:Int->UInt64->Int->Option Bool)(g:UInt64)(b:Int):Option Bool:=
j4 b g 0
def EM:=IZ cJ
def ZY:Option (LI):=
some A
def FX:=ZY
def GY(bk7:Int->Int->LI->Option (LI))(f:Int)(g:UInt64)(h a:Int)(b:LI)(k:Bool):Option (LI):=
if k then
(Bx b ([(Ag (Ae a 1) h)]:LI)).bind λm=>
bk7 (Ae a 1) (Ae a 1) m
else
bk7 h (Ae a 1) b
def Nw bk7:=GY bk7
def Ph(j10:Int->Int->LI->Bool->Option (LI))(j12:LI->Option (LI))(f:Int)(g:UInt64)(h a:Int)(b:LI):Option (LI):=
if(Cj a f)then
if(geq a (Ag f 1))then
j10 h a b true
else
(EM g a).bind λn=>
j10 h a b n
else
j12 b
def Gc:Nat->Int->Int->LI->Option (LI)
|0,_,_,_=>none
|z+1,c,d,e=>Ph (Nw (Gc z) x j) FX x j c d e
def JC f g:=Gc f g Aq
def Wp(j7:Int->UInt64->Int->Int->LI->Option (LI))(f:Int)(g:UInt64):Option (LI):=
j7 f g 0 0 ([]:LI)
def Ql:=Wp JC
def Kx:Option (LI×Int):=
if((Cj x 0)||(Em x 100000))then
some (([]:LI),2)
else
(Ql x j).bind λz=>
some (z,0)
def Nn:Option (Int×Int):=
if((Cj x 1)||(Em x 1048576))then
some (0,2)
else
some ((iQ 1 (Ba (Bf 256 x) 245)),0)
abbrev OY:=Option (Int32×Int32×Int)
def KJ:OY:=
if r then
(Hq (Jz (Ag x 1) 0)).bind λ_=>
some ((yL (De (1:Int32) (GI.toZ (Ag x 1)).toNat)),(Ag (De (1:Int32) (GI.toZ (Ag x 1)).toNat) 1),0)
else
some (0,0,2)
def MO:=KJ
def LH(j2:Int->Bool->OY)(a:Int):OY:=
if(geq a 8)then
j2 a (geq a 8)
else
if(geq a 16)then
j2 a (geq a 16)
else
j2 a (geq a 24)
def Lw:=LH MO
def Lu:Option Int:=
(Lw c).bind λ(z,d,e)=>
if(((Br e 0)||(Cj x 1))||(Em x 6))then
some 2
else
some 0
def Oq:Option (Int×Bool):=
(Nn i).bind λ(d,e)=>
(Lu x c).bind λj=>
some (d,(((geq j 0)&&(geq e 0))&&(sV (Ac z) 64)))
def Zl:Option (Int×Int×Int×LB×LB×LX×(List LB)×LB×Bool×Int×Int):=
(Oq x c i z).bind λ(d,e)=>
if(!e)then
some (0,0,0,([]:LB),([]:LB),([]:LX),([]:List LB),([]:LB),false,0,2)
else
some (x,c,i,z,([]:LB),([]:LX),([]:List LB),([]:LB),false,0,0)
def Qf:Option Int:=
some (Ba (Bf x c) 8)
def tV:Option Int:=
some 0
def aJ:=tV
def AK(j6:Option Int)(Nf:Int->Option Int)(b f:Int32)(a:LX)(g:Int):Option Int:=
if(Cj g (Ac a))then
(Ah a g).bind λh=>
if((Cj h b)||(Em h f))then
some 16
else
Nf (Ae g 1)
else
j6
def Qb:Nat->Int->Option Int
|0,_=>none
|x+1,z=>AK aJ (Qb x) t p8 l8 z
def qI b f a:=Qb b f a Aq
def LV(j4:Int32->Int32->LX->Int->Option Int)(m:Int)(a:LX):Option Int:=
(Lw m).bind λ(b,f,k)=>
if(Br k 0)then
some k
else
if(Em (Ac a) 4000)then
some 4
else
j4 b f a 0
def Rc:=LV qI
def Om(a h k:Int)(m n:LB)(b:LX)(f:List LB)(o:LB)(p:Bool)(u g:Int):Option Int:=
(Hq (Br a 0)).bind λ_=>
some (Ae (Bf (Ac f) g) (Ba (Ac b) a))
def Og(a g h:Int)(k m:LB)(n:LX)(o:List LB)(p:LB)(u:Bool)(v b f:Int):Option Bool:=
some ((sV b 1000)&&(sV (Bf f a) 4000))
def IU:Option Bool:=
some (!r)
def IV:=IU
def IH(j24:Bool->Option Bool)(y:Bool):Option Bool:=
j24 y
def Wy:=IH IV
def dA(j23:Bool->Option Bool):Option Bool:=
j23 (Jz (-1:Int) (0:Int))
def IL:=dA Wy
def Wr(Ef:Int->Option Bool)(b:List LB)(f a h:Int):Option Bool:=
Ef (Ae h 1)
def Wm Ef:=Wr Ef
def Wx(j23:Bool->Option Bool)(j20:Int->Option Bool)(b:List LB)(f a h:Int)(w:LB):Option Bool:=
if((Cj (Ac w) 5)||(Em (Ac w) (Ae (Ba (Ae (Bf (Bf 81 f) a) 7) 8) 4)))then
j23 (Jz h 0)
else
j20 h
def Ox Ef b f a:=Wx Wy (Wm Ef b f a) b f a
def Il(j19:Int->LB->Option Bool)(j22:Option Bool)(b:List LB)(f a h:Int):Option Bool:=
if(Cj h (Ac b))then
(Ah b h).bind λw=>
j19 h w
else
j22
def Dl:Nat->Int->Option Bool
|0,_=>none
|x+1,z=>Il (Ox (Dl x) q d l) IL q d l z
def Oz b f a:=Dl b f a Aq
def Ks(j16:(List LB)->Int->Int->Int->Option Bool)(f a k o:Int)(p m:LB)(g:LX)(b:List LB)(n:LB)(u:Bool)(v:Int):Option Bool:=
j16 b f a 0
def Pm:=Ks Oz
def Ku:Option Bool:=
(Om c i I z s e q C r d x).bind λj=>
(Og c i I z s e q C r d l j).bind λt=>
if(!t)then
some false
else
O x c i I z s e q C r d
def Kw:=Ku Pm
def Pe(j14:Int->Int->Int->Int->LB->LB->LX-> (List LB)->LB->Bool->Int->Int->Option Bool)(f a k o:Int)(p m:LB)(g:LX)(b:List LB)(n:LB)(u:Bool)(v:Int):Option Bool:=
(Rc k g).bind λad=>
if(Br ad 0)then
some false
else
if(Em (Ac g) 0)then
j14 f a k o p m g b n u v (Ae (Ac b) 1)
else
j14 f a k o p m g b n u v (Ac b)
def Pb:=Pe Kw
def Rk:Option Bool:=
if(Em (Ac C) 0)then
if true then
if true then
if(true||(Em (Ac q) 1000))then
some false
else
O l x c i z s e q C r d
else
(Hq (Br x 0)).bind λ_=>
if((Jz (Ba (Ac e) x) l)||(Em (Ac q) 1000))then
some false
else
O l x c i z s e q C r d
else
(Hq (Br x 0)).bind λ_=>
if(Br (Ed (Ac e) x) 0)then
if(true||(Em (Ac q) 1000))then
some false
else
O l x c i z s e q C r d
else
(Hq (Br x 0)).bind λ_=>
if((Jz (Ba (Ac e) x) l)||(Em (Ac q) 1000))then
some false
else
O l x c i z s e q C r d
else
(Qf x c).bind λj=>
if(Jz (Ac s) j)then
if true then
if(true||(Em (Ac q) 1000))then
some false
else
O l x c i z s e q C r d
else
(Hq (Br x 0)).bind λ_=>
if((Jz (Ba (Ac e) x) l)||(Em (Ac q) 1000))then
some false
else
O l x c i z s e q C r d
else
(Hq (Br x 0)).bind λ_=>
if(Br (Ed (Ac e) x) 0)then
if(true||(Em (Ac q) 1000))then
some false
else
O l x c i z s e q C r d
else
(Hq (Br x 0)).bind λ_=>
if((Jz (Ba (Ac e) x) l)||(Em (Ac q) 1000))then
some false
else
O l x c i z s e q C r d
def Ni:=Rk Pb
def Jk:Option Int:=
(Oq x c i z).bind λ(j,l)=>
if(!l)then
some 8
else
if(Br d 0)then
if(!(((((geq d 18)||(geq d 24))&&(!r))&&(geq (Ae (Ae (Ac s) (Ac e)) (Ac q)) 0))&&(geq (Ac C) 0)))then
some 8
else
some 0
else
if r then
if(!((geq (Ae (Ae (Ac s) (Ac e)) (Ac q)) 0)&&(sV (Ac C) 100000)))then
some 8
else
some 0
else
(Ni x c i z s e q C r d j).bind λt=>
if(!t)then
some 8
else
some 0
def Bd:Option (LB):=
(
(Bx ([]:LB) z).bind λx=>
some x)
def Cn:Option (LX):=
(
(Bx ([]:LX) e).bind λx=>
some x)
abbrev Ie:=Option (Int×Int×Int×LB×LB×LX×(List LB)×LB×Bool×Int)
def oO(b f g:Int)(h:LB)(a:List LB)(k:Bool)(m:Int)(u:List LB)(n:LB)(o:LX)(p:LB):Ie:=
some (b,f,g,h,n,o,u,p,k,m)
def VT:=oO
def Yb(j8:Int->Int->Int->LB-> (List LB)->Bool->Int-> (List LB)->LB->LX->LB->Ie)(dW:Int-> (List LB)->Ie)(w a:List LB)(b f g:Int)(h:LB)(k:Bool)(m:Int)(n:LB)(o:LX)(p:LB)(v:Int)(u:List LB):Ie:=
if(Cj v (Ac (VZ w a)))then
(Ah u v).bind λ_=>
(Ah u v).bind λy=>
(Bd y).bind λaa=>
(Ah u v).bind λ_=>
(Ka u v aa).bind λab=>
dW (Ae v 1) ab
else
j8 b f g h a k m u n o p
def Nk:Nat->Int-> (List LB)->Ie
|0,_,_=>none
|x+1,z,c=>Yb VT (Nk x) q Asv As9 Ata Atb Atc Atd Ate Atf B Asq z c
def oF w a b f g h k m n o p:=Nk w a b f g h k m n o p Aq
def HZ(j6:(List LB)-> (List LB)->Int->Int->Int->LB->Bool->Int->LB->LX->LB->Int-> (List LB)->Ie)(b f g:Int)(h:LB)(a:List LB)(k:Bool)(m:Int)(n:LB)(o:LX)(p:LB):Ie:=
(mkI (Ac a) ([]:LB)).bind λw=>
(Hq (geq (Ac a) (Ac a))).bind λ_=>
j6 w a b f g h k m n o p 0 (VZ w a)
def VU:=HZ oF
def HU(j5:Int->Int->Int->LB-> (List LB)->Bool->Int->LB->LX->LB->Ie)(b f g:Int)(h ac:LB)(ad:LX)(a:List LB)(ae:LB)(k:Bool)(m:Int):Ie:=
(Bd ac).bind λn=>
(Cn ad).bind λo=>
(Bd ae).bind λp=>
j5 b f g h a k m n o p
def BT:=HU VU
abbrev HV:=Option (Int×Int×Int×LB×LB×LX×(List LB)×LB×Bool×Int×Int×Int)
def PY:HV:=
(BT c i I z s e q C r d).bind λ(j,t,A,B,D,E,F,G,J,L)=>
some (j,t,A,B,D,E,F,G,J,L,x,l)
def TA:=PY
def PN(j2:Int->Int->Int->Int->LB->LB->LX-> (List LB)->LB->Bool->Int->Int->HV)(g h b:Int)(k m:LB)(n:LX)(o:List LB)(p:LB)(f:Bool)(a:Int):HV:=
(Jk g h b k m n o p f a).bind λv=>
if(Br v 0)then
some (0,0,0,([]:LB),([]:LB),([]:LX),([]:List LB),([]:LB),false,0,0,v)
else
(Nn b).bind λ(u,aj)=>
if(Br a 0)then
j2 u g h b k m n o p f a a
else
if f then
j2 u g h b k m n o p f a 36
else
j2 u g h b k m n o p f a aj
def Xr:=PN TA
abbrev Bw:=Option (LX×Int)
def jI:Bw:=
some (e,0)
def NO:=jI
def Uf(Ef:Int->LX->Bw)(a:Int)(b:LB)(f:Int)(o:LX):Bw:=
Ef (Ae f (Ba a 8)) o
def Hx Ef:=Uf Ef
def Zy(j28:Int->LX->Bw)(a:Int)(b:LB)(f:Int)(k:Int32)(g:LX):Bw:=
(Hq (Jz (Ag 32 a) 0)).bind λ_=>
(Hq (Jz (Ag 32 a) 0)).bind λ_=>
(Bx g ([(Bu (De k (GI.toZ (Ag 32 a)).toNat) (GI.toZ (Ag 32 a)).toNat)]:LX)).bind λp=>
j28 f p
def Ui Ef a b:=Zy (Hx Ef a b) a b
def En(j27:Int->Int32->LX->Bw)(Alg:Int32->Int->Bw)(a:Int)(b:LB)(f:Int)(g:LX)(k:Int32)(h:Int):Bw:=
if(Cj h (Ba a 8))then
(Ah b (Ae f h)).bind λm=>
(Hq (Jz (Bf 8 h) 0)).bind λ_=>
Alg (B0 k (De (Ad m:Int32) (GI.toZ (Bf 8 h)).toNat)) (Ae h 1)
else
j27 f k g
def Ds(Ef:Int->LX->Bw)(a:Int)(b:LB)(f:Int)(g:LX):Nat->Int32->Int->Bw
|0,_,_=>none
|q+1,k,h=>En (Ui Ef a b) (Ds Ef a b f g q) a b f g k h
def Kj Ef a b f g:=Ds Ef a b f g Aq
def Et(j28:Int->LX->Bw)(j25:Int->LX->Int32->Int->Bw)(j30:LX->Bw)(a:Int)(b:LB)(f:Int)(g:LX):Bw:=
if(Cj f (Ac b))then
if(geq a 8)then
(Ah b f).bind λm=>
(Bx g ([(Ag (Ad m:Int32) 128)]:LX)).bind λu=>
j28 f u
else
j25 f g 0 0
else
j30 g
def Dd:Nat->Int->LX->Bw
|0,_,_=>none
|c+1,d,e=>Et (Hx (Dd c) x z) (Kj (Dd c) x z) NO x z d e
def NY a b:=Dd a b Aq
def ER(j16:Int->LB->Int->LX->Bw)(a:Int)(b:LB):Bw:=
(Lw a).bind λ(v,w,n)=>
if(Br n 0)then
some (([]:LX),n)
else
(Hq (Br (Ba a 8) 0)).bind λ_=>
if(Br (Ed (Ac b) (Ba a 8)) 0)then
some (([]:LX),12)
else
(Hq (Br (Ba a 8) 0)).bind λ_=>
if(Em (Ba (Ac b) (Ba a 8)) 4000)then
some (([]:LX),4)
else
j16 a b 0 ([]:LX)
def FF:=ER NY
abbrev Bp:=Option (UInt64×Int)
def ZU:Bp:=
some (j,0)
def ZW:=ZU
def YI(j30:UInt64->Bp)(h b:UInt64)(a:LB)(f:LQ):Bp:=
j30 h
def LR:=YI ZW
def BD(j29:UInt64->UInt64->LB->LQ->Bp)(VM:UInt64->Int->Bp)(a:LB)(b:UInt64)(f:LQ)(h:UInt64)(m:Int):Bp:=
if(Cj m (Ac a))then
(Ah a m).bind λp=>
Option.bind (Ah f (GI.toZ (Ww (Ad (Bu h (GI.toZ (56:UInt64)).toNat):UInt8) p))) λ_=>
Option.bind (Ah f (GI.toZ (Ww (Ad (Bu h (GI.toZ (56:UInt64)).toNat):UInt8) p))) λu=>
VM (Ww (De h (GI.toZ (8:UInt64)).toNat) u) (Ae m 1)
else
j29 h b a f
def Qg:Nat->UInt64->Int->Bp
|0,_,_=>none
|x+1,c,d=>BD LR (Qg x) z j Atm c d
def KK a b f:=Qg a b f Aq
def KA(j27:LB->UInt64->LQ->UInt64->Int->Bp)(b:UInt64)(a:LB)(f:LQ):Bp:=
j27 a b f b 0
def LJ:=KA KK
def YC(Ef:Int->LQ->Bp)(b:UInt64)(a:LB)(g:Int)(o:LQ):Bp:=
Ef (Ae g 1) o
def YY Ef:=YC Ef
def YQ(j24:Int->LQ->Bp)(b:UInt64)(a:LB)(g:Int)(k:UInt64)(f:LQ):Bp:=
(Ah f g).bind λ_=>
(Ka f g k).bind λo=>
j24 g o
def AT Ef b a:=YQ (YY Ef b a) b a
def AB(j23:Int->UInt64->LQ->Bp)(Alh:UInt64->Int->Bp)(b:UInt64)(a:LB)(g:Int)(f:LQ)(k:UInt64)(n:Int):Bp:=
if(Cj n 8)then
Alh (Ww (De k (GI.toZ (1:UInt64)).toNat) (Bf 4823603603198064275 (Bu k (GI.toZ (63:UInt64)).toNat))) (Ae n 1)
else
j23 g k f
def Qp(Ef:Int->LQ->Bp)(b:UInt64)(a:LB)(g:Int)(f:LQ):Nat->UInt64->Int->Bp
|0,_,_=>none
|q+1,k,n=>AB (AT Ef b a) (Qp Ef b a g f q) b a g f k n
def MP Ef b a g f:=Qp Ef b a g f Aq
def BE(j21:Int->LQ->UInt64->Int->Bp)(j26:UInt64->LB->LQ->Bp)(b:UInt64)(a:LB)(g:Int)(f:LQ):Bp:=
if(Cj g 256)then
j21 g f (De (Ad g:UInt64) (GI.toZ (56:UInt64)).toNat) 0
else
j26 b a f
def Mq:Nat->Int->LQ->Bp
|0,_,_=>none
|x+1,z,c=>BE (MP (Mq x) j p9) LJ j p9 z c
def ZK b a:=Mq b a Aq
def OZ(j16:UInt64->LB->Int->LQ->Bp)(b:UInt64)(a:LB):Bp:=
if(Em (Ac a) 100000)then
some (0,4)
else
j16 b a 0 (List.replicate 256 (0:UInt64))
def UN:=OZ ZK
def QW:Option (UInt64×Int):=
(UN 0 z).bind λ(x,c)=>
some (x,c)
def jr:Option (LX):=
some e
def rG:=jr
def VK:Option (LX):=
if(Cj Aso 8)then
(Hq (Jz (Bf 8 Aso) 0)).bind λ_=>
(Ah Asz Aso).bind λ_=>
(Ka Asz Aso (Ad (Ad (Bu Atj (GI.toZ (Bf 8 Aso)).toNat):Int8):Int32)).bind λx=>
q9 (Ae Aso 1) x
else
Asi Asz
def ES:Nat->Int->LX->Option (LX)
|0,_,_=>none
|x+1,z,c=>VK rG (ES x) j z c
def jw f:=ES f Aq
def tO(j4:UInt64->Int->LX->Option (LX))(f:UInt64):Option (LX):=
j4 f 0 (List.replicate 16 (0:Int32))
def yI:=tO jw
def SK:Option (LX×Int):=
if(Em (Ac z) 64)then
some (([(0:Int32),(0:Int32),(0:Int32),(0:Int32),(0:Int32),(0:Int32),(0:Int32),(0:Int32),(0:Int32),(0:Int32),(0:Int32),(0:Int32),(0:Int32),(0:Int32),(0:Int32),(0:Int32)]:LX),2)
else
(QW z).bind λ(x,c)=>
if(Br c 0)then
some (([(0:Int32),(0:Int32),(0:Int32),(0:Int32),(0:Int32),(0:Int32),(0:Int32),(0:Int32),(0:Int32),(0:Int32),(0:Int32),(0:Int32),(0:Int32),(0:Int32),(0:Int32),(0:Int32)]:LX),c)
else
(yI x).bind λd=>
some (d,0)
def FD:Option Int:=
(Lu x c).bind λz=>
if(Br z 0)then
some z
else
(Rc c e).bind λd=>
if(Br d 0)then
some d
else
if(geq (Ac e) 0)then
some 2
else
(Hq (Br x 0)).bind λ_=>
if(Br (Ed (Ac e) x) 0)then
some 2
else
some 0
def RT:Option Int:=
if((Cj x 1)||(Em x 6))then
some 2
else
if(Em (Ac e) 4000)then
some 4
else
(Hq (Br x 0)).bind λ_=>
if(Br (Ed (Ac e) x) 0)then
some 2
else
some 0
abbrev Io:=Option (LX×Int)
def N9:Io:=
some (e,0)
def mM:=N9
def YK(PK:Int->LX->Io)(b a:Int)(u:LX):Io:=
PK (Ae a b) u
def aO PK:=YK PK
def nX(j20:Int->LX->Io)(b a:Int)(g:LX):Io:=
if(Em (Ag ((Ae a b)-a) 1) 0)then
(Hq (decide (0<= (Ag ((Ae a b)-a) 1)/\ (Ag ((Ae a b)-a) 1)<((Ae a b)-a)))).bind λ_=>
Option.bind (Hq (decide (0<= (Ag (Ag ((Ae a b)-a) 1) 1)/\ (Ag (Ag ((Ae a b)-a) 1) 1)<((Ae a b)-a)))) λ_=>
(Ah g (a+(Ag ((Ae a b)-a) 1))).bind λk=>
(Ah g (a+(Ag (Ag ((Ae a b)-a) 1) 1))).bind λm=>
(Hq (decide (0<= (Ag ((Ae a b)-a) 1)/\ (Ag ((Ae a b)-a) 1)<((Ae a b)-a)))).bind λ_=>
(Ka g (a+(Ag ((Ae a b)-a) 1)) (Ag k (Ba m 2))).bind λn=>
j20 a n
else
j20 a g
def YB PK b:=nX (aO PK b) b
def NA(j19:Int->LX->Io)(Aox:Int->LX->Io)(b a f:Int)(g:LX):Io:=
if(Cj f (Ag ((Ae a b)-a) 1))then
(Hq (decide (0<= (Ae f 1)/\ (Ae f 1)<((Ae a b)-a)))).bind λ_=>
(Hq (decide (0<=f/\f<((Ae a b)-a)))).bind λ_=>
(Ah g (a+(Ae f 1))).bind λk=>
(Ah g (a+f)).bind λm=>
(Hq (decide (0<=f/\f<((Ae a b)-a)))).bind λ_=>
(Ka g (a+f) (Ag k m)).bind λn=>
Aox (Ae f 1) n
else
j19 a g
def Zo(PK:Int->LX->Io)(b a:Int):Nat->Int->LX->Io
|0,_,_=>none
|q+1,f,g=>NA (YB PK b) (Zo PK b a q) b a f g
def mX PK b a:=Zo PK b a Aq
def YG(j17:Int->Int->LX->Io)(j22:LX->Io)(b a:Int)(h:LX):Io:=
if(Cj a (Ac h))then
(pD (Ac h) a (Ae a b)).bind λ_=>
j17 a 0 h
else
j22 h
def Zu:Nat->Int->LX->Io
|0,_,_=>none
|z+1,c,d=>YG (mX (Zu z) x) mM x c d
def mR b:=Zu b Aq
def fM(j12:Int->Int->LX->Io)(b:Int)(o:LX):Io:=
(RT b o).bind λp=>
if(Br p 0)then
some (([]:LX),p)
else
(Cn o).bind λv=>
j12 b 0 v
def pP:=fM mR
abbrev fE:=Option (Int×LX×LX×Int)
def S8:fE:=
if r then
some (10,e,(List.replicate 16 (0:Int32)),0)
else
if(geq x 16)then
some (9,e,(List.replicate 16 (0:Int32)),0)
else
some (0,(List.replicate 16 (0:Int32)),(List.replicate 16 (0:Int32)),2)
def L6:=S8
def P4(j2:Int->LX->Bool->fE)(a:Int)(b:LX):fE:=
if(geq a 8)then
j2 a b (geq a 8)
else
j2 a b (geq a 24)
def jE:=P4 L6
def mG:Option (Int×Int32×Int×LX×LX×Int):=
(jE x e).bind λ(z,c,d,i)=>
if(Br i 0)then
some (0,0,0,(List.replicate 16 (0:Int32)),(List.replicate 16 (0:Int32)),i)
else
some (x,0,z,c,d,0)
def Zf(a:Int)(k:Int32)(b:Int)(f m:LX):Option Int:=
(jE a f).bind λ(g,n,o,h)=>
if((Br h 0)||(Br g b))then
some 8
else
some 0
def ZN:Option (Int×Int):=
if(geq x 8)then
some (4,0)
else
if(geq x 16)then
if(geq x 16)then
some (5,0)
else
some (0,2)
else
if(geq x 24)then
some (5,0)
else
some (0,2)
def NB:Option Int32:=
(Hq (Jz x 0)).bind λ_=>
(Hq (Jz x 0)).bind λ_=>
some (Ad (C1 (Ag (De (Ad t:Int) (GI.toZ x).toNat) (Ad t:Int)) (GI.toZ x).toNat):Int32)
def Zh:Option (Int32×Int):=
(ZN x).bind λ(z,c)=>
if(Br c 0)then
some (0,c)
else
(NB z t).bind λd=>
some (d,0)
def EP(a:Int)(b f:LX):Option Int:=
if((Br a 9)&&(Br a 10))then
some 8
else
some 0
abbrev Sg:=Option (Int32×Int)
def eK(h:Int32)(a:Int)(b f:LX):Sg:=
(Hq (Jz a 0)).bind λ_=>
some ((Bu h (GI.toZ a).toNat),0)
def OO:=eK
def FH(j6:Int32->Int->LX->LX->Sg)(Nf:Int32->Int->Sg)(b:LX)(a:Int)(f:LX)(h:Int32)(g:Int):Sg:=
if(Cj g 16)then
(Ah b g).bind λm=>
(Ah f g).bind λ_=>
(Ah f g).bind λn=>
Nf (Ae h (Bf m n)) (Ae g 1)
else
j6 h a b f
def Tj:Nat->Int32->Int->Sg
|0,_,_=>none
|x+1,z,c=>FH OO (Tj x) e d B z c
def eE b a f:=Tj b a f Aq
def OM(j4:LX->Int->LX->Int32->Int->Sg)(a:Int)(b f:LX):Sg:=
(EP a b f).bind λk=>
if(Br k 0)then
some (0,k)
else
(Hq (Jz (Ag a 1) 0)).bind λ_=>
j4 b a f (De (1:Int32) (GI.toZ (Ag a 1)).toNat) 0
def LK:=OM eE
def QL:Option Int32:=
if(geq x 0)then
some 4
else
if(Cj x 4)then
some 2
else
some 1
abbrev Rf:=Option (Int×LX×LX×Int)
def vO:Rf:=
some (x,e,B,0)
def eF:=vO
def FI(j6:Int->LX->LX->Rf)(Nf:Int->LX->Rf)(h:Int32)(f:LX)(g a:Int)(b:LX):Rf:=
if(Cj a 16)then
(Ah f a).bind λm=>
if(geq m 0)then
Nf (Ae a 1) b
else
if((Cj m 0)==(Cj h 0))then
(Ah b a).bind λ_=>
(Ah b a).bind λo=>
(QL a).bind λp=>
(Ah b a).bind λ_=>
(Ka b a (Ae o p)).bind λu=>
Nf (Ae a 1) u
else
(Ah b a).bind λ_=>
(Ah b a).bind λv=>
(QL a).bind λw=>
(Ah b a).bind λ_=>
(Ka b a (Ag v w)).bind λy=>
Nf (Ae a 1) y
else
j6 g b f
def Th:Nat->Int->LX->Rf
|0,_,_=>none
|x+1,z,c=>FI eF (Th x) t P N z c
def vD h f g:=Th h f g Aq
def OX(j4:Int32->LX->Int->Int->LX->Rf)(g:Int)(k f:LX)(h:Int32):Rf:=
(EP g k f).bind λn=>
if(Br n 0)then
some (0,(List.replicate 16 (0:Int32)),(List.replicate 16 (0:Int32)),n)
else
if(geq h 0)then
some (g,k,f,0)
else
j4 h f g 0 k
def VL:=OX vD
abbrev bC:=Option (Int×LX×LX×Int)
def iH:bC:=
(Ah (HR U 1 ((16:Int)-(1:Int)) (oI U 0 ((16:Int)-(0:Int)))) 0).bind λ_=>
(Ka (HR U 1 ((16:Int)-(1:Int)) (oI U 0 ((16:Int)-(0:Int)))) 0 t).bind λx=>
some (J,P,x,0)
def UG:=iH
def JK(j2:Int32->Int->LX->LX->bC)(b:Int)(f a:LX)(g:Int32):bC:=
(EP b f a).bind λh=>
if(Br h 0)then
some (0,(List.replicate 16 (0:Int32)),(List.replicate 16 (0:Int32)),h)
else
(
(pD 16 1 16).bind λ_=>
(pD 16 0 16).bind λ_=>
j2 g b f a)
def cD:=JK UG
def TF:Option (Int×LX×LX):=
(VL x e B p8).bind λ(z,c,d,i)=>
(cD z c d t).bind λ(j,l,q,r)=>
some (j,l,q)
def OE:Option (Int32×Int×LX×LX×Int):=
(LK x e B).bind λ(z,c)=>
if(Br c 0)then
some (0,0,(List.replicate 16 (0:Int32)),(List.replicate 16 (0:Int32)),c)
else
(TF x e B t (Ag t z)).bind λ(d,i,j)=>
some ((Ag t z),d,i,j,0)
def Tg:Option (Int32×Int×Int32×Int×LX×LX×Int):=
(Zf x t J P U).bind λz=>
if(Br z 0)then
some (0,0,0,0,(List.replicate 16 (0:Int32)),(List.replicate 16 (0:Int32)),z)
else
(Zh x t).bind λ(c,d)=>
(OE J P U (Ag p8 c)).bind λ(e,i,j,l,q)=>
(
some (e,x,p8,i,j,l,q))
def bR:Option UInt32:=
some (Ww (De (Ad t:UInt32) (GI.toZ (1:UInt64)).toNat) (Ad (Bu t (GI.toZ (31:UInt64)).toNat):UInt32))
abbrev Cp:=Option (LU×Int)
def gG:Cp:=
some (F,0)
def MV:=gG
def Sn(j12:LU->Cp)(H4:Int-> (List (Int×Int32×(Int×LX×LX×Unit)×Unit))->LU->Cp)(b:LX)(a f g:Int)(k:List (Int×Int32×(Int×LX×LX×Unit)×Unit))(h:LU):Cp:=
if(Cj g (Ac b))then
(Ah b g).bind λ_=>
(Ah b g).bind λac=>
(Hq (Br a 0)).bind λ_=>
(Ah k (Ed g a)).bind λ_=>
(Ah k (Ed g a)).bind λp=>
(Tg p.1 p.2.1 p.2.2.1.1 p.2.2.1.2.1 p.2.2.1.2.2.1 ac).bind λ(u,ad,ae,v,af,ag,w)=>
if(Br w 0)then
some (([]:LU),w)
else
(Ka k (Ed g a) (ad,ae,(v,af,ag,()),())).bind λah=>
(bR u).bind λai=>
(Bx h ([ai]:LU)).bind λaj=>
H4 (Ae g 1) ah aj
else
j12 h
def Je:Nat->Int-> (List (Int×Int32×(Int×LX×LX×Unit)×Unit))->LU->Cp
|0,_,_,_=>none
|x+1,z,c,i=>Sn MV (Je x) e d l z c i
def KE b a f:=Je b a f Aq
def MY(j10:LX->Int->Int->Int-> (List (Int×Int32×(Int×LX×LX×Unit)×Unit))->LU->Cp)(a f:Int)(b:LX)(m:List (Int×Int32×(Int×LX×LX×Unit)×Unit)):Cp:=
j10 b a f 0 m ([]:LU)
def MZ:=MY KE
def NC(j9:Int->Int->LX-> (List (Int×Int32×(Int×LX×LX×Unit)×Unit))->Cp)(bk7:Int-> (List (Int×Int32×(Int×LX×LX×Unit)×Unit))->Cp)(a f:Int)(n b:LX)(o:Int)(m:List (Int×Int32×(Int×LX×LX×Unit)×Unit)):Cp:=
if(Cj o 6)then
(mG f n).bind λ(ak,al,u,am,an,v)=>
(Ah m o).bind λ_=>
(Ka m o (ak,al,(u,am,an,()),())).bind λao=>
bk7 (Ae o 1) ao
else
j9 a f b m
def BF:Nat->Int-> (List (Int×Int32×(Int×LX×LX×Unit)×Unit))->Cp
|0,_,_=>none
|z+1,d,i=>NC MZ (BF z) x c e B d i
def CZ a f n b:=BF a f n b Aq
def AW(j7:Int->Int->LX->LX->Int-> (List (Int×Int32×(Int×LX×LX×Unit)×Unit))->Cp)(a f:Int)(n y:LX):Cp:=
(FD a f y).bind λaa=>
if(Br aa 0)then
some (([]:LU),aa)
else
(pP a y).bind λ(b,ab)=>
if(Br ab 0)then
some (([]:LU),ab)
else
j7 a f n b 0 (List.replicate 6 ((0:Int),(0:Int32),((0:Int),(List.replicate 16 (0:Int32)),(List.replicate 16 (0:Int32)),()),()))
def AV:=AW CZ
def gU:Option (Int×Int×UInt64×UInt64):=
some (10,10,16384,16384)
abbrev Jd:=Option ((List (Int×Int×UInt64×UInt64×Unit)))
def jJ:Jd:=
some Asp
def NW:=jJ
def OA(j6:(List (Int×Int×UInt64×UInt64×Unit))->Jd)(Nf:Int-> (List (Int×Int×UInt64×UInt64×Unit))->Jd)(b:Int)(a:List (Int×Int×UInt64×UInt64×Unit)):Jd:=
if(Cj b 6)then
(gU).bind λ(f,g,h,k)=>
(Ah a b).bind λ_=>
(Ka a b (f,g,h,k,())).bind λm=>
Nf (Ae b 1) m
else
j6 a
def Zx:Nat->Int-> (List (Int×Int×UInt64×UInt64×Unit))->Jd
|0,_,_=>none
|q+1,b,a=>OA NW (Zx q) b a
def NU:=Zx Aq
def AR(j4:Int-> (List (Int×Int×UInt64×UInt64×Unit))->Jd):Jd:=
j4 0 (List.replicate 6 ((0:Int),(0:Int),(0:UInt64),(0:UInt64),()))
def BS:=AR NU
def Jh:Option Int:=
if(((Cj d 0)||(Em d 330000))||(Br (Ac z) (C1 (Ae d 7) (GI.toZ (3:UInt64)).toNat)))then
some 8
else
if(Em (Eb d 7) 0)then
(Ah z (Ag (Ac z) 1)).bind λx=>
(Hq (Jz (Eb d 7) 0)).bind λ_=>
if(Br (Bu x (GI.toZ (Eb d 7)).toNat) 0)then
some 8
else
some 0
else
some 0
def dZ:Option Int:=
if(!((geq (Jf (iQ x 0) 24) x)&&((geq (Jf (iQ c 0) 24) c)&&((geq (Jf j 68719476735) j)&&((geq (Jf M 68719476735) M)&&true)))))then
some 8
else
some 0
def OI:=dZ
def FC(j4:Int->Int->UInt64->UInt64->Option Int)(a b:Int)(f g:UInt64):Option Int:=
(
(
j4 a b f g))
def PD:=FC OI
def FL(j3:Int->Int->UInt64->UInt64->Option Int)(a b:Int)(f g:UInt64):Option Int:=
(
(
j3 a b f g))
def MC:=FL PD
def EU(a f:Int)(g h:UInt64)(b:UInt32):Option (Int×UInt32):=
(Hq (Jz a 0)).bind λ_=>
if(geq (Bu b (GI.toZ a).toNat) 0)then
some (0,b)
else
(Hq (Jz a 0)).bind λ_=>
some (1,(Ag b (De (1:UInt32) (GI.toZ a).toNat)))
def QS:Option (LB×Int):=
(Bd z).bind λx=>
some (x,d)
abbrev Df:=Option (LB×Int×Int)
def gY:Df:=
some (z,x,0)
def TL:=gY
def jB(Afp:UInt64->Int->Int->LB->Df)(b:UInt64)(a:Int)(m:UInt64)(h f:Int)(w:LB):Df:=
(Hq (Jz (Jf h (Ag 8 (Eb f 7))) 0)).bind λ_=>
Afp (Bu m (GI.toZ (Jf h (Ag 8 (Eb f 7)))).toNat) (Ag h (Jf h (Ag 8 (Eb f 7)))) (Ae f (Jf h (Ag 8 (Eb f 7)))) w
def jW Afp:=jB Afp
def jC(j19:UInt64->Int->Int->LB->Df)(b:UInt64)(a:Int)(m:UInt64)(h f:Int)(u:LB):Df:=
(Ah u (Ag (Ac u) 1)).bind λ_=>
(Hq (Jz (Jf h (Ag 8 (Eb f 7))) 0)).bind λ_=>
(Hq (Jz (Eb f 7) 0)).bind λ_=>
(Ah u (Ag (Ac u) 1)).bind λad=>
(Ah u (Ag (Ac u) 1)).bind λ_=>
Option.bind (Ka u (Ag (Ac u) 1) (B0 ad (De (Ad (Eb m (Ag (De (1:UInt64) (GI.toZ (Jf h (Ag 8 (Eb f 7)))).toNat) 1)):UInt8) (GI.toZ (Eb f 7)).toNat))) λw=>
j19 m h f w
def JI Afp b a:=jC (jW Afp b a) b a
def JJ(j18:UInt64->Int->Int->LB->Df)(j21:Int->LB->Df)(b:UInt64)(a:Int)(m:UInt64)(h f:Int)(o:LB):Df:=
if(Em h 0)then
if(geq (Eb f 7) 0)then
(Bx o ([(0:UInt8)]:LB)).bind λaa=>
j18 m h f aa
else
j18 m h f o
else
j21 f o
def Nu:Nat->UInt64->Int->Int->LB->Df
|0,_,_,_,_=>none
|x+1,z,c,d,e=>JJ (JI (Nu x) j L) TL j L z c d e
def D7 b a:=Nu b a Aq
def yP:Df:=
some (z,x,0)
def jS:=yP
def A4(Afq:UInt64->Int->Int->LB->Df)(b:UInt64)(a:Int)(n:UInt64)(k g:Int)(ab:LB):Df:=
(Hq (Jz (Jf k (Ag 8 (Eb g 7))) 0)).bind λ_=>
Afq (Bu n (GI.toZ (Jf k (Ag 8 (Eb g 7)))).toNat) (Ag k (Jf k (Ag 8 (Eb g 7)))) (Ae g (Jf k (Ag 8 (Eb g 7)))) ab
def zF Afq:=A4 Afq
def yQ(j26:UInt64->Int->Int->LB->Df)(b:UInt64)(a:Int)(n:UInt64)(k g:Int)(v:LB):Df:=
(Ah v (Ag (Ac v) 1)).bind λ_=>
(Hq (Jz (Jf k (Ag 8 (Eb g 7))) 0)).bind λ_=>
(Hq (Jz (Eb g 7) 0)).bind λ_=>
(Ah v (Ag (Ac v) 1)).bind λae=>
(Ah v (Ag (Ac v) 1)).bind λ_=>
Option.bind (Ka v (Ag (Ac v) 1) (B0 ae (De (Ad (Eb n (Ag (De (1:UInt64) (GI.toZ (Jf k (Ag 8 (Eb g 7)))).toNat) 1)):UInt8) (GI.toZ (Eb g 7)).toNat))) λab=>
j26 n k g ab
def iZ Afq b a:=yQ (zF Afq b a) b a
def hD(j25:UInt64->Int->Int->LB->Df)(j28:Int->LB->Df)(b:UInt64)(a:Int)(n:UInt64)(k g:Int)(p:LB):Df:=
if(Em k 0)then
if(geq (Eb g 7) 0)then
(Bx p ([(0:UInt8)]:LB)).bind λw=>
j25 n k g w
else
j25 n k g p
else
j28 g p
def TW:Nat->UInt64->Int->Int->LB->Df
|0,_,_,_,_=>none
|x+1,z,c,d,e=>hD (iZ (TW x) j L) jS j L z c d e
def zV b a:=TW b a Aq
def YN(j15:UInt64->Int->UInt64->Int->Int->LB->Df)(j22:UInt64->Int->UInt64->Int->Int->LB->Df)(ac:LB)(y:Int)(b:UInt64)(a:Int):Df:=
(Jh ac y).bind λaf=>
if(Br af 0)then
some (([]:LB),0,8)
else
if((Cj a 0)||(Em a 64))then
some (([]:LB),0,2)
else
if(Cj a 64)then
(Hq (Jz a 0)).bind λ_=>
if(Br (Bu b (GI.toZ a).toNat) 0)then
some (([]:LB),0,16)
else
if(Em (Ae y a) 330000)then
some (([]:LB),0,18)
else
(QS ac y).bind λ(ag,ah)=>
j15 b a b a ah ag
else
if(Em (Ae y a) 330000)then
some (([]:LB),0,18)
else
(QS ac y).bind λ(aa,ai)=>
j22 b a b a ai aa
def LZ:=YN D7 zV
def CR:Option Bool:=
(Hq (Jz L 0)).bind λ_=>
some (Jz (Bu E (GI.toZ L).toNat) 48)
def UQ:Option (Int×Int):=
if((Cj x 0)||(Em x 48))then
some (0,2)
else
some ((Jf (Ae x 1) 48),0)
def NV:Option (LB×Int×Int):=
(Jh z d).bind λx=>
if(Br x 0)then
some (([]:LB),0,x)
else
(UQ l).bind λ(c,e)=>
if(Br e 0)then
some (([]:LB),0,e)
else
(Hq (Jz l 0)).bind λ_=>
(LZ z d (Ag (De (1:UInt64) (GI.toZ l).toNat) 1) c).bind λ(i,j,q)=>
some (i,j,q)
abbrev TE:=Option (LB×Int×Int)
def PH:TE:=
(NV z d l).bind λ(x,c,e)=>
if(Br e 0)then
some (([]:LB),0,e)
else
(LZ x c (Ad E:UInt64) L).bind λ(i,j,q)=>
some (i,j,q)
def OV:=PH
def dX(j2:LB->Int->Int->UInt32->Int->TE)(b:LB)(f:Int)(g:UInt32)(a:Int):TE:=
(Jh b f).bind λk=>
if(Br k 0)then
some (([]:LB),0,k)
else
if((Cj a 0)||(Em a 24))then
some (([]:LB),0,2)
else
(Hq (Jz a 0)).bind λ_=>
(Hq (Jz a 0)).bind λ_=>
(CR g a).bind λaa=>
if aa then
j2 b f 48 g 32
else
j2 b f (Ad (Bu g (GI.toZ a).toNat):Int) (Eb g (Ag (De (1:UInt32) (GI.toZ a).toNat) 1)) a
def UA:=dX OV
abbrev Ig:=Option (LB×Int×Int×Int×UInt64×UInt64×Int)
def CX:Ig:=
(
(
some (p9,x,c,i,(Ae j (Ag (Ad E:UInt64) (Bu j (GI.toZ (4:UInt64)).toNat))),M,0)))
def MQ:=CX
def OS(j10:Int->Int->Int->UInt64->UInt32->UInt64->LB->Ig)(b:UInt32)(k n:Int)(a o:UInt64)(m:LB)(u:Int):Ig:=
j10 k u n a b o m
def eJ:=OS MQ
def OK(j9:UInt32->Int->Int->UInt64->UInt64->LB->Int->Ig)(b:UInt32)(f:Int)(a:UInt64)(k:Int)(m:LB)(n:Int)(o:UInt64):Ig:=
if(Em f 0)then
(Hq (Jz f 0)).bind λ_=>
if(Cj (Ae a (Ag (Ad b:UInt64) (Bu a (GI.toZ (4:UInt64)).toNat))) (De (16:UInt64) (GI.toZ f).toNat))then
j9 b k n a o m (Ag f 1)
else
if(Cj f 24)then
(Hq (Jz f 0)).bind λ_=>
if(Em (Ae a (Ag (Ad b:UInt64) (Bu a (GI.toZ (4:UInt64)).toNat))) (De (32:UInt64) (GI.toZ f).toNat))then
j9 b k n a o m (Ae f 1)
else
j9 b k n a o m f
else
j9 b k n a o m f
else
if(Cj f 24)then
(Hq (Jz f 0)).bind λ_=>
if(Em (Ae a (Ag (Ad b:UInt64) (Bu a (GI.toZ (4:UInt64)).toNat))) (De (32:UInt64) (GI.toZ f).toNat))then
j9 b k n a o m (Ae f 1)
else
j9 b k n a o m f
else
j9 b k n a o m f
def Xf:=OK eJ
def OJ(j8:UInt32->Int->UInt64->Int->LB->Int->UInt64->Ig)(b:UInt32)(f h:Int)(a g:UInt64)(ac k:Int)(m:LB):Ig:=
if(Br ac 0)then
some (([]:LB),0,0,0,0,0,ac)
else
(EU f h a g b).bind λ(ag,p)=>
if(geq ag 1)then
if(Em h 0)then
(Hq (Jz h 0)).bind λ_=>
if(Cj (Ae g (Ag (Ad p:UInt64) (Bu g (GI.toZ (4:UInt64)).toNat))) (De (16:UInt64) (GI.toZ h).toNat))then
j8 b f a k m (Ag h 1) (Ae g (Ag (Ad p:UInt64) (Bu g (GI.toZ (4:UInt64)).toNat)))
else
if(Cj h 24)then
(Hq (Jz h 0)).bind λ_=>
if(Em (Ae g (Ag (Ad p:UInt64) (Bu g (GI.toZ (4:UInt64)).toNat))) (De (32:UInt64) (GI.toZ h).toNat))then
j8 b f a k m (Ae h 1) (Ae g (Ag (Ad p:UInt64) (Bu g (GI.toZ (4:UInt64)).toNat)))
else
j8 b f a k m h (Ae g (Ag (Ad p:UInt64) (Bu g (GI.toZ (4:UInt64)).toNat)))
else
j8 b f a k m h (Ae g (Ag (Ad p:UInt64) (Bu g (GI.toZ (4:UInt64)).toNat)))
else
if(Cj h 24)then
(Hq (Jz h 0)).bind λ_=>
if(Em (Ae g (Ag (Ad p:UInt64) (Bu g (GI.toZ (4:UInt64)).toNat))) (De (32:UInt64) (GI.toZ h).toNat))then
j8 b f a k m (Ae h 1) (Ae g (Ag (Ad p:UInt64) (Bu g (GI.toZ (4:UInt64)).toNat)))
else
j8 b f a k m h (Ae g (Ag (Ad p:UInt64) (Bu g (GI.toZ (4:UInt64)).toNat)))
else
j8 b f a k m h (Ae g (Ag (Ad p:UInt64) (Bu g (GI.toZ (4:UInt64)).toNat)))
else
j8 b f a k m h g
def OU:=OJ Xf
def PC(j7:UInt32->Int->Int->UInt64->UInt64->Int->Int->LB->Ig)(b:UInt32)(v:LB)(w f h:Int)(a g:UInt64):Ig:=
(EU f h a g b).bind λ(ad,ae)=>
(LZ v w (Ad ad:UInt64) 1).bind λ(y,aa,ab)=>
if((geq ab 0)&&(geq ad 0))then
(LZ y aa (Ad ae:UInt64) f).bind λ(ah,ai,aj)=>
j7 b f h a g aj ai ah
else
if(geq ab 0)then
(UA y aa ae h).bind λ(ak,al,am)=>
j7 b f h a g am al ak
else
j7 b f h a g ab aa y
def dY:=PC OU
def PJ(j6:UInt32->LB->Int->Int->Int->UInt64->UInt64->Ig)(v:LB)(w f h:Int)(a g:UInt64)(b:UInt32):Ig:=
(Jh v w).bind λan=>
if(Br an 0)then
some (([]:LB),0,0,0,0,0,8)
else
(MC f h a g).bind λao=>
if(Br ao 0)then
some (([]:LB),0,0,0,0,0,8)
else
j6 b v w f h a g
def TU:=PJ dY
abbrev Bn:=Option (UInt32×Int)
def ZB:Bn:=
some (E,0)
def KM:=ZB
def CH(j30:UInt32->Bn)(Aoy:UInt32->Int->Bn)(a:LB)(b:LU)(h:UInt32)(m:Int):Bn:=
if(Cj m (Ac a))then
(Ah a m).bind λp=>
(Ah b (GI.toZ (Ww (Ad h:UInt8) p))).bind λ_=>
(Ah b (GI.toZ (Ww (Ad h:UInt8) p))).bind λu=>
Aoy (Ww (Bu h (GI.toZ (8:UInt64)).toNat) u) (Ae m 1)
else
j30 h
def Qi:Nat->UInt32->Int->Bn
|0,_,_=>none
|x+1,c,d=>CH KM (Qi x) z F c d
def LD a b:=Qi a b Aq
def KW(j28:LB->LU->UInt32->Int->Bn)(f:UInt32)(a:LB)(b:LU):Bn:=
j28 a b f 0
def ZC:=KW LD
def KP(j27:UInt32->LB->LU->Bn)(f:UInt32)(a:LB)(b:LU):Bn:=
j27 f a b
def KY:=KP ZC
def YO(Ef:Int->LU->Bn)(f:UInt32)(a:LB)(g:Int)(o:LU):Bn:=
Ef (Ae g 1) o
def bB Ef:=YO Ef
def ZR(j24:Int->LU->Bn)(f:UInt32)(a:LB)(g:Int)(k:UInt32)(b:LU):Bn:=
(Ah b g).bind λ_=>
(Ka b g k).bind λo=>
j24 g o
def BB Ef f a:=ZR (bB Ef f a) f a
def AS(j23:Int->UInt32->LU->Bn)(Alh:UInt32->Int->Bn)(f:UInt32)(a:LB)(g:Int)(b:LU)(k:UInt32)(n:Int):Bn:=
if(Cj n 8)then
Alh (Ww (Bu k (GI.toZ (1:UInt64)).toNat) (Bf 3988292384 (Eb k 1))) (Ae n 1)
else
j23 g k b
def Pz(Ef:Int->LU->Bn)(f:UInt32)(a:LB)(g:Int)(b:LU):Nat->UInt32->Int->Bn
|0,_,_=>none
|q+1,k,n=>AS (BB Ef f a) (Pz Ef f a g b q) f a g b k n
def JY Ef f a g b:=Pz Ef f a g b Aq
def CI(j21:Int->LU->UInt32->Int->Bn)(j26:UInt32->LB->LU->Bn)(f:UInt32)(a:LB)(g:Int)(b:LU):Bn:=
if(Cj g 256)then
j21 g b (Ad g:UInt32) 0
else
j26 f a b
def Mf:Nat->Int->LU->Bn
|0,_,_=>none
|x+1,z,c=>CI (JY (Mf x) E p9) KY E p9 z c
def YW f a:=Mf f a Aq
def OP(j16:UInt32->LB->Int->LU->Bn)(f:UInt32)(a:LB):Bn:=
if(Em (Ac a) 100000)then
some (0,4)
else
j16 f a 0 (List.replicate 256 (0:UInt32))
def VB:=OP YW
def EI:Option (UInt32×Int):=
(VB 4294967295 z).bind λ(x,c)=>
if(Br c 0)then
some (0,c)
else
some ((Y7 x),0)
def pM:Option Bool:=
if(geq L 8)then
some true
else
(Hq (Jz (Bf 8 L) 0)).bind λ_=>
some (geq (Bu j (GI.toZ (Bf 8 L)).toNat) 0)
abbrev Yo:=Option (LB×Int)
def nM:Yo:=
some (z,0)
def YF:=nM
def NJ(j6:LB->Yo)(Nf:Int->LB->Yo)(f:UInt64)(g:LB)(a:Int)(b:LB):Yo:=
if(Cj a (Ac g))then
(Hq (Jz (Bf 8 a) 0)).bind λ_=>
(Ah b a).bind λ_=>
(Ka b a (Ad (Bu f (GI.toZ (Bf 8 a)).toNat):UInt8)).bind λk=>
Nf (Ae a 1) k
else
j6 b
def Zm:Nat->Int->LB->Yo
|0,_,_=>none
|x+1,z,c=>NJ YF (Zm x) j p9 z c
def nN f g:=Zm f g Aq
def ZV(j4:UInt64->LB->Int->LB->Yo)(f:UInt64)(h:Int):Yo:=
if((Cj h 1)||(Em h 8))then
some (([]:LB),2)
else
(pM f h).bind λm=>
if(!m)then
some (([]:LB),16)
else
(mkI h (0:UInt8)).bind λg=>
(Hq (geq h h)).bind λ_=>
j4 f g 0 g
def Zz:=ZV nN
def JP:Option (LB):=
some z
def Ue:=JP
def Cl(j16:LB->Option (LB))(JQ:Int->LB->Option (LB))(a:List LB)(g:Int)(f:LB):Option (LB):=
if(Cj g (Ac a))then
(Ah a g).bind λn=>
(Bx f n).bind λo=>
JQ (Ae g 1) o
else
j16 f
def Bo:Nat->Int->LB->Option (LB)
|0,_,_=>none
|x+1,z,c=>Cl Ue (Bo x) q z c
def Hm a:=Bo a Aq
def Hn(j14:(List LB)->Int->LB->Option (LB))(a:List LB)(p:LB):Option (LB):=
j14 a 0 p
def Er:=Hn Hm
def Hp(j13:(List LB)->LB->Option (LB))(b:Int)(a:List LB):Option (LB):=
if(Em (Ag b (Ag (0:Int) (0:Int))) 0)then
(pD 0 0 0).bind λ_=>
(mkI (Ag b (Ag (0:Int) (0:Int))) (0:UInt8)).bind λu=>
(Bx ([]:LB) u).bind λk=>
(pD (Ac k) 0 0).bind λ_=>
j13 a (oI k 0 ((0:Int)-(0:Int)))
else
j13 a ([]:LB)
def Lp:=Hp Er
def Ho(j12:Int-> (List LB)->Option (LB))(a:List LB)(b:Int):Option (LB):=
if(Cj b 0)then
none
else
j12 b a
def Es:=Ho Lp
def Ct(j11:(List LB)->Int->Option (LB))(bk9:Int->Int->Option (LB))(a:List LB)(b h:Int):Option (LB):=
if(Cj h (Ac a))then
(Ah a h).bind λm=>
if(Cj (Ae b (Ac m)) 0)then
none
else
bk9 (Ae b (Ac m)) (Ae h 1)
else
j11 a b
def Bt:Nat->Int->Int->Option (LB)
|0,_,_=>none
|x+1,z,c=>Ct Es (Bt x) q z c
def Uv a:=Bt a Aq
def Mr(j9:(List LB)->Int->Int->Option (LB))(a:List LB):Option (LB):=
j9 a 0 0
def Dn:=Mr Uv
abbrev Bg:=Option (LB×Int)
def MA(v:Int)(p:LB):Bg:=
(EI p).bind λ(af,ac)=>
if(Br ac 0)then
some (([]:LB),ac)
else
(Zz (Ad af:UInt64) 4).bind λ(m,h)=>
if(Br h 0)then
some (([]:LB),h)
else
(Dn ([p,m]:List LB)).bind λag=>
some (ag,0)
def Yh:=MA
def KR(VM:Int-> (List (Int×Int×UInt64×UInt64×Unit))->Int->LB->Bg)(b:LU)(a g f:Int)(n:List (Int×Int×UInt64×UInt64×Unit))(k:Int)(w:LB):Bg:=
VM (Ae f 1) n k w
def Yn VM:=KR VM
def MR(uS:Int->Int->LB->Bg)(h:Int)(b:LU)(f a g:Int)(n:List (Int×Int×UInt64×UInt64×Unit))(m:LB)(o k:Int)(ab:LB):Bg:=
uS (Ae o 1) (Ae k 1) ab
def LA uS:=MR uS
def KF(j48:Int->Int->LB->Bg)(h:Int)(b:LU)(f a g:Int)(n:List (Int×Int×UInt64×UInt64×Unit))(m:LB)(o k:Int)(y:LB):Bg:=
(Ah m (Ba o 8)).bind λ_=>
(Ah m (Ba o 8)).bind λah=>
(Hq (Jz (Ed o 8) 0)).bind λ_=>
(Ah y (Ba k 8)).bind λ_=>
(Hq (Jz (Ed k 8) 0)).bind λ_=>
(Ah y (Ba k 8)).bind λai=>
(Ah y (Ba k 8)).bind λ_=>
Option.bind (Ka y (Ba k 8) (B0 ai (De (Eb (Bu ah (GI.toZ (Ed o 8)).toNat) 1) (GI.toZ (Ed k 8)).toNat))) λab=>
j48 o k ab
def Rm uS h b f a g n m:=KF (LA uS h b f a g n m) h b f a g n m
def Sp(j47:Int->Int->LB->Bg)(j50:Int-> (List (Int×Int×UInt64×UInt64×Unit))->Int->LB->Bg)(b:LU)(a g h f:Int)(n:List (Int×Int×UInt64×UInt64×Unit))(m:LB)(o k:Int)(w:LB):Bg:=
if(Cj o h)then
if(geq (Ed k 8) 0)then
(Bx w ([(0:UInt8)]:LB)).bind λaj=>
j47 o k aj
else
j47 o k w
else
j50 f n k w
def Fh(VM:Int-> (List (Int×Int×UInt64×UInt64×Unit))->Int->LB->Bg)(b:LU)(a g h f:Int)(n:List (Int×Int×UInt64×UInt64×Unit))(m:LB):Nat->Int->Int->LB->Bg
|0,_,_,_=>none
|q+1,o,k,w=>Sp (Rm (Fh VM b a g h f n m q) h b f a g n m) (Yn VM b a g) b a g h f n m o k w
def LG VM b a g h f n m:=Fh VM b a g h f n m Aq
def Ry(j44:Int->Int-> (List (Int×Int×UInt64×UInt64×Unit))->LB->Int->Int->LB->Bg)(j52:Int->LB->Bg)(b:LU)(a g f:Int)(u:List (Int×Int×UInt64×UInt64×Unit))(v:Int)(p:LB):Bg:=
if(Cj f (Ac b))then
(Ah b f).bind λ_=>
(Ah b f).bind λak=>
(Hq (Br a 0)).bind λ_=>
(Ah u (Ed f a)).bind λ_=>
(Ah u (Ed f a)).bind λaa=>
(TU ([]:LB) 0 aa.1 aa.2.1 aa.2.2.1 aa.2.2.2.1 ak).bind λ(m,h,al,am,an,ao,ad)=>
if(Br ad 0)then
some (([]:LB),ad)
else
(Hq (Br a 0)).bind λ_=>
(Ah u (Ed f a)).bind λ_=>
(Ka u (Ed f a) (al,am,an,ao,())).bind λn=>
j44 h f n m 0 v p
else
j52 v p
def Ha:Nat->Int-> (List (Int×Int×UInt64×UInt64×Unit))->Int->LB->Bg
|0,_,_,_,_=>none
|x+1,z,c,d,e=>Ry (LG (Ha x) F l9 o7) Yh F l9 o7 z c d e
def JZ b a g:=Ha b a g Aq
def AN(j27:LU->Int->Int->Int-> (List (Int×Int×UInt64×UInt64×Unit))->Int->LB->Bg)(a g:Int)(ap aq:LX):Bg:=
(AV a g ap aq).bind λ(b,ae)=>
if(Br ae 0)then
some (([]:LB),ae)
else
(BS).bind λar=>
j27 b a g 0 ar 0 ([]:LB)
def Vj:=AN JZ
def Sk(b f g:Int)(h k:LB)(m:LX)(n:List LB)(o:LB)(p:Bool)(u a:Int):Option (Int×Int×Int×LB×LB×LX×(List LB)×LB×Bool×Int×Int):=
some (b,f,g,h,([]:LB),([]:LX),([]:List LB),([]:LB),false,a,a)
abbrev Bk:=Option (Int×Int×Int×LB×LB×LX×(List LB)×LB×Bool×Int×Int)
def QA:Bk:=
some (x,c,i,z,D,B,Z,o9,r,d,0)
def EZ:=QA
def Vs(JQ:Int->LB->LX-> (List LB)->Bk)(p:Int)(n:LB)(a b g:Int)(f:LB)(h:Bool)(k o:Int)(m:LB)(u:Int)(ao:LB)(ap:LX)(aq:List LB):Bk:=
JQ (Ae u 1) ao ap aq
def Ly JQ:=Vs JQ
def Vt(j24:Int->LB->LX-> (List LB)->Bk)(p:Int)(n:LB)(a b g:Int)(f:LB)(h:Bool)(k o:Int)(m:LB)(u ad:Int)(ae:LB)(af:LX)(ag:List LB):Bk:=
if(Br ad 0)then
(Sk a b g f ae af ag m h k ad).bind λ(ar,au,av,aw,ax,ay,az,ba,bb,bc,bd)=>
some (ar,au,av,aw,ax,ay,az,ba,bb,bc,bd)
else
j24 u ae af ag
def Hl JQ p n a b g f h k o m:=Vt (Ly JQ p n a b g f h k o m) p n a b g f h k o m
def kC(j23:Int->Int->LB->LX-> (List LB)->Bk)(p:Int)(n:LB)(a b g:Int)(f:LB)(h:Bool)(k o:Int)(m:LB)(u:Int)(ab:LX)(v:List LB)(be:Int):Bk:=
j23 u be ([]:LB) ab v
def lY JQ p n a b g f h k o m:=kC (Hl JQ p n a b g f h k o m) p n a b g f h k o m
def SD(j23:Int->Int->LB->LX-> (List LB)->Bk)(p:Int)(n:LB)(a b g:Int)(f:LB)(h:Bool)(k o:Int)(m:LB)(u:Int)(ac:List LB):Bk:=
j23 u 0 ([]:LB) ([]:LX) ac
def QQ JQ p n a b g f h k o m:=SD (Hl JQ p n a b g f h k o m) p n a b g f h k o m
def QE(j23:Int->Int->LB->LX-> (List LB)->Bk)(j21:Int->LX-> (List LB)->Int->Bk)(j22:Int-> (List LB)->Bk)(p:Int)(n:LB)(a b g:Int)(f:LB)(h:Bool)(k o:Int)(m:LB)(u:Int)(aa:LB)(w:LX)(v:List LB):Bk:=
(FF b aa).bind λ(bf,ah)=>
if(Br ah 0)then
j23 u ah aa w v
else
(Bx w bf).bind λab=>
if(Cj (Ac ab) (Bf o a))then
j23 u 0 ([]:LB) ab v
else
(SK f).bind λ(bg,ai)=>
if(Br ai 0)then
j21 u ab v ai
else
(Vj a b bg ab).bind λ(bh,aj)=>
if(Br aj 0)then
j21 u ab v aj
else
(Bx v ([bh]:List LB)).bind λac=>
j22 u ac
def EH JQ p n a b g f h k o m:=QE (Hl JQ p n a b g f h k o m) (lY JQ p n a b g f h k o m) (QQ JQ p n a b g f h k o m) p n a b g f h k o m
def Vx(j24:Int->LB->LX-> (List LB)->Bk)(j23:Int->Int->LB->LX-> (List LB)->Bk)(j20:Int->LB->LX-> (List LB)->Bk)(j26:Int->Int->Int->LB->Bool->Int->LB->LX-> (List LB)->LB->Bk)(p:Int)(n:LB)(a b g:Int)(f:LB)(h:Bool)(k o:Int)(m:LB)(u:Int)(y:LB)(w:LX)(v:List LB):Bk:=
if(Cj u (Ac n))then
(Ah n u).bind λbi=>
(Bx y ([bi]:LB)).bind λaa=>
if(Cj (Ac aa) p)then
j24 u aa w v
else
(Om a b g f aa w v m h k o).bind λbj=>
(Og a b g f aa w v m h k (Ae (Ac v) 1) (Ae bj 1)).bind λbk=>
if(!bk)then
j23 u 18 aa w v
else
j20 u aa w v
else
j26 a b g f h k y w v m
def He:Nat->Int->LB->LX-> (List LB)->Bk
|0,_,_,_,_=>none
|c+1,e,i,j,q=>Vx (Ly (He c) x z d l G D R T y8 o8) (Hl (He c) x z d l G D R T y8 o8) (EH (He c) x z d l G D R T y8 o8) EZ x z d l G D R T y8 o8 e i j q
def RU p n a b g f h k o m:=He p n a b g f h k o m Aq
def IC(j14:Int->LB->Int->Int->Int->LB->Bool->Int->Int->LB->Int->LB->LX-> (List LB)->Bk)(bl bm bn:Int)(bp bq:LB)(br:LX)(bs:List LB)(bt:LB)(bu:Bool)(bv:Int)(n:LB):Bk:=
(Xr bl bm bn bp bq br bs bt bu bv).bind λ(a,b,g,f,ak,al,am,m,h,k,o,an)=>
if(Br an 0)then
some (a,b,g,f,ak,al,am,m,h,k,an)
else
(Qf a b).bind λp=>
j14 p n a b g f h k o m 0 ak al am
def JF:=IC RU
def FO:Option (Int×Int):=
if(Em (Ac z) 64)then
some (0,2)
else
if(geq (Ac z) 0)then
some (1,0)
else
some (2,0)
def QP(b f a g h:Int):Option Bool:=
some (((((((geq b 1)||(geq b 2))&&(Em f 0))&&(sV f 6))&&(Em g 0))&&(sV g 1048576))&&(Em h 0))
def EO:=QP
def QF(j2:Int->Int->Int->Int->Int->Option Bool)(b f a g h:Int):Option Bool:=
if(geq a 8)then
if(geq a 8)then
j2 b f a g h
else
some false
else
if(geq a 16)then
if(geq a 16)then
j2 b f a g h
else
some false
else
if(geq a 24)then
j2 b f a g h
else
some false
def FB:=QF EO
def FK:Option (Int×Int):=
(Nn x).bind λ(z,d)=>
if(Br d 0)then
some (0,d)
else
if((Cj c 1)||(Em c 4000))then
some (0,2)
else
(Hq (Br z 0)).bind λ_=>
if(Em (Ba (Ag (Ae c z) 1) z) 1000)then
some (0,4)
else
some ((Ba (Ag (Ae c z) 1) z),0)
def NX(k a m f b:Int):Option Bool:=
(Hq (Br a 0)).bind λ_=>
if(Em b (Ba 4000 a))then
some false
else
(FK f b).bind λ(g,h)=>
some ((geq h 0)&&(sV g 1000))
def JD:Option Int:=
(FB x c i I d).bind λz=>
if(!z)then
some 8
else
(NX x c i I d).bind λe=>
if(!e)then
some 8
else
some 0
abbrev Mm:=Option (LB×Int)
def VP:Mm:=
(EI z).bind λ(x,c)=>
(Zz (Ad x:UInt64) 4).bind λ(d,e)=>
(Bx z d).bind λi=>
some (i,0)
def Ya:=VP
def Xy(j6:LB->Mm)(Nf:Int->LB->Mm)(b f g h k m:Int)(a:LB):Mm:=
if(Cj m 5)then
(Ah ([b,f,g,h,k]:LI) m).bind λw=>
(Ah ([(2:Int),(2:Int),(2:Int),(4:Int),(4:Int)]:LI) m).bind λy=>
(Zz (Ad w:UInt64) y).bind λ(n,v)=>
(Bx a n).bind λo=>
Nf (Ae m 1) o
else
j6 a
def Kn:Nat->Int->LB->Mm
|0,_,_=>none
|z+1,e,j=>Xy Ya (Kn z) x c i I d e j
def VV b f g h k:=Kn b f g h k Aq
def ID(j4:Int->Int->Int->Int->Int->Int->LB->Mm)(b f g h k:Int):Mm:=
(JD b f g h k).bind λp=>
if(Br p 0)then
some (([]:LB),p)
else
j4 b f g h k 0 ([(84:UInt8),(84:UInt8),(65:UInt8),(49:UInt8)]:LB)
def JN:=ID VV
def lM:Option (UInt64×Int):=
if(Em (Ac z) 64)then
some (0,2)
else
(QW z).bind λ(x,c)=>
some (x,0)
def JM:Option (LB×Int):=
(lM z).bind λ(x,c)=>
if(Br c 0)then
some (([]:LB),c)
else
(Zz x 8).bind λ(d,e)=>
some (d,e)
def tF:Option Int:=
some 0
def bL:=tF
def CU(j6:Option Int)(Nf:Int->Int->Option Int)(a:LI)(f b:Int):Option Int:=
if(Cj b (Ac a))then
(Ah a b).bind λg=>
if((Cj g 5)||(Em g f))then
some 8
else
Nf (Ag f g) (Ae b 1)
else
j6
def Qj:Nat->Int->Int->Option Int
|0,_,_=>none
|x+1,z,c=>CU bL (Qj x) A z c
def ZZ a:=Qj a Aq
def CA(j4:LI->Int->Int->Option Int)(a:LI):Option Int:=
if((geq (Ac a) 0)||(Em (Ac a) 1000))then
some 8
else
j4 a 100000 0
def Zs:=CA ZZ
abbrev Gp:=Option (LB×Int)
def oA:Gp:=
some (z,0)
def oK:=oA
def VQ(j14:LB->Gp)(b:LB):Gp:=
(EI b).bind λ(m,u)=>
(Zz (Ad m:UInt64) 4).bind λ(n,v)=>
(Bx b n).bind λg=>
j14 g
def HT:=VQ oK
def VX(bk8:Int->LB->Gp)(a:LI)(f:Int)(h:LB):Gp:=
bk8 (Ae f 1) h
def HW bk8:=VX bk8
def CT(j11:Int->LB->Gp)(j13:LB->Gp)(a:LI)(f:Int)(b:LB):Gp:=
if(Cj f (Ac a))then
(Ah a f).bind λo=>
(Zz (Ad o:UInt64) 4).bind λ(p,w)=>
(Bx b p).bind λh=>
j11 f h
else
j13 b
def Ps:Nat->Int->LB->Gp
|0,_,_=>none
|x+1,z,c=>CT (HW (Ps x) A) HT A z c
def uA a:=Ps a Aq
def KO(j8:LI->Int->LB->Gp)(a:LI):Gp:=
(Zs a).bind λk=>
if(Br k 0)then
some (([]:LB),k)
else
j8 a 0 ([]:LB)
def HL:=KO uA
abbrev Hu:=Option (LB×Int)
def Xv(f g h:Int)(b k:LB)(m:LX)(a:List LB)(n:LB)(o:Bool)(p:Int)(u:LB)(v:LI):Hu:=
(HL v).bind λ(aa,y)=>
if(Br y 0)then
some (([]:LB),y)
else
(
(Bx u aa).bind λab=>
(Dn a).bind λac=>
(Bx ab ac).bind λad=>
some (ad,0))
def Tc:=Xv
def Xw(j8:Int->Int->Int->LB->LB->LX-> (List LB)->LB->Bool->Int->LB->LI->Hu)(dW:Int->LI->Hu)(a:List LB)(f g h:Int)(b k:LB)(m:LX)(n:LB)(o:Bool)(p:Int)(u:LB)(w:Int)(v:LI):Hu:=
if(Cj w (Ac a))then
(Ah a w).bind λai=>
(Bx v ([(Ac ai)]:LI)).bind λaj=>
dW (Ae w 1) aj
else
j8 f g h b k m a n o p u v
def Nj:Nat->Int->LI->Hu
|0,_,_=>none
|x+1,z,c=>Xw Tc (Nj x) q d l G D o8 B Asq Atg x9 Ath z c
def oG a f g h b k m n o p u:=Nj a f g h b k m n o p u Aq
def Yc(j6:(List LB)->Int->Int->Int->LB->LB->LX->LB->Bool->Int->LB->Int->LI->Hu)(f g h:Int)(b k:LB)(m:LX)(a:List LB)(n:LB)(o:Bool)(p:Int)(u:LB):Hu:=
j6 a f g h b k m n o p u 0 ([]:LI)
def HP:=Yc oG
def HQ(j5:Int->Int->Int->LB->LB->LX-> (List LB)->LB->Bool->Int->LB->Hu)(f g h:Int)(b k:LB)(m:LX)(a:List LB)(n:LB)(o:Bool)(p ak:Int):Hu:=
(FO b).bind λ(al,ae)=>
if(Br ae 0)then
some (([]:LB),ae)
else
(JN al f g h ak).bind λ(af,ag)=>
if(Br ag 0)then
some (([]:LB),ag)
else
if(b !=([]:LB))then
(JM b).bind λ(am,ah)=>
if(Br ah 0)then
some (([]:LB),ah)
else
(Bx af am).bind λan=>
j5 f g h b k m a n o p an
else
j5 f g h b k m a n o p af
def JO:=HQ HP
abbrev Mc:=Option (Int×Int×Int×LB×LB×LX×(List LB)×LB×Bool×Int×Int)
def AQ:Mc:=
(JO c i I z D B Z o8 r d x).bind λ(e,j)=>
if(Br j 0)then
(Sk c i I z D B Z o8 r d j).bind λ(l,q,s,t,A,C,E,F,G,J,L)=>
some (l,q,s,t,A,C,E,F,G,J,L)
else
some (c,i,I,z,([]:LB),([]:LX),([]:List LB),e,true,0,0)
def Uj:=AQ
def NG(j4:Int->Int->Int->Int->LB->Bool->Int->LB->LB->LX-> (List LB)->Mc)(o a b g:Int)(f:LB)(k:Bool)(m:Int)(h n:LB)(ad:Int)(ae:LX)(af:List LB):Mc:=
if(Br ad 0)then
(Sk a b g f h ae af n k m ad).bind λ(au,v,w,av,aw,ax,y,aa,ay,az,ba)=>
some (au,v,w,av,aw,ax,y,aa,ay,az,ba)
else
j4 o a b g f k m h n ae af
def NL:=NG Uj
def NZ(j3:Int->Int->Int->Int->LB->Bool->Int->LB->LB->Int->LX-> (List LB)->Mc)(j4:Int->Int->Int->Int->LB->Bool->Int->LB->LB->LX-> (List LB)->Mc)(bb bc bd:Int)(be bf:LB)(bg:LX)(bh:List LB)(bi:LB)(bj:Bool)(bk:Int):Mc:=
(Xr bb bc bd be bf bg bh bi bj bk).bind λ(a,b,g,f,h,p,u,n,k,m,bl,ag)=>
if(Br ag 0)then
some (a,b,g,f,h,p,u,n,k,m,ag)
else
(Om a b g f h p u n k m bl).bind λo=>
if((Em (Ac h) 0)||(geq o 0))then
(Sk a b g f h p u n k m 24).bind λ(bm,bn,bp,bq,br,bs,bt,bu,bv,bw,bx)=>
some (bm,bn,bp,bq,br,bs,bt,bu,bv,bw,bx)
else
if(Em (Ac p) 0)then
(SK f).bind λ(bz,ah)=>
if(Br ah 0)then
j3 o a b g f k m h n ah p u
else
(Vj a b bz p).bind λ(da,ai)=>
if(Br ai 0)then
j3 o a b g f k m h n ai p u
else
(Bx u ([da]:List LB)).bind λdb=>
j3 o a b g f k m h n 0 ([]:LX) db
else
j4 o a b g f k m h n p u
def AL:=NZ NL Uj
def FJ:Option (Int×Int×Int×LB×LB×LX×(List LB)×LB×Bool×Int×LB×Int):=
(Jk x c i z s e q C r d).bind λj=>
if(Br j 0)then
some (0,0,0,([]:LB),([]:LB),([]:LX),([]:List LB),([]:LB),false,0,([]:LB),j)
else
if(Cj l 0)then
some (0,0,0,([]:LB),([]:LB),([]:LX),([]:List LB),([]:LB),false,0,([]:LB),2)
else
(BT x c i z s e q C r d).bind λ(t,A,B,D,E,F,G,I,J,L)=>
(Ff I 0 (Jf l (Ac I))).bind λM=>
(Bd M).bind λN=>
(Ff I (Jf l (Ac I)) (Ac I)).bind λO=>
some (t,A,B,D,E,F,G,O,J,L,N,0)
abbrev Gs:=Option (LB×Int)
def NR:Gs:=
(AL x c i z D B Z o9 r d).bind λ(e,j,l,q,s,t,A,C,E,F,G)=>
if(Br G 0)then
some (([]:LB),G)
else
(FJ e j l q s t A C E F 100000).bind λ(I,J,L,M,N,O,P,R,T,U,V,X)=>
some (V,X)
def BQ:=NR
def EY(dW:LB->Int->Int->Int->Int->LB->Bool->Int->LB->LX-> (List LB)->LB->Gs)(a:LI)(f:LB)(ac ae b y af ag:Int)(ah:LB)(ai:Bool)(ad:Int)(aa:LB)(ab:LX)(aj:List LB)(ak:LB):Gs:=
if(Br ac 0)then
some (([]:LB),ac)
else
(Ff f ae (Ac f)).bind λba=>
dW ba (Ae b 1) y af ag ah ai ad aa ab aj ak
def Vo dW:=EY dW
def Vq(j8:LB->Int->Int->Int->Int->Int->Int->LB->Bool->Int->LB->LX-> (List LB)->LB->Gs)(j10:Int->Int->Int->LB->Bool->Int->LB->LX-> (List LB)->LB->Gs)(a:LI)(f:LB)(b g h k:Int)(m:LB)(n:Bool)(o:Int)(p:LB)(u:LX)(v:List LB)(w:LB):Gs:=
if(Cj b (Ac a))then
(Ah a b).bind λ_=>
(Ah a b).bind λae=>
(Ff f 0 ae).bind λbb=>
(JF g h k m p u v w n o bb).bind λ(y,af,ag,ah,aa,ab,aj,ak,ai,ad,ac)=>
j8 f ac ae b y af ag ah ai ad aa ab aj ak
else
j10 g h k m n o p u v w
def Md:Nat->LB->Int->Int->Int->Int->LB->Bool->Int->LB->LX-> (List LB)->LB->Gs
|0,_,_,_,_,_,_,_,_,_,_,_,_=>none
|x+1,z,c,d,e,i,j,l,q,r,s,t,B=>Vq (Vo (Md x) A) BQ A z c d e i j l q r s t B
def kH a:=Md a Aq
def Pw(j6:LI->LB->Int->Int->Int->Int->LB->Bool->Int->LB->LX-> (List LB)->LB->Gs)(bc bd be:Int)(bf am:LB)(bg:UInt64):Gs:=
(Lt (Ac am) bg).bind λ(a,an)=>
if(Br an 0)then
some (([]:LB),an)
else
(Zl bc bd be bf).bind λ(bh,bi,bj,bk,bl,bm,bn,bp,bq,br,ao)=>
if(Br ao 0)then
some (([]:LB),ao)
else
j6 a am 0 bh bi bj bk bq br bl bm bn bp
def Ot:=Pw kH
def Da:Option (Int×Int):=
if((Cj x 1)||(Em x 1048576))then
some (0,2)
else
if(geq (Ba (Bf x 256) 245) 0)then
some (1,0)
else
some ((Ba (Bf x 256) 245),0)
def Dt:Option Int:=
if(geq x 8)then
some 128
else
if(geq x 16)then
some 32768
else
if(geq x 24)then
some 8388608
else
some 0
def Ca:Option Int:=
if((Cj x 1)||(Em x 6))then
some 2
else
(Dt c).bind λz=>
if(geq z 0)then
some 2
else
some 0
def Bz:Option Int:=
(Da i).bind λ(d,e)=>
(Ca x c).bind λj=>
if(((Br j 0)||(Br e 0))||(Em (Ac z) 64))then
some 2
else
some 0
def Ma:Option (Int×Int×Int×LB×LB×LX×(List LB)×LB×Bool×Int×Int):=
(Bz x c i z).bind λd=>
if(Br d 0)then
some (0,0,0,([]:LB),([]:LB),([]:LX),([]:List LB),([]:LB),false,0,d)
else
some (x,c,i,z,([]:LB),([]:LX),([]:List LB),([]:LB),false,0,0)
def Gk(f g a:Int)(h k:LB)(m:LX)(n:List LB)(o:LB)(p:Bool)(u:Int):Option Int:=
(Da a).bind λ(b,v)=>
some b
def Gg:Option Int:=
some (Ba (Bf x c) 8)
def WW:Option Int:=
some 0
def DF:=WW
def Dj(j6:Option Int)(Nf:Int->Option Int)(a:LX)(b f:Int):Option Int:=
if(Cj f (Ac a))then
(Ah a f).bind λg=>
if(Cj (Ad g:Int) (yL b))then
some 16
else
(Ah a f).bind λh=>
if(Jz (Ad h:Int) b)then
some 16
else
Nf (Ae f 1)
else
j6
def Bq:Nat->Int->Option Int
|0,_=>none
|x+1,z=>Dj DF (Bq x) e d z
def XQ a b:=Bq a b Aq
def Ir(j4:LX->Int->Int->Option Int)(k:Int)(a:LX):Option Int:=
(Dt k).bind λb=>
if(geq b 0)then
some 2
else
if(Em (Ac a) 4000)then
some 4
else
j4 a b 0
def Bc:=Ir XQ
def Cv:Option Int:=
(Hq (Br x 0)).bind λ_=>
(Gk x c i z s e q C r d).bind λj=>
some (Ae (Bf (Ac q) j) (Ba (Ac e) x))
def Kh(a g h:Int)(k m:LB)(n:LX)(o:List LB)(p:LB)(u:Bool)(v b f:Int):Option Bool:=
if(sV b 1000)then
(Hq (Br a 0)).bind λ_=>
some (sV f (Ba 4000 a))
else
some false
def PF:Option Bool:=
some true
def Xt:=PF
def Jn(j12:Option Bool)(H4:Int->Option Bool)(h f g n:Int)(o k:LB)(b:LX)(a:List LB)(m:LB)(p:Bool)(u v:Int):Option Bool:=
if(Cj v (Ac a))then
(Ah a v).bind λw=>
if(Cj (Ac w) 5)then
some false
else
(Ah a v).bind λy=>
if(Em (Ac y) (Ae (Ba (Ae (Bf (Bf 81 h) f) 7) 8) 4))then
some false
else
H4 (Ae v 1)
else
j12
def Ec:Nat->Int->Option Bool
|0,_=>none
|j+1,l=>Jn Xt (Ec j) x c i I z s e q C r d l
def Xc h f g n o k b a m p u:=Ec h f g n o k b a m p u Aq
def Qn(j10:Int->Int->Int->Int->LB->LB->LX-> (List LB)->LB->Bool->Int->Int->Option Bool)(h f g n:Int)(o k:LB)(b:LX)(a:List LB)(m:LB)(p:Bool)(u:Int):Option Bool:=
j10 h f g n o k b a m p u 0
def Yu:=Qn Xc
def Qc:Option Bool:=
(Cv c i I z s e q C r d).bind λj=>
(Kh c i I z s e q C r d l j).bind λt=>
if(!t)then
some false
else
O x c i I z s e q C r d
def Qk:=Qc Yu
def Py(j8:Int->Int->Int->Int->LB->LB->LX-> (List LB)->LB->Bool->Int->Int->Option Bool)(h f g n:Int)(o k:LB)(b:LX)(a:List LB)(m:LB)(p:Bool)(u:Int):Option Bool:=
if(Em (Ac b) 0)then
j8 h f g n o k b a m p u (Ae (Ac a) 1)
else
j8 h f g n o k b a m p u (Ac a)
def Qa:=Py Qk
def Qt:Option Bool:=
(Gk x c i z s e q C r d).bind λj=>
if(Em (Ac C) 0)then
if true then
if(true||(Jz (Ac e) (Bf j x)))then
if(true||(Em (Ac q) 1000))then
some false
else
O j x c i z s e q C r d
else
(Bc c e).bind λl=>
if((Br l 0)||(Em (Ac q) 1000))then
some false
else
O j x c i z s e q C r d
else
(Hq (Br x 0)).bind λ_=>
if((Br (Ed (Ac e) x) 0)||(Jz (Ac e) (Bf j x)))then
if(true||(Em (Ac q) 1000))then
some false
else
O j x c i z s e q C r d
else
(Bc c e).bind λt=>
if((Br t 0)||(Em (Ac q) 1000))then
some false
else
O j x c i z s e q C r d
else
(Gg x c).bind λA=>
if(Jz (Ac s) A)then
if(true||(Jz (Ac e) (Bf j x)))then
if(true||(Em (Ac q) 1000))then
some false
else
O j x c i z s e q C r d
else
(Bc c e).bind λB=>
if((Br B 0)||(Em (Ac q) 1000))then
some false
else
O j x c i z s e q C r d
else
(Hq (Br x 0)).bind λ_=>
if((Br (Ed (Ac e) x) 0)||(Jz (Ac e) (Bf j x)))then
if(true||(Em (Ac q) 1000))then
some false
else
O j x c i z s e q C r d
else
(Bc c e).bind λD=>
if((Br D 0)||(Em (Ac q) 1000))then
some false
else
O j x c i z s e q C r d
def Np:=Qt Qa
def Ix:Option Int:=
(Bz x c i z).bind λj=>
if(Br j 0)then
some 8
else
if(Br d 0)then
if(((((Br d 18)&&(Br d 24))||r)||(!(((geq (Ac s) 0)&&(geq (Ac e) 0))&&(geq (Ac q) 0))))||(Em (Ac C) 0))then
some 8
else
some 0
else
if r then
if((!(((geq (Ac s) 0)&&(geq (Ac e) 0))&&(geq (Ac q) 0)))||(Em (Ac C) 100000))then
some 8
else
some 0
else
(Np x c i z s e q C r d).bind λl=>
if(!l)then
some 8
else
some 0
abbrev Gh:=Option (Int×Int×Int×LB×LB×LX×(List LB)×LB×Bool×Int)
def aV(b f g:Int)(h:LB)(a:List LB)(k:Bool)(m:Int)(u:List LB)(n:LB)(o:LX)(p:LB):Gh:=
some (b,f,g,h,n,o,u,p,k,m)
def GZ:=aV
def Oc(j6:Int->Int->Int->LB-> (List LB)->Bool->Int-> (List LB)->LB->LX->LB->Gh)(Nf:Int-> (List LB)->Gh)(b f g:Int)(h:LB)(a:List LB)(k:Bool)(m:Int)(n:LB)(o:LX)(p:LB)(v:Int)(u:List LB):Gh:=
if(Cj v (Ac a))then
(Ah a v).bind λw=>
(Bx ([]:LB) w).bind λy=>
(Bx u ([y]:List LB)).bind λaa=>
Nf (Ae v 1) aa
else
j6 b f g h a k m u n o p
def Hf:Nat->Int-> (List LB)->Gh
|0,_,_=>none
|e+1,j,l=>Oc GZ (Hf e) x c i z q r d D B Asq j l
def aY b f g h a k m n o p:=Hf b f g h a k m n o p Aq
def Uy(j4:Int->Int->Int->LB-> (List LB)->Bool->Int->LB->LX->LB->Int-> (List LB)->Gh)(b f g:Int)(h ab:LB)(ac:LX)(a:List LB)(ad:LB)(k:Bool)(m:Int):Gh:=
(Bx ([]:LB) ab).bind λn=>
(Bx ([]:LX) ac).bind λo=>
(Bx ([]:LB) ad).bind λp=>
j4 b f g h a k m n o p 0 ([]:List LB)
def Nq:=Uy aY
def Jv(f g h:Int)(k m:LB)(n:LX)(o:List LB)(p:LB)(b:Bool)(a:Int):Option Int:=
if(Br a 0)then
some a
else
if b then
some 36
else
some 0
def Fz(a b f:Int)(g k:LB)(m:LX)(n:List LB)(o:LB)(p:Bool)(u h:Int):Option (Int×Int×Int×LB×LB×LX×(List LB)×LB×Bool×Int):=
some (a,b,f,g,([]:LB),([]:LX),([]:List LB),([]:LB),false,h)
abbrev Au:=Option (LX×Int)
def ON:Au:=
some (e,0)
def Xi:=ON
def Xj(Ef:Int->LX->Au)(a:Int)(b:LB)(f g:Int)(n:LX):Au:=
Ef (Ae g (Ba a 8)) n
def Ok Ef:=Xj Ef
def Xn(j28:Int->LX->Au)(a:Int)(b:LB)(f g k:Int)(h:LX):Au:=
if(geq a 8)then
(Bx h ([(Ad (Ag k 128):Int32)]:LX)).bind λo=>
j28 g o
else
if(Jz k f)then
(Bx h ([(Ad (Ag k (Bf 2 f)):Int32)]:LX)).bind λp=>
j28 g p
else
(Bx h ([(Ad k:Int32)]:LX)).bind λu=>
j28 g u
def Gq Ef a b f:=Xn (Ok Ef a b f) a b f
def Jm(j27:Int->Int->LX->Au)(Alg:Int->Int->Au)(a:Int)(b:LB)(f g:Int)(h:LX)(k m:Int):Au:=
if(Jz m 0)then
(Ah b (Ae g m)).bind λv=>
Alg (Ae (Bf 256 k) (Ad v:Int)) (Ag m 1)
else
j27 g k h
def Cm(Ef:Int->LX->Au)(a:Int)(b:LB)(f g:Int)(h:LX):Nat->Int->Int->Au
|0,_,_=>none
|q+1,k,m=>Jm (Gq Ef a b f) (Cm Ef a b f g h q) a b f g h k m
def Oo Ef a b f g h:=Cm Ef a b f g h Aq
def Jl(j25:Int->LX->Int->Int->Au)(j30:LX->Au)(a:Int)(b:LB)(f g:Int)(h:LX):Au:=
if(Cj g (Ac b))then
j25 g h 0 (Ag (Ba a 8) 1)
else
j30 h
def Cb:Nat->Int->LX->Au
|0,_,_=>none
|c+1,e,i=>Jl (Oo (Cb c) x z d) Xi x z d e i
def Xe a b f:=Cb a b f Aq
def Pu(j16:Int->LB->Int->Int->LX->Au)(a:Int)(b:LB):Au:=
(Dt a).bind λf=>
if(geq f 0)then
some (([]:LX),2)
else
(Hq (Br (Ba a 8) 0)).bind λ_=>
if(Em (Ed (Ac b) (Ba a 8)) 0)then
some (([]:LX),12)
else
(Hq (Br (Ba a 8) 0)).bind λ_=>
if(Em (Ba (Ac b) (Ba a 8)) 4000)then
some (([]:LX),4)
else
j16 a b f 0 ([]:LX)
def Of:=Pu Xe
def HE:Option UInt64:=
if As3 then
some (Ww (Bf j 2) 4823603603198064275)
else
some (Bf j 2)
def Ur:=HE
def GO(j2:UInt64->Bool->Option UInt64)(a:UInt64)(f:Int):Option UInt64:=
if(geq f 1)then
j2 a (!(Jz a 9223372036854775808))
else
j2 a (Jz a 9223372036854775808)
def Um:=GO Ur
def HH:Option UInt64:=
some j
def Up:=HH
def Oi:Option UInt64:=
if(Em Ass 0)then
(Hq (Br Ass 0)).bind λ_=>
(Um As5 (Ed (Ba (Ad As0:Int) Ass) 2)).bind λx=>
w9 x (Ba Ass 2)
else
r9 As5
def Hi:Nat->UInt64->Int->Option UInt64
|0,_,_=>none
|x+1,z,c=>Oi Up (Hi x) As0 z c
def YL b:=Hi b Aq
def GF(j4:UInt8->UInt64->Int->Option UInt64)(h:UInt64)(b:UInt8):Option UInt64:=
j4 b h 128
def AD:=GF YL
def BU:Option UInt64:=
some j
def Rv:=BU
def Lm:Option UInt64:=
if(Cj l7 (Ac Asn))then
(Ah Asn l7).bind λx=>
(AD l5 x).bind λz=>
w9 z (Ae l7 1)
else
r9 l5
def Fu:Nat->UInt64->Int->Option UInt64
|0,_,_=>none
|x+1,c,d=>Lm Rv (Fu x) z c d
def UC a:=Fu a Aq
def AE(j4:LB->UInt64->Int->Option UInt64)(k:UInt64)(a:LB):Option UInt64:=
j4 a k 0
def Pc:=AE UC
def BK:Option (UInt64×Int):=
if(Em (Ac p9) 100000)then
some (0,4)
else
(Pc j p9).bind λx=>
some (x,0)
def EX:Option (UInt64×Int):=
(BK 0 z).bind λ(x,c)=>
some (x,c)
def dM:Option (LX):=
some e
def IM:=dM
def LM(dW:UInt64->Int->LX->Option (LX))(b:UInt64)(f:Int)(a:LX)(g:Int32):Option (LX):=
(Ah a f).bind λ_=>
(Ka a f g).bind λh=>
dW (Ba b 256) (Ae f 1) h
def Rz dW:=LM dW
def Rl(j8:UInt64->Int->LX->Int32->Option (LX))(j10:LX->Option (LX))(b:UInt64)(f:Int)(a:LX):Option (LX):=
if(Cj f 8)then
if(Em (Ad (Te b 256):Int32) 127)then
j8 b f a (Ag (Ad (Te b 256):Int32) 256)
else
j8 b f a (Ad (Te b 256):Int32)
else
j10 a
def Hc:Nat->UInt64->Int->LX->Option (LX)
|0,_,_,_=>none
|q+1,b,f,a=>Rl (Rz (Hc q)) IM b f a
def eZ:=Hc Aq
def MM(j6:UInt64->Int->LX->Option (LX))(k:UInt64):Option (LX):=
j6 k 0 (List.replicate 16 (0:Int32))
def HX:=MM eZ
def Hv:Option (LX×Int):=
if(Em (Ac z) 64)then
some (([(0:Int32),(0:Int32),(0:Int32),(0:Int32),(0:Int32),(0:Int32),(0:Int32),(0:Int32),(0:Int32),(0:Int32),(0:Int32),(0:Int32),(0:Int32),(0:Int32),(0:Int32),(0:Int32)]:LX),2)
else
(EX z).bind λ(x,c)=>
(HX x).bind λd=>
some (d,0)
def Mp:Option Int:=
(Ca x c).bind λz=>
if(Br z 0)then
some 2
else
(Bc c e).bind λd=>
if(Br d 0)then
(Bc c e).bind λi=>
some i
else
if(Cj (Ac e) 1)then
some 2
else
(Hq (Br x 0)).bind λ_=>
if(Em (Ed (Ac e) x) 0)then
some 2
else
some 0
def Gw:Option Int:=
if((Cj x 1)||(Em x 6))then
some 2
else
if(Em (Ac e) 4000)then
some 4
else
(Hq (Br x 0)).bind λ_=>
if(Em (Ed (Ac e) x) 0)then
some 2
else
some 0
def Be:Option Int32:=
some (Ad (Ad (Ad x:UInt64):UInt32):Int32)
def XK:Option (LX):=
some e
def EA:=XK
def Nb:Option (LX):=
if(Cj N (Ac l8))then
if(geq (Ac l8) 1)then
(Ah l8 0).bind λx=>
(Bx l6 ([x]:LX)).bind λz=>
q9 (Ae N 1) z
else
if(Cj N (Ag (Ac l8) 1))then
(Ah l8 (Ae N 1)).bind λc=>
(Ah l8 N).bind λd=>
(Be (Ag (Ad c:Int) (Ad d:Int))).bind λe=>
(Bx l6 ([e]:LX)).bind λi=>
q9 (Ae N 1) i
else
(Ah l8 N).bind λj=>
(Ah l6 (Ag N 1)).bind λ_=>
(Ah l6 (Ag N 1)).bind λl=>
(Be (Ag (Ad j:Int) (Ba (Ad l:Int) 2))).bind λq=>
(Bx l6 ([q]:LX)).bind λr=>
q9 (Ae N 1) r
else
Asi l6
def Gm:Nat->Int->LX->Option (LX)
|0,_,_=>none
|x+1,z,c=>Nb EA (Gm x) e z c
def XF a:=Gm a Aq
def DK(j4:LX->Int->LX->Option (LX))(a:LX):Option (LX):=
j4 a 0 ([]:LX)
def Yf:=DK XF
abbrev Gx:=Option (LX×Int)
def dD:Gx:=
some (e,0)
def IX:=dD
def Wz(j6:LX->Gx)(Nf:Int->LX->Gx)(a:Int)(b:LX)(g:Int)(f:LX):Gx:=
if(Cj g (Ac b))then
(Ff b g (Ae g a)).bind λh=>
(Yf h).bind λk=>
(Bx f k).bind λm=>
Nf (Ae g a) m
else
j6 f
def Kz:Nat->Int->LX->Gx
|0,_,_=>none
|z+1,c,d=>Wz IX (Kz z) x e c d
def cQ a b:=Kz a b Aq
def Wd(j4:Int->LX->Int->LX->Gx)(a:Int)(b:LX):Gx:=
(Gw a b).bind λn=>
if(Br n 0)then
(Gw a b).bind λo=>
some (([]:LX),o)
else
j4 a b 0 ([]:LX)
def Vw:=Wd cQ
def MN:Option (Int×Int):=
if(geq x 8)then
some (4,0)
else
if((geq x 16)||(geq x 24))then
some (5,0)
else
some (0,2)
def PO:Option (Int×LX×LX×Int):=
(MN x).bind λ(z,c)=>
if(Br c 0)then
some (0,(List.replicate 16 (0:Int32)),(List.replicate 16 (0:Int32)),2)
else
if(geq x 16)then
some (9,e,(List.replicate 16 (0:Int32)),0)
else
some (10,e,(List.replicate 16 (0:Int32)),0)
def Vm:Option (Int×Int32×Int×LX×LX×Int):=
(PO x e).bind λ(z,c,d,i)=>
if(Br i 0)then
some (0,0,0,(List.replicate 16 (0:Int32)),(List.replicate 16 (0:Int32)),2)
else
some (x,0,z,c,d,0)
def PZ:Option (LX):=
some e
def Yy:=PZ
def Kb:Option (LX):=
if(Cj Asy (Ac l8))then
(Ah l8 Asy).bind λx=>
(Bx l6 ([x]:LX)).bind λz=>
q9 (Ae Asy N) z
else
Asi l6
def Ex:Nat->Int->LX->Option (LX)
|0,_,_=>none
|x+1,z,c=>Kb Yy (Ex x) e d z c
def SI a f:=Ex a f Aq
def Qr(j4:LX->Int->Int->LX->Option (LX))(a:LX)(m f:Int):Option (LX):=
j4 a f m ([]:LX)
def Ny:=Qr SI
def AF:Option Int32:=
(Hq (Br J 0)).bind λ_=>
(Hq (Br J 0)).bind λ_=>
if(Cj (Ed (Bf (Ag J 1) (Ad t:Int)) J) 0)then
some (Ad (Ag (Ba (Bf (Ag J 1) (Ad t:Int)) J) 1):Int32)
else
some (Ad (Ba (Bf (Ag J 1) (Ad t:Int)) J):Int32)
def Se:=AF
def CF(j2:Int32->Int->Option Int32)(f:Int)(b:Int32):Option Int32:=
if(geq f 5)then
j2 b 32
else
j2 b 16
def La:=CF Se
def Lb(b:Int)(a:Int32)(h:Int)(k m:LX):Option Int:=
if(geq b 8)then
(La 4 a).bind λf=>
some (Ad f:Int)
else
(La 5 a).bind λg=>
some (Ad g:Int)
def JB:Option Int32:=
some (Ad x:Int32)
def Wf:=JB
def Ou(j6:Int->Option Int32)(Nf:Int->Int->Option Int32)(h:Int)(b f:LX)(g a:Int):Option Int32:=
if(Cj a 16)then
(Ah b a).bind λ_=>
(Ah f a).bind λ_=>
(Ah b a).bind λk=>
(Ah f a).bind λm=>
(Be (Bf (Ad k:Int) (Ad m:Int))).bind λn=>
(Be (Ae g (Ad n:Int))).bind λo=>
Nf (Ad o:Int) (Ae a 1)
else
j6 g
def Ij:Nat->Int->Int->Option Int32
|0,_,_=>none
|z+1,c,d=>Ou Wf (Ij z) x e B c d
def cH h b f:=Ij h b f Aq
def IW(j4:Int->LX->LX->Int->Int->Option Int32)(h:Int)(b f:LX):Option Int32:=
j4 h b f 0 0
def EE:=IW cH
def FT:Option Int32:=
(EE x e B).bind λz=>
(Be (Ae (Ad z:Int) (Ba x9 2))).bind λc=>
(Hq (Br x9 0)).bind λ_=>
(Hq (Br x9 0)).bind λ_=>
if(Cj (Ed (Ad c:Int) x9) 0)then
some (Ad (Ag (Ba (Ad c:Int) x9) 1):Int32)
else
some (Ad (Ba (Ad c:Int) x9):Int32)
def Vi:=FT
def FZ(j2:Int->LX->LX->Int->Option Int32)(b:Int)(f g:LX):Option Int32:=
if(geq b 9)then
j2 b f g 512
else
j2 b f g 1024
def Nx:=FZ Vi
def Un:Option Int32:=
if(geq x 0)then
some 4
else
if(sV x 3)then
some 2
else
some 1
def Nr:Option Int32:=
if(Cj t 0)then
some (-1:Int32)
else
if(Em t 0)then
some 1
else
some 0
abbrev Dx:=Option (Int×LX×LX)
def SZ:Dx:=
some (x,e,B)
def Zt:=SZ
def Ke(j6:Int->LX->LX->Dx)(Nf:Int->LX->Dx)(h:Int32)(g:Int)(b:LX)(a:Int)(f:LX):Dx:=
if(Cj a 16)then
(Ah f a).bind λ_=>
(Ah b a).bind λ_=>
(Ah f a).bind λk=>
(Ah b a).bind λm=>
(Un a).bind λn=>
(Nr m).bind λo=>
(Nr h).bind λp=>
(Ah f a).bind λ_=>
(Ka f a (Ae k (Bf (Bf n o) p))).bind λu=>
Nf (Ae a 1) u
else
j6 g f b
def Ez:Nat->Int->LX->Dx
|0,_,_=>none
|x+1,z,c=>Ke Zt (Ez x) t J P z c
def RV h g b:=Ez h g b Aq
def Zk(j4:Int32->Int->LX->Int->LX->Dx)(g:Int)(v b:LX)(h:Int32):Dx:=
j4 h g b 0 v
def Nt:=Zk RV
abbrev Eh:=Option (Int×LX×LX)
def BA:Eh:=
(Ah U 0).bind λ_=>
(Ka U 0 t).bind λx=>
some (J,P,x)
def Ri:=BA
def Lq(j6:Int32->Int->LX->LX->Eh)(Nf:Int->LX->Eh)(b:Int32)(f:Int)(g:LX)(h:Int)(a:LX):Eh:=
if(Em h 0)then
(Ah a (Ag h 1)).bind λ_=>
(Ah a (Ag h 1)).bind λm=>
(Ah a h).bind λ_=>
(Ka a h m).bind λn=>
Nf (Ag h 1) n
else
j6 b f g a
def Fw:Nat->Int->LX->Eh
|0,_,_=>none
|x+1,z,c=>Lq Ri (Fw x) t J P z c
def UD b f g:=Fw b f g Aq
def AY(j4:Int32->Int->LX->Int->LX->Eh)(f:Int)(g o:LX)(b:Int32):Eh:=
j4 b f g 15 o
def Oy:=AY UD
def Uk:Option (Int32×Int×LX×LX):=
(Nx x e B).bind λz=>
(Be (Ag (Ad t:Int) (Ad z:Int))).bind λc=>
(Nt x e B c).bind λ(d,i,j)=>
(Oy d i j t).bind λ(l,q,r)=>
some (c,l,q,r)
def Od:Option (Int32×Int×Int32×Int×LX×LX):=
(Lb x t J P U).bind λz=>
(Be (Ag (Ad p8:Int) z)).bind λc=>
(Uk J P U c).bind λ(d,e,i,j)=>
some (d,x,p8,e,i,j)
def Uo:Option UInt32:=
if(Jz t 0)then
some (Bf 2 (Ad t:UInt32))
else
some (Ad (Ag (Bf (-2:Int) (Ad t:Int)) 1):UInt32)
def TB:Option (LU):=
some F
def BI:=TB
def AJ(JQ:Int->LU->Option (LU))(a b:Int)(f g:LX)(h:Int)(n:LU):Option (LU):=
JQ (Ae h 1) n
def Rt JQ:=AJ JQ
def AG(Ali:Int->LU->Int->Int32->Int->LX->LX->Option (LU))(h a b:Int)(f g k:LX)(m:Int)(aa:Int32)(n:LU)(p:Int)(u:Int32)(v:Int)(w y:LX)(ab:Int)(ac:Int32)(ad:Int)(ae af:LX):Option (LU):=
(Uo aa).bind λai=>
(Ah n (Ae h (Bf m a))).bind λ_=>
(Ka n (Ae h (Bf m a)) ai).bind λaj=>
Ali (Ae m 1) aj ab ac ad ae af
def Rr Ali:=AG Ali
def If(j22:Int->Int32->LU->Int->Int32->Int->LX->LX->Int->Int32->Int->LX->LX->Option (LU))(j24:Int->LU->Option (LU))(a b:Int)(f g:LX)(h:Int)(k:LX)(m:Int)(n:LU)(p:Int)(u:Int32)(v:Int)(w y:LX):Option (LU):=
if(Cj m (Ac k))then
(Ah k m).bind λ_=>
(Ah k m).bind λah=>
(
(Od p u v w y ah).bind λ(aa,ab,ac,ad,ae,af)=>
j22 m aa n p u v w y ab ac ad ae af)
else
j24 h n
def Fp(JQ:Int->LU->Option (LU))(a b:Int)(f g:LX)(h:Int)(k:LX):Nat->Int->LU->Int->Int32->Int->LX->LX->Option (LU)
|0,_,_,_,_,_,_,_=>none
|q+1,m,n,p,u,v,w,y=>If (Rr (Fp JQ a b f g h k q) h a b f g k) (Rt JQ a b f g) a b f g h k m n p u v w y
def Sa JQ a b f g h k:=Fp JQ a b f g h k Aq
def Lj(j20:Int->LX->Int->LU->Int->Int32->Int->LX->LX->Option (LU))(j26:LU->Option (LU))(a b:Int)(f g:LX)(h:Int)(o:LU):Option (LU):=
if(Cj h a)then
(Vm b f).bind λ(ak,al,am,an,ao,ar)=>
(Ny g h a).bind λk=>
j20 h k 0 o ak al am an ao
else
j26 o
def Dz:Nat->Int->LU->Option (LU)
|0,_,_=>none
|z+1,d,i=>Lj (Sa (Dz z) x c e B) BI x c e B d i
def AO a b f g:=Dz a b f g Aq
def Ua(j14:Int->Int->LX->LX->Int->LU->Option (LU))(a b:Int)(f ag:LX):Option (LU):=
(Vw a ag).bind λ(g,au)=>
(mkI (Ac ag) (0:UInt32)).bind λap=>
(Hq (geq (Ac ag) (Ac ag))).bind λ_=>
j14 a b f g 0 ap
def Sd:=Ua AO
def Mi:Option (Int×Int×UInt64×UInt64):=
some (10,10,16384,16384)
def WV:Option UInt64:=
some j
def DG:=WV
def Mw:Option UInt64:=
if(Cj l7 Asx)then
w9 (Bf l5 2) (Ae l7 1)
else
r9 l5
def Gl:Nat->UInt64->Int->Option UInt64
|0,_,_=>none
|z+1,c,d=>Mw DG (Gl z) x c d
def WS b:=Gl b Aq
def DB(j4:Int->UInt64->Int->Option UInt64)(b:Int):Option UInt64:=
j4 b 1 0
def Dg:=DB WS
def Jc(a g:Int)(h k:UInt64)(b:UInt32):Option Bool:=
(Dg a).bind λf=>
some (Cj (Ad b:UInt64) f)
def Dq(a g:Int)(h k:UInt64)(b:UInt32):Option UInt32:=
(Dg a).bind λf=>
some (Ad (Ag (Ad b:UInt64) f):UInt32)
abbrev Xa:=Option (Int×UInt64)
def HK:Xa:=
if(Cj x 24)then
(Dg (Ae x 5)).bind λz=>
if(Em (Ag (Ae j M) (Ba j 16)) z)then
some ((Ae x 1),(Ag (Ae j M) (Ba j 16)))
else
some (x,(Ag (Ae j M) (Ba j 16)))
else
some (x,(Ag (Ae j M) (Ba j 16)))
def Us:=HK
def GM(j2:Int->UInt64->UInt64->Xa)(b:Int)(a f:UInt64):Xa:=
if(Em b 0)then
(Dg (Ae b 4)).bind λh=>
if(Cj (Ag (Ae a f) (Ba a 16)) h)then
some ((Ag b 1),(Ag (Ae a f) (Ba a 16)))
else
j2 b a f
else
j2 b a f
def Hw:=GM Us
abbrev Tw:=Option (Int×Int×UInt64×UInt64)
def CB(f:UInt32)(g a:Int)(h b:UInt64)(w:Int)(y:UInt64):Tw:=
(Hw g h (Ad f:UInt64)).bind λ(aa,ab)=>
some (aa,w,ab,y)
def Li:=CB
def Lh(j2:UInt32->Int->Int->UInt64->UInt64->Int->UInt64->Tw)(g a:Int)(h b:UInt64)(f:UInt32):Tw:=
(Jc g a h b f).bind λo=>
if(!o)then
(
(
(Dq g a h b f).bind λk=>
(Hw a b (Ad k:UInt64)).bind λ(m,n)=>
j2 f g a h b m n))
else
j2 f g a h b a b
def Kq:=Lh Li
abbrev Ei:=Option ((List (Int×Int×UInt64×UInt64×Unit)))
def UK:Ei:=
some Asp
def CD:=UK
def Lo(j6:(List (Int×Int×UInt64×UInt64×Unit))->Ei)(Nf:Int-> (List (Int×Int×UInt64×UInt64×Unit))->Ei)(b:Int)(g:LU)(f:Int)(a:List (Int×Int×UInt64×UInt64×Unit)):Ei:=
if(Cj f (Ac g))then
if(Cj f b)then
(Mi).bind λ(k,m,n,o)=>
(Bx a ([(k,m,n,o,())]:List (Int×Int×UInt64×UInt64×Unit))).bind λp=>
Nf (Ae f 1) p
else
(Ah a (Ag f b)).bind λ_=>
(Ah g (Ag f b)).bind λu=>
(Ah a (Ag f b)).bind λh=>
(Kq h.1 h.2.1 h.2.2.1 h.2.2.2.1 u).bind λ(v,w,y,aa)=>
(Bx a ([(v,w,y,aa,())]:List (Int×Int×UInt64×UInt64×Unit))).bind λab=>
Nf (Ae f 1) ab
else
j6 a
def Fs:Nat->Int-> (List (Int×Int×UInt64×UInt64×Unit))->Ei
|0,_,_=>none
|z+1,c,d=>Lo CD (Fs z) x F c d
def TP b g:=Fs b g Aq
def So(j4:Int->LU->Int-> (List (Int×Int×UInt64×UInt64×Unit))->Ei)(b:Int)(g:LU):Ei:=
j4 b g 0 ([]:List (Int×Int×UInt64×UInt64×Unit))
def Pf:=So TP
abbrev Dw:=Option (LB×Int)
def IJ:Dw:=
(Ah z (Ba i 8)).bind λ_=>
(Ah z (Ba i 8)).bind λd=>
(Ah z (Ba i 8)).bind λ_=>
(Ka z (Ba i 8) (Ae d (Ad (Bf x c):UInt8))).bind λe=>
some (e,(Ae i 1))
def Pa:=IJ
def Pp(j8:Int->Int->Int->LB->Dw)(dW:Int->Int->Dw)(b a:Int)(f:LB)(g h:Int):Dw:=
if(Cj h (Ed a 8))then
dW (Bf g 2) (Ae h 1)
else
j8 b g a f
def Ip:Nat->Int->Int->Dw
|0,_,_=>none
|d+1,e,i=>Pp Pa (Ip d) x c z e i
def IF b a f:=Ip b a f Aq
def Wv(j6:Int->Int->LB->Int->Int->Dw)(b a:Int)(f:LB):Dw:=
j6 b a f 1 0
def Wh:=Wv IF
def Wl(j5:Int->Int->LB->Dw)(k:LB)(a b:Int):Dw:=
if(geq (Ed a 8) 0)then
(Bx k ([(0:UInt8)]:LB)).bind λo=>
j5 b a o
else
j5 b a k
def By:=Wl Wh
abbrev Eg:=Option (LB×Int)
def TR:Eg:=
some (z,x)
def BO:=TR
def Ln(j6:Int->LB->Eg)(Nf:UInt64->Int->Int->LB->Eg)(f:Int)(g:UInt64)(h a:Int)(b:LB):Eg:=
if(Cj h f)then
(By b a (Ad (Te g 2):Int)).bind λ(k,m)=>
Nf (Ba g 2) (Ae h 1) m k
else
j6 a b
def Ft:Nat->UInt64->Int->Int->LB->Eg
|0,_,_,_,_=>none
|z+1,c,d,e,i=>Ln BO (Ft z) x c d e i
def UZ f:=Ft f Aq
def CQ(j4:Int->UInt64->Int->Int->LB->Eg)(n:LB)(o:Int)(p:UInt64)(f:Int):Eg:=
j4 f p 0 o n
def Ik:=CQ UZ
def Ns:Option Int:=
(Dg L).bind λx=>
(Hq (Br x 0)).bind λ_=>
some (Ad (Jf 48 (Ba (Ad E:UInt64) x)):Int)
abbrev Gu:=Option (LB×Int)
def II:Gu:=
if(Cj x 48)then
(By z c 0).bind λ(d,e)=>
some (d,e)
else
some (z,c)
def Xb:=II
def Pd(j6:Int->Int->LB->Gu)(Nf:Int->Int->LB->Gu)(a g b:Int)(f:LB):Gu:=
if(Cj g a)then
(By f b 1).bind λ(h,k)=>
Nf (Ae g 1) k h
else
j6 a b f
def Ii:Nat->Int->Int->LB->Gu
|0,_,_,_=>none
|z+1,c,d,e=>Pd Xb (Ii z) x c d e
def dC a:=Ii a Aq
def JA(j4:Int->Int->Int->LB->Gu)(m:LB)(n a:Int):Gu:=
j4 a 0 n m
def EG:=JA dC
def Jg:Option (LB×Int):=
(Ns E L).bind λx=>
(EG z d x).bind λ(c,e)=>
if(geq x 48)then
(Ik c e (Ad E:UInt64) 32).bind λ(i,j)=>
some (i,j)
else
(Dg L).bind λl=>
(Hq (Br l 0)).bind λ_=>
(Ik c e (Te (Ad E:UInt64) l) L).bind λ(q,r)=>
some (q,r)
abbrev Yj:=Option (LB×Int)
def Pn:Yj:=
(
(
(By Asr L 1).bind λ(x,z)=>
(
(
(Dq Asm y9 y5 Ash E).bind λc=>
(Jg x z c y9).bind λ(d,e)=>
some (d,e)))))
def Wj:=Pn
def Pj(j2:UInt32->Int->Int->Int->UInt64->UInt64->LB->Yj)(m:LB)(g f a:Int)(h k:UInt64)(b:UInt32):Yj:=
(Jc f a h k b).bind λy=>
if y then
(
(
(By m g 0).bind λ(n,o)=>
(Ik n o (Ad b:UInt64) f).bind λ(aa,ab)=>
some (aa,ab)))
else
j2 b g f a h k m
def Fl:=Pj Wj
def GW:Option UInt32:=
if As3 then
some (Ww (Ba E 2) 3988292384)
else
some (Ba E 2)
def FY:=GW
def FP(j2:UInt32->Bool->Option UInt32)(a:UInt32)(f:Int):Option UInt32:=
if(geq f 1)then
j2 a (!(geq (Te a 2) 1))
else
j2 a (geq (Te a 2) 1)
def Ul:=FP FY
def HD:Option UInt32:=
some E
def Vl:=HD
def Oe(j6:UInt32->Option UInt32)(Nf:UInt32->UInt8->Int->Option UInt32)(a:UInt32)(b:UInt8)(f:Int):Option UInt32:=
if(Cj f 8)then
(Ul a (Ad (Te b 2):Int)).bind λg=>
Nf g (Ba b 2) (Ae f 1)
else
j6 a
def Hh:Nat->UInt32->UInt8->Int->Option UInt32
|0,_,_,_=>none
|q+1,a,b,f=>Oe Vl (Hh q) a b f
def YU:=Hh Aq
def HN(j4:UInt32->UInt8->Int->Option UInt32)(h:UInt32)(k:UInt8):Option UInt32:=
j4 h k 0
def CG:=HN YU
def BH:Option UInt32:=
some E
def Ta:=BH
def Lg(j6:UInt32->Option UInt32)(Nf:UInt32->Int->Option UInt32)(a:LB)(b:UInt32)(f:Int):Option UInt32:=
if(Cj f (Ac a))then
(Ah a f).bind λg=>
(CG b g).bind λh=>
Nf h (Ae f 1)
else
j6 b
def Fv:Nat->UInt32->Int->Option UInt32
|0,_,_=>none
|x+1,c,d=>Lg Ta (Fv x) z c d
def BW a:=Fv a Aq
def Rn(j4:LB->UInt32->Int->Option UInt32)(k:UInt32)(a:LB):Option UInt32:=
j4 a k 0
def We:=Rn BW
def Fk:Option UInt32:=
(We 4294967295 z).bind λx=>
some (Ag 4294967295 x)
def Ky:Option (LB):=
(Fk z).bind λx=>
(Bx ([]:LB) z).bind λc=>
(Bx c ([(Ad x:UInt8),(Ad (Bu x (GI.toZ (8:UInt64)).toNat):UInt8),(Ad (Bu x (GI.toZ (16:UInt64)).toNat):UInt8),(Ad (Bu x (GI.toZ (24:UInt64)).toNat):UInt8)]:LB)).bind λd=>
some d
def CC:Option (LB):=
(Ky z).bind λx=>
some x
def Ro:=CC
def BL(vR:Int->Int->LB->Option (LB))(f:LU)(b:List (Int×Int×UInt64×UInt64×Unit))(m a:Int)(u:LB):Option (LB):=
vR m (Ae a 1) u
def Rj vR:=BL vR
def AX(Ail:Int->Int->LB->Option (LB))(f:LU)(a:Int)(b:List (Int×Int×UInt64×UInt64×Unit))(h:Int)(g:LB)(m o:Int)(w:LB):Option (LB):=
(Ah g (Ba o 8)).bind λ_=>
(Ah g (Ba o 8)).bind λaj=>
if(geq (Te (Bu aj (GI.toZ (Ad (Ed o 8):UInt64)).toNat) 2) 1)then
(Ah w (Ba m 8)).bind λ_=>
(Ah w (Ba m 8)).bind λak=>
(Ah w (Ba m 8)).bind λ_=>
(Ka w (Ba m 8) (Ae ak (De (1:UInt8) (GI.toZ (Ad (Ed m 8):UInt64)).toNat))).bind λal=>
Ail (Ae m 1) (Ae o 1) al
else
Ail (Ae m 1) (Ae o 1) w
def Lk Ail:=AX Ail
def Ll(j40:Int->Int->LB->Option (LB))(j42:Int->Int->LB->Option (LB))(f:LU)(b:List (Int×Int×UInt64×UInt64×Unit))(a h:Int)(g:LB)(m o:Int)(u:LB):Option (LB):=
if(Cj o h)then
if(geq (Ed m 8) 0)then
(Bx u ([(0:UInt8)]:LB)).bind λam=>
j40 m o am
else
j40 m o u
else
j42 m a u
def Dc(vR:Int->Int->LB->Option (LB))(f:LU)(b:List (Int×Int×UInt64×UInt64×Unit))(a h:Int)(g:LB):Nat->Int->Int->LB->Option (LB)
|0,_,_,_=>none
|q+1,m,o,u=>Ll (Lk (Dc vR f b a h g q) f a b h g) (Rj vR f b) f b a h g m o u
def Rw vR f b a h g:=Dc vR f b a h g Aq
def Sr(j38:Int->Int->LB->Int->Int->LB->Option (LB))(f:LU)(b:List (Int×Int×UInt64×UInt64×Unit))(n a:Int)(k:LB)(h:Int)(g:LB):Option (LB):=
j38 a h g n 0 k
def AM vR f b:=Sr (Rw vR f b) f b
def Hz(j37:Int->Int->LB->Int->LB->Option (LB))(j44:LB->Option (LB))(f:LU)(b:List (Int×Int×UInt64×UInt64×Unit))(n a:Int)(k:LB):Option (LB):=
if(Cj a (Ac f))then
(Ah b a).bind λ_=>
(Ah f a).bind λv=>
(
(
(Ah b a).bind λp=>
(
(
(Fl ([]:LB) 0 p.1 p.2.1 p.2.2.1 p.2.2.2.1 v).bind λ(g,h)=>
j37 n a k h g))))
else
j44 k
def Dv:Nat->Int->Int->LB->Option (LB)
|0,_,_,_=>none
|x+1,z,c,d=>Hz (AM (Dv x) F Asp) Ro F Asp z c d
def BZ f b:=Dv f b Aq
def Tr(j23:LU-> (List (Int×Int×UInt64×UInt64×Unit))->Int->Int->LB->Option (LB))(an:Int)(f:LU):Option (LB):=
(Pf an f).bind λb=>
j23 f b 0 0 ([]:LB)
def Ye:=Tr BZ
def Ld:Option (LB×Int):=
(Mp x c B).bind λz=>
if(Br z 0)then
(Mp x c B).bind λd=>
some (([]:LB),d)
else
(Sd x c e B).bind λi=>
(Ye x i).bind λj=>
some (j,0)
def Yl:Option (Int×Int×Int×LB×LB×LX×(List LB)×LB×Bool×Int):=
(Hv z).bind λ(j,l)=>
(Ld x c j e).bind λ(t,A)=>
(Bx q ([t]:List LB)).bind λB=>
some (x,c,i,z,s,([]:LX),B,C,r,d)
abbrev Rs:=Option (Int×Int×Int×LB×LB×LX×(List LB)×LB×Bool×Int×Int)
def Zi:Rs:=
(Of c D).bind λ(e,j)=>
(Bx B e).bind λl=>
(Gk x c i z ([]:LB) l Z o9 r d).bind λq=>
if(geq (Ac l) (Bf q x))then
(Yl x c i z ([]:LB) l Z o9 r d).bind λ(s,t,A,C,E,F,G,I,J,L)=>
some (s,t,A,C,E,F,G,I,J,L,0)
else
some (x,c,i,z,([]:LB),l,Z,o9,r,d,0)
def Zn:=Zi
def Yw(j2:Int->Int->Int->LB->Bool->Int->LB->LX-> (List LB)->LB->Rs)(a b g:Int)(h ak:LB)(p:LX)(f:List LB)(n:LB)(k:Bool)(m:Int)(al:UInt8):Rs:=
(Bx ak ([al]:LB)).bind λo=>
(Gg a b).bind λam=>
if(Cj (Ac o) am)then
some (a,b,g,h,o,p,f,n,k,m,0)
else
(Cv a b g h o p f n k m).bind λan=>
(Kh a b g h o p f n k m (Ae (Ac f) 1) (Ae an 1)).bind λao=>
if(!ao)then
(Fz a b g h o p f n k m 18).bind λ(ap,v,aq,ar,au,av,aw,ax,ay,az)=>
some (ap,v,aq,ar,au,av,aw,ax,ay,az,18)
else
j2 a b g h k m o p f n
def Jy:=Yw Zn
abbrev Dm:=Option (Int×Int×Int×LB×LB×LX×(List LB)×LB×Bool×Int×Int)
def DV:Dm:=
some (x,c,i,z,D,B,Z,o9,r,d,0)
def Tz:=DV
def Vc(dW:Int->Int->Int->Int->LB->Bool->Int->LB->LX-> (List LB)->LB->Dm)(a:LB)(n w b f g:Int)(h:LB)(k:Bool)(m y aa ab:Int)(ac:LB)(ad:Bool)(ae:Int)(af:LB)(ag:LX)(ah:List LB)(ai:LB):Dm:=
if(Br w 0)then
some (y,aa,ab,ac,af,ag,ah,ai,ad,ae,w)
else
dW (Ae n 1) y aa ab ac ad ae af ag ah ai
def Oh dW:=Vc dW
def Jo(j8:Int->Int->Int->Int->Int->LB->Bool->Int->Int->Int->Int->LB->Bool->Int->LB->LX-> (List LB)->LB->Dm)(j10:Int->Int->Int->LB->Bool->Int->LB->LX-> (List LB)->LB->Dm)(a:LB)(n b f g:Int)(h:LB)(k:Bool)(m:Int)(o:LB)(p:LX)(u:List LB)(v:LB):Dm:=
if(Cj n (Ac a))then
(Ah a n).bind λaj=>
(
(
(
(Jy b f g h o p u v k m aj).bind λ(y,aa,ab,ac,af,ag,ah,ai,ad,ae,w)=>
j8 n w b f g h k m y aa ab ac ad ae af ag ah ai)))
else
j10 b f g h k m o p u v
def Hg:Nat->Int->Int->Int->Int->LB->Bool->Int->LB->LX-> (List LB)->LB->Dm
|0,_,_,_,_,_,_,_,_,_,_,_=>none
|x+1,c,d,e,i,j,l,q,r,s,t,A=>Jo (Oh (Hg x) z) Tz z c d e i j l q r s t A
def bE a:=Hg a Aq
def Vd(j6:LB->Int->Int->Int->Int->LB->Bool->Int->LB->LX-> (List LB)->LB->Dm)(aw ax ay:Int)(az ba:LB)(bb:LX)(bc:List LB)(bd:LB)(be:Bool)(bf:Int)(a:LB):Dm:=
(Ix aw ax ay az ba bb bc bd be bf).bind λbg=>
if(Br bg 0)then
some (0,0,0,([]:LB),([]:LB),([]:LX),([]:List LB),([]:LB),false,0,bg)
else
(Nq aw ax ay az ba bb bc bd be bf).bind λ(ak,al,am,an,ao,ap,aq,ar,au,av)=>
(Jv ak al am an ao ap aq ar au av).bind λbh=>
if(Br bh 0)then
some (ak,al,am,an,ao,ap,aq,ar,au,av,bh)
else
j6 a 0 ak al am an au av ao ap aq ar
def Nz:=Vd bE
def Im:Option Int:=
if(z==([]:LB))then
some 1
else
some 2
def Zg:Option (LB):=
some z
def Pr:=Zg
def Kg(j6:LB->Option (LB))(Nf:UInt64->Int->LB->Option (LB))(b:Int)(f:UInt64)(g:Int)(a:LB):Option (LB):=
if(Cj g b)then
(Bx a ([(Ad (Te f 256):UInt8)]:LB)).bind λh=>
Nf (Ba f 256) (Ae g 1) h
else
j6 a
def Ew:Nat->UInt64->Int->LB->Option (LB)
|0,_,_,_=>none
|z+1,c,d,e=>Kg Pr (Ew z) x c d e
def Zc b:=Ew b Aq
def Qq(j4:Int->UInt64->Int->LB->Option (LB))(k:UInt64)(b:Int):Option (LB):=
j4 b k 0 ([]:LB)
def Al:=Qq Zc
def Sm:Option (LB):=
(Al (Ad x:UInt64) 2).bind λz=>
(Bx ([(84:UInt8),(84:UInt8),(65:UInt8),(49:UInt8)]:LB) z).bind λe=>
(Al (Ad c:UInt64) 2).bind λj=>
(Bx e j).bind λl=>
(Al (Ad i:UInt64) 2).bind λq=>
(Bx l q).bind λr=>
(Al (Ad I:UInt64) 4).bind λs=>
(Bx r s).bind λt=>
(Al (Ad d:UInt64) 4).bind λA=>
(Bx t A).bind λB=>
(Fk B).bind λC=>
(Al (Ad C:UInt64) 4).bind λD=>
(Bx B D).bind λE=>
some E
def BP:Option UInt64:=
(Pc 0 z).bind λx=>
some x
def Jt:Option (LB):=
(BP z).bind λx=>
(Al x 8).bind λc=>
some c
def DJ:Option (LB):=
(Fk z).bind λx=>
(Al (Ad x:UInt64) 4).bind λc=>
(Bx z c).bind λd=>
some d
def Uc:=DJ
def My(j6:LB->Option (LB))(Nf:Int->LB->Option (LB))(b:LI)(f:Int)(a:LB):Option (LB):=
if(Cj f (Ac b))then
(Ah b f).bind λm=>
(Al (Ad m:UInt64) 4).bind λg=>
(Bx a g).bind λh=>
Nf (Ae f 1) h
else
j6 a
def Gn:Nat->Int->LB->Option (LB)
|0,_,_=>none
|x+1,z,c=>My Uc (Gn x) A z c
def XS b:=Gn b Aq
def DX(j4:LI->Int->LB->Option (LB))(b:LI):Option (LB):=
j4 b 0 ([]:LB)
def Ys:=DX XS
def Tu:Option (LB):=
(Ys A).bind λx=>
(Bx o8 x).bind λz=>
(Bx z D).bind λc=>
some c
def To:=Tu
def DC(j12:LI->LB->LB->Option (LB))(b f g:Int)(a h:LB)(aa:LX)(k:LB)(m:Bool)(n p o:Int)(v:LI)(w:LB)(u:List LB):Option (LB):=
(Sm p b f g o).bind λaf=>
if(a !=([]:LB))then
(Jt a).bind λae=>
(Bx af ae).bind λaj=>
j12 v w aj
else
j12 v w af
def Nc:=DC To
def Oa(j11:Int->Int->Int->LB->LB->LX->LB->Bool->Int->Int->Int->LI->LB-> (List LB)->Option (LB))(bk9:Int->LI->LB->Option (LB))(b f g:Int)(a h:LB)(aa:LX)(k:LB)(m:Bool)(n p o:Int)(u:List LB)(y:Int)(v:LI)(w:LB):Option (LB):=
if(Cj y (Ac u))then
(Ah u y).bind λ_=>
(Ah u y).bind λak=>
(Bx v ([(Ac ak)]:LI)).bind λae=>
(Ah u y).bind λ_=>
(Ah u y).bind λal=>
(Bx w al).bind λad=>
bk9 (Ae y 1) ae ad
else
j11 b f g a h aa k m n p o v w u
def Hk:Nat->Int->LI->LB->Option (LB)
|0,_,_,_=>none
|j+1,q,t,A=>Oa Nc (Hk j) x c i z s e C r d l G Asv q t A
def aN b f g a h aa k m n p o u:=Hk b f g a h aa k m n p o u Aq
def GB(j9:Int->Int->Int->LB->LB->LX->LB->Bool->Int->Int->Int-> (List LB)->Int->LI->LB->Option (LB))(b f g:Int)(a h k:LB)(m:Bool)(n p o:Int)(aa:LX)(u:List LB):Option (LB):=
j9 b f g a h aa k m n p o u 0 ([]:LI) ([]:LB)
def GL:=GB aN
def Uw(j8:Int->Int->Int->LB->LB->LB->Bool->Int->Int->Int->LX-> (List LB)->Option (LB))(b f g:Int)(a h:LB)(ab:LX)(k:LB)(m:Bool)(n p o:Int)(ac:List LB):Option (LB):=
if(Em (Ac ab) 0)then
(Hv a).bind λ(am,ap)=>
(Ld b f am ab).bind λ(an,aq)=>
(Bx ac ([an]:List LB)).bind λao=>
j8 b f g a h k m n p o ([]:LX) ao
else
j8 b f g a h k m n p o ab ac
def FQ:=Uw GL
def Nl(j7:Int->Int->Int->LB->LB->LX->LB->Bool->Int->Int->Int-> (List LB)->Option (LB))(b f g:Int)(a h:LB)(ab:LX)(ac:List LB)(k:LB)(m:Bool)(n:Int):Option (LB):=
(
(Im a).bind λp=>
(
(Cv b f g a h ab ac k m n).bind λo=>
(
j7 b f g a h ab k m n p o ac)))
def Kk:=Nl FQ
abbrev Tq:=Option (Int×Int×Int×LB×LB×LX×(List LB)×LB×Bool×Int×Int)
def Lr:Tq:=
(
(
(
(Kk x c i z D B Z o9 r d).bind λe=>
some (x,c,i,z,([]:LB),([]:LX),([]:List LB),e,true,0,0))))
def Sj:=Lr
def Rp(j2:Int->Int->Int->LB->Bool->Int->LB->LX-> (List LB)->LB->Tq)(aa ab ac:Int)(ad ae:LB)(af:LX)(ag:List LB)(ah:LB)(ai:Bool)(aj:Int):Tq:=
(Ix aa ab ac ad ae af ag ah ai aj).bind λak=>
if(Br ak 0)then
some (0,0,0,([]:LB),([]:LB),([]:LX),([]:List LB),([]:LB),false,0,ak)
else
(Nq aa ab ac ad ae af ag ah ai aj).bind λ(a,b,f,g,h,n,o,p,k,m)=>
(Jv a b f g h n o p k m).bind λal=>
if(Br al 0)then
some (a,b,f,g,h,n,o,p,k,m,al)
else
if(Em (Ac h) 0)then
(Fz a b f g h n o p k m 24).bind λ(ao,ap,aq,ar,au,av,aw,ax,ay,az)=>
some (ao,ap,aq,ar,au,av,aw,ax,ay,az,24)
else
(Cv a b f g h n o p k m).bind λba=>
if(geq ba 0)then
(Fz a b f g h n o p k m 24).bind λ(bb,bc,bd,be,bf,bg,bh,bi,bj,bk)=>
some (bb,bc,bd,be,bf,bg,bh,bi,bj,bk,24)
else
j2 a b f g k m h n o p
def Pk:=Rp Sj
abbrev Cw:=Option (LB×Int)
def Za:Cw:=
(Pk x c i z D B Z o9 r d).bind λ(e,j,l,q,s,t,A,C,E,F,G)=>
if(Br G 0)then
some (([]:LB),G)
else
some (C,0)
def Qx:=Za
def Sf(dW:Int->Int->Int->Int->Int->LB->Bool->Int->LB->LX-> (List LB)->LB->Cw)(f:LB)(a:LI)(ad g b ab ae af:Int)(ag:LB)(ah:Bool)(ai:Int)(ac:LB)(aa:LX)(aj:List LB)(ak:LB):Cw:=
if(Br ad 0)then
some (([]:LB),ad)
else
(Ah a b).bind λ_=>
(Ah a b).bind λap=>
dW (Ae g ap) (Ae b 1) ab ae af ag ah ai ac aa aj ak
def Ls dW:=Sf dW
def Ih(j8:Int->Int->Int->Int->Int->Int->LB->Bool->Int->LB->LX-> (List LB)->LB->Cw)(j10:Int->Int->Int->LB->Bool->Int->LB->LX-> (List LB)->LB->Cw)(f:LB)(a:LI)(g b h k m:Int)(n:LB)(o:Bool)(p:Int)(u:LB)(v:LX)(w:List LB)(y:LB):Cw:=
if(Cj b (Ac a))then
(Ah a b).bind λ_=>
(
(Ah a b).bind λal=>
(Ff f g (Ae g al)).bind λam=>
(Nz h k m n u v w y o p am).bind λ(ab,ae,af,ag,ac,aa,aj,ak,ah,ai,ad)=>
j8 ad g b ab ae af ag ah ai ac aa aj ak)
else
j10 h k m n o p u v w y
def Fo:Nat->Int->Int->Int->Int->Int->LB->Bool->Int->LB->LX-> (List LB)->LB->Cw
|0,_,_,_,_,_,_,_,_,_,_,_,_=>none
|x+1,c,d,e,i,j,l,q,r,s,t,B,C=>Ih (Ls (Fo x) z A) Qx z A c d e i j l q r s t B C
def TY f a:=Fo f a Aq
def Ic(j6:LB->LI->Int->Int->Int->Int->Int->LB->Bool->Int->LB->LX-> (List LB)->LB->Cw)(aq ar au:Int)(av f:LB)(aw:UInt64):Cw:=
if(Em (Ac f) 100000)then
some (([]:LB),2)
else
(Ma aq ar au av).bind λ(ax,ay,az,ba,bb,bc,bd,be,bf,bg,ao)=>
if(Br ao 0)then
some (([]:LB),ao)
else
(Ql (Ac f) aw).bind λa=>
j6 f a 0 0 ax ay az ba bf bg bb bc bd be
def Gd:=Ic TY
def OW:Option Bool:=
some true
def Xk:=OW
def Jj(j6:Option Bool)(Nf:Int->Option Bool)(a b:LI)(f:Int):Option Bool:=
if(Cj f (Ac a))then
(Ah a f).bind λg=>
(Ah b f).bind λh=>
if(Br g h)then
some false
else
Nf (Ae f 1)
else
j6
def Ee:Nat->Int->Option Bool
|0,_=>none
|x+1,z=>Jj Xk (Ee x) A Asj z
def PA a b:=Ee a b Aq
def On(j4:LI->LI->Int->Option Bool)(a b:LI):Option Bool:=
if(Br (Ac a) (Ac b))then
some false
else
j4 a b 0
def Mx:=On PA
def Qh:Option Bool:=
(AZ Asw).bind λz=>
if(z||(Em (Ac Asr) 100))then
some true
else
(Lt x j).bind λ(c,d)=>
(Kx x j).bind λ(e,i)=>
(Ot L Asm y9 Asr Asw j).bind λ(l,q)=>
(Gd L Asm y9 Asr Asw j).bind λ(r,s)=>
(Mx c e).bind λt=>
some (((t&&(geq d i))&&(l==r))&&(geq q s))
def nI:Option (LB):=
(
(Bx ([]:LB) z).bind λx=>
some x)
def aZ:Option (LI):=
(
(Bx ([]:LI) A).bind λx=>
some x)
def zM:Option (LB×LB×Int×Int×Int×Int×Int×LI×Int×LB×Bool×Int):=
(nI s).bind λx=>
(nI D).bind λc=>
(aZ A).bind λe=>
some (z,x,d,l,G,V,X,e,Y,c,R,T)
def VW:Option (UInt64×UInt64):=
some ((Ae (Ae (Bf (Bu j (GI.toZ (32:UInt64)).toNat) (Bu M (GI.toZ (32:UInt64)).toNat)) (Bu (Ae (Bf (Bu j (GI.toZ (32:UInt64)).toNat) (Eb M 4294967295)) (Bu (Bf (Eb j 4294967295) (Eb M 4294967295)) (GI.toZ (32:UInt64)).toNat)) (GI.toZ (32:UInt64)).toNat)) (Bu (Ae (Eb (Ae (Bf (Bu j (GI.toZ (32:UInt64)).toNat) (Eb M 4294967295)) (Bu (Bf (Eb j 4294967295) (Eb M 4294967295)) (GI.toZ (32:UInt64)).toNat)) 4294967295) (Bf (Eb j 4294967295) (Bu M (GI.toZ (32:UInt64)).toNat))) (GI.toZ (32:UInt64)).toNat)),(Bf j M))
def eN:Option (UInt64×UInt64):=
(VW j M).bind λ(x,z)=>
some (x,z)
abbrev Yp:=Option (UInt64×Int)
def J5:Yp:=
some (j,0)
def K5:=J5
def M1(j6:UInt64->Yp)(Nf:UInt64->Int->Yp)(a:LB)(f:UInt64)(b:Int):Yp:=
if(Cj b (Ac a))then
(Ah a b).bind λg=>
(Hq (Jz (Bf 8 b) 0)).bind λ_=>
Nf (B0 f (De (Ad g:UInt64) (GI.toZ (Bf 8 b)).toNat)) (Ae b 1)
else
j6 f
def mL:Nat->UInt64->Int->Yp
|0,_,_=>none
|x+1,c,d=>M1 K5 (mL x) z c d
def P3 a:=mL a Aq
def T8(j4:LB->UInt64->Int->Yp)(a:LB):Yp:=
if((Cj (Ac a) 1)||(Em (Ac a) 8))then
some (0,2)
else
j4 a 0 0
def Ac0:=T8 P3
def sK:Option (LB×Int):=
if(Cj (Ac z) 5)then
some (([]:LB),24)
else
if(Em (Ac z) 41254)then
some (([]:LB),4)
else
(Ff z 0 (Ag (Ac z) 4)).bind λx=>
(EI x).bind λ(c,d)=>
if(Br d 0)then
some (([]:LB),d)
else
(Ff z (Ag (Ac z) 4) (Ac z)).bind λe=>
(Ac0 e).bind λ(i,j)=>
if((Br j 0)||(Br i (Ad c:UInt64)))then
some (([]:LB),22)
else
(Ff z 0 (Ag (Ac z) 4)).bind λl=>
some (l,0)
def Ah5:Option (LB×Int×Int):=
if(Em (Ac z) 41250)then
some (([]:LB),0,4)
else
(Bd z).bind λx=>
some (x,(Bf 8 (Ac z)),0)
def T2:Option UInt64:=
some j
def P0:=T2
def N0(j6:UInt64->Option UInt64)(Nf:UInt64->Int->Option UInt64)(b f:Int)(h:LB)(k:Int)(g:UInt64)(a:Int):Option UInt64:=
if(Cj a f)then
(Ah h (C1 (Ae b a) (GI.toZ (3:UInt64)).toNat)).bind λm=>
(Hq (Jz (Eb (Ae b a) 7) 0)).bind λ_=>
(Hq (Jz (Jf (Ag f a) (Ag 8 (Eb (Ae b a) 7))) 0)).bind λ_=>
(Hq (Jz a 0)).bind λ_=>
Nf (B0 g (De (Ad (Eb (Bu m (GI.toZ (Eb (Ae b a) 7)).toNat) (Ag (De (1:UInt8) (GI.toZ (Jf (Ag f a) (Ag 8 (Eb (Ae b a) 7)))).toNat) 1)):UInt64) (GI.toZ a).toNat)) (Ae a (Jf (Ag f a) (Ag 8 (Eb (Ae b a) 7))))
else
j6 g
def nG:Nat->UInt64->Int->Option UInt64
|0,_,_=>none
|e+1,i,j=>N0 P0 (nG e) x c z d i j
def L9 b f h k:=nG b f h k Aq
def I6(j4:Int->Int->LB->Int->UInt64->Int->Option UInt64)(h:LB)(k b f:Int):Option UInt64:=
j4 b f h k 0 0
def Q7:=I6 L9
abbrev El:=Option (LB×Int×Int)
def D0:El:=
some (z,x,0)
def yU:=D0
def zO(VM:Int->Int->LB->El)(a:Int)(g:LB)(b f h:Int)(u:LB):El:=
VM (Ae f 64) h u
def xY VM:=zO VM
def zR(uS:UInt64->Int->Int->LB->El)(a f:Int)(g:LB)(b:Int)(m n:UInt64)(k h:Int)(w:LB):El:=
(Hq (Jz (Jf k (Ag 8 (Eb h 7))) 0)).bind λ_=>
uS (Bu n (GI.toZ (Jf k (Ag 8 (Eb h 7)))).toNat) (Ag k (Jf k (Ag 8 (Eb h 7)))) (Ae h (Jf k (Ag 8 (Eb h 7)))) w
def B8 uS:=zR uS
def G6(j48:UInt64->Int->Int->LB->El)(a f:Int)(g:LB)(b:Int)(m n:UInt64)(k h:Int)(v:LB):El:=
(Ah v (Ag (Ac v) 1)).bind λ_=>
(Hq (Jz (Jf k (Ag 8 (Eb h 7))) 0)).bind λ_=>
(Hq (Jz (Eb h 7) 0)).bind λ_=>
(Ah v (Ag (Ac v) 1)).bind λaa=>
(Ah v (Ag (Ac v) 1)).bind λ_=>
Option.bind (Ka v (Ag (Ac v) 1) (B0 aa (De (Ad (Eb n (Ag (De (1:UInt64) (GI.toZ (Jf k (Ag 8 (Eb h 7)))).toNat) 1)):UInt8) (GI.toZ (Eb h 7)).toNat))) λw=>
j48 n k h w
def zQ uS a f g b m:=G6 (B8 uS a f g b m) a f g b m
def zC(j47:UInt64->Int->Int->LB->El)(j50:Int->Int->LB->El)(a:Int)(g:LB)(b f:Int)(m n:UInt64)(k h:Int)(u:LB):El:=
if(Em k 0)then
if(geq (Eb h 7) 0)then
(Bx u ([(0:UInt8)]:LB)).bind λab=>
j47 n k h ab
else
j47 n k h u
else
j50 f h u
def iM(VM:Int->Int->LB->El)(a:Int)(g:LB)(b f:Int)(m:UInt64):Nat->UInt64->Int->Int->LB->El
|0,_,_,_,_=>none
|q+1,n,k,h,u=>zC (zQ (iM VM a g b f m q) a f g b m) (xY VM a g b) a g b f m n k h u
def C7 VM a g b f m:=iM VM a g b f m Aq
def B9(j44:Int->UInt64->UInt64->Int->Int->LB->El)(j52:Int->LB->El)(a:Int)(g:LB)(b f o:Int)(p:LB):El:=
if(Cj f a)then
(Q7 g b f (Jf 64 (Ag a f))).bind λm=>
j44 f m m (Jf 64 (Ag a f)) o p
else
j52 o p
def iG:Nat->Int->Int->LB->El
|0,_,_,_=>none
|c+1,e,i,j=>B9 (C7 (iG c) x z d) yU x z d e i j
def xV a g b:=iG a g b Aq
def O4(j27:Int->LB->Int->Int->Int->LB->El)(g:LB)(b y a:Int):El:=
(Jh g b).bind λac=>
if(Br ac 0)then
some (([]:LB),0,8)
else
if(((Cj y 0)||(Em y a))||(Em a b))then
some (([]:LB),0,2)
else
j27 a g b y 0 ([]:LB)
def Adw:=O4 xV
def aI:Option (UInt64×Int):=
(Jh z d).bind λx=>
if(Br x 0)then
some (0,8)
else
if(((Cj G 0)||(Em G 64))||(Cj l 0))then
some (0,2)
else
if(Em l (Ag d G))then
some (0,24)
else
(Q7 z d l G).bind λc=>
some (c,0)
def MW:Option Int:=
if(geq j 0)then
some 64
else
(Ah ([(0:UInt8),(1:UInt8),(56:UInt8),(2:UInt8),(57:UInt8),(49:UInt8),(28:UInt8),(3:UInt8),(61:UInt8),(58:UInt8),(42:UInt8),(50:UInt8),(38:UInt8),(29:UInt8),(17:UInt8),(4:UInt8),(62:UInt8),(47:UInt8),(59:UInt8),(36:UInt8),(45:UInt8),(43:UInt8),(51:UInt8),(22:UInt8),(53:UInt8),(39:UInt8),(33:UInt8),(30:UInt8),(24:UInt8),(18:UInt8),(12:UInt8),(5:UInt8),(63:UInt8),(55:UInt8),(48:UInt8),(27:UInt8),(60:UInt8),(41:UInt8),(37:UInt8),(16:UInt8),(46:UInt8),(35:UInt8),(44:UInt8),(21:UInt8),(52:UInt8),(32:UInt8),(23:UInt8),(11:UInt8),(54:UInt8),(26:UInt8),(40:UInt8),(15:UInt8),(34:UInt8),(20:UInt8),(31:UInt8),(10:UInt8),(25:UInt8),(14:UInt8),(19:UInt8),(9:UInt8),(13:UInt8),(8:UInt8),(7:UInt8),(6:UInt8)]:LB) (GI.toZ (Bu (Bf (Eb j (yL j)) 285870213051353865) (GI.toZ (58:UInt64)).toNat))).bind λx=>
some (Ad x:Int)
abbrev Hy:=Option (Int×Int×Int)
def rV:Hy:=
some (0,0,24)
def rR:=rV
def vL(j10:Hy):Hy:=
j10
def uY:=vL rR
def vC(j9:Hy)(f a:Int):Hy:=
if(geq f 48)then
some (f,(Ae 0 (Ae a f)),0)
else
j9
def vI:=vC uY
def vG(j8:Int->Int->Hy)(f b a:Int):Hy:=
if(Cj f (Jf 48 (Ag b a)))then
some (f,(Ae (Ae (0:Int) (1:Int)) (Ae a f)),0)
else
j8 f a
def vK:=vG vI
def vJ(j7:Int->Int->Int->Hy)(h:Int)(k:UInt64)(a:Int)(g:LB)(b:Int):Hy:=
if(Br h 0)then
some (0,0,h)
else
(MW (Y7 k)).bind λf=>
j7 f b a
def vB:=vJ vK
def vM(j6:Int->UInt64->Int->LB->Int->Hy)(g:LB)(b a:Int):Hy:=
(Jh g b).bind λm=>
if(Br m 0)then
some (0,0,m)
else
if(Cj a 0)then
some (0,0,2)
else
if(Jz a b)then
some (0,0,24)
else
(
(
(aI g b a (Jf 48 (Ag b a))).bind λ(k,h)=>
j6 h k a g b))
def Y2:=vM vB
abbrev aK:=Option (UInt32×Int×Int)
def zY:aK:=
(aI z d c l).bind λ(e,j)=>
if(Br j 0)then
some (0,0,j)
else
if(Cj i 48)then
(Hq (Jz x 0)).bind λ_=>
some ((B0 (De (Ad i:UInt32) (GI.toZ x).toNat) (Ad e:UInt32)),(Ae c l),0)
else
(CR (Ad e:UInt32) x).bind λq=>
if(!q)then
some (0,0,12)
else
some ((Ad e:UInt32),(Ae c l),0)
def D3:=zY
def B3(j2:Int->Int->Int->LB->Int->Int->aK)(g:LB)(h v a:Int):aK:=
(Jh g h).bind λo=>
if(Br o 0)then
some (0,0,o)
else
if((Cj a 0)||(Em a 24))then
some (0,0,2)
else
(Y2 g h v).bind λ(f,b,p)=>
if(Br p 0)then
some (0,0,p)
else
if(geq f 48)then
j2 a b f g h 32
else
j2 a b f g h a
def Aa0:=B3 D3
abbrev Jw:=Option (UInt32×Int×Int×Int×UInt64×UInt64×Int)
def uW:Jw:=
some (E,L,Asm,y9,(Ae y5 (Ag (Ad E:UInt64) (Bu y5 (GI.toZ (4:UInt64)).toNat))),Ash,0)
def vE:=uW
def C8(j10:UInt32->Int->Int->Int->UInt64->UInt64->Jw)(f:UInt32)(k m:Int)(b n:UInt64)(w:Int):Jw:=
j10 f k w m b n
def yC:=C8 vE
def E7(j9:UInt32->Int->Int->UInt64->UInt64->Int->Jw)(f:UInt32)(k a:Int)(b:UInt64)(m:Int)(n:UInt64):Jw:=
if(Em a 0)then
(Hq (Jz a 0)).bind λ_=>
if(Cj (Ae b (Ag (Ad f:UInt64) (Bu b (GI.toZ (4:UInt64)).toNat))) (De (16:UInt64) (GI.toZ a).toNat))then
j9 f k m b n (Ag a 1)
else
if(Cj a 24)then
(Hq (Jz a 0)).bind λ_=>
if(Em (Ae b (Ag (Ad f:UInt64) (Bu b (GI.toZ (4:UInt64)).toNat))) (De (32:UInt64) (GI.toZ a).toNat))then
j9 f k m b n (Ae a 1)
else
j9 f k m b n a
else
j9 f k m b n a
else
if(Cj a 24)then
(Hq (Jz a 0)).bind λ_=>
if(Em (Ae b (Ag (Ad f:UInt64) (Bu b (GI.toZ (4:UInt64)).toNat))) (De (32:UInt64) (GI.toZ a).toNat))then
j9 f k m b n (Ae a 1)
else
j9 f k m b n a
else
j9 f k m b n a
def D2:=E7 yC
def yV(j8:UInt32->Int->Int->UInt64->Int->UInt64->Jw)(a h:Int)(b g:UInt64)(f:UInt32)(k:Int):Jw:=
(EU a h b g f).bind λ(ad,o)=>
if(geq ad 1)then
if(Em h 0)then
(Hq (Jz h 0)).bind λ_=>
if(Cj (Ae g (Ag (Ad o:UInt64) (Bu g (GI.toZ (4:UInt64)).toNat))) (De (16:UInt64) (GI.toZ h).toNat))then
j8 f k a b (Ag h 1) (Ae g (Ag (Ad o:UInt64) (Bu g (GI.toZ (4:UInt64)).toNat)))
else
if(Cj h 24)then
(Hq (Jz h 0)).bind λ_=>
if(Em (Ae g (Ag (Ad o:UInt64) (Bu g (GI.toZ (4:UInt64)).toNat))) (De (32:UInt64) (GI.toZ h).toNat))then
j8 f k a b (Ae h 1) (Ae g (Ag (Ad o:UInt64) (Bu g (GI.toZ (4:UInt64)).toNat)))
else
j8 f k a b h (Ae g (Ag (Ad o:UInt64) (Bu g (GI.toZ (4:UInt64)).toNat)))
else
j8 f k a b h (Ae g (Ag (Ad o:UInt64) (Bu g (GI.toZ (4:UInt64)).toNat)))
else
if(Cj h 24)then
(Hq (Jz h 0)).bind λ_=>
if(Em (Ae g (Ag (Ad o:UInt64) (Bu g (GI.toZ (4:UInt64)).toNat))) (De (32:UInt64) (GI.toZ h).toNat))then
j8 f k a b (Ae h 1) (Ae g (Ag (Ad o:UInt64) (Bu g (GI.toZ (4:UInt64)).toNat)))
else
j8 f k a b h (Ae g (Ag (Ad o:UInt64) (Bu g (GI.toZ (4:UInt64)).toNat)))
else
j8 f k a b h (Ae g (Ag (Ad o:UInt64) (Bu g (GI.toZ (4:UInt64)).toNat)))
else
j8 f k a b h g
def zA:=yV D2
def zI(j7:Int->Int->UInt64->UInt64->UInt32->Int->Jw)(p:Int)(u:LB)(v a h:Int)(b g:UInt64):Jw:=
(aI u v p 1).bind λ(ae,aa)=>
if(Br aa 0)then
some (0,0,0,0,0,0,aa)
else
if(geq ae 0)then
(aI u v (Ae p 1) a).bind λ(af,ab)=>
if(Br ab 0)then
some (0,0,0,0,0,0,ab)
else
j7 a h b g (Ad af:UInt32) (Ae (Ae p 1) a)
else
(Aa0 u v (Ae p 1) h).bind λ(y,ag,ac)=>
if(Br ac 0)then
some (0,0,0,0,0,0,ac)
else
(Hq (Jz a 0)).bind λ_=>
if(Cj (Ae y (De (1:UInt32) (GI.toZ a).toNat)) y)then
some (0,0,0,0,0,0,12)
else
j7 a h b g (Ae y (De (1:UInt32) (GI.toZ a).toNat)) ag
def G3:=zI zA
def G9(j6:Int->LB->Int->Int->Int->UInt64->UInt64->Jw)(u:LB)(v p a h:Int)(b g:UInt64):Jw:=
(Jh u v).bind λah=>
if(Br ah 0)then
some (0,0,0,0,0,0,8)
else
(MC a h b g).bind λai=>
if(Br ai 0)then
some (0,0,0,0,0,0,8)
else
j6 p u v a h b g
def Aad:=G9 G3
abbrev Bm:=Option (LU×Int×Int)
def fQ:Bm:=
some (F,x,0)
def gA:=fQ
def fX(Ef:Int->Int-> (List (Int×Int×UInt64×UInt64×Unit))->LU->Bm)(a f:Int)(g:LB)(b k v:Int)(w:UInt32)(h:Int)(ah:List (Int×Int×UInt64×UInt64×Unit))(n:LU):Bm:=
(Bx n ([w]:LU)).bind λak=>
Ef (Ae k v) (Ae h 1) ah ak
def fA Ef:=fX Ef
def fJ(j22:Int->Int->UInt32->Int-> (List (Int×Int×UInt64×UInt64×Unit))->LU->Bm)(a f:Int)(g:LB)(b k h y:Int)(w:UInt32)(v:Int)(m:List (Int×Int×UInt64×UInt64×Unit))(n:LU)(aa ab:Int)(ac ad:UInt64):Bm:=
if(Br y 0)then
some (([]:LU),0,y)
else
(Hq (Br a 0)).bind λ_=>
(Ah m (Ed h a)).bind λ_=>
(Ka m (Ed h a) (aa,ab,ac,ad,())).bind λah=>
j22 k v w h ah n
def fK Ef a f g b:=fJ (fA Ef a f g b) a f g b
def gP(j21:Int->Int->Int->UInt32->Int-> (List (Int×Int×UInt64×UInt64×Unit))->LU->Int->Int->UInt64->UInt64->Bm)(j24:Int->LU->Bm)(a f:Int)(g:LB)(b k h:Int)(m:List (Int×Int×UInt64×UInt64×Unit))(n:LU):Bm:=
if(Cj h (Bf f a))then
(Adw g b k (Jf (Ae k 81) b)).bind λ(ag,ae,af)=>
if(Br af 0)then
some (([]:LU),0,af)
else
(Hq (Br a 0)).bind λ_=>
(Ah m (Ed h a)).bind λ_=>
(
(
(Ah m (Ed h a)).bind λo=>
(
(Aad ag ae 0 o.1 o.2.1 o.2.2.1 o.2.2.2.1).bind λ(w,v,aa,ab,ac,ad,y)=>
j21 k h y w v m n aa ab ac ad)))
else
j24 k n
def JX:Nat->Int->Int-> (List (Int×Int×UInt64×UInt64×Unit))->LU->Bm
|0,_,_,_,_=>none
|e+1,i,j,l,q=>gP (fK (JX e) x c z d) gA x c z d i j l q
def gQ a f g b:=JX a f g b Aq
def eU(j16:Int->Int->LB->Int->Int->Int-> (List (Int×Int×UInt64×UInt64×Unit))->LU->Bm)(a f:Int)(g:LB)(b:Int)(p:List (Int×Int×UInt64×UInt64×Unit)):Bm:=
j16 a f g b 0 0 p ([]:LU)
def eQ:=eU gQ
def fB(j15:Int->Int->LB->Int-> (List (Int×Int×UInt64×UInt64×Unit))->Bm)(Afr:Int-> (List (Int×Int×UInt64×UInt64×Unit))->Bm)(a f:Int)(g:LB)(b u:Int)(p:List (Int×Int×UInt64×UInt64×Unit)):Bm:=
if(Cj u 6)then
(gU).bind λ(al,ae,af,am)=>
(Ah p u).bind λ_=>
(Ka p u (al,ae,af,am,())).bind λan=>
Afr (Ae u 1) an
else
j15 a f g b p
def KI:Nat->Int-> (List (Int×Int×UInt64×UInt64×Unit))->Bm
|0,_,_=>none
|e+1,i,j=>fB eQ (KI e) x c z d i j
def gR a f g b:=KI a f g b Aq
def iR(j13:Int->Int->LB->Int->Int-> (List (Int×Int×UInt64×UInt64×Unit))->Bm)(a f:Int)(g:LB)(b:Int):Bm:=
j13 a f g b 0 (List.replicate 6 ((0:Int),(0:Int),(0:UInt64),(0:UInt64),()))
def sE:=iR gR
def Aa1:Option Int32:=
some (Ww (Ad (Bu E (GI.toZ (1:UInt64)).toNat):Int32) (yL (Ad (Eb E 1):Int32)))
def Ae2:Option (Int32×Int×LX×LX×Int):=
(LK x e B).bind λ(z,c)=>
if(Br c 0)then
some (0,0,(List.replicate 16 (0:Int32)),(List.replicate 16 (0:Int32)),c)
else
(TF x e B (Ae t z) t).bind λ(d,i,j)=>
some ((Ae t z),d,i,j,0)
def ig:Option (Int32×Int×Int32×Int×LX×LX×Int):=
(Zf x t J P U).bind λz=>
if(Br z 0)then
some (0,0,0,0,(List.replicate 16 (0:Int32)),(List.replicate 16 (0:Int32)),z)
else
(Zh x t).bind λ(c,d)=>
(Ae2 J P U p8).bind λ(e,i,j,l,q)=>
(
some ((Ae e c),x,(Ae e c),i,j,l,q))
abbrev Ga:=Option (LX×Int)
def zH:Ga:=
some (e,0)
def yW:=zH
def A7(PK:Int->LX->Ga)(b a:Int)(h:LX):Ga:=
PK (Ae a b) h
def A8 PK:=A7 PK
def yJ(j20:Int->LX->Ga)(vS:Int->LX->Ga)(b a g:Int)(h:LX):Ga:=
if(Jz g 0)then
(Hq (decide (0<= (Ae g 1)/\ (Ae g 1)<((Ae a b)-a)))).bind λ_=>
(Hq (decide (0<=g/\g<((Ae a b)-a)))).bind λ_=>
(Ah h (a+(Ae g 1))).bind λn=>
(Ah h (a+g)).bind λo=>
(Hq (decide (0<=g/\g<((Ae a b)-a)))).bind λ_=>
(Ka h (a+g) (Ag n o)).bind λp=>
vS (Ag g 1) p
else
j20 a h
def jD(PK:Int->LX->Ga)(b a:Int):Nat->Int->LX->Ga
|0,_,_=>none
|q+1,g,h=>yJ (A8 PK b) (jD PK b a q) b a g h
def yT PK b a:=jD PK b a Aq
def xX(j18:Int->Int->LX->Ga)(b a:Int)(u:LX):Ga:=
j18 a (Ag (Ag ((Ae a b)-a) 1) 1) u
def C0 PK b:=xX (yT PK b) b
def yN(j17:Int->LX->Ga)(j22:LX->Ga)(b a:Int)(f:LX):Ga:=
if(Cj a (Ac f))then
(pD (Ac f) a (Ae a b)).bind λ_=>
if(Em (Ag ((Ae a b)-a) 1) 0)then
(Hq (decide (0<= (Ag ((Ae a b)-a) 1)/\ (Ag ((Ae a b)-a) 1)<((Ae a b)-a)))).bind λ_=>
Option.bind (Hq (decide (0<= (Ag (Ag ((Ae a b)-a) 1) 1)/\ (Ag (Ag ((Ae a b)-a) 1) 1)<((Ae a b)-a)))) λ_=>
(Ah f (a+(Ag ((Ae a b)-a) 1))).bind λv=>
(Ah f (a+(Ag (Ag ((Ae a b)-a) 1) 1))).bind λw=>
(Hq (decide (0<= (Ag ((Ae a b)-a) 1)/\ (Ag ((Ae a b)-a) 1)<((Ae a b)-a)))).bind λ_=>
(Ka f (a+(Ag ((Ae a b)-a) 1)) (Ae v (Ba w 2))).bind λy=>
j17 a y
else
j17 a f
else
j22 f
def iX:Nat->Int->LX->Ga
|0,_,_=>none
|z+1,c,d=>yN (C0 (iX z) x) yW x c d
def B6 b:=iX b Aq
def T0(j12:Int->Int->LX->Ga)(b:Int)(k:LX):Ga:=
(RT b k).bind λm=>
if(Br m 0)then
some (([]:LX),m)
else
(Cn k).bind λaa=>
j12 b 0 aa
def Adl:=T0 B6
abbrev Bv:=Option (LX×Int)
def cL:Bv:=
(Adl x e).bind λ(z,d)=>
if(Br d 0)then
some (([]:LX),d)
else
(Rc c z).bind λi=>
if(Br i 0)then
some (([]:LX),i)
else
some (z,0)
def cK:=cL
def cW(Afr:Int-> (List (Int×Int32×(Int×LX×LX×Unit)×Unit))->LX->Bv)(a:Int)(f:LU)(b g:Int)(y:Int32)(v:Int)(h:List (Int×Int32×(Int×LX×LX×Unit)×Unit))(k:LX)(aa:Int)(w:Int32)(ab:Int)(ac ad:LX):Bv:=
if(Br v 0)then
some (([]:LX),v)
else
(Ka h (Ed g a) (aa,w,(ab,ac,ad,()),())).bind λai=>
(Bx k ([y]:LX)).bind λaj=>
Afr (Ae g 1) ai aj
def dB Afr:=cW Afr
def cI(j16:Int->Int32->Int-> (List (Int×Int32×(Int×LX×LX×Unit)×Unit))->LX->Int->Int32->Int->LX->LX->Bv)(j18:Int->Int->LX->Bv)(f:LU)(a b g:Int)(h:List (Int×Int32×(Int×LX×LX×Unit)×Unit))(k:LX):Bv:=
if(Cj g (Ac f))then
(Ah f g).bind λag=>
(Hq (Br a 0)).bind λ_=>
(Ah h (Ed g a)).bind λ_=>
(
(Ah h (Ed g a)).bind λm=>
(
(Aa1 ag).bind λae=>
(
(ig m.1 m.2.1 m.2.2.1.1 m.2.2.1.2.1 m.2.2.1.2.2.1 ae).bind λ(y,aa,w,ab,ac,ad,v)=>
j16 g y v h k aa w ab ac ad)))
else
j18 a b k
def IG:Nat->Int-> (List (Int×Int32×(Int×LX×LX×Unit)×Unit))->LX->Bv
|0,_,_,_=>none
|x+1,z,c,d=>cI (dB (IG x) l9 F o7) cK F l9 o7 z c d
def dV f a b:=IG f a b Aq
def dK(j13:LU->Int->Int->Int-> (List (Int×Int32×(Int×LX×LX×Unit)×Unit))->LX->Bv)(f:LU)(a b:Int)(n:List (Int×Int32×(Int×LX×LX×Unit)×Unit)):Bv:=
j13 f a b 0 n ([]:LX)
def dS:=dK dV
def dR(j12:LU->Int->Int-> (List (Int×Int32×(Int×LX×LX×Unit)×Unit))->Bv)(H4:Int-> (List (Int×Int32×(Int×LX×LX×Unit)×Unit))->Bv)(f:LU)(a b:Int)(o:LX)(p:Int)(n:List (Int×Int32×(Int×LX×LX×Unit)×Unit)):Bv:=
if(Cj p 6)then
(mG b o).bind λ(ak,af,ae,al,am,w)=>
(Ah n p).bind λ_=>
(Ka n p (ak,af,(ae,al,am,()),())).bind λan=>
H4 (Ae p 1) an
else
j12 f a b n
def IY:Nat->Int-> (List (Int×Int32×(Int×LX×LX×Unit)×Unit))->Bv
|0,_,_=>none
|x+1,z,c=>dR dS (IY x) F l9 o7 y7 z c
def dI f a b o:=IY f a b o Aq
def gO(j10:LU->Int->Int->LX->Int-> (List (Int×Int32×(Int×LX×LX×Unit)×Unit))->Bv)(a b:Int)(o:LX)(f:LU):Bv:=
j10 f a b o 0 (List.replicate 6 ((0:Int),(0:Int32),((0:Int),(List.replicate 16 (0:Int32)),(List.replicate 16 (0:Int32)),()),()))
def oD:=gO dI
def pQ:Option (LX×Int):=
(Lu x c).bind λz=>
if(Br z 0)then
some (([]:LX),z)
else
if(Cj d 1)then
some (([]:LX),2)
else
(Hq (Br x 0)).bind λ_=>
if(Em d (Ba 4000 x))then
some (([]:LX),2)
else
(sK D).bind λ(i,j)=>
if(Br j 0)then
some (([]:LX),j)
else
(Ah5 i).bind λ(l,q,r)=>
if(Br r 0)then
some (([]:LX),r)
else
(sE x d l q).bind λ(s,t,A)=>
if(Br A 0)then
some (([]:LX),A)
else
if(Jz (Ag q t) 8)then
some (([]:LX),12)
else
(aI l q t (Ag q t)).bind λ(B,C)=>
if((Br C 0)||(Br B 0))then
some (([]:LX),12)
else
(oD x c e s).bind λ(E,F)=>
some (E,F)
abbrev Cy:=Option (LB×Int)
def oB:Cy:=
some (z,0)
def oQ:=oB
def oL(Ef:Int->LB->Cy)(b:Int)(a:LX)(f:Int)(h:LB):Cy:=
Ef (Ae f 1) h
def oH Ef:=oL Ef
def oC(j28:Int->LB->Cy)(ko:Int->LB->Cy)(b:Int)(a:LX)(k:Int32)(f m:Int)(h:LB):Cy:=
if(Cj m (Ba b 8))then
(Hq (Jz (Bf 8 m) 0)).bind λ_=>
(Bx h ([(Ad (Bu k (GI.toZ (Bf 8 m)).toNat):UInt8)]:LB)).bind λp=>
ko (Ae m 1) p
else
j28 f h
def VY(Ef:Int->LB->Cy)(b:Int)(a:LX)(k:Int32)(f:Int):Nat->Int->LB->Cy
|0,_,_=>none
|q+1,m,h=>oC (oH Ef b a) (VY Ef b a k f q) b a k f m h
def oR Ef b a k f:=VY Ef b a k f Aq
def nZ(j26:Int32->Int->Int->LB->Cy)(b:Int)(a:LX)(f:Int)(g:LB)(k:Int32):Cy:=
j26 k f 0 g
def oS Ef b a:=nZ (oR Ef b a) b a
def oN(j25:Int->LB->Int32->Cy)(j30:LB->Cy)(b:Int)(a:LX)(f:Int)(g:LB):Cy:=
if(Cj f (Ac a))then
(Ah a f).bind λn=>
if(geq b 8)then
j25 f g (Ae n 128)
else
j25 f g n
else
j30 g
def WA:Nat->Int->LB->Cy
|0,_,_=>none
|z+1,c,d=>oN (oS (WA z) x e) oQ x e c d
def oJ b a:=WA b a Aq
def tE(j16:Int->LX->Int->LB->Cy)(b:Int)(a:LX):Cy:=
(Rc b a).bind λo=>
if(Br o 0)then
some (([]:LB),o)
else
j16 b a 0 ([]:LB)
def R9:=tE oJ
def Wu:Option Bool:=
if((((geq x 1)||(geq x 2))&&(Jz c 1))&&(sV c 6))then
some ((((((geq i 8)||(geq i 16))||(geq i 24))&&(Jz I 1))&&(sV I 1048576))&&(Jz d 1))
else
some (((false&&(Jz I 1))&&(sV I 1048576))&&(Jz d 1))
def Uh:Option Int:=
some (iQ 1 (Ba (Bf 256 x) 245))
def Mv:Option (LI):=
some A
def Na:=Mv
def Is(j6:LI->Option (LI))(Nf:Int->LI->Option (LI))(a f:Int)(b:LI):Option (LI):=
if(Em f 0)then
(Uh a).bind λg=>
(Bx b ([(Jf f g)]:LI)).bind λh=>
(Uh a).bind λk=>
Nf (Ag f k) h
else
j6 b
def Ej:Nat->Int->LI->Option (LI)
|0,_,_=>none
|z+1,c,d=>Is Na (Ej z) x c d
def DD a:=Ej a Aq
def DQ(j4:Int->Int->LI->Option (LI))(a m:Int):Option (LI):=
j4 a m ([]:LI)
def Mn:=DQ DD
def CO(h a k f b:Int):Option Bool:=
(
(Hq (Br a 0)).bind λ_=>
(
if(Em b (Ba 4000 a))then
some true
else
(Mn f b).bind λg=>
some (Em (Ac g) 1000)))
def fO(a f g h k:Int)(b:LB):Option Int:=
if((b==([]:LB)) !=(geq a 1))then
some 26
else
some 0
def US:Option Int:=
if(Em x 100000)then
some 8
else
some 0
def UH:=US
def XB:Option Int:=
(Ah Asj Asl).bind λx=>
As1 (Ae Asu x) (Ae Asl 1)
def XG dW:=XB dW
def XD:Option Int:=
if(Cj Asl (Ac Asj))then
(Ah Asj Asl).bind λx=>
if(Cj x 5)then
some 8
else
(Ah Asj Asl).bind λz=>
if(Em z 100000)then
some 8
else
As1 Asu Asl
else
As2 Asu
def DZ:Nat->Int->Int->Option Int
|0,_,_=>none
|x+1,z,c=>XD (XG (DZ x) A) UH A z c
def XM a:=DZ a Aq
def WB(j6:LI->Int->Int->Option Int)(a:LI):Option Int:=
if((Cj (Ac a) 1)||(Em (Ac a) 1000))then
some 8
else
j6 a 0 0
def eS:=WB XM
def GU(g h k a b:Int):Option (LI):=
(Mn a b).bind λf=>
some f
def gD(f a b g h:Int):Option (Int×Int):=
some (a,b)
abbrev Fc:=Option (Int×Int)
def WO:Fc:=
some (x,0)
def XT:=WO
def Ty(j6:Int->Fc)(Nf:Int->Int->Fc)(a:LB)(b f:Int):Fc:=
if(Cj f 4)then
(Ah a f).bind λg=>
if(Jz g 128)then
some (0,12)
else
(Ah a f).bind λh=>
Nf (Ae (Bf 128 b) (Ad h:Int)) (Ae f 1)
else
j6 b
def Iu:Nat->Int->Int->Fc
|0,_,_=>none
|x+1,c,d=>Ty XT (Iu x) z c d
def DL a:=Iu a Aq
def DW(j4:LB->Int->Int->Fc)(a:LB):Fc:=
if(Br (Ac a) 4)then
some (0,2)
else
j4 a 0 0
def Yk:=DW DL
abbrev Gi:=Option (Int×Int)
def GX:Gi:=
if(Em d 4000)then
some (0,4)
else
if(Cj (Ac z) d)then
some (0,24)
else
(Ah z 5).bind λx=>
if(geq x 16)then
(Ff z (Ag d 10) d).bind λc=>
(Ff z 3 10).bind λe=>
(Bx ([51,68,73]:LB) e).bind λi=>
if(c !=i)then
some (0,12)
else
some (d,0)
else
some (d,0)
def Uq:=GX
def FW(j6:LB->Int->Gi)(a:LB)(b:Int):Gi:=
(Ah a 5).bind λo=>
if(geq o 16)then
j6 a (Ae (Ae 10 b) 10)
else
j6 a (Ae 10 b)
def Uu:=FW Uq
def GK(j5:LB->Int->Gi)(a:LB):Gi:=
if(Cj (Ac a) 10)then
some (0,24)
else
(Ff a 6 10).bind λp=>
(Yk p).bind λ(b,f)=>
(Ah a 3).bind λu=>
if(Cj u 2)then
if true then
if true then
if(true||(Br f 0))then
some (0,12)
else
j5 a b
else
(Ah a 5).bind λv=>
if(Br v 0)then
(Ah a 5).bind λw=>
if(Br w 16)then
if(true||(Br f 0))then
some (0,12)
else
j5 a b
else
(Ah a 3).bind λy=>
if((Br y 4)||(Br f 0))then
some (0,12)
else
j5 a b
else
if(false||(Br f 0))then
some (0,12)
else
j5 a b
else
(Ah a 4).bind λaa=>
if(Br aa 0)then
if(true||(Br f 0))then
some (0,12)
else
j5 a b
else
(Ah a 5).bind λab=>
if(Br ab 0)then
(Ah a 5).bind λac=>
if(Br ac 16)then
if(true||(Br f 0))then
some (0,12)
else
j5 a b
else
(Ah a 3).bind λad=>
if((Br ad 4)||(Br f 0))then
some (0,12)
else
j5 a b
else
if(false||(Br f 0))then
some (0,12)
else
j5 a b
else
(Ah a 3).bind λae=>
if(Em ae 4)then
if true then
if(true||(Br f 0))then
some (0,12)
else
j5 a b
else
(Ah a 5).bind λaf=>
if(Br af 0)then
(Ah a 5).bind λag=>
if(Br ag 16)then
if(true||(Br f 0))then
some (0,12)
else
j5 a b
else
(Ah a 3).bind λah=>
if((Br ah 4)||(Br f 0))then
some (0,12)
else
j5 a b
else
if(false||(Br f 0))then
some (0,12)
else
j5 a b
else
(Ah a 4).bind λai=>
if(Br ai 0)then
if(true||(Br f 0))then
some (0,12)
else
j5 a b
else
(Ah a 5).bind λaj=>
if(Br aj 0)then
(Ah a 5).bind λak=>
if(Br ak 16)then
if(true||(Br f 0))then
some (0,12)
else
j5 a b
else
(Ah a 3).bind λal=>
if((Br al 4)||(Br f 0))then
some (0,12)
else
j5 a b
else
if(false||(Br f 0))then
some (0,12)
else
j5 a b
def HM:=GK Uu
def GA(j4:LB->Gi)(a:LB):Gi:=
if(Cj (Ac a) 3)then
some (0,6)
else
(Ff a 0 3).bind λam=>
if(am !=([73,68,51]:LB))then
some (0,6)
else
j4 a
def AU:=GA HM
def KB:Option UInt64:=
some j
def LN:=KB
def Yr:Option UInt64:=
if(Jz l7 0)then
(Ah Asn l7).bind λx=>
w9 (Ae (Bf 256 l5) (Ad x:UInt64)) (Ag l7 1)
else
r9 l5
def Mo:Nat->UInt64->Int->Option UInt64
|0,_,_=>none
|x+1,c,d=>Yr LN (Mo x) z c d
def KX a:=Mo a Aq
def KV(j4:LB->UInt64->Int->Option UInt64)(a:LB):Option UInt64:=
j4 a 0 (Ag (Ac a) 1)
def Cz:=KV KX
def AH:Option (Int×Int×Bool):=
(Ff z 12 16).bind λx=>
(Cz x).bind λc=>
(Ff z 16 20).bind λd=>
(Cz d).bind λe=>
if(((Cj c 32)||(Em c 3032))||(Em e 1000))then
some (0,0,false)
else
some ((Ag (Ad c:Int) 32),(Ad e:Int),true)
def Qm:Option (LB):=
(Al 2000 4).bind λz=>
(Bx ([(65:UInt8),(80:UInt8),(69:UInt8),(84:UInt8),(65:UInt8),(71:UInt8),(69:UInt8),(88:UInt8)]:LB) z).bind λd=>
(Al (Ad (Ae x 32):UInt64) 4).bind λe=>
(Bx d e).bind λi=>
(Al (Ad c:UInt64) 4).bind λl=>
(Bx i l).bind λq=>
(Al j 4).bind λr=>
(Bx q r).bind λs=>
(mkI (8:Int) (0:UInt8)).bind λt=>
(Bx s t).bind λA=>
some A
def NI:Option (LB):=
(Qm x c 2684354560).bind λz=>
some z
def OC:Option (LB):=
if r then
(Qm x c 2147483648).bind λz=>
some z
else
(Qm x c 0).bind λd=>
some d
abbrev Js:=Option (Int×Int)
def DU:Js:=
if(Cj (Ac z) (Ae 64 d))then
some (0,24)
else
(Ff z (Ag (Ae 64 d) 32) (Ae 64 d)).bind λx=>
(OC d l true).bind λc=>
if(x !=c)then
some (0,12)
else
some ((Ae 64 d),0)
def EC:=DU
def DN(j4:LB->Int->Int->Js)(a:LB):Js:=
if(Cj (Ac a) 32)then
some (0,24)
else
(Ff a 0 32).bind λk=>
(AH k).bind λ(b,f,m)=>
if(!m)then
some (0,12)
else
(Ff a 0 32).bind λn=>
(NI b f).bind λo=>
if(n !=o)then
some (0,12)
else
j4 a b f
def DT:=DN EC
def DI(j3:LB->Js)(a:LB):Js:=
if(Cj (Ac a) 8)then
some (0,6)
else
(Ff a 0 8).bind λp=>
if(p !=([65,80,69,84,65,71,69,88]:LB))then
some (0,6)
else
j3 a
def Yi:=DI DT
abbrev Fe:=Option (LI×Int)
def DS(dW:Int->LI->Fe)(a:LB)(b:Int)(f:LI)(g h:Int):Fe:=
if(geq h 6)then
some (f,0)
else
if(Br h 0)then
some (([]:LI),h)
else
if(Em (Ae b g) 4000)then
some (([]:LI),4)
else
(Bx f ([g]:LI)).bind λm=>
dW (Ae b g) m
def Mz dW:=DS dW
def Ub(j9:Int->LI->Int->Int->Fe)(a:LB)(b:Int)(f:LI):Fe:=
(Ff a b (Ac a)).bind λn=>
(AU n).bind λ(o,k)=>
if(geq k 6)then
(Ff a b (Ac a)).bind λp=>
(Yi p).bind λ(u,v)=>
j9 b f u v
else
j9 b f o k
def Ms:Nat->Int->LI->Fe
|0,_,_=>none
|x+1,c,d=>Ub (Mz (Ms x) z) z c d
def XV a:=Ms a Aq
def WE(j6:LB->Int->LI->Fe)(a:LB):Fe:=
j6 a 0 ([]:LI)
def KG:=WE XV
abbrev Fi:=Option (Int×Int)
def DH:Fi:=
some (c,x)
def EB:=DH
def Tk(j6:Int->Int->Fi)(Nf:Int->Int->Fi)(a:Int)(b:LI)(f g:Int):Fi:=
if(Cj g (Ac b))then
(Ah b g).bind λ_=>
(Ah b g).bind λh=>
Nf (Ae f h) (Ae g 1)
else
j6 a f
def Iq:Nat->Int->Int->Fi
|0,_,_=>none
|z+1,c,d=>Tk EB (Iq z) x A c d
def Tm a b:=Iq a b Aq
def DR(j4:Int->LI->Int->Int->Fi)(k:LB):Fi:=
(KG k).bind λ(b,a)=>
j4 a b 0 0
def Yq:=DR Tm
def Pg:Option Bool:=
if(Cj (Ac z) (Ac s))then
(Ff s 0 (Ac z)).bind λx=>
some (z==x)
else
some false
abbrev Ge:=Option (Int×Int×Int×Int×Int×Int)
def GQ:Ge:=
(Wu (Ad j:Int) (Ad M:Int) (Ad y5:Int) (Ad Ash:Int) (Ad l5:Int)).bind λx=>
if(!x)then
some (0,0,0,0,0,12)
else
(CO (Ad j:Int) (Ad M:Int) (Ad y5:Int) (Ad Ash:Int) (Ad l5:Int)).bind λz=>
if z then
some (0,0,0,0,0,4)
else
some ((Ad j:Int),(Ad M:Int),(Ad y5:Int),(Ad Ash:Int),(Ad l5:Int),0)
def HA:=GQ
def GR(j6:UInt64->UInt64->UInt64->UInt64->UInt64->Ge)(a:LB):Ge:=
(Ff a 4 6).bind λu=>
(Ff a 6 8).bind λp=>
(Ff a 8 10).bind λo=>
(Ff a 10 14).bind λn=>
(Ff a 14 18).bind λm=>
(
(Cz u).bind λk=>
(
(Cz p).bind λh=>
(
(Cz o).bind λg=>
(
(Cz n).bind λf=>
(
(Cz m).bind λb=>
(
j6 k h g f b))))))
def HF:=GR HA
def GJ(j5:LB->Ge)(a:LB):Ge:=
if(Cj (Ac a) 22)then
some (0,0,0,0,0,24)
else
(Ff a 18 22).bind λy=>
(Ff a 0 18).bind λaa=>
(Cz y).bind λab=>
(Fk aa).bind λac=>
if(Br ab (Ad ac:UInt64))then
some (0,0,0,0,0,22)
else
j5 a
def HC:=GJ HF
def GD(j4:LB->Ge)(a:LB):Ge:=
(Ff a 0 (Jf 4 (Ac a))).bind λad=>
(Ff ([84,84,65,49]:LB) 0 (Jf 4 (Ac a))).bind λae=>
if(ad !=ae)then
some (0,0,0,0,0,12)
else
j4 a
def BY:=GD HC
abbrev Rg:=Option (Int×Int×Int×Int×Int×Int×Int)
def Zb:Rg:=
(BY z).bind λ(c,d,e,i,j,l)=>
if(geq l 24)then
some (0,0,0,0,0,0,(-1:Int))
else
some ((Ae x 22),c,d,e,i,j,l)
def Yt:=Zb
def Yv(j2:Int->LB->Rg)(f:LB):Rg:=
(Yq f).bind λ(b,g)=>
if(geq g 24)then
some (0,0,0,0,0,0,(-1:Int))
else
if(Br g 0)then
some (0,0,0,0,0,0,g)
else
(Ff f b (Ac f)).bind λa=>
(Pg a ([73,68,51]:LB)).bind λu=>
if u then
some (0,0,0,0,0,0,(-1:Int))
else
(Pg a ([65,80,69,84,65,71,69,88]:LB)).bind λv=>
if v then
some (0,0,0,0,0,0,(-1:Int))
else
j2 b a
def Ve:=Yv Yt
abbrev Dk:=Option (LI×Int)
def aG:Dk:=
(eS A).bind λx=>
if(Br x 0)then
some (([]:LI),12)
else
some (A,0)
def ZS:=aG
def ZD(j8:LI->Dk)(dW:Int->LI->Dk)(b:LB)(a g:Int)(f:LI):Dk:=
if(Cj g a)then
(Ff b (Bf 4 g) (Ae (Bf 4 g) 4)).bind λk=>
(Cz k).bind λm=>
(Bx f ([(Ad m:Int)]:LI)).bind λn=>
dW (Ae g 1) n
else
j8 f
def GC:Nat->Int->LI->Dk
|0,_,_=>none
|x+1,c,e=>ZD ZS (GC x) z d c e
def bA b a:=GC b a Aq
def YA(j6:LB->Int->Int->LI->Dk)(b:LB)(a:Int):Dk:=
j6 b a 0 ([]:LI)
def ZE:=YA bA
def YD(j5:LB->Int->Dk)(b:LB)(a:Int):Dk:=
if((Cj a 1)||(Em a 1000))then
some (([]:LI),2)
else
if(Cj (Ac b) (Ae (Bf 4 a) 4))then
some (([]:LI),24)
else
(Ff b (Bf 4 a) (Ae (Bf 4 a) 4)).bind λo=>
(Ff b 0 (Bf 4 a)).bind λp=>
(Cz o).bind λu=>
(Fk p).bind λv=>
if(Br u (Ad v:UInt64))then
some (([]:LI),22)
else
j5 b a
def jL:=YD ZE
abbrev Iw:=Option (Int×LI×Int)
def UT:Iw:=
if(geq c 24)then
some (0,([]:LI),(-1:Int))
else
some ((Ae (Ae x (Bf 4 (Ac A))) 4),A,c)
def UF:=UT
def VG(j4:Int->Int->LI->Iw)(a:LB)(b k m n o f:Int):Iw:=
(Ff a f (Ac a)).bind λp=>
(GU b k m n o).bind λu=>
(jL p (Ac u)).bind λ(h,g)=>
j4 f g h
def UJ:=VG UF
def UU(j3:LB->Int->Int->Int->Int->Int->Int->Iw)(a:LB)(b k m n o:Int)(v:LB):Iw:=
if(geq b 2)then
if(Cj (Ac a) 8)then
some (0,([]:LI),(-1:Int))
else
(Ff a 0 8).bind λw=>
(Jt v).bind λy=>
if(w !=y)then
some (0,([]:LI),26)
else
j3 a b k m n o 8
else
j3 a b k m n o 0
def dE:=UU UJ
def gK:Option Int:=
(Ca x c).bind λz=>
if((Br z 0)||(Cj i 1))then
some 2
else
(Hq (Br x 0)).bind λ_=>
if(Em i (Ba 4000 x))then
some 2
else
some 0
def IQ:Option Int:=
if(Cj (Ac z) 5)then
some 24
else
if(Em (Ac z) 41254)then
some 4
else
(Ff z 0 (Ag (Ac z) 4)).bind λx=>
(Ky x).bind λc=>
if(c !=z)then
some 22
else
some 0
abbrev Ek:=Option (Int×Int×UInt64×UInt64)
def UB:Ek:=
some (x,c,j,M)
def TD:=UB
def UI(j6:Int->Int->UInt64->UInt64->Ek)(Nf:Int->Int->Int->UInt64->UInt64->Ek)(a:Int)(b:LU)(m f g:Int)(h k:UInt64):Ek:=
if(Cj m (Ac b))then
(Ah b m).bind λn=>
(Kq f g h k n).bind λ(o,p,u,v)=>
Nf (Ae m a) o p u v
else
j6 f g h k
def CE:Nat->Int->Int->Int->UInt64->UInt64->Ek
|0,_,_,_,_,_=>none
|z+1,c,d,e,i,j=>UI TD (CE z) x F c d e i j
def VF a b:=CE a b Aq
def TN(j4:Int->LU->Int->Int->Int->UInt64->UInt64->Ek)(a:Int)(b:LU):Ek:=
(Mi).bind λ(w,y,aa,ab)=>
(Hq (Br a 0)).bind λ_=>
j4 a b (Ed (Ac b) a) w y aa ab
def cS:=TN VF
def gI:Option Int:=
some (Ed x 2)
def gS:=gI
def fT:Option Int:=
if(Cj As7 (Ed Atl 8))then
Atk (Ba As6 2) (Ae As7 1)
else
As2 As6
def MU:Nat->Int->Int->Option Int
|0,_,_=>none
|z+1,c,d=>fT gS (MU z) x c d
def gJ a:=MU a Aq
def gL(j4:Int->Int->Int->Option Int)(g:LB)(k a:Int):Option Int:=
(Ah g (Ba a 8)).bind λh=>
j4 a (Ad h:Int) 0
def Td:=gL gJ
abbrev Dy:=Option (LB×Int)
def SR:Dy:=
some (z,x)
def SF:=SR
def RN(j6:Int->LB->Dy)(Nf:Int->Int->LB->Dy)(f:Int)(g:LB)(h k a:Int)(b:LB):Dy:=
if(Cj k f)then
(Td g h k).bind λm=>
(By b a m).bind λ(n,o)=>
Nf (Ae k 1) o n
else
j6 a b
def Ze:Nat->Int->Int->LB->Dy
|0,_,_,_=>none
|c+1,e,i,j=>RN SF (Ze c) x z d e i j
def RZ f g h:=Ze f g h Aq
def SX(j4:Int->LB->Int->Int->Int->LB->Dy)(g:LB)(h p f:Int):Dy:=
j4 f g h p 0 ([]:LB)
def aA:=SX RZ
def XL:Option UInt64:=
some j
def WJ:=XL
def WY:Option UInt64:=
if(Jz l7 0)then
(Td Asn Ati (Ae Asx l7)).bind λx=>
w9 (Ae (Bf 2 l5) (Ad x:UInt64)) (Ag l7 1)
else
r9 l5
def DE:Nat->UInt64->Int->Option UInt64
|0,_,_=>none
|c+1,e,i=>WY WJ (DE c) x z d e i
def WZ b f g:=DE b f g Aq
def XH(j4:Int->LB->Int->UInt64->Int->Option UInt64)(f:LB)(g b m:Int):Option UInt64:=
j4 b f g 0 (Ag m 1)
def MB:=XH WZ
abbrev Gv:=Option (Int×Int)
def dL(b a:Int)(g:LB)(f:Int):Gv:=
if(geq a 48)then
some (a,(Ae b a))
else
if(Jz (Ae b a) f)then
some ((-1:Int),0)
else
some (a,(Ae (Ae b a) 1))
def dU:=dL
def dO(j6:Int->Int->LB->Int->Gv)(Nf:Int->Gv)(b:Int)(g:LB)(f a:Int):Gv:=
if((Cj (Ae b a) f)&&(Cj a 48))then
(Td g f (Ae b a)).bind λh=>
if(geq h 1)then
Nf (Ae a 1)
else
j6 b a g f
else
j6 b a g f
def IE:Nat->Int->Gv
|0,_=>none
|c+1,e=>dO dU (IE c) x z d e
def cP b g f:=IE b g f Aq
def dQ(j4:Int->LB->Int->Int->Gv)(g:LB)(f b:Int):Gv:=
j4 b g f 0
def kM:=dQ cP
abbrev Yg:=Option (UInt32×Int×Int)
def cX:Yg:=
if((Cj c 0)||(Cj (Ag d i) l))then
some (0,0,24)
else
(MB z d i l).bind λe=>
if(Cj c 48)then
(Dg x).bind λj=>
some ((Ad (Ae (Bf (Ad c:UInt64) j) e):UInt32),(Ae i l),0)
else
(Ns (Ad e:UInt32) x).bind λq=>
if(Cj q c)then
some (0,0,12)
else
some ((Ad e:UInt32),(Ae i l),0)
def dP:=cX
def cM(j2:Int->Int->Int->LB->Int->Int->Yg)(h:LB)(f n g:Int):Yg:=
if(Jz n f)then
some (0,0,24)
else
(kM h f n).bind λ(a,b)=>
if(geq a 48)then
j2 g a b h f 32
else
j2 g a b h f g
def lF:=cM dP
def kZ(g:LB)(b a f n:Int)(v w:UInt64):Option (UInt32×Int×Int):=
if(Jz a b)then
some (0,0,24)
else
(Td g b a).bind λo=>
if(geq o 0)then
if(Cj (Ag (Ag b a) 1) f)then
some (0,0,24)
else
(MB g b (Ae a 1) f).bind λp=>
some ((Ad p:UInt32),(Ae (Ae a 1) f),0)
else
(lF g b (Ae a 1) n).bind λ(h,u,k)=>
if(Br k 0)then
some (0,0,k)
else
(Dg f).bind λm=>
if(Em (Ae (Ad h:UInt64) m) 4294967295)then
some (0,0,12)
else
some ((Ad (Ae (Ad h:UInt64) m):UInt32),u,0)
abbrev Bi:=Option (LU×Int)
def XP:Bi:=
some (F,0)
def WN:=XP
def WR(j18:LU->Bi)(Ef:Int->Bi)(a:LB)(b:LU)(m:Int):Bi:=
if(Cj m (Bf 8 (Ac a)))then
(Td a (Bf 8 (Ac a)) m).bind λn=>
if(Br n 0)then
some (b,12)
else
Ef (Ae m 1)
else
j18 b
def DM:Nat->Int->Bi
|0,_=>none
|x+1,c=>WR WN (DM x) z F c
def XA a b:=DM a b Aq
def WH(j16:LB->LU->Int->Bi)(f:Int)(a:LB)(b:LU):Bi:=
if(Em (Ag (Bf 8 (Ac a)) f) 7)then
some (b,12)
else
j16 a b f
def XR:=WH XA
def XI(H4:Int->Int->LU->Bi)(g h:Int)(a:LB)(f k:Int)(b:LU)(p u:Int)(v w:UInt64):Bi:=
(aA a (Bf 8 (Ac a)) f (Jf (Ae f 81) (Bf 8 (Ac a)))).bind λ(y,aa)=>
(kZ y aa 0 p u v w).bind λ(ab,ac,o)=>
if(Br o 0)then
some (b,o)
else
(Bx b ([ab]:LU)).bind λad=>
H4 (Ae f ac) (Ae k 1) ad
def WG H4:=XI H4
def XN(j13:Int->Int->LU->Int->Int->UInt64->UInt64->Bi)(j15:Int->LB->LU->Bi)(g h:Int)(a:LB)(f k:Int)(b:LU):Bi:=
if(Cj k (Bf h g))then
(Mi).bind λ(n,ae,af,ag)=>
if(Jz k g)then
(cS g b).bind λ(ah,ai,aj,ak)=>
j13 f k b ah ai aj ak
else
j13 f k b n ae af ag
else
j15 f a b
def DP:Nat->Int->Int->LU->Bi
|0,_,_,_=>none
|d+1,e,i,j=>XN (WG (DP d) x c z) XR x c z e i j
def WI g h a:=DP g h a Aq
def aT(j10:Int->Int->LB->Int->Int->LU->Bi)(g h:Int)(a:LB):Bi:=
j10 g h a 0 0 ([]:LU)
def hU:=aT WI
def iK:Option Int32:=
if(geq (Te E 2) 0)then
some (Ad (Ba E 2):Int32)
else
some (Ad (Ba (yL (Ae (Ad E:Int) 1)) 2):Int32)
def YM:Option (Int32×Int×LX×LX):=
(Nx x e B).bind λz=>
(Be (Ae (Ad t:Int) (Ad z:Int))).bind λc=>
(Nt x e B t).bind λ(d,i,j)=>
(Oy d i j c).bind λ(l,q,r)=>
some (c,l,q,r)
def YE:Option (Int32×Int×Int32×Int×LX×LX):=
(YM J P U p8).bind λ(z,c,d,e)=>
(Lb x t J P U).bind λi=>
(Be (Ae (Ad z:Int) i)).bind λj=>
some (j,x,j,c,d,e)
def SJ:Option (LX):=
some e
def RW:=SJ
def RD:Option (LX):=
if(Jz N 0)then
(Ah l6 (Ae N 1)).bind λ_=>
(Ah l8 N).bind λx=>
(Ah l6 (Ae N 1)).bind λz=>
(Be (Ag (Ad z:Int) (Ad x:Int))).bind λc=>
(Ah l6 N).bind λ_=>
(Ka l6 N c).bind λd=>
q9 (Ag N 1) d
else
Asi l6
def Zd:Nat->Int->LX->Option (LX)
|0,_,_=>none
|x+1,z,c=>RD RW (Zd x) e z c
def PQ a:=Zd a Aq
def SV(j6:LX->Int->LX->Option (LX))(a p:LX):Option (LX):=
j6 a (Ag (Ac a) 2) p
def QD:=SV PQ
def PU(j5:LX->LX->Option (LX))(a:LX):Option (LX):=
(mkI (Ac a) (0:Int32)).bind λh=>
(Hq (geq (Ac a) (Ac a))).bind λ_=>
(Ah a (Ag (Ac a) 1)).bind λu=>
(Ah h (Ag (Ac a) 1)).bind λ_=>
(Ka h (Ag (Ac a) 1) u).bind λg=>
if(Em (Ac a) 1)then
(Ah a (Ag (Ac a) 1)).bind λv=>
(Ah a (Ag (Ac a) 2)).bind λw=>
(Be (Ae (Ad v:Int) (Ba (Ad w:Int) 2))).bind λy=>
(Ah g (Ag (Ac a) 1)).bind λ_=>
(Ka g (Ag (Ac a) 1) y).bind λaa=>
j5 a aa
else
j5 a g
def aS:=PU QD
abbrev Fy:=Option (LX×Int)
def aQ:Fy:=
some (e,0)
def bD:=aQ
def bF(j6:LX->Fy)(Nf:Int->LX->Fy)(a:Int)(b:LX)(g:Int)(f:LX):Fy:=
if(Cj g (Ac b))then
(Ff b g (Ae g a)).bind λh=>
(aS h).bind λk=>
(Bx f k).bind λm=>
Nf (Ae g a) m
else
j6 f
def GV:Nat->Int->LX->Fy
|0,_,_=>none
|z+1,c,d=>bF bD (GV z) x e c d
def aE a b:=GV a b Aq
def YJ(j4:Int->LX->Int->LX->Fy)(a:Int)(b:LX):Fy:=
(Gw a b).bind λn=>
if(Br n 0)then
(Gw a b).bind λo=>
some (([]:LX),o)
else
j4 a b 0 ([]:LX)
def iL:=YJ aE
def QY(b f:Int)(w:LX):Option (LX):=
(iL b w).bind λ(aj,ai)=>
some aj
def QB:=QY
def RC(vS:Int->LX->Option (LX))(a:LU)(b f:Int)(g:LX)(h:Int)(m:LX):Option (LX):=
vS (Ae h 1) m
def PX vS:=RC vS
def QH(ko:Int->LX->Int->Int32->Int->LX->LX->Option (LX))(a:LU)(h b f:Int)(g:LX)(k:Int)(ah:LX)(y:Int)(aa:Int32)(ab:Int)(ac ad:LX):Option (LX):=
ko (Ae k b) ah y aa ab ac ad
def PM ko:=QH ko
def QV(j30:Int->LX->Int->Int32->Int->LX->LX->Option (LX))(a:LU)(h b f:Int)(g:LX)(k:Int)(ae:Int32)(m:LX)(n:Int)(o:Int32)(p:Int)(u v:LX)(y:Int)(aa:Int32)(ab:Int)(ac ad:LX):Option (LX):=
(Ah m k).bind λ_=>
(Ka m k ae).bind λah=>
j30 k ah y aa ab ac ad
def RL ko a h b f g:=QV (PM ko a h b f g) a h b f g
def QU(j29:Int->Int32->LX->Int->Int32->Int->LX->LX->Int->Int32->Int->LX->LX->Option (LX))(j32:Int->LX->Option (LX))(a:LU)(b f:Int)(g:LX)(h k:Int)(m:LX)(n:Int)(o:Int32)(p:Int)(u v:LX):Option (LX):=
if(Cj k (Ac a))then
(Ah a k).bind λag=>
(
(iK ag).bind λaf=>
(
(YE n o p u v af).bind λ(ae,y,aa,ab,ac,ad)=>
j29 k ae m n o p u v y aa ab ac ad))
else
j32 h m
def Zr:Nat->Int->LX->Int->Int32->Int->LX->LX->Option (LX)
|0,_,_,_,_,_,_,_=>none
|x+1,z,c,d,e,i,j,l=>QU (RL (Zr x) F As4 l9 o7 y7) (PX q9 F l9 o7 y7) F l9 o7 y7 As4 z c d e i j l
def RB vS a b f g h:=Zr vS a b f g h Aq
def QC(j26:Int->Int->LX->Int->Int32->Int->LX->LX->Option (LX))(j34:Int->Int->LX->Option (LX))(a:LU)(b f:Int)(g:LX)(h:Int)(w:LX):Option (LX):=
if(Cj h b)then
(Vm f g).bind λ(ak,ai,al,am,an,aq)=>
j26 h h w ak ai al am an
else
j34 b f w
def Zp:Nat->Int->LX->Option (LX)
|0,_,_=>none
|x+1,z,c=>QC (RB (Zp x) F l9 o7 y7) QB F l9 o7 y7 z c
def SW a b f g:=Zp a b f g Aq
def TK(j18:LU->Int->Int->LX->Int->LX->Option (LX))(b f:Int)(g:LX)(a:LU):Option (LX):=
(mkI (Ac a) (0:Int32)).bind λao=>
(Hq (geq (Ac a) (Ac a))).bind λ_=>
j18 a b f g 0 ao
def cV:=TK SW
def dN(g f:Int)(a:LX):Option (LX×Int):=
(Bc f a).bind λb=>
if(Br b 0)then
some (([]:LX),b)
else
some (a,0)
abbrev Tn:=Option (LX×Int)
def UW:Tn:=
if(Br x 0)then
some (([]:LX),x)
else
(
(
(cV c i e F).bind λz=>
(dN c i z).bind λ(d,j)=>
some (d,j)))
def TM:=UW
def VJ(j2:Int->Int->Int->LX->LU->Tn)(a b:Int)(g:LX)(p:Int)(k:LB):Tn:=
(gK a b p).bind λy=>
if(Br y 0)then
some (([]:LX),2)
else
(IQ k).bind λaa=>
if(Br aa 0)then
(IQ k).bind λab=>
some (([]:LX),ab)
else
(Ff k 0 (Ag (Ac k) 4)).bind λac=>
(hU a p ac).bind λ(h,f)=>
j2 f a b g h
def Wn:=VJ TM
def dF:Option (LB):=
if(geq x 24)then
(Bx ([(Ad (Ed c 256):UInt8),(Ad (Ed (Ba c 256) 256):UInt8)]:LB) ([(Ad (Ba c 65536):UInt8)]:LB)).bind λz=>
some z
else
some ([(Ad (Ed c 256):UInt8),(Ad (Ed (Ba c 256) 256):UInt8)]:LB)
def cO:=dF
def dH(j2:Int->Int->Option (LB))(a:Int)(f:Int32):Option (LB):=
if(geq a 8)then
some ([(Ad (Ae (Ad f:Int) 128):UInt8)]:LB)
else
if(Cj (Ad f:Int) 0)then
(Dt a).bind λh=>
j2 a (Ae (Ad f:Int) (Bf 2 h))
else
j2 a (Ad f:Int)
def kD:=dH cO
abbrev Fg:=Option (LB×Int)
def WM:Fg:=
some (z,0)
def WQ:=WM
def WX(j6:LB->Fg)(Nf:Int->LB->Fg)(b:Int)(a:LX)(g:Int)(f:LB):Fg:=
if(Cj g (Ac a))then
(Ah a g).bind λh=>
(kD b h).bind λk=>
(Bx f k).bind λm=>
Nf (Ae g 1) m
else
j6 f
def DO:Nat->Int->LB->Fg
|0,_,_=>none
|z+1,c,d=>WX WQ (DO z) x e c d
def XC b a:=DO b a Aq
def XJ(j4:Int->LX->Int->LB->Fg)(b:Int)(a:LX):Fg:=
(Bc b a).bind λn=>
if(Br n 0)then
(Bc b a).bind λo=>
some (([]:LB),o)
else
j4 b a 0 ([]:LB)
def KC:=XJ XC
abbrev Tv:=Option (LB×Int)
def TC(o:LX)(f:Int)(p g:LB)(h k a m n:Int)(u:LI)(b:Int)(v:LB)(w:Bool)(y:Int):Tv:=
if(Br f 0)then
some (([]:LB),f)
else
(KC a o).bind λ(ac,ai)=>
some (ac,0)
def VH:=TC
def UY(j2:LX->Int->LB->LB->Int->Int->Int->Int->Int->LI->Int->LB->Bool->Int->Tv)(p g:LB)(h k a m n:Int)(u:LI)(b:Int)(v:LB)(w:Bool)(y:Int):Tv:=
(Ah u b).bind λaa=>
if(Cj (Ac g) aa)then
some (([]:LB),(-1:Int))
else
(Hv p).bind λ(ad,aj)=>
(Ff g 0 aa).bind λae=>
(gD h k a m n).bind λ(af,ag)=>
(GU h k a m n).bind λab=>
(Ah ab b).bind λ_=>
(Ah ab b).bind λah=>
(Wn af ag ad ah ae).bind λ(o,f)=>
j2 o f p g h k a m n u b v w y
def cN:=UY VH
abbrev Kr:=Option (LB×LB×Int×Int×Int×Int×Int×LI×Int×LB×Bool×Int×Int)
def ZM:Kr:=
if(geq (Ac A) 0)then
(dE s d l G V X z).bind λ(x,c,e)=>
if(Br e 0)then
some (z,s,d,l,G,V,X,A,Y,D,R,T,e)
else
(Ff s x (Ac s)).bind λi=>
some (z,i,d,l,G,V,X,c,Y,D,R,T,0)
else
if(geq Y (Ac A))then
if(Em (Ac s) 4000)then
some (z,s,d,l,G,V,X,A,Y,D,R,T,38)
else
some (z,s,d,l,G,V,X,A,Y,D,R,T,(-1:Int))
else
(cN z s d l G V X A Y D R T).bind λ(j,q)=>
if(Br q 0)then
some (z,s,d,l,G,V,X,A,Y,D,R,T,q)
else
(Bx ([]:LB) D).bind λr=>
(Bx r j).bind λt=>
(
(
(
(Ah A Y).bind λB=>
(
(Ff s B (Ac s)).bind λC=>
some (z,C,d,l,G,V,X,A,(Ae Y 1),t,R,T,0)))))
def aB:=ZM
def YT:Kr:=
(fO d l G V X z).bind λx=>
some (z,s,d,l,G,V,X,A,Y,D,R,T,x)
def ZF:=YT
def GP(j3:LB->LB->Int->Int->Int->Int->Int->LI->Int->LB->Bool->Int->Kr)(j4:LB->LB->Int->Int->Int->Int->Int->LI->Int->LB->Bool->Int->Kr)(g a:LB)(m n o p u:Int)(b:LI)(f:Int)(v:LB)(h:Bool)(k:Int):Kr:=
if(geq m 0)then
(Ve a).bind λ(ac,ae,w,af,ag,y,ai)=>
if(Br ai 0)then
some (g,a,m,n,o,p,u,b,f,v,h,k,ai)
else
(
(Ff a ac (Ac a)).bind λad=>
(
j3 g ad ae w af ag y b f v h k))
else
j4 g a m n o p u b f v h k
def CM:=GP ZF aB
abbrev Wg:=Option (LB×LB×Int×Int×Int×Int×Int×LI×Int×LB×Bool×Int)
def YP:Wg:=
(Bx ([]:LI) A).bind λx=>
some (z,o8,d,l,G,V,X,x,Y,As8,R,T)
def YV:=YP
def XX(j2:LB->Int->Int->Int->Int->Int->LI->Int->Bool->Int->LB->LB->Wg)(f w:LB)(g h k m n:Int)(o:LI)(p:Int)(y:LB)(u:Bool)(v:Int):Wg:=
(
(
(
(Bx ([]:LB) w).bind λa=>
(
(Bx ([]:LB) y).bind λb=>
j2 f g h k m n o p u v a b))))
def iB:=XX YV
def E8(b g:LB)(h k m n o:Int)(p:LI)(u:Int)(f:LB)(v:Bool)(w a:Int):Option (LB×LB×Int×Int×Int×Int×Int×LI×Int×LB×Bool×Int×Int):=
some (b,([]:LB),0,0,0,0,0,([]:LI),0,f,false,a,a)
abbrev Vh:=Option (LB×LB×Int×Int×Int×Int×Int×LI×Int×LB×Bool×Int×Int)
def kB(Afs:LB->Int->Int->Int->Int->Int->Int->LI->LB->Vh)(a:LB)(b:Bool)(f:Int)(av:LB)(aw ax ay az ba bb:Int)(dy:Bool)(dk:Int)(bc:LI)(bd:LB):Vh:=
if dy then
(zM a av aw ax ay az ba bc bb bd b f).bind λ(dz,fa,fb,ap,be,ae,fc,fd,fe,ff,fg,af)=>
some (dz,fa,fb,ap,be,ae,fc,fd,fe,ff,fg,af,0)
else
if(Br dk 0)then
(E8 a av aw ax ay az ba bc bb bd b f dk).bind λ(fh,fi,fj,fk,fl,fm,fn,fo,fp,fq,fs,ft,fu)=>
some (fh,fi,fj,fk,fl,fm,fn,fo,fp,fq,fs,ft,fu)
else
Afs av aw ax ay az ba bb bc bd
def RI Afs:=kB Afs
def lO(j71:LB->Int->Int->Int->Int->Int->Int->Bool->Int->LI->LB->Vh)(a:LB)(b:Bool)(f m o n p u h:Int)(v:LB)(bf:Bool)(bg:Int)(bh:LB)(bi:LI):Vh:=
j71 bh m o n p u h bf bg bi v
def lQ Afs a b f:=lO (RI Afs a b f) a b f
def jN(a m:LB)(n o p u v:Int)(w:LI)(y:Int)(b:LB)(aa:Bool)(ab:Int):Option (LB×LB×Int×Int×Int×Int×Int×LI×Int×LB×Bool×Int):=
(
(
(Bx ([]:LB) b).bind λf=>
some (a,([]:LB),0,0,0,0,0,([]:LI),0,f,false,0)))
def dT:Option (LB×LB×Int×Int×Int×Int×Int×LI×Int×LB×Bool×Int×Int):=
(jN z s d l G V X A Y D R T).bind λ(x,c,e,i,j,q,r,t,B,C,E,F)=>
some (x,c,e,i,j,q,r,t,B,C,E,y8,y8)
abbrev Wo:=Option (LB×LB×Int×Int×Int×Int×Int×LI×Int×LB×Bool×Int×Int)
def ZX(bk3:LB->LB->Int->Int->Int->Int->Int->LI->Int->LB->Bool->Int->Wo)(a b:LB)(f g h k m:Int)(n:LI)(o:Int)(p:LB)(u:Bool)(v:Int):Wo:=
(CM a b f g h k m n o p u v).bind λ(bb,bc,bd,be,bf,bg,bh,bi,bj,bk,bl,bm,w)=>
if(geq w (-1:Int))then
(iB a b f g h k m n o p u v).bind λ(bn,bp,bq,br,bs,bt,bu,bv,bw,bx,bz,da)=>
some (bn,bp,bq,br,bs,bt,bu,bv,bw,bx,bz,da,0)
else
if(Br w 0)then
(dT a b f g h k m n o p u v w).bind λ(db,dc,dd,de,df,dg,dh,di,dj,dk,dl,dm,dn)=>
some (db,dc,dd,de,df,dg,dh,di,dj,dk,dl,dm,dn)
else
bk3 bb bc bd be bf bg bh bi bj bk bl bm
def HG:Nat->LB->LB->Int->Int->Int->Int->Int->LI->Int->LB->Bool->Int->Wo
|0,_,_,_,_,_,_,_,_,_,_,_,_=>none
|q+1,a,b,f,g,h,k,m,n,o,p,u,v=>ZX (HG q) a b f g h k m n o p u v
def XU:Option Int:=
some x
def WU:=XU
def WK(j6:Int->Option Int)(Nf:Int->Int->Option Int)(b h k m n o f:Int)(g:LI)(a p:Int):Option Int:=
if(Cj p b)then
(Ah g p).bind λu=>
Nf (Ae a u) (Ae p 1)
else
j6 a
def DY:Nat->Int->Int->Option Int
|0,_,_=>none
|z+1,e,j=>WK WU (DY z) x c i I d l G A e j
def WC b h k m n o f g:=DY b h k m n o f g Aq
def WT(j4:Int->Int->Int->Int->Int->Int->Int->LI->Int->Int->Option Int)(h k m n o f:Int)(g:LI)(b:Int):Option Int:=
j4 b h k m n o f g f 0
def eR:=WT WC
abbrev Ym:=Option (LB×Int)
def dJ(u:LX)(n o g f h k p:Int)(b:LI):Ym:=
if(Br n 0)then
some (([]:LB),n)
else
(KC f u).bind λ(af,ai)=>
some (af,0)
def cY:=dJ
def cU(j2:LX->Int->Int->Int->Int->Int->Int->Int->LI->Ym)(v y:LB)(o g f h k p:Int)(b:LI)(a:Int):Ym:=
(eR o g f h k p b a).bind λm=>
(Ah b a).bind λaa=>
if(Cj (Ag (Ac v) m) aa)then
some (([]:LB),24)
else
(Hv y).bind λ(ab,ag)=>
(Ah b a).bind λac=>
(Ff v m (Ae m ac)).bind λad=>
(
(Mn h k).bind λw=>
(Ah w a).bind λ_=>
(Ah w a).bind λae=>
(Wn g f ab ae ad).bind λ(u,n)=>
j2 u n o g f h k p b)
def lA:=cU cY
end Go.Pl
