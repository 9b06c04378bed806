/- A part of a proof (see the text that ends in Proof). No conditions. -/
import Derived.Test.YtaokmgopghpikaaGreatDoorVgBA
set_option linter.unusedVariables false
namespace Go.Pl
open Go Go.Lv
abbrev Jz3(R:Type):=Int->Int->Int->R
abbrev Jz4(R:Type):=Int->Int->Int->Int->R
abbrev Jz5(R:Type):=Int->Int->Int->Int->Int->R
abbrev Jz6(R:Type):=Int->Int->Int->Int->Int->Int->R
abbrev Jz7(R:Type):=Int->Int->Int->Int->Int->Int->Int->R
abbrev Jz8(R:Type):=Int->Int->Int->Int->Int->Int->Int->Int->R
abbrev Jz9(R:Type):=Int->Int->Int->Int->Int->Int->Int->Int->Int->R
abbrev Jz10(R:Type):=Int->Int->Int->Int->Int->Int->Int->Int->Int->Int->R
abbrev LB:=List UInt8
abbrev LI:=List Int
abbrev LX:=List Int32
abbrev LU:=List UInt32
abbrev LQ:=List UInt64
abbrev Bh0:=Int->LB->Option (LB)
abbrev Bhv:=UInt64->Option UInt64
abbrev Bhl:=UInt64->Int->Option UInt64
abbrev Bgd:=Option Int
abbrev Bgy:=Int->Option Int
abbrev Bg1:=List LB
abbrev Bh1:=Int->Int->Option Int
abbrev Bgo:=List (LB×LB×Unit)
abbrev Bg5:=Int->LI->Option (LI)
abbrev Bhd:=Bool->Option Int
abbrev Bhi:=List LI
variable(c:LB)(D:LI)(z d j F O Beq Be2 Bfq Bfr Bfs:Int)(e:LX)(T:LI)(i:LB)(B I U Z l5:Int)(X:LI)(l6:Int)(V:LB)(M:Bool)(N Be3 Bfz Bf0 Bf1 Bf2 Bf3 Bf4:Int)(Bfi:LI)(Bev Bf5:LB)(Bf6 Bf7 Bf8:Int)(J:LX)(Bft Bfu Bfv:LB)(A:UInt64)(L:UInt32)(P:UInt64)(p8:LB)(Bew:LB->Option (LB))(Bex:Bh0)(G p9:Int)(Bey:UInt64)(Be4:Int)(Be5:LB)(Ber:Bhv)(Bes:Bhl)(Bfj:Int)(Be6:LB)(Bf9:Int)(Y:UInt64)(o8:Int)(Bez:Bgd)(Be0:Bgy)(C Be9:Int32)(y5:LX)(E:Int)(l7 l9:LX)(Be7:Int32)(Bfa:UInt64)(o7:Bg1)(q8:Int)(y7:LB)(Bet:Bh1)(Bfe:LI)(Be8 Beu:Int)(Bff Bga:LB)(o9:Bgo)(Bfb Bfk:Int)(Bgb:Bgy)(Bfl:LI)(Bfw Bfg:Int)(Bfc:UInt8)(Bfx:UInt64)(q9:Int)(R:LU)(y8 y9:Int)(Bfh:LX)(Bfm:LQ)(Bgc:Bg5)(Bfy:LI)(Bfn:UInt64)(Bfd:Bool)(Be1:Bhd)(Bfo:Bool)(Bfp:Bhi)
def JW:Option (Int×Int×Int×LX):=some (2,16,4,([(1:Int32),(2:Int32),(3:Int32),(-4:Int32),(5:Int32),(600:Int32),(-700:Int32),(8:Int32),(9:Int32),(-10:Int32)]:LX))
abbrev Bgj:=Option (Int×Int)
def GJ(a b f:Int)(g:LX):Bgj:=some (a,b)
abbrev UZ:=Option (Int32×Int32×Int)
def Akr:UZ:=if M then(Hu (Lj (Ah z 1) 0)).bind λ_=>some ((pJ (Db (1:Int32) (GI.toZ (Ah z 1)).toNat)),(Ah (Db (1:Int32) (GI.toZ (Ah z 1)).toNat) 1),0)
else
some (0,0,2)
def Ams:=Akr
def Alj(j2:Int->Bool->UZ)(a:Int):UZ:=if(geq a 8)then
j2 a (geq a 8)
else
if(geq a 16)then
j2 a (geq a 16)
else
j2 a (geq a 24)
def Qg:=Alj Ams
def Fp:Bgd:=(Qg d).bind λ(c,e,i)=>if(((Bl i 0)||(Ci z 1))||(Dq z 6))then
some 2
else
some 0
def Qj:Bgj:=if((Ci z 1)||(Dq z 1048576))then
some (0,2)
else
some ((pT 1 (Cb (Bd 256 z) 245)),0)
def Hh:Bgj:=(Qj z).bind λ(c,e)=>if(Bl e 0)then
some (0,e)
else
if((Ci d 1)||(Dq d 4000))then
some (0,2)
else(Hu (Bl c 0)).bind λ_=>if(Dq (Cb (Ah (Ae d c) 1) c) 1000)then
some (0,4)
else
some ((Cb (Ah (Ae d c) 1) c),0)
def GH:Bgd:=(GJ z d j e).bind λ(c,i)=>(Fp c i).bind λA=>if((Bl A 0)||(Ci B 1))then
some 8
else(Hu (Bl z 0)).bind λ_=>if(Dq B (Cb 4000 z))then
some 8
else(Hh j B).bind λ(C,D)=>if(Bl D 0)then
some 8
else
some 0
def Ayx:Bgd:=some 0
def Ame:=Ayx
def BJ:Bgd:=if(Ci E (Ac y5))then(Aj y5 E).bind λz=>if((Ci z C)||(Dq z Be9))then
some 16
else
Be0 (Ae E 1)
else
Bez
def Oz:Nat->Int->Option Int
|0,_=>none
|z+1,c=>BJ Ame (Oz z) C Be9 y5 c
def Bej b f a:=Oz b f a Aq
def QU(j4:Int32->Int32->LX->Int->Option Int)(m:Int)(a:LX):Bgd:=(Qg m).bind λ(b,f,k)=>if(Bl k 0)then
some k
else
if(Dq (Ac a) 4000)then
some 4
else
j4 b f a 0
def Ut:=QU Bej
def Dg:Bgd:=if(Ci z 1)then
some 8
else(Hu (Bl z 0)).bind λ_=>if(Bl (Ge (Ac e) z) 0)then
some 8
else(Hu (Bl z 0)).bind λ_=>(GH z d j e (Cb (Ac e) z)).bind λc=>if(Bl c 0)then
some c
else(Ut d e).bind λi=>if(Bl i 0)then
some 8
else
some 0
abbrev VD:=Option (Int×Int×Int×Int×Int×Int)
def Ala:VD:=if(c !=([]:LB))then
some (2,z,d,j,(Cb (Ac e) z),0)
else
some (1,z,d,j,(Cb (Ac e) z),0)
def QI:=Ala
def AZ(j2:LB->Jz3 (LX->VD))(a b f:Int)(g:LX)(h:LB):VD:=(Dg a b f g).bind λk=>if(Bl k 0)then
some (0,0,0,0,0,k)
else
if(Dq (Ac h) 64)then
some (0,0,0,0,0,2)
else(Hu (Bl a 0)).bind λ_=>(
j2 h a b f g)
def TM:=AZ QI
abbrev Bt:=Option (UInt64×Int)
def Alf:Bt:=some (A,0)
def Ali:=Alf
def Akf(j30:UInt64->Bt)(h b:UInt64)(a:LB)(f:LQ):Bt:=j30 h
def QT:=Akf Ali
def CK(j29:UInt64->UInt64->LB->LQ->Bt)(MG:UInt64->Int->Bt)(a:LB)(b:UInt64)(f:LQ)(h:UInt64)(m:Int):Bt:=if(Ci m (Ac a))then(Aj a m).bind λp=>Option.bind (Aj f (GI.toZ (Ri (Ad (Bw h (GI.toZ (56:UInt64)).toNat):UInt8) p))) λ_=>Option.bind (Aj f (GI.toZ (Ri (Ad (Bw h (GI.toZ (56:UInt64)).toNat):UInt8) p))) λu=>MG (Ri (Db h (GI.toZ (8:UInt64)).toNat) u) (Ae m 1)
else
j29 h b a f
def Pe:Nat->UInt64->Int->Bt
|0,_,_=>none
|z+1,d,e=>CK QT (Pe z) c A Bfm d e
def PF a b f:=Pe a b f Aq
def OQ(j27:LB->UInt64->LQ->UInt64->Int->Bt)(b:UInt64)(a:LB)(f:LQ):Bt:=j27 a b f b 0
def QN:=OQ PF
abbrev Bh2:=Int->LQ->Bt
def Akd(Li:Bh2)(b:UInt64)(a:LB)(g:Int)(o:LQ):Bt:=Li (Ae g 1) o
def Aky Li:=Akd Li
def Akm(j24:Bh2)(b:UInt64)(a:LB)(g:Int)(k:UInt64)(f:LQ):Bt:=(Aj f g).bind λ_=>(He f g k).bind λo=>j24 g o
def BU Li b a:=Akm (Aky Li b a) b a
def BB(j23:Int->UInt64->LQ->Bt)(V?:UInt64->Int->Bt)(b:UInt64)(a:LB)(g:Int)(f:LQ)(k:UInt64)(n:Int):Bt:=if(Ci n 8)then
V? (Ri (Db k (GI.toZ (1:UInt64)).toNat) (Bd 4823603603198064275 (Bw k (GI.toZ (63:UInt64)).toNat))) (Ae n 1)
else
j23 g k f
def Ps(Li:Bh2)(b:UInt64)(a:LB)(g:Int)(f:LQ):Nat->UInt64->Int->Bt
|0,_,_=>none
|q+1,k,n=>BB (BU Li b a) (Ps Li b a g f q) b a g f k n
def RQ Li b a g f:=Ps Li b a g f Aq
def CO(j21:Int->LQ->UInt64->Int->Bt)(j26:UInt64->LB->LQ->Bt)(b:UInt64)(a:LB)(g:Int)(f:LQ):Bt:=if(Ci g 256)then
j21 g f (Db (Ad g:UInt64) (GI.toZ (56:UInt64)).toNat) 0
else
j26 b a f
def Ly:Nat->Int->LQ->Bt
|0,_,_=>none
|z+1,c,d=>CO (RQ (Ly z) A p8) QN A p8 c d
def Al4 b a:=Ly b a Aq
def VA(j16:UInt64->LB->Int->LQ->Bt)(b:UInt64)(a:LB):Bt:=if(Dq (Ac a) 100000)then
some (0,4)
else
j16 b a 0 (List.replicate 256 (0:UInt64))
def aG:=VA Al4
abbrev Bgw:=Option (UInt64×Int)
def WN:Bgw:=(aG 0 c).bind λ(z,d)=>some (z,d)
abbrev Bgl:=Option (LX)
def Abw:Bgl:=some e
def Awk:=Abw
abbrev Bhs:=LX->Option (LX)
abbrev Bgz:=Int->LX->Option (LX)
def bH(j6:Bhs)(Oc:Bgz)(f:UInt64)(a:Int)(b:LX):Bgl:=if(Ci a 8)then(Hu (Lj (Bd 8 a) 0)).bind λ_=>(Aj b a).bind λ_=>(He b a (Ad (Ad (Bw f (GI.toZ (Bd 8 a)).toNat):Int8):Int32)).bind λg=>Oc (Ae a 1) g
else
j6 b
def HF:Nat->Int->LX->Option (LX)
|0,_,_=>none
|z+1,c,d=>bH Awk (HF z) A c d
def Aby f:=HF f Aq
abbrev Bg4:=UInt64->Int->LX->Option (LX)
def K4(j4:Bg4)(f:UInt64):Bgl:=j4 f 0 (List.replicate 16 (0:Int32))
def jk:=K4 Aby
abbrev Bhe:=Option (LX×Int)
def HK:Bhe:=if(Dq (Ac c) 64)then
some (([(0:Int32),(0:Int32),(0:Int32),(0:Int32),(0:Int32),(0:Int32),(0:Int32),(0:Int32),(0:Int32),(0:Int32),(0:Int32),(0:Int32),(0:Int32),(0:Int32),(0:Int32),(0:Int32)]:LX),2)
else(WN c).bind λ(z,d)=>if(Bl d 0)then
some (([(0:Int32),(0:Int32),(0:Int32),(0:Int32),(0:Int32),(0:Int32),(0:Int32),(0:Int32),(0:Int32),(0:Int32),(0:Int32),(0:Int32),(0:Int32),(0:Int32),(0:Int32),(0:Int32)]:LX),d)
else(jk z).bind λe=>some (e,0)
abbrev Bhq:=Option (UInt64×UInt64)
def LR:Bhq:=some ((Ae (Ae (Bd (Bw A (GI.toZ (32:UInt64)).toNat) (Bw P (GI.toZ (32:UInt64)).toNat)) (Bw (Ae (Bd (Bw A (GI.toZ (32:UInt64)).toNat) (Cy P 4294967295)) (Bw (Bd (Cy A 4294967295) (Cy P 4294967295)) (GI.toZ (32:UInt64)).toNat)) (GI.toZ (32:UInt64)).toNat)) (Bw (Ae (Cy (Ae (Bd (Bw A (GI.toZ (32:UInt64)).toNat) (Cy P 4294967295)) (Bw (Bd (Cy A 4294967295) (Cy P 4294967295)) (GI.toZ (32:UInt64)).toNat)) 4294967295) (Bd (Cy A 4294967295) (Bw P (GI.toZ (32:UInt64)).toNat))) (GI.toZ (32:UInt64)).toNat)),(Bd A P))
def IA:Bhq:=(LR A P).bind λ(z,c)=>some (z,c)
abbrev Bgm:=Option (LI)
def Mm:Bgm:=some D
def Ia:=Mm
abbrev Bht:=LI->Option (LI)
def Gj(j10:Bht)(n? :Bg5)(b:Int)(a:LI):Bgm:=if(Ci b (Ac a))then(
(cE (Ac a) b (Ac a)).bind λ_=>(cE (Ac a) 0 b).bind λ_=>n? (Ae b (QZ ((Ac a)-b) (UR a 0 (b-(0:Int))).length)) (Uf a b ((Ac a)-b) (UR a 0 (b-(0:Int)))))
else
j10 a
def El:Nat->Int->LI->Option (LI)
|0,_,_=>none
|q+1,b,a=>Gj Ia (El q) b a
def Agh:=El Aq
def Ny:Bgm:=(vg (Ad Bfn:Int) (0:Int)).bind λz=>(Hu (geq (Ad Bfn:Int) (Ad Bfn:Int))).bind λ_=>Bgc (QZ (Ac z) Bfy.length) (M9 z Bfy)
def Agd:=Ny Agh
def Ns(j7:LI->UInt64->Option (LI))(f:LI)(h:Int):Bgm:=(IA (Ad (Ac f):UInt64) (Ad h:UInt64)).bind λ(m,g)=>if((Dq m 0)||(Dq g 9223372036854775807))then
none
else
j7 f g
def Agk:=Ns Agd
def Nw(j6:LI->Int->Option (LI))(f:LI)(h:Int):Bgm:=if(Ci h 0)then
none
else
j6 f h
def Mh:=Nw Agk
def Azj:Bgm:=some D
def Ae4:=Azj
def Fw(j16:Bht)(jG:Bg5)(a:Bhi)(g:Int)(f:LI):Bgm:=if(Ci g (Ac a))then(Aj a g).bind λn=>(Cm f n).bind λo=>jG (Ae g 1) o
else
j16 f
def Ea:Nat->Int->LI->Option (LI)
|0,_,_=>none
|z+1,c,d=>Fw Ae4 (Ea z) Bfp c d
def Ms a:=Ea a Aq
def Mo(j14:(List LI)->Int->LI->Option (LI))(a:Bhi)(p:LI):Bgm:=j14 a 0 p
def Mu:=Mo Ms
def Mq(j13:(List LI)->LI->Option (LI))(b:Int)(a:Bhi):Bgm:=if(Dq (Ah b (Ah (0:Int) (0:Int))) 0)then(cE 0 0 0).bind λ_=>(vg (Ah b (Ah (0:Int) (0:Int))) (0:Int)).bind λu=>(Cm ([]:LI) u).bind λk=>(cE (Ac k) 0 0).bind λ_=>j13 a (UR k 0 ((0:Int)-(0:Int)))
else
j13 a ([]:LI)
def Ae2:=Mq Mu
def Mv(j12:Int-> (List LI)->Option (LI))(a:Bhi)(b:Int):Bgm:=if(Ci b 0)then
none
else
j12 b a
def Ae0:=Mv Ae2
def Gh(j11:(List LI)->Int->Option (LI))(bk9:Int->Int->Option (LI))(a:Bhi)(b h:Int):Bgm:=if(Ci h (Ac a))then(Aj a h).bind λm=>if(Ci (Ae b (Ac m)) 0)then
none
else
bk9 (Ae b (Ac m)) (Ae h 1)
else
j11 a b
def Ek:Nat->Int->Int->Option (LI)
|0,_,_=>none
|z+1,c,d=>Gh Ae0 (Ek z) Bfp c d
def Afy a:=Ek a Aq
def Nu(j9:(List LI)->Int->Int->Option (LI))(a:Bhi):Bgm:=j9 a 0 0
def Md:=Nu Afy
def QL:Bgm:=(Md ([D,T]:Bhi)).bind λz=>some z
abbrev Bhm:=Option (LI×Int)
def Uo:Bhm:=(Hh z d).bind λ(c,e)=>if(Bl e 0)then
some (([]:LI),e)
else(Qj z).bind λ(i,j)=>(Mh ([i]:LI) (Ah c 1)).bind λA=>(QL A ([(Ah d (Bd (Ah c 1) i))]:LI)).bind λB=>some (B,0)
def HO:Bgd:=(Fp z d).bind λc=>if(Bl c 0)then
some c
else(Ut d e).bind λi=>if(Bl i 0)then
some i
else
if(geq (Ac e) 0)then
some 2
else(Hu (Bl z 0)).bind λ_=>if(Bl (Ge (Ac e) z) 0)then
some 2
else
some 0
def WY:Bgd:=if((Ci z 1)||(Dq z 6))then
some 2
else
if(Dq (Ac e) 4000)then
some 4
else(Hu (Bl z 0)).bind λ_=>if(Bl (Ge (Ac e) z) 0)then
some 2
else
some 0
def Df:Bgl:=(
(Cm ([]:LX) e).bind λz=>some z)
abbrev Hw:=Option (LX×Int)
def Ayn:Hw:=some (e,0)
def Atz:=Ayn
abbrev Bhj:=Int->LX->Hw
def eU(VK:Bhj)(b a:Int)(u:LX):Hw:=VK (Ae a b) u
def iF VK:=eU VK
def Avq(j20:Bhj)(b a:Int)(g:LX):Hw:=if(Dq (Ah ((Ae a b)-a) 1) 0)then(Hu (decide (0<= (Ah ((Ae a b)-a) 1)/\ (Ah ((Ae a b)-a) 1)<((Ae a b)-a)))).bind λ_=>Option.bind (Hu (decide (0<= (Ah (Ah ((Ae a b)-a) 1) 1)/\ (Ah (Ah ((Ae a b)-a) 1) 1)<((Ae a b)-a)))) λ_=>(Aj g (a+(Ah ((Ae a b)-a) 1))).bind λk=>(Aj g (a+(Ah (Ah ((Ae a b)-a) 1) 1))).bind λm=>(Hu (decide (0<= (Ah ((Ae a b)-a) 1)/\ (Ah ((Ae a b)-a) 1)<((Ae a b)-a)))).bind λ_=>(He g (a+(Ah ((Ae a b)-a) 1)) (Ah k (Cb m 2))).bind λn=>j20 a n
else
j20 a g
def eF VK b:=Avq (iF VK b) b
def SM(j19:Bhj)(jJ:Bhj)(b a f:Int)(g:LX):Hw:=if(Ci f (Ah ((Ae a b)-a) 1))then(Hu (decide (0<= (Ae f 1)/\ (Ae f 1)<((Ae a b)-a)))).bind λ_=>(Hu (decide (0<=f/\f<((Ae a b)-a)))).bind λ_=>(Aj g (a+(Ae f 1))).bind λk=>(Aj g (a+f)).bind λm=>(Hu (decide (0<=f/\f<((Ae a b)-a)))).bind λ_=>(He g (a+f) (Ah k m)).bind λn=>jJ (Ae f 1) n
else
j19 a g
def AR(VK:Bhj)(b a:Int):Nat->Int->LX->Hw
|0,_,_=>none
|q+1,f,g=>SM (eF VK b) (AR VK b a q) b a f g
def Auh VK b a:=AR VK b a Aq
def eP(j17:Int->Int->LX->Hw)(j22:LX->Hw)(b a:Int)(h:LX):Hw:=if(Ci a (Ac h))then(cE (Ac h) a (Ae a b)).bind λ_=>j17 a 0 h
else
j22 h
def AU:Nat->Int->LX->Hw
|0,_,_=>none
|c+1,d,e=>eP (Auh (AU c) z) Atz z d e
def Au6 b:=AU b Aq
def nT(j12:Int->Int->LX->Hw)(b:Int)(o:LX):Hw:=(WY b o).bind λp=>if(Bl p 0)then
some (([]:LX),p)
else(Df o).bind λv=>j12 b 0 v
def yA:=nT Au6
abbrev nM:=Option (Int×LX×LX×Int)
def Ayw (a:Int)(b:LX)(f:Bool):nM:=if f then
some (10,b,(List.replicate 16 (0:Int32)),0)
else
if(geq a 16)then
some (9,b,(List.replicate 16 (0:Int32)),0)
else
some (0,(List.replicate 16 (0:Int32)),(List.replicate 16 (0:Int32)),2)
def Ba7:=Ayw
def Azo(j2:Int->LX->Bool->nM)(a:Int)(b:LX):nM:=if(geq a 8)then
j2 a b (geq a 8)
else
j2 a b (geq a 24)
def qX:=Azo Ba7
abbrev Bg7:=Option (Int×Int32×Int×LX×LX×Int)
def uW:Bg7:=(qX z e).bind λ(c,d,i,j)=>if(Bl j 0)then
some (0,0,0,(List.replicate 16 (0:Int32)),(List.replicate 16 (0:Int32)),j)
else
some (z,0,c,d,i,0)
def Us(a:Int)(k:Int32)(b:Int)(f m:LX):Bgd:=(qX a f).bind λ(g,n,o,h)=>if((Bl h 0)||(Bl g b))then
some 8
else
some 0
def gD:Bgj:=if(geq z 8)then
some (4,0)
else
if(geq z 16)then
if(geq z 16)then
some (5,0)
else
some (0,2)
else
if(geq z 24)then
some (5,0)
else
some (0,2)
abbrev Bgq:=Option Int32
def SQ:Bgq:=(Hu (Lj z 0)).bind λ_=>(Hu (Lj z 0)).bind λ_=>some (Ad (rB (Ah (Db (Ad C:Int) (GI.toZ z).toNat) (Ad C:Int)) (GI.toZ z).toNat):Int32)
def Uu:Option (Int32×Int):=(gD z).bind λ(c,d)=>if(Bl d 0)then
some (0,d)
else(SQ c C).bind λe=>some (e,0)
def HC(a:Int)(b f:LX):Bgd:=if((Bl a 9)&&(Bl a 10))then
some 8
else
some 0
abbrev Rc:=Option (Int32×Int)
def Aqw(h:Int32)(a:Int)(b f:LX):Rc:=(Hu (Lj a 0)).bind λ_=>some ((Bw h (GI.toZ a).toNat),0)
def UP:=Aqw
def HR(j6:Int32->Int->LX->LX->Rc)(Oc:Int32->Int->Rc)(b:LX)(a:Int)(f:LX)(h:Int32)(g:Int):Rc:=if(Ci g 16)then(Aj b g).bind λm=>(Aj f g).bind λ_=>(Aj f g).bind λn=>Oc (Ae h (Bd m n)) (Ae g 1)
else
j6 h a b f
def So:Nat->Int32->Int->Rc
|0,_,_=>none
|z+1,c,d=>HR UP (So z) e B J c d
def Aq8 b a f:=So b a f Aq
def UJ(j4:LX->Int->LX->Int32->Int->Rc)(a:Int)(b f:LX):Rc:=(HC a b f).bind λk=>if(Bl k 0)then
some (0,k)
else(Hu (Lj (Ah a 1) 0)).bind λ_=>j4 b a f (Db (1:Int32) (GI.toZ (Ah a 1)).toNat) 0
def QQ:=UJ Aq8
def WH:Bgq:=if(geq z 0)then
some 4
else
if(Ci z 4)then
some 2
else
some 1
abbrev Qi:=Option (Int×LX×LX×Int)
def Azh:Qi:=some (z,e,J,0)
def Aq9:=Azh
def HS(j6:Int->LX->LX->Qi)(Oc:Int->LX->Qi)(h:Int32)(f:LX)(g a:Int)(b:LX):Qi:=if(Ci a 16)then(Aj f a).bind λm=>if(geq m 0)then
Oc (Ae a 1) b
else
if((Ci m 0)==(Ci h 0))then(Aj b a).bind λ_=>(Aj b a).bind λo=>(WH a).bind λp=>(Aj b a).bind λ_=>(He b a (Ae o p)).bind λu=>Oc (Ae a 1) u
else(Aj b a).bind λ_=>(Aj b a).bind λv=>(WH a).bind λw=>(Aj b a).bind λ_=>(He b a (Ah v w)).bind λy=>Oc (Ae a 1) y
else
j6 g b f
def Sc:Nat->Int->LX->Qi
|0,_,_=>none
|z+1,c,d=>HS Aq9 (Sc z) C y5 E c d
def Aza h f g:=Sc h f g Aq
def UY(j4:Int32->LX->Int->Int->LX->Qi)(g:Int)(k f:LX)(h:Int32):Qi:=(HC g k f).bind λn=>if(Bl n 0)then
some (0,(List.replicate 16 (0:Int32)),(List.replicate 16 (0:Int32)),n)
else
if(geq h 0)then
some (g,k,f,0)
else
j4 h f g 0 k
def bI:=UY Aza
abbrev iV:=Option (Int×LX×LX×Int)
def Arl:iV:=(Aj (Uf l9 1 ((16:Int)-(1:Int)) (UR l9 0 ((16:Int)-(0:Int)))) 0).bind λ_=>(He (Uf l9 1 ((16:Int)-(1:Int)) (UR l9 0 ((16:Int)-(0:Int)))) 0 C).bind λz=>some (E,l7,z,0)
def ZZ:=Arl
def NT(j2:Int32->Int->LX->LX->iV)(b:Int)(f a:LX)(g:Int32):iV:=(HC b f a).bind λh=>if(Bl h 0)then
some (0,(List.replicate 16 (0:Int32)),(List.replicate 16 (0:Int32)),h)
else(
(cE 16 1 16).bind λ_=>(cE 16 0 16).bind λ_=>j2 g b f a)
def kU:=NT ZZ
def OS:Option (Int×LX×LX):=(bI z e J Be9).bind λ(c,d,i,j)=>(kU c d i C).bind λ(A,B,D,E)=>some (A,B,D)
abbrev Bhf:=Option (Int32×Int×LX×LX×Int)
def TX:Bhf:=(QQ z e J).bind λ(c,d)=>if(Bl d 0)then
some (0,0,(List.replicate 16 (0:Int32)),(List.replicate 16 (0:Int32)),d)
else(OS z e J C (Ah C c)).bind λ(i,j,A)=>some ((Ah C c),i,j,A,0)
abbrev Bg3:=Option (Int32×Int×Int32×Int×LX×LX×Int)
def Sa:Bg3:=(Us z C E l7 l9).bind λc=>if(Bl c 0)then
some (0,0,0,0,(List.replicate 16 (0:Int32)),(List.replicate 16 (0:Int32)),c)
else(Uu z C).bind λ(d,e)=>(TX E l7 l9 (Ah Be7 d)).bind λ(i,j,A,B,D)=>(
some (i,z,Be7,j,A,B,D))
abbrev Bgs:=Option UInt32
def jY:Bgs:=some (Ri (Db (Ad C:UInt32) (GI.toZ (1:UInt64)).toNat) (Ad (Bw C (GI.toZ (31:UInt64)).toNat):UInt32))
abbrev Cu:=Option (LU×Int)
def Bcu:Cu:=some (R,0)
def Aci:=Bcu
abbrev Bgg:=List (Int×Int32×(Int×LX×LX×Unit)×Unit)
def Rj(j12:LU->Cu)(VM:Int-> (List (Int×Int32×(Int×LX×LX×Unit)×Unit))->LU->Cu)(b:LX)(a f g:Int)(k:Bgg)(h:LU):Cu:=if(Ci g (Ac b))then(Aj b g).bind λ_=>(Aj b g).bind λac=>(Hu (Bl a 0)).bind λ_=>(Aj k (Ge g a)).bind λ_=>(Aj k (Ge g a)).bind λp=>(Sa p.1 p.2.1 p.2.2.1.1 p.2.2.1.2.1 p.2.2.1.2.2.1 ac).bind λ(u,ad,ae,v,af,ag,w)=>if(Bl w 0)then
some (([]:LU),w)
else(He k (Ge g a) (ad,ae,(v,af,ag,()),())).bind λah=>(jY u).bind λai=>(Cm h ([ai]:LU)).bind λaj=>VM (Ae g 1) ah aj
else
j12 h
def Jb:Nat->Int-> (List (Int×Int32×(Int×LX×LX×Unit)×Unit))->LU->Cu
|0,_,_,_=>none
|z+1,c,d,i=>Rj Aci (Jb z) e B I c d i
def Aag b a f:=Jb b a f Aq
def Acj(j10:LX->Jz3 ( (List (Int×Int32×(Int×LX×LX×Unit)×Unit))->LU->Cu))(a f:Int)(b:LX)(m:Bgg):Cu:=j10 b a f 0 m ([]:LU)
def Ack:=Acj Aag
def Acm(j9:Int->Int->LX-> (List (Int×Int32×(Int×LX×LX×Unit)×Unit))->Cu)(bk7:Int-> (List (Int×Int32×(Int×LX×LX×Unit)×Unit))->Cu)(a f:Int)(n b:LX)(o:Int)(m:Bgg):Cu:=if(Ci o 6)then(uW f n).bind λ(ak,al,u,am,an,v)=>(Aj m o).bind λ_=>(He m o (ak,al,(u,am,an,()),())).bind λao=>bk7 (Ae o 1) ao
else
j9 a f b m
def CP:Nat->Int-> (List (Int×Int32×(Int×LX×LX×Unit)×Unit))->Cu
|0,_,_=>none
|c+1,i,j=>Acm Ack (CP c) z d e J i j
def EL a f n b:=CP a f n b Aq
def CA(j7:Int->Int->LX->LX->Int-> (List (Int×Int32×(Int×LX×LX×Unit)×Unit))->Cu)(a f:Int)(n y:LX):Cu:=(HO a f y).bind λaa=>if(Bl aa 0)then
some (([]:LU),aa)
else(yA a y).bind λ(b,ab)=>if(Bl ab 0)then
some (([]:LU),ab)
else
j7 a f n b 0 (List.replicate 6 ((0:Int),(0:Int32),((0:Int),(List.replicate 16 (0:Int32)),(List.replicate 16 (0:Int32)),()),()))
def BZ:=CA EL
abbrev Bhb:=Option (Int×Int×UInt64×UInt64)
def oS:Bhb:=some (10,10,16384,16384)
abbrev Iz:=Option ((List (Int×Int×UInt64×UInt64×Unit)))
abbrev Bge:=List (Int×Int×UInt64×UInt64×Unit)
def Bda(a:Bge):Iz:=some a
def Ad4:=Bda
abbrev Bg0:=Int-> (List (Int×Int×UInt64×UInt64×Unit))->Iz
def Ad5(j6:(List (Int×Int×UInt64×UInt64×Unit))->Iz)(Oc:Bg0)(b:Int)(a:Bge):Iz:=if(Ci b 6)then(oS).bind λ(f,g,h,k)=>(Aj a b).bind λ_=>(He a b (f,g,h,k,())).bind λm=>Oc (Ae b 1) m
else
j6 a
def AY:Nat->Int-> (List (Int×Int×UInt64×UInt64×Unit))->Iz
|0,_,_=>none
|q+1,b,a=>Ad5 Ad4 (AY q) b a
def Ad2:=AY Aq
def BS(j4:Bg0):Iz:=j4 0 (List.replicate 6 ((0:Int),(0:Int),(0:UInt64),(0:UInt64),()))
def DG:=BS Ad2
def Hr:Bgd:=if(((Ci z 0)||(Dq z 330000))||(Bl (Ac c) (rB (Ae z 7) (GI.toZ (3:UInt64)).toNat)))then
some 8
else
if(Dq (Cy z 7) 0)then(Aj c (Ah (Ac c) 1)).bind λd=>(Hu (Lj (Cy z 7) 0)).bind λ_=>if(Bl (Bw d (GI.toZ (Cy z 7)).toNat) 0)then
some 8
else
some 0
else
some 0
def Ap7:Bgd:=if(!((geq (Gf (pT z 0) 24) z)&&((geq (Gf (pT d 0) 24) d)&&((geq (Gf A 68719476735) A)&&((geq (Gf P 68719476735) P)&&true)))))then
some 8
else
some 0
def UA:=Ap7
abbrev Bg9:=Int->Int->UInt64->UInt64->Option Int
def HN(j4:Bg9)(a b:Int)(f g:UInt64):Bgd:=(
(
j4 a b f g))
def VE:=HN UA
def HU(j3:Bg9)(a b:Int)(f g:UInt64):Bgd:=(
(
j3 a b f g))
def RG:=HU VE
def HG(a f:Int)(g h:UInt64)(b:UInt32):Option (Int×UInt32):=(Hu (Lj a 0)).bind λ_=>if(geq (Bw b (GI.toZ a).toNat) 0)then
some (0,b)
else(Hu (Lj a 0)).bind λ_=>some (1,(Ah b (Db (1:UInt32) (GI.toZ a).toNat)))
abbrev Bgf:=Option (LB)
def Ef:Bgf:=(
(Cm ([]:LB) c).bind λz=>some z)
abbrev Bgu:=Option (LB×Int)
def WM:Bgu:=(Ef c).bind λd=>some (d,z)
abbrev Di:=Option (LB×Int×Int)
def Ard:Di:=some (i,z,0)
def YS:=Ard
abbrev Bgr:=UInt64->Int->Int->LB->Di
def Asy(Yl:Bgr)(b:UInt64)(a:Int)(m:UInt64)(h f:Int)(w:LB):Di:=(Hu (Lj (Gf h (Ah 8 (Cy f 7))) 0)).bind λ_=>Yl (Bw m (GI.toZ (Gf h (Ah 8 (Cy f 7)))).toNat) (Ah h (Gf h (Ah 8 (Cy f 7)))) (Ae f (Gf h (Ah 8 (Cy f 7)))) w
def Atn Yl:=Asy Yl
def Asz(j19:Bgr)(b:UInt64)(a:Int)(m:UInt64)(h f:Int)(u:LB):Di:=(Aj u (Ah (Ac u) 1)).bind λ_=>(Hu (Lj (Gf h (Ah 8 (Cy f 7))) 0)).bind λ_=>(Hu (Lj (Cy f 7) 0)).bind λ_=>(Aj u (Ah (Ac u) 1)).bind λad=>(Aj u (Ah (Ac u) 1)).bind λ_=>Option.bind (He u (Ah (Ac u) 1) (uB ad (Db (Ad (Cy m (Ah (Db (1:UInt64) (GI.toZ (Gf h (Ah 8 (Cy f 7)))).toNat) 1)):UInt8) (GI.toZ (Cy f 7)).toNat))) λw=>j19 m h f w
def NP Yl b a:=Asz (Atn Yl b a) b a
def NR(j18:Bgr)(j21:Int->LB->Di)(b:UInt64)(a:Int)(m:UInt64)(h f:Int)(o:LB):Di:=if(Dq h 0)then
if(geq (Cy f 7) 0)then(Cm o ([(0:UInt8)]:LB)).bind λaa=>j18 m h f aa
else
j18 m h f o
else
j21 f o
def Nc:Nat->UInt64->Int->Int->LB->Di
|0,_,_,_,_=>none
|z+1,c,d,e,i=>NR (NP (Nc z) A G) YS A G c d e i
def Bdt b a:=Nc b a Aq
def Bc5:Di:=some (i,z,0)
def Ath:=Bc5
def Bd7(Z!:Bgr)(b:UInt64)(a:Int)(n:UInt64)(k g:Int)(ab:LB):Di:=(Hu (Lj (Gf k (Ah 8 (Cy g 7))) 0)).bind λ_=>Z! (Bw n (GI.toZ (Gf k (Ah 8 (Cy g 7)))).toNat) (Ah k (Gf k (Ah 8 (Cy g 7)))) (Ae g (Gf k (Ah 8 (Cy g 7)))) ab
def Bck Z!:=Bd7 Z!
def Bc6(j26:Bgr)(b:UInt64)(a:Int)(n:UInt64)(k g:Int)(v:LB):Di:=(Aj v (Ah (Ac v) 1)).bind λ_=>(Hu (Lj (Gf k (Ah 8 (Cy g 7))) 0)).bind λ_=>(Hu (Lj (Cy g 7) 0)).bind λ_=>(Aj v (Ah (Ac v) 1)).bind λae=>(Aj v (Ah (Ac v) 1)).bind λ_=>Option.bind (He v (Ah (Ac v) 1) (uB ae (Db (Ad (Cy n (Ah (Db (1:UInt64) (GI.toZ (Gf k (Ah 8 (Cy g 7)))).toNat) 1)):UInt8) (GI.toZ (Cy g 7)).toNat))) λab=>j26 n k g ab
def Asr Z! b a:=Bc6 (Bck Z! b a) b a
def Are(j25:Bgr)(j28:Int->LB->Di)(b:UInt64)(a:Int)(n:UInt64)(k g:Int)(p:LB):Di:=if(Dq k 0)then
if(geq (Cy g 7) 0)then(Cm p ([(0:UInt8)]:LB)).bind λw=>j25 n k g w
else
j25 n k g p
else
j28 g p
def ZK:Nat->UInt64->Int->Int->LB->Di
|0,_,_,_,_=>none
|z+1,c,d,e,i=>Are (Asr (ZK z) A G) Ath A G c d e i
def Bcy b a:=ZK b a Aq
abbrev Bg8:=UInt64->Int->UInt64->Int->Int->LB->Di
def eY(j15:Bg8)(j22:Bg8)(ac:LB)(y:Int)(b:UInt64)(a:Int):Di:=(Hr ac y).bind λaf=>if(Bl af 0)then
some (([]:LB),0,8)
else
if((Ci a 0)||(Dq a 64))then
some (([]:LB),0,2)
else
if(Ci a 64)then(Hu (Lj a 0)).bind λ_=>if(Bl (Bw b (GI.toZ a).toNat) 0)then
some (([]:LB),0,16)
else
if(Dq (Ae y a) 330000)then
some (([]:LB),0,18)
else(WM ac y).bind λ(ag,ah)=>j15 b a b a ah ag
else
if(Dq (Ae y a) 330000)then
some (([]:LB),0,18)
else(WM ac y).bind λ(aa,ai)=>j22 b a b a ai aa
def QX:=eY Bdt Bcy
abbrev Bgh:=Option Bool
def Wi:Bgh:=(Hu (Lj G 0)).bind λ_=>some (Lj (Bw L (GI.toZ G).toNat) 48)
def aK:Bgj:=if((Ci z 0)||(Dq z 48))then
some (0,2)
else
some ((Gf (Ae z 1) 48),0)
abbrev Bhw:=Option (LB×Int×Int)
def TO:Bhw:=(Hr c z).bind λe=>if(Bl e 0)then
some (([]:LB),0,e)
else(aK d).bind λ(i,j)=>if(Bl j 0)then
some (([]:LB),0,j)
else(Hu (Lj d 0)).bind λ_=>(QX c z (Ah (Db (1:UInt64) (GI.toZ d).toNat) 1) i).bind λ(A,B,C)=>some (A,B,C)
abbrev YL:=Option (LB×Int×Int)
def VG:YL:=(TO c z d).bind λ(e,i,j)=>if(Bl j 0)then
some (([]:LB),0,j)
else(QX e i (Ad L:UInt64) G).bind λ(A,B,C)=>some (A,B,C)
def UX:=VG
def Ao4(j2:LB->Int->Int->UInt32->Int->YL)(b:LB)(f:Int)(g:UInt32)(a:Int):YL:=(Hr b f).bind λk=>if(Bl k 0)then
some (([]:LB),0,k)
else
if((Ci a 0)||(Dq a 24))then
some (([]:LB),0,2)
else(Hu (Lj a 0)).bind λ_=>(Hu (Lj a 0)).bind λ_=>(Wi g a).bind λaa=>if aa then
j2 b f 48 g 32
else
j2 b f (Ad (Bw g (GI.toZ a).toNat):Int) (Cy g (Ah (Db (1:UInt32) (GI.toZ a).toNat) 1)) a
def ZO:=Ao4 UX
abbrev Hs:=Option (LB×Int×Int×Int×UInt64×UInt64×Int)
def EK:Hs:=(
(
some (p8,z,d,j,(Ae A (Ah (Ad L:UInt64) (Bw A (GI.toZ (4:UInt64)).toNat))),P,0)))
def RS:=EK
def US(j10:Jz3 (UInt64->UInt32->UInt64->LB->Hs))(b:UInt32)(k n:Int)(a o:UInt64)(m:LB)(u:Int):Hs:=j10 k u n a b o m
def Aqv:=US RS
def UG(j9:UInt32->Int->Int->UInt64->UInt64->LB->Int->Hs)(b:UInt32)(f:Int)(a:UInt64)(k:Int)(m:LB)(n:Int)(o:UInt64):Hs:=if(Dq f 0)then(Hu (Lj f 0)).bind λ_=>if(Ci (Ae a (Ah (Ad b:UInt64) (Bw a (GI.toZ (4:UInt64)).toNat))) (Db (16:UInt64) (GI.toZ f).toNat))then
j9 b k n a o m (Ah f 1)
else
if(Ci f 24)then(Hu (Lj f 0)).bind λ_=>if(Dq (Ae a (Ah (Ad b:UInt64) (Bw a (GI.toZ (4:UInt64)).toNat))) (Db (32:UInt64) (GI.toZ f).toNat))then
j9 b k n a o m (Ae f 1)
else
j9 b k n a o m f
else
j9 b k n a o m f
else
if(Ci f 24)then(Hu (Lj f 0)).bind λ_=>if(Dq (Ae a (Ah (Ad b:UInt64) (Bw a (GI.toZ (4:UInt64)).toNat))) (Db (32:UInt64) (GI.toZ f).toNat))then
j9 b k n a o m (Ae f 1)
else
j9 b k n a o m f
else
j9 b k n a o m f
def Xw:=UG Aqv
def UC(j8:UInt32->Int->UInt64->Int->LB->Int->UInt64->Hs)(b:UInt32)(f h:Int)(a g:UInt64)(ac k:Int)(m:LB):Hs:=if(Bl ac 0)then
some (([]:LB),0,0,0,0,0,ac)
else(HG f h a g b).bind λ(ag,p)=>if(geq ag 1)then
if(Dq h 0)then(Hu (Lj h 0)).bind λ_=>if(Ci (Ae g (Ah (Ad p:UInt64) (Bw g (GI.toZ (4:UInt64)).toNat))) (Db (16:UInt64) (GI.toZ h).toNat))then
j8 b f a k m (Ah h 1) (Ae g (Ah (Ad p:UInt64) (Bw g (GI.toZ (4:UInt64)).toNat)))
else
if(Ci h 24)then(Hu (Lj h 0)).bind λ_=>if(Dq (Ae g (Ah (Ad p:UInt64) (Bw g (GI.toZ (4:UInt64)).toNat))) (Db (32:UInt64) (GI.toZ h).toNat))then
j8 b f a k m (Ae h 1) (Ae g (Ah (Ad p:UInt64) (Bw g (GI.toZ (4:UInt64)).toNat)))
else
j8 b f a k m h (Ae g (Ah (Ad p:UInt64) (Bw g (GI.toZ (4:UInt64)).toNat)))
else
j8 b f a k m h (Ae g (Ah (Ad p:UInt64) (Bw g (GI.toZ (4:UInt64)).toNat)))
else
if(Ci h 24)then(Hu (Lj h 0)).bind λ_=>if(Dq (Ae g (Ah (Ad p:UInt64) (Bw g (GI.toZ (4:UInt64)).toNat))) (Db (32:UInt64) (GI.toZ h).toNat))then
j8 b f a k m (Ae h 1) (Ae g (Ah (Ad p:UInt64) (Bw g (GI.toZ (4:UInt64)).toNat)))
else
j8 b f a k m h (Ae g (Ah (Ad p:UInt64) (Bw g (GI.toZ (4:UInt64)).toNat)))
else
j8 b f a k m h (Ae g (Ah (Ad p:UInt64) (Bw g (GI.toZ (4:UInt64)).toNat)))
else
j8 b f a k m h g
def UW:=UC Xw
def VC(j7:UInt32->Int->Int->UInt64->UInt64->Int->Int->LB->Hs)(b:UInt32)(v:LB)(w f h:Int)(a g:UInt64):Hs:=(HG f h a g b).bind λ(ad,ae)=>(QX v w (Ad ad:UInt64) 1).bind λ(y,aa,ab)=>if((geq ab 0)&&(geq ad 0))then(QX y aa (Ad ae:UInt64) f).bind λ(ah,ai,aj)=>j7 b f h a g aj ai ah
else
if(geq ab 0)then(ZO y aa ae h).bind λ(ak,al,am)=>j7 b f h a g am al ak
else
j7 b f h a g ab aa y
def Aoy:=VC UW
def VI(j6:UInt32->LB->Jz3 (UInt64->UInt64->Hs))(v:LB)(w f h:Int)(a g:UInt64)(b:UInt32):Hs:=(Hr v w).bind λan=>if(Bl an 0)then
some (([]:LB),0,0,0,0,0,8)
else(RG f h a g).bind λao=>if(Bl ao 0)then
some (([]:LB),0,0,0,0,0,8)
else
j6 b v w f h a g
def ZD:=VI Aoy
abbrev Bs:=Option (UInt32×Int)
def Akz:Bs:=some (L,0)
def PH:=Akz
def DT(j30:UInt32->Bs)(Axz:UInt32->Int->Bs)(a:LB)(b:LU)(h:UInt32)(m:Int):Bs:=if(Ci m (Ac a))then(Aj a m).bind λp=>(Aj b (GI.toZ (Ri (Ad h:UInt8) p))).bind λ_=>(Aj b (GI.toZ (Ri (Ad h:UInt8) p))).bind λu=>Axz (Ri (Bw h (GI.toZ (8:UInt64)).toNat) u) (Ae m 1)
else
j30 h
def Pj:Nat->UInt32->Int->Bs
|0,_,_=>none
|z+1,d,e=>DT PH (Pj z) c R d e
def QJ a b:=Pj a b Aq
def PX(j28:LB->LU->UInt32->Int->Bs)(f:UInt32)(a:LB)(b:LU):Bs:=j28 a b f 0
def Al0:=PX QJ
def PL(j27:UInt32->LB->LU->Bs)(f:UInt32)(a:LB)(b:LU):Bs:=j27 f a b
def QE:=PL Al0
abbrev Bh3:=Int->LU->Bs
def Akg(Li:Bh3)(f:UInt32)(a:LB)(g:Int)(o:LU):Bs:=Li (Ae g 1) o
def Amm Li:=Akg Li
def Alc(j24:Bh3)(f:UInt32)(a:LB)(g:Int)(k:UInt32)(b:LU):Bs:=(Aj b g).bind λ_=>(He b g k).bind λo=>j24 g o
def CI Li f a:=Alc (Amm Li f a) f a
def BT(j23:Int->UInt32->LU->Bs)(V?:UInt32->Int->Bs)(f:UInt32)(a:LB)(g:Int)(b:LU)(k:UInt32)(n:Int):Bs:=if(Ci n 8)then
V? (Ri (Bw k (GI.toZ (1:UInt64)).toNat) (Bd 3988292384 (Cy k 1))) (Ae n 1)
else
j23 g k b
def Oy(Li:Bh3)(f:UInt32)(a:LB)(g:Int)(b:LU):Nat->UInt32->Int->Bs
|0,_,_=>none
|q+1,k,n=>BT (CI Li f a) (Oy Li f a g b q) f a g b k n
def OM Li f a g b:=Oy Li f a g b Aq
def DV(j21:Int->LU->UInt32->Int->Bs)(j26:UInt32->LB->LU->Bs)(f:UInt32)(a:LB)(g:Int)(b:LU):Bs:=if(Ci g 256)then
j21 g b (Ad g:UInt32) 0
else
j26 f a b
def Ln:Nat->Int->LU->Bs
|0,_,_=>none
|z+1,c,d=>DV (OM (Ln z) L p8) QE L p8 c d
def Aku f a:=Ln f a Aq
def UQ(j16:UInt32->LB->Int->LU->Bs)(f:UInt32)(a:LB):Bs:=if(Dq (Ac a) 100000)then
some (0,4)
else
j16 f a 0 (List.replicate 256 (0:UInt32))
def aW:=UQ Aku
def Vv:Option (UInt32×Int):=(aW 4294967295 c).bind λ(z,d)=>if(Bl d 0)then
some (0,d)
else
some ((I7 z),0)
def xY:Bgh:=if(geq G 8)then
some true
else(Hu (Lj (Bd 8 G) 0)).bind λ_=>some (geq (Bw A (GI.toZ (Bd 8 G)).toNat) 0)
abbrev Zm:=Option (LB×Int)
def Av1:Zm:=some (c,0)
def eL:=Av1
def TA(j6:LB->Zm)(Oc:Int->LB->Zm)(f:UInt64)(g:LB)(a:Int)(b:LB):Zm:=if(Ci a (Ac g))then(Hu (Lj (Bd 8 a) 0)).bind λ_=>(Aj b a).bind λ_=>(He b a (Ad (Bw f (GI.toZ (Bd 8 a)).toNat):UInt8)).bind λk=>Oc (Ae a 1) k
else
j6 b
def AQ:Nat->Int->LB->Zm
|0,_,_=>none
|z+1,c,d=>TA eL (AQ z) A p8 c d
def Av5 f g:=AQ f g Aq
def gL(j4:UInt64->LB->Int->LB->Zm)(f:UInt64)(h:Int):Zm:=if((Ci h 1)||(Dq h 8))then
some (([]:LB),2)
else(xY f h).bind λm=>if(!m)then
some (([]:LB),16)
else(vg h (0:UInt8)).bind λg=>(Hu (geq h h)).bind λ_=>j4 f g 0 g
def Km:=gL Av5
def Az0:Bgf:=some c
def Ad7:=Az0
def Ev:Bgf:=if(Ci q8 (Ac o7))then(Aj o7 q8).bind λz=>(Cm y7 z).bind λc=>Bex (Ae q8 1) c
else
Bew y7
def Dl:Nat->Int->LB->Option (LB)
|0,_,_=>none
|z+1,c,d=>Ev Ad7 (Dl z) o7 c d
def Kt a:=Dl a Aq
abbrev Bhg:=(List LB)->Int->LB->Option (LB)
def Kx(j14:Bhg)(a:Bg1)(p:LB):Bgf:=j14 a 0 p
def La:=Kx Kt
def Ld(j13:(List LB)->LB->Option (LB))(b:Int)(a:Bg1):Bgf:=if(Dq (Ah b (Ah (0:Int) (0:Int))) 0)then(cE 0 0 0).bind λ_=>(vg (Ah b (Ah (0:Int) (0:Int))) (0:UInt8)).bind λu=>(Cm ([]:LB) u).bind λk=>(cE (Ac k) 0 0).bind λ_=>j13 a (UR k 0 ((0:Int)-(0:Int)))
else
j13 a ([]:LB)
def Adi:=Ld La
def Ky(j12:Int-> (List LB)->Option (LB))(a:Bg1)(b:Int):Bgf:=if(Ci b 0)then
none
else
j12 b a
def Adj:=Ky Adi
abbrev Bhx:=Int->Int->Option (LB)
def Fi(j11:(List LB)->Int->Option (LB))(bk9:Bhx)(a:Bg1)(b h:Int):Bgf:=if(Ci h (Ac a))then(Aj a h).bind λm=>if(Ci (Ae b (Ac m)) 0)then
none
else
bk9 (Ae b (Ac m)) (Ae h 1)
else
j11 a b
def Dy:Nat->Int->Int->Option (LB)
|0,_,_=>none
|z+1,c,d=>Fi Adj (Dy z) o7 c d
def Adk a:=Dy a Aq
def Lz(j9:(List LB)->Int->Int->Option (LB))(a:Bg1):Bgf:=j9 a 0 0
def Jy:=Lz Adk
abbrev Bg:=Option (LB×Int)
def Aba(v:Int)(p:LB):Bg:=(Vv p).bind λ(af,ac)=>if(Bl ac 0)then
some (([]:LB),ac)
else(Km (Ad af:UInt64) 4).bind λ(m,h)=>if(Bl h 0)then
some (([]:LB),h)
else(Jy ([p,m]:Bg1)).bind λag=>some (ag,0)
def Zd:=Aba
abbrev Bgp:=Int-> (List (Int×Int×UInt64×UInt64×Unit))->Int->LB->Bg
def Aap(MG:Bgp)(b:LU)(a g f:Int)(n:Bge)(k:Int)(w:LB):Bg:=MG (Ae f 1) n k w
def Zl MG:=Aap MG
abbrev Bhn:=Int->Int->LB->Bg
def Ac6(O4:Bhn)(h:Int)(b:LU)(f a g:Int)(n:Bge)(m:LB)(o k:Int)(ab:LB):Bg:=O4 (Ae o 1) (Ae k 1) ab
def Ab6 O4:=Ac6 O4
def Aaj(j48:Bhn)(h:Int)(b:LU)(f a g:Int)(n:Bge)(m:LB)(o k:Int)(y:LB):Bg:=(Aj m (Cb o 8)).bind λ_=>(Aj m (Cb o 8)).bind λah=>(Hu (Lj (Ge o 8) 0)).bind λ_=>(Aj y (Cb k 8)).bind λ_=>(Hu (Lj (Ge k 8) 0)).bind λ_=>(Aj y (Cb k 8)).bind λai=>(Aj y (Cb k 8)).bind λ_=>Option.bind (He y (Cb k 8) (uB ai (Db (Cy (Bw ah (GI.toZ (Ge o 8)).toNat) 1) (GI.toZ (Ge k 8)).toNat))) λab=>j48 o k ab
def Qp O4 h b f a g n m:=Aaj (Ab6 O4 h b f a g n m) h b f a g n m
def Rm(j47:Bhn)(j50:Bgp)(b:LU)(a g h f:Int)(n:Bge)(m:LB)(o k:Int)(w:LB):Bg:=if(Ci o h)then
if(geq (Ge k 8) 0)then(Cm w ([(0:UInt8)]:LB)).bind λaj=>j47 o k aj
else
j47 o k w
else
j50 f n k w
def Fl(MG:Bgp)(b:LU)(a g h f:Int)(n:Bge)(m:LB):Nat->Int->Int->LB->Bg
|0,_,_,_=>none
|q+1,o,k,w=>Rm (Qp (Fl MG b a g h f n m q) h b f a g n m) (Zl MG b a g) b a g h f n m o k w
def Ab7 MG b a g h f n m:=Fl MG b a g h f n m Aq
def Qy(j44:Int->Int-> (List (Int×Int×UInt64×UInt64×Unit))->LB->Int->Int->LB->Bg)(j52:Int->LB->Bg)(b:LU)(a g f:Int)(u:Bge)(v:Int)(p:LB):Bg:=if(Ci f (Ac b))then(Aj b f).bind λ_=>(Aj b f).bind λak=>(Hu (Bl a 0)).bind λ_=>(Aj u (Ge f a)).bind λ_=>(Aj u (Ge f a)).bind λaa=>(ZD ([]:LB) 0 aa.1 aa.2.1 aa.2.2.1 aa.2.2.2.1 ak).bind λ(m,h,al,am,an,ao,ad)=>if(Bl ad 0)then
some (([]:LB),ad)
else(Hu (Bl a 0)).bind λ_=>(Aj u (Ge f a)).bind λ_=>(He u (Ge f a) (al,am,an,ao,())).bind λn=>j44 h f n m 0 v p
else
j52 v p
def Gq:Nat->Int-> (List (Int×Int×UInt64×UInt64×Unit))->Int->LB->Bg
|0,_,_,_,_=>none
|z+1,c,d,e,i=>Qy (Ab7 (Gq z) R y8 y9) Zd R y8 y9 c d e i
def Aad b a g:=Gq b a g Aq
def BP(j27:LU->Jz3 ( (List (Int×Int×UInt64×UInt64×Unit))->Int->LB->Bg))(a g:Int)(ap aq:LX):Bg:=(BZ a g ap aq).bind λ(b,ae)=>if(Bl ae 0)then
some (([]:LB),ae)
else(DG).bind λar=>j27 b a g 0 ar 0 ([]:LB)
def Py:=BP Aad
def Oa(a:Int)(b:LX):LI->Int->Option (List LX)
  |[],_=>some []
  |n::l,x=>Option.bind (Ca b x (Ae x (Bd n a))) λp=>Option.bind (Oa a b l (Ae x (Bd n a))) λps=>some (p::ps)
def Nx(a f:Int)(t:LX):List LX->List LB->Option (List LB×Int)
  |[],o=>some (o,0)
  |x::xs,o=>Option.bind (Py a f t x) λy=>
    if(Bl y.2 0)=true then some ([],y.2)
    else Option.bind (Cm o [y.1]) λo'=>Nx a f t xs o'
def RE:Option (List LX):=
  Option.bind (Hu (Bl z 0)) λ_=>Option.bind (Uo d (Cb (Ac e) z)) λc=>Option.bind (Hu (decide (Ac c.1<=17179869184))) λ_=>Oa z e c.1 0
def IY:Option (List LB×Int):=
  Option.bind (Dg z d j e) λc=>
    if(Bl c 0)=true then some ([],c)
    else Option.bind (HK i) λA=>
      if(Bl A.2 0)=true then some ([],A.2)
      else Option.bind (RE z j e) λB=>Nx z d A.1 B []
def Adx(b f a g h:Int):Bgh:=some (((((((geq b 1)||(geq b 2))&&(Dq f 0))&&(y_ f 6))&&(Dq g 0))&&(y_ g 1048576))&&(Dq h 0))
def HA:=Adx
def Adv(j2:Jz5 (Option Bool))(b f a g h:Int):Bgh:=if(geq a 8)then
if(geq a 8)then
j2 b f a g h
else
some false
else
if(geq a 16)then
if(geq a 16)then
j2 b f a g h
else
some false
else
if(geq a 24)then
j2 b f a g h
else
some false
def Xs:=Adv HA
def KI(k a m f b:Int):Bgh:=(Hu (Bl a 0)).bind λ_=>if(Dq b (Cb 4000 a))then
some false
else(Hh f b).bind λ(g,h)=>some ((geq h 0)&&(y_ g 1000))
def Qh:Bgd:=(Xs z d j F O).bind λc=>if(!c)then
some 8
else(KI z d j F O).bind λe=>if(!e)then
some 8
else
some 0
abbrev Lu:=Option (LB×Int)
def Aj2:Lu:=(Vv c).bind λ(z,d)=>(Km (Ad z:UInt64) 4).bind λ(e,i)=>(Cm c e).bind λj=>some (j,0)
def Yw:=Aj2
def Yu(j6:LB->Lu)(Oc:Int->LB->Lu)(b f g h k m:Int)(a:LB):Lu:=if(Ci m 5)then(Aj ([b,f,g,h,k]:LI) m).bind λw=>(Aj ([(2:Int),(2:Int),(2:Int),(4:Int),(4:Int)]:LI) m).bind λy=>(Km (Ad w:UInt64) y).bind λ(n,v)=>(Cm a n).bind λo=>Oc (Ae m 1) o
else
j6 a
def Ke:Nat->Int->LB->Lu
|0,_,_=>none
|c+1,e,i=>Yu Yw (Ke c) z d j F O e i
def Ajc b f g h k:=Ke b f g h k Aq
def ME(j4:Jz6 (LB->Lu))(b f g h k:Int):Lu:=(Qh b f g h k).bind λp=>if(Bl p 0)then
some (([]:LB),p)
else
j4 b f g h k 0 ([(84:UInt8),(84:UInt8),(65:UInt8),(49:UInt8)]:LB)
def NV:=ME Ajc
def uC:Bgw:=if(Dq (Ac c) 64)then
some (0,2)
else(WN c).bind λ(z,d)=>some (z,0)
def DD:Bgu:=(uC c).bind λ(z,d)=>if(Bl d 0)then
some (([]:LB),d)
else(Km z 8).bind λ(e,i)=>some (e,i)
def Aym:Bgd:=some 0
def Ank:=Aym
def EH:Bgd:=if(Ci Beu (Ac Bfe))then(Aj Bfe Beu).bind λz=>if((Ci z 5)||(Dq z Be8))then
some 8
else
Bet (Ah Be8 z) (Ae Beu 1)
else
Bez
def Pk:Nat->Int->Int->Option Int
|0,_,_=>none
|z+1,c,d=>EH Ank (Pk z) D c d
def Alr a:=Pk a Aq
abbrev Bho:=LI->Int->Int->Option Int
def DO(j4:Bho)(a:LI):Bgd:=if((geq (Ac a) 0)||(Dq (Ac a) 1000))then
some 8
else
j4 a 100000 0
def Qf:=DO Alr
abbrev Gi:=Option (LB×Int)
def Bdy:Gi:=some (c,0)
def Beg:=Bdy
def Aj6(j14:LB->Gi)(b:LB):Gi:=(Vv b).bind λ(m,u)=>(Km (Ad m:UInt64) 4).bind λ(n,v)=>(Cm b n).bind λg=>j14 g
def LA:=Aj6 Beg
def Aji(n? :Int->LB->Gi)(a:LI)(f:Int)(h:LB):Gi:=n? (Ae f 1) h
def LK n? :=Aji n?
def EG(j11:Int->LB->Gi)(j13:LB->Gi)(a:LI)(f:Int)(b:LB):Gi:=if(Ci f (Ac a))then(Aj a f).bind λo=>(Km (Ad o:UInt64) 4).bind λ(p,w)=>(Cm b p).bind λh=>j11 f h
else
j13 b
def Oo:Nat->Int->LB->Gi
|0,_,_=>none
|z+1,c,d=>EG (LK (Oo z) D) LA D c d
def Ayy a:=Oo a Aq
def PK(j8:LI->Int->LB->Gi)(a:LI):Gi:=(Qf a).bind λk=>if(Bl k 0)then
some (([]:LB),k)
else
j8 a 0 ([]:LB)
def TR:=PK Ayy
def UM:Bgd:=some (Ac c)
def Axp:Bgf:=some c
def Amp:=Axp
def DJ:Bgf:=if(Ci q8 (Ac o7))then(Aj o7 q8).bind λz=>(Cm y7 z).bind λc=>Bex (Ae q8 1) c
else
Bew y7
def Pz:Nat->Int->LB->Option (LB)
|0,_,_=>none
|z+1,c,d=>DJ Amp (Pz z) o7 c d
def Ayk a:=Pz a Aq
def Akv(j4:Bhg)(a:Bg1):Bgf:=j4 a 0 ([]:LB)
def jC:=Akv Ayk
abbrev Ei:=Option (LB×Int)
def Ain:Ei:=if(Bl z 0)then
some (([]:LB),z)
else(Cm ([y7,Bff,Bga]:Bg1) o7).bind λc=>(jC c).bind λd=>some (d,0)
def Ajs:=Ain
def Aiv(j14:Int-> (List LB)->LB->LB->LB->Ei)(h:LI)(a:Bg1)(b f:LB):Ei:=(TR h).bind λ(n,k)=>j14 k a b f n
def Rw:=Aiv Ajs
def Aik(bk9:Int->LI->Ei)(a:Bg1)(b f:LB)(g:Int)(m:LI):Ei:=bk9 (Ae g 1) m
def LJ bk9:=Aik bk9
def DA(j11:Int->LI->Ei)(j13:LI-> (List LB)->LB->LB->Ei)(a:Bg1)(b f:LB)(g:Int)(h:LI):Ei:=if(Ci g (Ac a))then(Aj a g).bind λ_=>(Aj a g).bind λae=>(UM ae).bind λk=>(Aj h g).bind λ_=>(He h g k).bind λm=>j11 g m
else
j13 h a b f
def Px:Nat->Int->LI->Ei
|0,_,_=>none
|z+1,c,d=>DA (LJ (Px z) o7 y7 Bff) Rw o7 y7 Bff c d
def Ays a b f:=Px a b f Aq
def ON(j9:(List LB)->LB->LB->Int->LI->Ei)(a:Bg1)(b f:LB):Ei:=(vg (Ac a) (0:Int)).bind λaf=>(Hu (geq (Ac a) (Ac a))).bind λ_=>j9 a b f 0 af
def PZ:=ON Ays
def PC(j8:(List LB)->LB->LB->Ei)(p u v:Int)(w:LX)(o:LB):Ei:=(TM p u v w o).bind λ(y,ag,ah,ai,aj,aa)=>if(Bl aa 0)then
some (([]:LB),aa)
else(IY p u v w o).bind λ(a,ab)=>if(Bl ab 0)then
some (([]:LB),ab)
else(NV y ag ah ai aj).bind λ(b,ac)=>if(Bl ac 0)then
some (([]:LB),ac)
else
if(geq y 2)then(DD o).bind λ(ak,al)=>j8 a b ak
else
j8 a b ([]:LB)
def KN:=PC PZ
def Nf:Bgf:=(JW).bind λ(z,d,e,i)=>(KN z d e i c).bind λ(j,A)=>some j
def Ha:Bgh:=some (c==i)
def Kg:Bgh:=if(Lj (Ac c) (Ac i))then(Ca c 0 (Ac i)).bind λz=>(Ha z i).bind λd=>some d
else
some false
abbrev Kj:=Option (Int×Int)
def Bdh:Kj:=some (z,0)
def Ael:=Bdh
def Vy(j6:Int->Kj)(Oc:Int->Int->Kj)(a:LB)(b f:Int):Kj:=if(Ci f (Ac a))then(Aj a f).bind λg=>if(Dq g 127)then
some (0,12)
else
Oc (uB (Db b (GI.toZ (7:UInt64)).toNat) (Ad g:Int)) (Ae f 1)
else
j6 b
def Lh:Nat->Int->Int->Kj
|0,_,_=>none
|z+1,d,e=>Vy Ael (Lh z) c d e
def Adr a:=Lh a Aq
def HJ(j4:LB->Int->Int->Kj)(a:LB):Kj:=if(Bl (Ac a) 4)then
some (0,2)
else
j4 a 0 0
def HQ:=HJ Adr
abbrev Hp:=Option (Int×Int)
def Aja:Hp:=if(Dq q9 4000)then
some (0,4)
else
if(Ci (Ac c) q9)then
some (0,24)
else
if(geq Bfc 16)then(Ca c (Ah q9 10) q9).bind λz=>(Ca z 0 3).bind λd=>if(d !=([51,68,73]:LB))then
some (0,12)
else(Ca z 3 (Ac z)).bind λe=>(Ca c 3 10).bind λi=>(Ha e i).bind λj=>if(!j)then
some (0,12)
else
some (q9,0)
else
some (q9,0)
def LD:=Aja
def Ajf(j8:LB->UInt8->Int->Hp)(a:LB)(g:Int)(b:UInt8):Hp:=if(geq b 16)then
j8 a b (Ae (Ae g 10) 10)
else
j8 a b (Ae g 10)
def MC:=Ajf LD
def Aim(j7:LB->Int->UInt8->Hp)(a:LB)(g:Int)(b:UInt8)(m:Bool):Hp:=if m then
some (0,12)
else
j7 a g b
def KY:=Aim MC
def MA(j6:LB->Int->UInt8->Bool->Hp)(a:LB)(f b:UInt8):Hp:=(Ca a 6 10).bind λaa=>(HQ aa).bind λ(g,ab)=>if(Bl ab 0)then
if true then
j6 a g b true
else
if(geq b 0)then
j6 a g b (!((Lj f 2)&&(y_ f 4)))
else
if(geq b 16)then
j6 a g b (!(geq f 4))
else
j6 a g b (!false)
else(Aj a 4).bind λac=>if(Bl ac 0)then
j6 a g b true
else
if(geq b 0)then
j6 a g b (!((Lj f 2)&&(y_ f 4)))
else
if(geq b 16)then
j6 a g b (!(geq f 4))
else
j6 a g b (!false)
def LH:=MA KY
def Yp(j5:LB->UInt8->UInt8->Hp)(a:LB):Hp:=(Kg a ([(73:UInt8),(68:UInt8),(51:UInt8)]:LB)).bind λn=>if(!n)then
some (0,6)
else
if(Ci (Ac a) 10)then
some (0,24)
else(Aj a 3).bind λf=>(Aj a 5).bind λb=>(
(
(
j5 a f b)))
def NJ:=Yp LH
abbrev Zo:=Option (UInt64×Int)
def Az1:Zo:=some (A,0)
def Aul:=Az1
def TF(j6:UInt64->Zo)(Oc:UInt64->Int->Zo)(a:LB)(f:UInt64)(b:Int):Zo:=if(Ci b (Ac a))then(Aj a b).bind λg=>(Hu (Lj (Bd 8 b) 0)).bind λ_=>Oc (uB f (Db (Ad g:UInt64) (GI.toZ (Bd 8 b)).toNat)) (Ae b 1)
else
j6 f
def Zw:Nat->UInt64->Int->Zo
|0,_,_=>none
|z+1,d,e=>TF Aul (Zw z) c d e
def Av9 a:=Zw a Aq
def jN(j4:LB->UInt64->Int->Zo)(a:LB):Zo:=if((Ci (Ac a) 1)||(Dq (Ac a) 8))then
some (0,2)
else
j4 a 0 0
def fO:=jN Av9
def XB:Bgw:=if(((Ci d 1)||(Dq d 8))||(Ci z 0))then
some (0,2)
else
if(Dq z (Ah (Ac c) d))then
some (0,24)
else(Ca c z (Ae z d)).bind λe=>(fO e).bind λ(i,j)=>some (i,j)
def J8:Bgf:=some c
def nS:=J8
def ZM:Bgf:=if(Ci Be4 (Ac ([(2000:UInt64),(Ad (Ae G 32):UInt64),(Ad p9:UInt64),Bey,(0:UInt64),(0:UInt64)]:LQ)))then(Aj ([(2000:UInt64),(Ad (Ae G 32):UInt64),(Ad p9:UInt64),Bey,(0:UInt64),(0:UInt64)]:LQ) Be4).bind λ_=>(Aj ([(2000:UInt64),(Ad (Ae G 32):UInt64),(Ad p9:UInt64),Bey,(0:UInt64),(0:UInt64)]:LQ) Be4).bind λz=>(Km z 4).bind λ(c,d)=>(Cm Be5 c).bind λe=>Bex (Ae Be4 1) e
else
Bew Be5
def Zr:Nat->Int->LB->Option (LB)
|0,_,_=>none
|c+1,e,i=>ZM nS (Zr c) z d A e i
def Awl a b f:=Zr a b f Aq
def oI(j4:Int->Int->UInt64->Int->LB->Option (LB))(a b:Int)(f:UInt64):Bgf:=j4 a b f 0 ([(65:UInt8),(80:UInt8),(69:UInt8),(84:UInt8),(65:UInt8),(71:UInt8),(69:UInt8),(88:UInt8)]:LB)
def TH:=oI Awl
abbrev Bhr:=Option (Int×Int×Bool)
def OA:Bhr:=(XB c 12 4).bind λ(z,d)=>(XB c 16 4).bind λ(e,i)=>if(((Ci z 32)||(Dq z 3032))||(Dq e 1000))then
some (0,0,false)
else(TH (Ah (Ad z:Int) 32) (Ad e:Int) A).bind λj=>(Ha c j).bind λB=>some ((Ah (Ad z:Int) 32),(Ad e:Int),B)
def kE:Bgj:=(Kg c ([(65:UInt8),(80:UInt8),(69:UInt8),(84:UInt8),(65:UInt8),(71:UInt8),(69:UInt8),(88:UInt8)]:LB)).bind λz=>if(!z)then
some (0,6)
else
if(Ci (Ac c) 32)then
some (0,24)
else(Ca c 0 32).bind λd=>(OA d 2684354560).bind λ(e,i,j)=>if(!j)then
some (0,12)
else
if(Ci (Ac c) (Ae e 64))then
some (0,24)
else(Ca c (Ah (Ae e 64) 32) (Ae e 64)).bind λA=>(TH e i 2147483648).bind λB=>(Ha A B).bind λC=>if(!C)then
some (0,12)
else
some ((Ae e 64),0)
def Ur:Bgj:=(NJ c).bind λ(z,d)=>if(Bl d 6)then
some (z,d)
else(kE c).bind λ(e,i)=>some (e,i)
def Sk(b:List UInt8):Nat->Int->Option (Int×Int)
  |0,_=>none
  |q+1,x=>Option.bind (Ca b x (Ac b)) λs=>Option.bind (Ur s) λr=>
    if geq r.2 (6:Int)=true then some (x,0)
    else if(geq r.2 (0:Int)&&Dq (Ae x r.1) (4000:Int))=true then some (0,4)
    else if Bl r.2 (0:Int)=true then some (0,r.2)
    else Sk b q (Ae x r.1)
def Vf(b:List UInt8):Bgj:=Sk b Aq 0
def Iy:Bgh:=if(Lj (Ac c) (Ac i))then(Ca c 0 (Ac i)).bind λz=>some (z==i)
else
some false
def Tt:Bgh:=(Iy c i).bind λz=>some z
abbrev Nz:=Option (Int×Int×Int×Int×Int×Int)
def Amv:Nz:=(Aj D 0).bind λ_=>(Aj D 0).bind λz=>(Aj D 1).bind λ_=>(Aj D 1).bind λc=>(Aj D 2).bind λ_=>(Aj D 2).bind λd=>(Aj D 3).bind λ_=>(Aj D 3).bind λe=>(Aj D 4).bind λ_=>(Aj D 4).bind λi=>(Xs z c d e i).bind λj=>if(!j)then
some (0,0,0,0,0,12)
else(KI z c d e i).bind λA=>if(!A)then
some (0,0,0,0,0,4)
else
some (z,c,d,e,i,0)
def BM:=Amv
def BO(j6:LI->Nz)(Oc:Int->Int->LI->Nz)(b:LB)(g f:Int)(a:LI):Nz:=if(Ci f 5)then(Aj ([(2:Int),(2:Int),(2:Int),(4:Int),(4:Int)]:LI) f).bind λh=>(XB b g h).bind λ(v,ae)=>(Aj a f).bind λ_=>(He a f (Ad v:Int)).bind λw=>Oc (Ae g h) (Ae f 1) w
else
j6 a
def Lm:Nat->Int->Int->LI->Nz
|0,_,_,_=>none
|z+1,d,e,i=>BO BM (Lm z) c d e i
def PT b:=Lm b Aq
def RB(j4:LB->Int->Int->LI->Nz)(b:LB):Nz:=(Ca b 0 (Gf 4 (Ac b))).bind λy=>(Tt ([84,84,65,49]:LB) y).bind λaa=>if(!aa)then
some (0,0,0,0,0,12)
else
if(Ci (Ac b) 22)then
some (0,0,0,0,0,24)
else(XB b 18 4).bind λ(ab,af)=>(Ca b 0 18).bind λac=>(Vv ac).bind λ(ad,ag)=>if(Bl (Ad ad:UInt64) ab)then
some (0,0,0,0,0,22)
else
j4 b 4 0 (List.replicate 5 (0:Int))
def JA:=RB PT
def Xx:Bhm:=(Qh z d j F O).bind λc=>if(Bl c 0)then
some (([]:LI),c)
else(Uo F O).bind λ(e,i)=>some (e,i)
def Qc:Option (Int×Int×Int×Int×Int×Int×Int×Int×Int×Int×LI×Int):=if(Dq (Ac c) 100000)then
some (0,0,0,0,0,0,0,0,0,0,([]:LI),4)
else(Vf c).bind λ(z,d)=>if(Bl d 0)then
some (0,0,0,0,0,0,0,0,0,0,([]:LI),d)
else(Ca c z (Ac c)).bind λe=>(JA e).bind λ(i,j,A,B,C,D)=>if(Bl D 0)then
some (i,j,A,B,C,0,0,0,0,0,([]:LI),D)
else(Xx i j A B C).bind λ(E,F)=>if(geq i 2)then
some (i,j,A,B,C,z,(Ae z 22),(Ae (Ae z 22) 8),0,0,E,0)
else
some (i,j,A,B,C,z,(Ae z 22),(Ae z 22),0,0,E,0)
def Wg:Option (Bool×Int):=(DD i).bind λ(z,d)=>if((Bl d 0)||(Bl (Ac c) (Ac z)))then
some (false,2)
else(Ha c z).bind λe=>some (e,0)
abbrev Qz:=Option (LI×Int)
def Aqz:Qz:=(Qf D).bind λz=>if(Bl z 0)then
some (([]:LI),12)
else
some (D,0)
def HM:=Aqz
def HP(j6:LI->Qz)(Oc:Int->LI->Qz)(a:LB)(f:LI)(g:Int)(b:LI):Qz:=if(Ci g (Ac f))then(XB a (Bd 4 g) 4).bind λ(k,u)=>(Aj b g).bind λ_=>(He b g (Ad k:Int)).bind λm=>Oc (Ae g 1) m
else
j6 b
def Se:Nat->Int->LI->Qz
|0,_,_=>none
|z+1,d,e=>HP HM (Se z) c D d e
def Aq6 a f:=Se a f Aq
def VH(j4:LB->LI->Int->LI->Qz)(a:LB)(h:Int):Qz:=if((Ci h 1)||(Dq h 1000))then
some (([]:LI),2)
else
if(Ci (Ac a) (Ae (Bd 4 h) 4))then
some (([]:LI),24)
else(XB a (Bd 4 h) 4).bind λ(n,v)=>(Ca a 0 (Bd 4 h)).bind λo=>(Vv o).bind λ(p,w)=>if(Bl (Ad p:UInt64) n)then
some (([]:LI),22)
else(vg h (0:Int)).bind λf=>(Hu (geq h h)).bind λ_=>j4 a f 0 f
def GZ:=VH Aq6
def CX:Bgu:=if(Ci (Ac c) 5)then
some (([]:LB),24)
else
if(Dq (Ac c) 41254)then
some (([]:LB),4)
else(Ca c 0 (Ah (Ac c) 4)).bind λz=>(Vv z).bind λ(d,e)=>if(Bl e 0)then
some (([]:LB),e)
else(Ca c (Ah (Ac c) 4) (Ac c)).bind λi=>(fO i).bind λ(j,A)=>if((Bl A 0)||(Bl j (Ad d:UInt64)))then
some (([]:LB),22)
else(Ca c 0 (Ah (Ac c) 4)).bind λB=>some (B,0)
def uj:Bhw:=if(Dq (Ac c) 41250)then
some (([]:LB),0,4)
else(Ef c).bind λz=>some (z,(Bd 8 (Ac c)),0)
abbrev Bgi:=Option UInt64
def Az7 (g:UInt64):Bgi:=some g
def Av7:=Az7
def gV(j6:Bhv)(Oc:Bhl)(b f:Int)(h:LB)(k:Int)(g:UInt64)(a:Int):Bgi:=if(Ci a f)then(Aj h (rB (Ae b a) (GI.toZ (3:UInt64)).toNat)).bind λm=>(Hu (Lj (Cy (Ae b a) 7) 0)).bind λ_=>(Hu (Lj (Gf (Ah f a) (Ah 8 (Cy (Ae b a) 7))) 0)).bind λ_=>(Hu (Lj a 0)).bind λ_=>Oc (uB g (Db (Ad (Cy (Bw m (GI.toZ (Cy (Ae b a) 7)).toNat) (Ah (Db (1:UInt8) (GI.toZ (Gf (Ah f a) (Ah 8 (Cy (Ae b a) 7)))).toNat) 1)):UInt64) (GI.toZ a).toNat)) (Ae a (Gf (Ah f a) (Ah 8 (Cy (Ae b a) 7))))
else
j6 g
def JJ:Nat->UInt64->Int->Option UInt64
|0,_,_=>none
|c+1,e,j=>gV Av7 (JJ c) z d i B e j
def Bbh b f h k:=JJ b f h k Aq
def Au5(j4:Int->Int->LB->Int->UInt64->Int->Option UInt64)(h:LB)(k b f:Int):Bgi:=j4 b f h k 0 0
def rI:=Au5 Bbh
abbrev Et:=Option (LB×Int×Int)
def Atd:Et:=some (i,z,0)
def YV:=Atd
abbrev Bhp:=Int->Int->LB->Et
def As0(MG:Bhp)(a:Int)(g:LB)(b f h:Int)(u:LB):Et:=MG (Ae f 64) h u
def NI MG:=As0 MG
abbrev Bha:=UInt64->Int->Int->LB->Et
def As3(O4:Bha)(a f:Int)(g:LB)(b:Int)(m n:UInt64)(k h:Int)(w:LB):Et:=(Hu (Lj (Gf k (Ah 8 (Cy h 7))) 0)).bind λ_=>O4 (Bw n (GI.toZ (Gf k (Ah 8 (Cy h 7)))).toNat) (Ah k (Gf k (Ah 8 (Cy h 7)))) (Ae h (Gf k (Ah 8 (Cy h 7)))) w
def At1 O4:=As3 O4
def Atq(j48:Bha)(a f:Int)(g:LB)(b:Int)(m n:UInt64)(k h:Int)(v:LB):Et:=(Aj v (Ah (Ac v) 1)).bind λ_=>(Hu (Lj (Gf k (Ah 8 (Cy h 7))) 0)).bind λ_=>(Hu (Lj (Cy h 7) 0)).bind λ_=>(Aj v (Ah (Ac v) 1)).bind λaa=>(Aj v (Ah (Ac v) 1)).bind λ_=>Option.bind (He v (Ah (Ac v) 1) (uB aa (Db (Ad (Cy n (Ah (Db (1:UInt64) (GI.toZ (Gf k (Ah 8 (Cy h 7)))).toNat) 1)):UInt8) (GI.toZ (Cy h 7)).toNat))) λw=>j48 n k h w
def NS O4 a f g b m:=Atq (At1 O4 a f g b m) a f g b m
def NO(j47:Bha)(j50:Bhp)(a:Int)(g:LB)(b f:Int)(m n:UInt64)(k h:Int)(u:LB):Et:=if(Dq k 0)then
if(geq (Cy h 7) 0)then(Cm u ([(0:UInt8)]:LB)).bind λab=>j47 n k h ab
else
j47 n k h u
else
j50 f h u
def Nd(MG:Bhp)(a:Int)(g:LB)(b f:Int)(m:UInt64):Nat->UInt64->Int->Int->LB->Et
|0,_,_,_,_=>none
|q+1,n,k,h,u=>NO (NS (Nd MG a g b f m q) a f g b m) (NI MG a g b) a g b f m n k h u
def aI MG a g b f m:=Nd MG a g b f m Aq
def aE(j44:Int->UInt64->UInt64->Int->Int->LB->Et)(j52:Int->LB->Et)(a:Int)(g:LB)(b f o:Int)(p:LB):Et:=if(Ci f a)then(rI g b f (Gf 64 (Ah a f))).bind λm=>j44 f m m (Gf 64 (Ah a f)) o p
else
j52 o p
def Vt:Nat->Int->Int->LB->Et
|0,_,_,_=>none
|c+1,d,e,j=>aE (aI (Vt c) z i B) YV z i B d e j
def Arc a g b:=Vt a g b Aq
def hU(j27:Int->LB->Jz3 (LB->Et))(g:LB)(b y a:Int):Et:=(Hr g b).bind λac=>if(Bl ac 0)then
some (([]:LB),0,8)
else
if(((Ci y 0)||(Dq y a))||(Dq a b))then
some (([]:LB),0,2)
else
j27 a g b y 0 ([]:LB)
def gP:=hU Arc
def DK:Bgw:=(Hr c z).bind λe=>if(Bl e 0)then
some (0,8)
else
if(((Ci j 0)||(Dq j 64))||(Ci d 0))then
some (0,2)
else
if(Dq d (Ah z j))then
some (0,24)
else(rI c z d j).bind λi=>some (i,0)
def Fv:Bgd:=if(geq A 0)then
some 64
else(Aj ([(0:UInt8),(1:UInt8),(56:UInt8),(2:UInt8),(57:UInt8),(49:UInt8),(28:UInt8),(3:UInt8),(61:UInt8),(58:UInt8),(42:UInt8),(50:UInt8),(38:UInt8),(29:UInt8),(17:UInt8),(4:UInt8),(62:UInt8),(47:UInt8),(59:UInt8),(36:UInt8),(45:UInt8),(43:UInt8),(51:UInt8),(22:UInt8),(53:UInt8),(39:UInt8),(33:UInt8),(30:UInt8),(24:UInt8),(18:UInt8),(12:UInt8),(5:UInt8),(63:UInt8),(55:UInt8),(48:UInt8),(27:UInt8),(60:UInt8),(41:UInt8),(37:UInt8),(16:UInt8),(46:UInt8),(35:UInt8),(44:UInt8),(21:UInt8),(52:UInt8),(32:UInt8),(23:UInt8),(11:UInt8),(54:UInt8),(26:UInt8),(40:UInt8),(15:UInt8),(34:UInt8),(20:UInt8),(31:UInt8),(10:UInt8),(25:UInt8),(14:UInt8),(19:UInt8),(9:UInt8),(13:UInt8),(8:UInt8),(7:UInt8),(6:UInt8)]:LB) (GI.toZ (Bw (Bd (Cy A (pJ A)) 285870213051353865) (GI.toZ (58:UInt64)).toNat))).bind λz=>some (Ad z:Int)
abbrev Hk:=Option (Int×Int×Int)
def Ay0:Hk:=some (0,0,24)
def Axl:=Ay0
def Aze(j10:Hk):Hk:=j10
def Az6:=Aze Axl
def Aq0(j9:Hk)(f a:Int):Hk:=if(geq f 48)then
some (f,(Ae 0 (Ae a f)),0)
else
j9
def Aqp:=Aq0 Az6
def Aq5(j8:Int->Int->Hk)(f b a:Int):Hk:=if(Ci f (Gf 48 (Ah b a)))then
some (f,(Ae (Ae (0:Int) (1:Int)) (Ae a f)),0)
else
j8 f a
def Aqt:=Aq5 Aqp
def Aqs(j7:Jz3 Hk)(h:Int)(k:UInt64)(a:Int)(g:LB)(b:Int):Hk:=if(Bl h 0)then
some (0,0,h)
else(Fv (I7 k)).bind λf=>j7 f b a
def UN:=Aqs Aqt
def Yj(j6:Int->UInt64->Int->LB->Int->Hk)(g:LB)(b a:Int):Hk:=(Hr g b).bind λm=>if(Bl m 0)then
some (0,0,m)
else
if(Ci a 0)then
some (0,0,2)
else
if(Lj a b)then
some (0,0,24)
else(
(
(DK g b a (Gf 48 (Ah b a))).bind λ(k,h)=>j6 h k a g b))
def HE:=Yj UN
abbrev iC:=Option (UInt32×Int×Int)
def ZQ:iC:=(DK i B d I).bind λ(c,e)=>if(Bl e 0)then
some (0,0,e)
else
if(Ci j 48)then(Hu (Lj z 0)).bind λ_=>some ((uB (Db (Ad j:UInt32) (GI.toZ z).toNat) (Ad c:UInt32)),(Ae d I),0)
else(Wi (Ad c:UInt32) z).bind λA=>if(!A)then
some (0,0,12)
else
some ((Ad c:UInt32),(Ae d I),0)
def aQ:=ZQ
def Asu(j2:Jz3 (LB->Int->Int->iC))(g:LB)(h v a:Int):iC:=(Hr g h).bind λo=>if(Bl o 0)then
some (0,0,o)
else
if((Ci a 0)||(Dq a 24))then
some (0,0,2)
else(HE g h v).bind λ(f,b,p)=>if(Bl p 0)then
some (0,0,p)
else
if(geq f 48)then
j2 a b f g h 32
else
j2 a b f g h a
def kK:=Asu aQ
abbrev Jr:=Option (UInt32×Int×Int×Int×UInt64×UInt64×Int)
def Ap3:Jr:=some (L,G,p9,Be4,(Ae Y (Ah (Ad L:UInt64) (Bw Y (GI.toZ (4:UInt64)).toNat))),Bfa,0)
def Aq4:=Ap3
def At9(j10:UInt32->Jz3 (UInt64->UInt64->Jr))(f:UInt32)(k m:Int)(b n:UInt64)(w:Int):Jr:=j10 f k w m b n
def Arf:=At9 Aq4
def Atj(j9:UInt32->Int->Int->UInt64->UInt64->Int->Jr)(f:UInt32)(k a:Int)(b:UInt64)(m:Int)(n:UInt64):Jr:=if(Dq a 0)then(Hu (Lj a 0)).bind λ_=>if(Ci (Ae b (Ah (Ad f:UInt64) (Bw b (GI.toZ (4:UInt64)).toNat))) (Db (16:UInt64) (GI.toZ a).toNat))then
j9 f k m b n (Ah a 1)
else
if(Ci a 24)then(Hu (Lj a 0)).bind λ_=>if(Dq (Ae b (Ah (Ad f:UInt64) (Bw b (GI.toZ (4:UInt64)).toNat))) (Db (32:UInt64) (GI.toZ a).toNat))then
j9 f k m b n (Ae a 1)
else
j9 f k m b n a
else
j9 f k m b n a
else
if(Ci a 24)then(Hu (Lj a 0)).bind λ_=>if(Dq (Ae b (Ah (Ad f:UInt64) (Bw b (GI.toZ (4:UInt64)).toNat))) (Db (32:UInt64) (GI.toZ a).toNat))then
j9 f k m b n (Ae a 1)
else
j9 f k m b n a
else
j9 f k m b n a
def ED:=Atj Arf
def YW(j8:UInt32->Int->Int->UInt64->Int->UInt64->Jr)(a h:Int)(b g:UInt64)(f:UInt32)(k:Int):Jr:=(HG a h b g f).bind λ(ad,o)=>if(geq ad 1)then
if(Dq h 0)then(Hu (Lj h 0)).bind λ_=>if(Ci (Ae g (Ah (Ad o:UInt64) (Bw g (GI.toZ (4:UInt64)).toNat))) (Db (16:UInt64) (GI.toZ h).toNat))then
j8 f k a b (Ah h 1) (Ae g (Ah (Ad o:UInt64) (Bw g (GI.toZ (4:UInt64)).toNat)))
else
if(Ci h 24)then(Hu (Lj h 0)).bind λ_=>if(Dq (Ae g (Ah (Ad o:UInt64) (Bw g (GI.toZ (4:UInt64)).toNat))) (Db (32:UInt64) (GI.toZ h).toNat))then
j8 f k a b (Ae h 1) (Ae g (Ah (Ad o:UInt64) (Bw g (GI.toZ (4:UInt64)).toNat)))
else
j8 f k a b h (Ae g (Ah (Ad o:UInt64) (Bw g (GI.toZ (4:UInt64)).toNat)))
else
j8 f k a b h (Ae g (Ah (Ad o:UInt64) (Bw g (GI.toZ (4:UInt64)).toNat)))
else
if(Ci h 24)then(Hu (Lj h 0)).bind λ_=>if(Dq (Ae g (Ah (Ad o:UInt64) (Bw g (GI.toZ (4:UInt64)).toNat))) (Db (32:UInt64) (GI.toZ h).toNat))then
j8 f k a b (Ae h 1) (Ae g (Ah (Ad o:UInt64) (Bw g (GI.toZ (4:UInt64)).toNat)))
else
j8 f k a b h (Ae g (Ah (Ad o:UInt64) (Bw g (GI.toZ (4:UInt64)).toNat)))
else
j8 f k a b h (Ae g (Ah (Ad o:UInt64) (Bw g (GI.toZ (4:UInt64)).toNat)))
else
j8 f k a b h g
def YY:=YW ED
def ZC(j7:Int->Int->UInt64->UInt64->UInt32->Int->Jr)(p:Int)(u:LB)(v a h:Int)(b g:UInt64):Jr:=(DK u v p 1).bind λ(ae,aa)=>if(Bl aa 0)then
some (0,0,0,0,0,0,aa)
else
if(geq ae 0)then(DK u v (Ae p 1) a).bind λ(af,ab)=>if(Bl ab 0)then
some (0,0,0,0,0,0,ab)
else
j7 a h b g (Ad af:UInt32) (Ae (Ae p 1) a)
else(kK u v (Ae p 1) h).bind λ(y,ag,ac)=>if(Bl ac 0)then
some (0,0,0,0,0,0,ac)
else(Hu (Lj a 0)).bind λ_=>if(Ci (Ae y (Db (1:UInt32) (GI.toZ a).toNat)) y)then
some (0,0,0,0,0,0,12)
else
j7 a h b g (Ae y (Db (1:UInt32) (GI.toZ a).toNat)) ag
def Ato:=ZC YY
def bE(j6:Int->LB->Jz3 (UInt64->UInt64->Jr))(u:LB)(v p a h:Int)(b g:UInt64):Jr:=(Hr u v).bind λah=>if(Bl ah 0)then
some (0,0,0,0,0,0,8)
else(RG a h b g).bind λai=>if(Bl ai 0)then
some (0,0,0,0,0,0,8)
else
j6 p u v a h b g
def GW:=bE Ato
abbrev Br:=Option (LU×Int×Int)
def Bcp:Br:=some (R,z,0)
def Ac2:=Bcp
def Ac1(Li:Int->Int-> (List (Int×Int×UInt64×UInt64×Unit))->LU->Br)(a f:Int)(g:LB)(b k v:Int)(w:UInt32)(h:Int)(ah:Bge)(n:LU):Br:=(Cm n ([w]:LU)).bind λak=>Li (Ae k v) (Ae h 1) ah ak
def Aaf Li:=Ac1 Li
def Zb(j22:Int->Int->UInt32->Int-> (List (Int×Int×UInt64×UInt64×Unit))->LU->Br)(a f:Int)(g:LB)(b k h y:Int)(w:UInt32)(v:Int)(m:Bge)(n:LU)(aa ab:Int)(ac ad:UInt64):Br:=if(Bl y 0)then
some (([]:LU),0,y)
else(Hu (Bl a 0)).bind λ_=>(Aj m (Ge h a)).bind λ_=>(He m (Ge h a) (aa,ab,ac,ad,())).bind λah=>j22 k v w h ah n
def Qt Li a f g b:=Zb (Aaf Li a f g b) a f g b
def Rn(j21:Jz3 (UInt32->Int-> (List (Int×Int×UInt64×UInt64×Unit))->LU->Int->Int->UInt64->UInt64->Br))(j24:Int->LU->Br)(a f:Int)(g:LB)(b k h:Int)(m:Bge)(n:LU):Br:=if(Ci h (Bd f a))then(gP g b k (Gf (Ae k 81) b)).bind λ(ag,ae,af)=>if(Bl af 0)then
some (([]:LU),0,af)
else(Hu (Bl a 0)).bind λ_=>(Aj m (Ge h a)).bind λ_=>(
(
(Aj m (Ge h a)).bind λo=>(
(GW ag ae 0 o.1 o.2.1 o.2.2.1 o.2.2.2.1).bind λ(w,v,aa,ab,ac,ad,y)=>j21 k h y w v m n aa ab ac ad)))
else
j24 k n
def Ll:Nat->Int->Int-> (List (Int×Int×UInt64×UInt64×Unit))->LU->Br
|0,_,_,_,_=>none
|c+1,e,j,A,C=>Rn (Qt (Ll c) z d i B) Ac2 z d i B e j A C
def Ac7 a f g b:=Ll a f g b Aq
def Aac(j16:Int->Int->LB->Jz3 ( (List (Int×Int×UInt64×UInt64×Unit))->LU->Br))(a f:Int)(g:LB)(b:Int)(p:Bge):Br:=j16 a f g b 0 0 p ([]:LU)
def Aa1:=Aac Ac7
def Aah(j15:Int->Int->LB->Int-> (List (Int×Int×UInt64×UInt64×Unit))->Br)(Z':Int-> (List (Int×Int×UInt64×UInt64×Unit))->Br)(a f:Int)(g:LB)(b u:Int)(p:Bge):Br:=if(Ci u 6)then(oS).bind λ(al,ae,af,am)=>(Aj p u).bind λ_=>(He p u (al,ae,af,am,())).bind λan=>Z' (Ae u 1) an
else
j15 a f g b p
def Yz:Nat->Int-> (List (Int×Int×UInt64×UInt64×Unit))->Br
|0,_,_=>none
|c+1,e,j=>Aah Aa1 (Yz c) z d i B e j
def Zn a f g b:=Yz a f g b Aq
def CT(j13:Int->Int->LB->Int->Int-> (List (Int×Int×UInt64×UInt64×Unit))->Br)(a f:Int)(g:LB)(b:Int):Br:=j13 a f g b 0 (List.replicate 6 ((0:Int),(0:Int),(0:UInt64),(0:UInt64),()))
def CU:=CT Zn
def Wf:Bgq:=some (Ri (Ad (Bw L (GI.toZ (1:UInt64)).toNat):Int32) (pJ (Ad (Cy L 1):Int32)))
def jE:Bhf:=(QQ z e J).bind λ(c,d)=>if(Bl d 0)then
some (0,0,(List.replicate 16 (0:Int32)),(List.replicate 16 (0:Int32)),d)
else(OS z e J (Ae C c) C).bind λ(i,j,A)=>some ((Ae C c),i,j,A,0)
def Ki:Bg3:=(Us z C E l7 l9).bind λc=>if(Bl c 0)then
some (0,0,0,0,(List.replicate 16 (0:Int32)),(List.replicate 16 (0:Int32)),c)
else(Uu z C).bind λ(d,e)=>(jE E l7 l9 Be7).bind λ(i,j,A,B,D)=>(
some ((Ae i d),z,(Ae i d),j,A,B,D))
abbrev Gb:=Option (LX×Int)
def Bcl:Gb:=some (e,0)
def Arm:=Bcl
abbrev Bhk:=Int->LX->Gb
def Asq(VK:Bhk)(b a:Int)(h:LX):Gb:=VK (Ae a b) h
def ZV VK:=Asq VK
def NL(j20:Bhk)(Q3:Bhk)(b a g:Int)(h:LX):Gb:=if(Lj g 0)then(Hu (decide (0<= (Ae g 1)/\ (Ae g 1)<((Ae a b)-a)))).bind λ_=>(Hu (decide (0<=g/\g<((Ae a b)-a)))).bind λ_=>(Aj h (a+(Ae g 1))).bind λn=>(Aj h (a+g)).bind λo=>(Hu (decide (0<=g/\g<((Ae a b)-a)))).bind λ_=>(He h (a+g) (Ah n o)).bind λp=>Q3 (Ah g 1) p
else
j20 a h
def Wd(VK:Bhk)(b a:Int):Nat->Int->LX->Gb
|0,_,_=>none
|q+1,g,h=>NL (ZV VK b) (Wd VK b a q) b a g h
def YU VK b a:=Wd VK b a Aq
def YH(j18:Int->Int->LX->Gb)(b a:Int)(u:LX):Gb:=j18 a (Ah (Ah ((Ae a b)-a) 1) 1) u
def aF VK b:=YH (YU VK b) b
def YO(j17:Bhk)(j22:LX->Gb)(b a:Int)(f:LX):Gb:=if(Ci a (Ac f))then(cE (Ac f) a (Ae a b)).bind λ_=>if(Dq (Ah ((Ae a b)-a) 1) 0)then(Hu (decide (0<= (Ah ((Ae a b)-a) 1)/\ (Ah ((Ae a b)-a) 1)<((Ae a b)-a)))).bind λ_=>Option.bind (Hu (decide (0<= (Ah (Ah ((Ae a b)-a) 1) 1)/\ (Ah (Ah ((Ae a b)-a) 1) 1)<((Ae a b)-a)))) λ_=>(Aj f (a+(Ah ((Ae a b)-a) 1))).bind λv=>(Aj f (a+(Ah (Ah ((Ae a b)-a) 1) 1))).bind λw=>(Hu (decide (0<= (Ah ((Ae a b)-a) 1)/\ (Ah ((Ae a b)-a) 1)<((Ae a b)-a)))).bind λ_=>(He f (a+(Ah ((Ae a b)-a) 1)) (Ae v (Cb w 2))).bind λy=>j17 a y
else
j17 a f
else
j22 f
def Qx:Nat->Int->LX->Gb
|0,_,_=>none
|c+1,d,e=>YO (aF (Qx c) z) Arm z d e
def At0 b:=Qx b Aq
def jH(j12:Int->Int->LX->Gb)(b:Int)(k:LX):Gb:=(WY b k).bind λm=>if(Bl m 0)then
some (([]:LX),m)
else(Df k).bind λaa=>j12 b 0 aa
def pX:=jH At0
abbrev Bz:=Option (LX×Int)
def MK:Bz:=(pX z e).bind λ(c,i)=>if(Bl i 0)then
some (([]:LX),i)
else(Ut d c).bind λj=>if(Bl j 0)then
some (([]:LX),j)
else
some (c,0)
def Ko:=MK
def MT(Z':Int-> (List (Int×Int32×(Int×LX×LX×Unit)×Unit))->LX->Bz)(a:Int)(f:LU)(b g:Int)(y:Int32)(v:Int)(h:Bgg)(k:LX)(aa:Int)(w:Int32)(ab:Int)(ac ad:LX):Bz:=if(Bl v 0)then
some (([]:LX),v)
else(He h (Ge g a) (aa,w,(ab,ac,ad,()),())).bind λai=>(Cm k ([y]:LX)).bind λaj=>Z' (Ae g 1) ai aj
def Xg Z':=MT Z'
def Kn(j16:Int->Int32->Int-> (List (Int×Int32×(Int×LX×LX×Unit)×Unit))->LX->Int->Int32->Int->LX->LX->Bz)(j18:Int->Int->LX->Bz)(f:LU)(a b g:Int)(h:Bgg)(k:LX):Bz:=if(Ci g (Ac f))then(Aj f g).bind λag=>(Hu (Bl a 0)).bind λ_=>(Aj h (Ge g a)).bind λ_=>(
(Aj h (Ge g a)).bind λm=>(
(Wf ag).bind λae=>(
(Ki m.1 m.2.1 m.2.2.1.1 m.2.2.1.2.1 m.2.2.1.2.2.1 ae).bind λ(y,aa,w,ab,ac,ad,v)=>j16 g y v h k aa w ab ac ad)))
else
j18 a b k
def Hv:Nat->Int-> (List (Int×Int32×(Int×LX×LX×Unit)×Unit))->LX->Bz
|0,_,_,_=>none
|z+1,c,d,e=>Kn (Xg (Hv z) y8 R y9) Ko R y8 y9 c d e
def NH f a b:=Hv f a b Aq
def NA(j13:LU->Jz3 ( (List (Int×Int32×(Int×LX×LX×Unit)×Unit))->LX->Bz))(f:LU)(a b:Int)(n:Bgg):Bz:=j13 f a b 0 n ([]:LX)
def NG:=NA NH
def ND(j12:LU->Int->Int-> (List (Int×Int32×(Int×LX×LX×Unit)×Unit))->Bz)(VM:Int-> (List (Int×Int32×(Int×LX×LX×Unit)×Unit))->Bz)(f:LU)(a b:Int)(o:LX)(p:Int)(n:Bgg):Bz:=if(Ci p 6)then(uW b o).bind λ(ak,af,ae,al,am,w)=>(Aj n p).bind λ_=>(He n p (ak,af,(ae,al,am,()),())).bind λan=>VM (Ae p 1) an
else
j12 f a b n
def Xn:Nat->Int-> (List (Int×Int32×(Int×LX×LX×Unit)×Unit))->Bz
|0,_,_=>none
|z+1,c,d=>ND NG (Xn z) R y8 y9 Bfh c d
def Xk f a b o:=Xn f a b o Aq
def Zk(j10:LU->Int->Int->LX->Int-> (List (Int×Int32×(Int×LX×LX×Unit)×Unit))->Bz)(a b:Int)(o:LX)(f:LU):Bz:=j10 f a b o 0 (List.replicate 6 ((0:Int),(0:Int32),((0:Int),(List.replicate 16 (0:Int32)),(List.replicate 16 (0:Int32)),()),()))
def Rs:=Zk Xk
def Lk:Bhe:=(Fp z d).bind λc=>if(Bl c 0)then
some (([]:LX),c)
else
if(Ci B 1)then
some (([]:LX),2)
else(Hu (Bl z 0)).bind λ_=>if(Dq B (Cb 4000 z))then
some (([]:LX),2)
else(CX V).bind λ(i,j)=>if(Bl j 0)then
some (([]:LX),j)
else(uj i).bind λ(A,C,D)=>if(Bl D 0)then
some (([]:LX),D)
else(CU z B A C).bind λ(E,F,G)=>if(Bl G 0)then
some (([]:LX),G)
else
if(Lj (Ah C F) 8)then
some (([]:LX),12)
else(DK A C F (Ah C F)).bind λ(I,J)=>if((Bl J 0)||(Bl I 0))then
some (([]:LX),12)
else(Rs z d e E).bind λ(L,M)=>some (L,M)
abbrev oO:=Option (Int×Int)
def Ava:oO:=(Ca c (Ah (Ac c) 32) (Ac c)).bind λz=>(OA z 0).bind λ(d,e,i)=>if i then
if(Ci (Ah (Ac c) 32) d)then
some (0,24)
else
some ((Ae d 32),0)
else(Ca c (Ah (Ac c) 32) (Ac c)).bind λj=>(OA j 2147483648).bind λ(A,B,C)=>if(!C)then
some (0,12)
else
if(Ci (Ac c) (Ae A 64))then
some (0,24)
else(Ca c (Ah (Ac c) (Ae A 64)) (Ae (Ah (Ac c) (Ae A 64)) 32)).bind λD=>(TH A B 2684354560).bind λE=>(Ha D E).bind λF=>if(!F)then
some (0,12)
else
some ((Ae A 64),0)
def Atv:=Ava
def Auw(j2:LB->oO)(a:LB):oO:=if(Ci (Ah (Ac a) 32) 0)then
some (0,6)
else(Ca a (Ah (Ac a) 32) (Ac a)).bind λv=>(Kg v ([(65:UInt8),(80:UInt8),(69:UInt8),(84:UInt8),(65:UInt8),(71:UInt8),(69:UInt8),(88:UInt8)]:LB)).bind λw=>if(!w)then
some (0,6)
else
j2 a
def pR:=Auw Atv
abbrev Fg:=Option (Int×Int)
def Bdl:Fg:=some (z,0)
def Aen:=Bdl
abbrev Bh4:=Int->LB->Fg
def Aep(n? :Bh4)(a:Int)(g:LB):Fg:=n? (Ae a 1) g
def Aeo n? :=Aep n?
def Aem(j12:Bh4)(a f:Int)(b:LB):Fg:=if(geq f 0)then
some (0,38)
else(Ca b 0 (Ah (Ac b) f)).bind λg=>j12 a g
def GY n? :=Aem (Aeo n?)
def LZ(j11:Int->Int->LB->Fg)(j14:Int->Fg)(a:Int)(b:LB):Fg:=if(Dq (Ac b) 0)then(pR b).bind λ(f,k)=>j11 a f b
else
j14 a
def Rq:Nat->Int->LB->Fg
|0,_,_=>none
|q+1,a,b=>LZ (GY (Rq q)) Aen a b
def Bee:=Rq Aq
def LV(j8:Bh4)(h:LB):Fg:=if(Dq (Ac h) 4000)then
some (0,38)
else
j8 0 h
def NN:=LV Bee
abbrev Bo:=Option (Int×Int×Int×LX×Int)
def Akb:Bo:=(Ca c z (Ac c)).bind λi=>(NN i).bind λ(A,B)=>if(Bl B 0)then
some (0,0,0,([]:LX),38)
else
some (d,j,F,e,0)
def QC:=Akb
def Al1(V?:Int->Int->LX->Bo)(a:LB)(w:LI)(m f g h o p n b ab ae:Int)(ac:LX)(k:LI)(y aj ak aa:Int)(an ad:LX):Bo:=if(Bl ak 0)then
some (0,0,0,([]:LX),ak)
else(Cm ad an).bind λau=>V? (Ae y aj) (Ae aa 1) au
def PY V?:=Al1 V?
def DL(j24:Jz4 (LX->LX->Bo))(j26:LB->Jz4 (LX->Bo))(a:LB)(w:LI)(m f g h o p n b ab ae:Int)(ac:LX)(k:LI)(y aa:Int)(ad:LX):Bo:=if(Ci aa (Ac w))then(Aj w aa).bind λ_=>(Aj w aa).bind λaj=>if(Ci (Ac a) (Ae y aj))then
some (0,0,0,([]:LX),24)
else(Aj k aa).bind λ_=>(Ca a y (Ae y aj)).bind λav=>(Aj k aa).bind λaw=>(Lk f g ac aw av).bind λ(an,ak)=>j24 y aj ak aa an ad
else
j26 a y f g h ad
def Pf:Nat->Int->Int->LX->Bo
|0,_,_,_=>none
|i+1,A,B,C=>DL (PY (Pf i) c D z d j F O Beq Be2 Bfq Bfr Bfs e T) QC c D z d j F O Beq Be2 Bfq Bfr Bfs e T A B C
def Al2 a w m f g h o p n b ab ae ac k:=Pf a w m f g h o p n b ab ae ac k Aq
def Pq(j21:LB->LI->Jz10 (LX->LI->Int->Int->LX->Bo))(a u:LB)(m f g h o p n b:Int)(k:LI)(ao ab ae:Int)(w:LI):Bo:=if(Bl ao 0)then
some (0,0,0,([]:LX),ao)
else(HK u).bind λ(ac,bc)=>j21 a w m f g h o p n b ab ae ac k ab 0 ([]:LX)
def Pg:=Pq Al2
abbrev Bgk:=LB->LB->Jz8 (LI->Int->Int->Int->LI->Bo)
def OY(j20:Bgk)(a u:LB)(v:LI)(m f g h o p n b af:Int)(k:LI):Bo:=j20 a u m f g h o p n b k 0 (Ae (Ae b (Bd 4 (Ac v))) 4) af v
def PO:=OY Pg
def CM(j19:LB->LB->LI->Jz9 (LI->Bo))(jJ:Int->Int->Bo)(v:LI)(a u:LB)(m f g h o p n b:Int)(k:LI)(ag af:Int):Bo:=if(Ci ag (Ac v))then(Aj v ag).bind λ_=>(Aj v ag).bind λax=>jJ (Ae ag 1) (Ae af ax)
else
j19 a u v m f g h o p n b af k
def Ou:Nat->Int->Int->Bo
|0,_,_=>none
|z+1,c,d=>CM PO (Ou z) D i V N Be3 Bfz Bf0 Bf1 Bf2 Bf3 Bf4 Bfi c d
def Ak6 v a u m f g h o p n b k:=Ou v a u m f g h o p n b k Aq
def BN(j20:Bgk)(j17:LI->LB->LB->Jz8 (LI->Int->Int->Bo))(al:Int)(a u:LB)(m f g h o p n b ah ai:Int)(v k:LI):Bo:=if(Bl al 0)then
j20 a u m f g h o p n b k al ah ai ([]:LI)
else
j17 v a u m f g h o p n b k 0 (Ae (Ae b (Bd 4 (Ac v))) 4)
def OE:=BN Pg Ak6
def QP(j20:Bgk)(j16:Int->LB->LB->Jz10 (LI->LI->Bo))(a u:LB)(m f g h o p n b ah ai:Int)(k:LI):Bo:=if(Ci (Ac a) b)then
j20 a u m f g h o p n b k 24 ah ai ([]:LI)
else(Ca a b (Ac a)).bind λay=>(GZ ay (Ac k)).bind λ(v,al)=>j16 al a u m f g h o p n b ah ai v k
def DE:=QP Pg OE
def DC(j15:LB->LB->Jz10 (LI->Bo))(a u:LB)(m f g h o p n b ah ai:Int)(k:LI)(am:Int):Bo:=if(Bl am 0)then
some (0,0,0,([]:LX),am)
else
j15 a u m f g h o p n b ah ai k
def Ph:=DC DE
def UH(j14:LB->LB->Jz10 (LI->Int->Bo))(a u:LB):Bo:=if(Dq (Ac u) 64)then
some (0,0,0,([]:LX),2)
else(Qc a).bind λ(m,f,g,h,o,p,n,b,ah,ai,k,ap)=>if(Bl ap 0)then
some (0,0,0,([]:LX),ap)
else
if((u==([]:LB)) !=(geq m 1))then
j14 a u m f g h o p n b ah ai k 26
else
if(geq m 1)then
j14 a u m f g h o p n b ah ai k 0
else
if(Ci (Ac a) b)then
j14 a u m f g h o p n b ah ai k 24
else(Ca a n b).bind λaz=>(Wg az u).bind λ(ba,bd)=>if(!ba)then
j14 a u m f g h o p n b ah ai k 26
else
j14 a u m f g h o p n b ah ai k 0
def Hl:=UH Ph
def An0:Bgd:=if((((Ci z 1)||(Dq z 6))||(Ci j 1))||(Dq j 1048576))then
some 8
else
if(geq d 8)then
if(geq d 8)then
some 0
else
some 8
else
if(geq d 16)then
if(geq d 16)then
some 0
else
some 8
else
if(geq d 24)then
some 0
else
some 8
def Aqr:Option (Bool×Int):=(An0 z d j).bind λc=>if(Bl c 0)then
some (false,c)
else
some (((Dq z 2)||(Dq d 16)),0)
def Bdq:Bgf:=if M then(Ca ([(1:UInt8),(0:UInt8),(0:UInt8),(0:UInt8),(0:UInt8),(0:UInt8),(16:UInt8),(0:UInt8),(128:UInt8),(0:UInt8),(0:UInt8),(170:UInt8),(0:UInt8),(56:UInt8),(155:UInt8),(113:UInt8)]:LB) 0 16).bind λz=>(Cm Bev z).bind λc=>some c
else
some Bev
def Aei:=Bdq
def Adp(j8:Bool->LB->Option (LB))(Q4:Bh0)(a:Bool)(h:Int)(f:LQ)(g:Int)(b:LB):Bgf:=if(Ci g h)then(Aj f g).bind λ_=>(Aj f g).bind λv=>(Aj ([(2:Int),(2:Int),(4:Int),(4:Int),(2:Int),(2:Int),(2:Int),(2:Int),(4:Int)]:LI) g).bind λw=>(Km v w).bind λ(y,ac)=>(Cm b y).bind λaa=>Q4 (Ae g 1) aa
else
j8 a b
def GR:Nat->Int->LB->Option (LB)
|0,_,_=>none
|z+1,c,d=>Adp Aei (GR z) M N Bfm c d
def Bdc a h f:=GR a h f Aq
def Aek(j6:Bool->Int->LQ->Int->LB->Option (LB))(a:Bool)(h:Int)(f:LQ):Bgf:=j6 a h f 0 ([]:LB)
def Bdn:=Aek Bdc
def Ads(j5:Bool->Int->LQ->Option (LB))(m k n:Int)(a:Bool)(o:UInt64):Bgf:=if a then(Aj ([(1:UInt64),(Ad m:UInt64),(Ad n:UInt64),(Bd (Ad n:UInt64) (Ad (Cb (Bd m k) 8):UInt64)),(Ad (Cb (Bd m k) 8):UInt64),(Ad k:UInt64),(22:UInt64),(Ad k:UInt64),o]:LQ) 0).bind λ_=>(He ([(1:UInt64),(Ad m:UInt64),(Ad n:UInt64),(Bd (Ad n:UInt64) (Ad (Cb (Bd m k) 8):UInt64)),(Ad (Cb (Bd m k) 8):UInt64),(Ad k:UInt64),(22:UInt64),(Ad k:UInt64),o]:LQ) 0 65534).bind λab=>j5 a 9 ab
else
j5 a 6 ([(1:UInt64),(Ad m:UInt64),(Ad n:UInt64),(Bd (Ad n:UInt64) (Ad (Cb (Bd m k) 8):UInt64)),(Ad (Cb (Bd m k) 8):UInt64),(Ad k:UInt64),(22:UInt64),(Ad k:UInt64),o]:LQ)
def Aqx:=Ads Bdn
def An2:Bgu:=(Aqr z d j).bind λ(c,e)=>if(Bl e 0)then
some (([]:LB),e)
else(Hu (Lj z 0)).bind λ_=>(Aqx z d j c (Ah (Db (1:UInt64) (GI.toZ z).toNat) 1)).bind λi=>some (i,0)
abbrev Da:=Option (LB×Int)
def Bed:Da:=some (c,0)
def Ajw:=Bed
abbrev Bhu:=Int->LB->Da
def Ajg(Li:Bhu)(b:Int)(a:LX)(f:Int)(h:LB):Da:=Li (Ae f 1) h
def LN Li:=Ajg Li
def Yo(j28:Bhu)(VN:Bhu)(b:Int)(a:LX)(k:Int32)(f m:Int)(h:LB):Da:=if(Ci m (Cb b 8))then(Hu (Lj (Bd 8 m) 0)).bind λ_=>(Cm h ([(Ad (Bw k (GI.toZ (Bd 8 m)).toNat):UInt8)]:LB)).bind λp=>VN (Ae m 1) p
else
j28 f h
def Hy(Li:Bhu)(b:Int)(a:LX)(k:Int32)(f:Int):Nat->Int->LB->Da
|0,_,_=>none
|q+1,m,h=>Yo (LN Li b a) (Hy Li b a k f q) b a k f m h
def MF Li b a k f:=Hy Li b a k f Aq
def KX(j26:Int32->Int->Int->LB->Da)(b:Int)(a:LX)(f:Int)(g:LB)(k:Int32):Da:=j26 k f 0 g
def Mz Li b a:=KX (MF Li b a) b a
def Ys(j25:Int->LB->Int32->Da)(j30:LB->Da)(b:Int)(a:LX)(f:Int)(g:LB):Da:=if(Ci f (Ac a))then(Aj a f).bind λn=>if(geq b 8)then
j25 f g (Ae n 128)
else
j25 f g n
else
j30 g
def Fq:Nat->Int->LB->Da
|0,_,_=>none
|c+1,d,i=>Ys (Mz (Fq c) z e) Ajw z e d i
def Bef b a:=Fq b a Aq
def QV(j16:Int->LX->Int->LB->Da)(b:Int)(a:LX):Da:=(Ut b a).bind λo=>if(Bl o 0)then
some (([]:LB),o)
else
j16 b a 0 ([]:LB)
def KO:=QV Bef
def Ay4:Bgh:=some (geq (Ac c) 4)
def Amj:=Ay4
def Alu(j6:LB->Option Bool)(Oc:Int->Option Bool)(a:LB)(b:Int):Bgh:=if(Ci b (Ac a))then(Aj a b).bind λ_=>(Aj a b).bind λf=>if((Ci f 32)||(Dq f 126))then
some false
else
Oc (Ae b 1)
else
j6 a
def RD:Nat->Int->Option Bool
|0,_=>none
|z+1,d=>Alu Amj (RD z) c d
def Axf a:=RD a Aq
def Amr(j4:LB->Int->Option Bool)(a:LB):Bgh:=j4 a 0
def eX:=Amr Axf
def Beb:Bgd:=some z
def Ars:=Beb
def Asc:Bgd:=if(Ci Bfk (Ac o9))then(Aj o9 Bfk).bind λz=>Bet (Ae Bfb (Ae (Ae 8 (Ac z.2.1)) (Cy (Ac z.2.1) 1))) (Ae Bfk 1)
else
Be0 Bfb
def YQ:Nat->Int->Int->Option Int
|0,_,_=>none
|z+1,c,d=>Asc Ars (YQ z) o9 c d
def Bc4 a:=YQ a Aq
def Asm(j4:(List (LB×LB×Unit))->Int->Int->Option Int)(a:Bgo):Bgd:=j4 a 4 0
def WB:=Asm Bc4
def ZJ(a f:LB):Bgh:=(eX a).bind λb=>some (!b)
def Ben:Bgd:=some 0
def Az3:=Ben
def Ayq:Bgd:=if Bfd then
some 8
else
Bez
def DY:=Ayq Az3
def Axb:Bgd:=Be1 Bfo
def Alp:=Axb DY
def Ay6:Bgd:=Be1 (Lj (-1:Int) (0:Int))
def Amx:=Ay6 Alp
def Ayp(Z0:Bgy)(a:Bgo)(b:Int):Bgd:=Z0 (Ae b 1)
def Bel Z0:=Ayp Z0
def Az2(j26:Bhd)(j23:Bgy)(a:Bgo)(b:Int)(g:Bool):Bgd:=if g then
j26 (Lj b 0)
else
j23 b
def Amw Z0 a:=Az2 Alp (Bel Z0 a) a
abbrev Bhy:=Int->Bool->Option Int
def Aml(j22:Bhy)(j25:Bgd)(a:Bgo)(b:Int):Bgd:=if(Ci b (Ac a))then(Aj a b).bind λk=>(ZJ k.1 k.2.1).bind λg=>j22 b g
else
j25
def QG:Nat->Int->Option Int
|0,_=>none
|z+1,c=>Aml (Amw (QG z) o9) Amx o9 c
def Ay1 a:=QG a Aq
def Ay2:Bgd:=Be1 Bfo
def Al6:=Ay2 DY
def Axe:Bgd:=Be1 (Lj (-1:Int) (0:Int))
def Amk:=Axe Al6
def Ay7(MG:Bgy)(a:Bgo)(f:Int):Bgd:=MG (Ae f 1)
def Bem MG:=Ay7 MG
def Ay5(j34:Bhd)(j31:Bgy)(a:Bgo)(f:Int)(h:Bool):Bgd:=if h then
j34 (Lj f 0)
else
j31 f
def Amq MG a:=Ay5 Al6 (Bem MG a) a
def Amn(j30:Bhy)(j33:Bgd)(a:Bgo)(f:Int):Bgd:=if(Ci f (Ac a))then(Aj a f).bind λm=>(ZJ m.1 m.2.1).bind λh=>j30 f h
else
j33
def QH:Nat->Int->Option Int
|0,_=>none
|z+1,c=>Amn (Amq (QH z) o9) Amk o9 c
def Ayi a:=QH a Aq
abbrev Bg6:=(List (LB×LB×Unit))->Int->Option Int
def UE(j35:Bhd)(j19:Bg6)(j27:Bg6)(u:LB)(a:Bgo):Bgd:=if(Dq (Ac a) 20)then
some 4
else(eX u).bind λv=>if(!v)then
if true then
j35 true
else
j19 a 0
else(WB a).bind λw=>if(Dq (Ae w 8) 100000)then
j35 true
else
j27 a 0
def GN:=UE DY Ay1 Ayi
def jW:Option LB:=(Km (Ad B:UInt64) 4).bind λ(z,_)=>(Cm c i).bind λd=>Cm d z
def pH:List (LB×LB×Unit)->LB->Option LB
|[],o=>some o
|c::l,o=>(jW o c.1 (Ac c.2.1)).bind λp=>(Cm p c.2.1).bind λu=>(vg (Cy (Ac c.2.1) 1) (0:UInt8)).bind λz=>(Cm u z).bind λv=>pH l v
def aT:Bgu:=(GN c o9).bind λz=>if(Bl z 0)then
some (([]:LB),z)
else(WB o9).bind λd=>(jW [] [82,73,70,70] d).bind λe=>(Cm e c).bind λi=>(pH o9 i).bind λj=>some (j,0)
def Aev:Bgu:=(Dg z d j e).bind λc=>if(Bl c 0)then
some (([]:LB),c)
else(An2 z d j).bind λ(i,A)=>(KO d e).bind λ(B,C)=>(aT ([87,65,86,69]:LB) ([(([102,109,116,32]:LB),i,()),(([100,97,116,97]:LB),B,())]:Bgo)).bind λ(D,E)=>some (D,E)
def Ab3:Bgu:=(Hl c i).bind λ(z,d,e,j,A)=>if(Bl A 0)then
some (([]:LB),A)
else(Aev z d e j).bind λ(B,C)=>some (B,C)
def Avn:Bgd:=(Hl c i).bind λ(z,d,e,j,A)=>some A
def Cn:Bgh:=(Hl c i).bind λ(z,d,e,j,A)=>(Ab3 c i).bind λ(C,D)=>(Avn c i).bind λE=>some (((((geq E B)&&(geq A B))&&(geq D B))&&((geq B 0)==(Dq (Ac j) 0)))&&((geq B 0)==(Dq (Ac C) 0)))
def Gt:Bgh:=(Nf [120]).bind λb=>if(Ci (Ac b) 40)then
some false
else(Cm [] b).bind λf=>(Aj f (Ah (Ac f) 6)).bind λg=>(He f (Ah (Ac f) 6) (Ri g 1)).bind λh=>(Cn b [120] 0).bind λk=>if(!k)then
some false
else(Cn b [] 26).bind λm=>if(!m)then
some false
else(Cn b [121] 26).bind λn=>if(!n)then
some false
else(Cm b [0]).bind λo=>(Cn o [120] 38).bind λp=>if(!p)then
some false
else(Ca b 0 (Ah (Ac b) 1)).bind λu=>(Cn u [120] 24).bind λv=>if(!v)then
some false
else
Cn h [120] 22
def Yy(b f g:Int)(a:LX):Bgh:=some (((Dq (Ac a) 300)&&(y_ (Ac a) 4000))||(Dq (Ac a) 4010))
def Gm(a b f:Int)(g:LX):Bgj:=some (a,b)
def Ht:Bgd:=if(geq z 8)then
some 128
else
if(geq z 16)then
some 32768
else
if(geq z 24)then
some 8388608
else
some 0
def Cw:Bgd:=if((Ci z 1)||(Dq z 6))then
some 2
else(Ht d).bind λc=>if(geq c 0)then
some 2
else
some 0
def Bb2:Bgd:=some 0
def EW:=Bb2
def Ce:Bgd:=if(Ci q8 (Ac y5))then(Aj y5 q8).bind λz=>if(Ci (Ad z:Int) (pJ E))then
some 16
else(Aj y5 q8).bind λc=>if(Lj (Ad c:Int) E)then
some 16
else
Be0 (Ae q8 1)
else
Bez
def Au:Nat->Int->Option Int
|0,_=>none
|z+1,c=>Ce EW (Au z) e B c
def Bb7 a b:=Au a b Aq
def Cx(j4:LX->Int->Int->Option Int)(k:Int)(a:LX):Bgd:=(Ht k).bind λb=>if(geq b 0)then
some 2
else
if(Dq (Ac a) 4000)then
some 4
else
j4 a b 0
def Ap:=Cx Bb7
def By:Bgd:=(Cw z d).bind λc=>if(Bl c 0)then
some 2
else(Ap d e).bind λi=>if(Bl i 0)then(Ap d e).bind λj=>some j
else
if(Ci (Ac e) 1)then
some 2
else(Hu (Bl z 0)).bind λ_=>if(Dq (Ge (Ac e) z) 0)then
some 2
else
some 0
def Ec:Bgd:=(Cw z d).bind λc=>if((Bl c 0)||(Ci j 1))then
some 2
else(Hu (Bl z 0)).bind λ_=>if(Dq j (Cb 4000 z))then
some 2
else
some 0
def Nj:Bgj:=if((Ci z 1)||(Dq z 1048576))then
some (0,2)
else
if(geq (Cb (Bd z 256) 245) 0)then
some (1,0)
else
some ((Cb (Bd z 256) 245),0)
abbrev Gs:=Option (LI×Int)
def NC:Gs:=if(Dq (Ac D) 1000)then
some (([]:LI),4)
else
some (D,0)
def Xc:=NC
def Oj(j6:LI->Gs)(Oc:Int->LI->Gs)(b f:Int)(a:LI):Gs:=if(Dq f 0)then(Cm a ([(Gf f b)]:LI)).bind λh=>Oc (Ah f (Gf f b)) h
else
j6 a
def Hx:Nat->Int->LI->Gs
|0,_,_=>none
|c+1,d,e=>Oj Xc (Hx c) z d e
def MW b:=Hx b Aq
def Ok(j4:Int->Int->LI->Gs)(k g:Int):Gs:=(Nj k).bind λ(b,m)=>if(((Bl m 0)||(Ci g 1))||(Dq g 4000))then
some (([]:LI),2)
else
j4 b g ([]:LI)
def Wh:=Ok MW
def Iu:Bgj:=(Wh z d).bind λ(c,e)=>some ((Ac c),e)
def EN:Bgh:=(Gm z d j e).bind λ(c,i)=>(Ec c i B).bind λA=>if(Bl A 0)then
some false
else(Iu j B).bind λ(C,D)=>some (geq D 0)
def Cp:Bgd:=(Gm z d j e).bind λ(c,i)=>(By c i e).bind λA=>if(Bl A 0)then
some 8
else(Hu (Bl z 0)).bind λ_=>(EN z d j e (Cb (Ac e) z)).bind λB=>if(!B)then
some 8
else
some 0
def Aiq:Bgf:=some c
def LG:=Aiq
def Rv:Bgf:=if(Ci p9 4)then(Hu (Lj (Bd 7 p9) 0)).bind λ_=>(Aj Be5 (Ah 3 p9)).bind λ_=>(He Be5 (Ah 3 p9) (Ad (Cy (rB G (GI.toZ (Bd 7 p9)).toNat) 127):UInt8)).bind λz=>Bex (Ae p9 1) z
else
Bew Be5
def Gk:Nat->Int->LB->Option (LB)
|0,_,_=>none
|c+1,d,e=>Rv LG (Gk c) z d e
def Aiz f:=Gk f Aq
def Yn(j4:Int->Int->LB->Option (LB))(f:Int):Bgf:=(vg (4:Int) (0:UInt8)).bind λh=>(Hu (geq (4:Int) (4:Int))).bind λ_=>j4 f 0 h
def Ng:=Yn Aiz
def Sp:Bgu:=(Ng (Ac c)).bind λz=>(Cm [4,0,0] z).bind λd=>if M then(He d 2 16).bind λd=>(Cm ([73,68,51]++(d++c)) ([51,68,73]++d)).bind λe=>if(Dq (Ac e) 4000)then
some ([],4)
else
some (e,0)
else(Cm ([73,68,51]++d) c).bind λe=>if(Dq (Ac e) 4000)then
some ([],4)
else
some (e,0)
def kD(b:LB)(a:Int)(f:Bool):Bgd:=if(((Dq (Ac b) 3000)||(Ci a 0))||(Dq a 1000))then
some 8
else
some 0
abbrev dZ:=Option (LB×Int)
def YT(a:LB)(b:Int)(f:Bool)(h:UInt64)(k:LB):dZ:=(Cm k a).bind λm=>(TH (Ac a) b h).bind λn=>(Cm m n).bind λo=>some (o,0)
def bG:=YT
def As6(j2:LB->Int->Bool->UInt64->LB->dZ)(a:LB)(b:Int)(f:Bool):dZ:=(kD a b f).bind λg=>if(Bl g 0)then
some (([]:LB),g)
else
if f then(TH (Ac a) b 2684354560).bind λp=>j2 a b f 2147483648 p
else
j2 a b f 0 ([]:LB)
def VV:=As6 bG
abbrev Dh:=Option (Int×Int×Int×Int×Int×Int)
def Ajk(a:LB)(m n o p u f g b ad y:Int)(h:LI):Dh:=if(Ci (Ac a) y)then
some (0,0,0,0,0,24)
else
some (f,g,b,ad,y,0)
def Aj9:=Ajk
def Aiw(j12:LB->Jz10 (LI->Dh))(a:LB)(m n o p u f g b:Int)(h:LI)(ae ad y:Int):Dh:=if(Bl ae 0)then
some (0,0,0,0,0,ae)
else
j12 a m n o p u f g b ad y h
def My:=Aiw Aj9
abbrev Bgn:=LB->Jz8 (LI->Int->Int->Int->Dh)
def Aiu(j11:Bgn)(a:LB)(k:LI)(m n o p u f g b v:Int)(h:LI):Dh:=j11 a m n o p u f g b h 0 (Ae (Ae b (Bd 4 (Ac k))) 4) v
def Yt:=Aiu My
def BE(j10:LB->LI->Jz9 (LI->Dh))(n? :Int->Int->Dh)(k:LI)(a:LB)(m n o p u f g b:Int)(h:LI)(w v:Int):Dh:=if(Ci w (Ac k))then(Aj k w).bind λ_=>(Aj k w).bind λag=>n? (Ae w 1) (Ae v ag)
else
j10 a k m n o p u f g b v h
def Ox:Nat->Int->Int->Dh
|0,_,_=>none
|z+1,c,d=>BE Yt (Ox z) D i B I U Z l5 l6 N Be3 Bfi c d
def Aln k a m n o p u f g b h:=Ox k a m n o p u f g b h Aq
def RJ(j11:Bgn)(j8:LI->LB->Jz8 (LI->Int->Int->Dh))(aa:Int)(a:LB)(m n o p u f g b ab ac:Int)(k h:LI):Dh:=if(Bl aa 0)then
j11 a m n o p u f g b h aa ab ac
else
j8 k a m n o p u f g b h 0 (Ae (Ae b (Bd 4 (Ac k))) 4)
def Ane:=RJ My Aln
def PD(j11:Bgn)(j7:Int->LB->Jz10 (LI->LI->Dh))(a:LB):Dh:=(Qc a).bind λ(m,n,o,p,u,f,g,b,ab,ac,h,af)=>if(Bl af 0)then
some (0,0,0,0,0,af)
else
if(Ci (Ac a) b)then
j11 a m n o p u f g b h 24 ab ac
else(Ca a b (Ac a)).bind λah=>(GZ ah (Ac h)).bind λ(k,aa)=>j7 aa a m n o p u f g b ab ac k h
def KU:=PD My Ane
def Bbb:Bgh:=some true
def KS:=Bbb
def Nn(j6:Bgh)(Oc:Int->Option Bool)(f g h:Int)(a:LX)(k m n:Int)(b:LX)(o:Int):Bgh:=if(Ci o (Ac a))then(Aj a o).bind λp=>(Aj b o).bind λu=>if(Bl p u)then
some false
else
Oc (Ae o 1)
else
j6
def Gy:Nat->Int->Option Bool
|0,_=>none
|c+1,i=>Nn KS (Gy c) z d j e B I U J i
def Bbi f g h a k m n b:=Gy f g h a k m n b Aq
def Vq(j4:Jz3 (LX->Int->Int->Int->LX->Int->Option Bool))(f g h:Int)(a:LX)(k m n:Int)(b:LX):Bgh:=if((((Bl f k)||(Bl g m))||(Bl h n))||(Bl (Ac a) (Ac b)))then
some false
else
j4 f g h a k m n b 0
def Tz:=Vq Bbi
def Mt:Bgh:=(Hl Bfv c).bind λ(z,d,e,i,j)=>(KU Bfv).bind λ(A,B,C,D,E,F)=>if(M&&(geq j 0))then(Tz Bf6 Bf7 Bf8 J z d e i).bind λG=>some (((G&&(geq F 0))&&(geq A (Ae (Ac Bev) (Ac Bfu))))&&(geq E (Ae A (Ac Bft))))
else
some (((false&&(geq F 0))&&(geq A (Ae (Ac Bev) (Ac Bfu))))&&(geq E (Ae A (Ac Bft))))
def Mp:=Mt
def Ae1(j4:LB->Bool->LB->Jz3 (LX->LB->LB->LB->Option Bool))(b p u:LB)(v:Int)(a:Bool)(f g h:Int)(k:LX):Bgh:=(KN f g h k b).bind λ(n,aj)=>(Sp p (Dq (Cy v 1) 0)).bind λ(m,ak)=>(VV p 2 true).bind λ(o,al)=>(VV u 0 (Dq (Cy v 2) 0)).bind λ(y,am)=>if((((Bl aj 0)||(Bl ak 0))||(Bl al 0))||(Bl am 0))then
some false
else(Cm ([]:LB) m).bind λan=>(Cm an o).bind λao=>(Cm ao n).bind λap=>(Cm ap y).bind λaq=>if(Dq (Cy v 4) 0)then(Cm ([]:LB) o).bind λar=>(Cm ar m).bind λau=>(Cm au n).bind λav=>(Cm av y).bind λaw=>(Cm aw y).bind λax=>j4 b a m f g h k n o ax
else
j4 b a m f g h k n o aq
def Ae3:=Ae1 Mp
def Ae5(j3:LB->LB->LB->Int->Bool->Jz3 (LX->Option Bool))(f g h:Int)(k:LX)(b p u:LB)(v:Int):Bgh:=(Gt).bind λa=>(Yy f g h k).bind λay=>if ay then
if((((true||(Dq (Ac b) 64))||(Dq (Ac p) 500))||(Dq (Ac u) 500))||(!a))then
some a
else
j3 b p u v a f g h k
else(Cp f g h k).bind λaz=>if(((((Bl az 0)||(Dq (Ac b) 64))||(Dq (Ac p) 500))||(Dq (Ac u) 500))||(!a))then
some a
else
j3 b p u v a f g h k
def Rh:=Ae5 Ae3
def Aux:Bgf:=(
(Cm ([]:LB) c).bind λz=>some z)
def Bc0:Bgm:=(
(Cm ([]:LI) D).bind λz=>some z)
abbrev Bgv:=Option (LB×LB×Int×Int×Int×Int×Int×LI×Int×LB×Bool×Int)
def Bcr:Bgv:=(Aux i).bind λz=>(Aux V).bind λd=>(Bc0 X).bind λe=>some (c,z,B,I,U,Z,l5,e,l6,d,M,N)
def Xj:Bgh:=if((((geq z 1)||(geq z 2))&&(Lj d 1))&&(y_ d 6))then
some ((((((geq j 8)||(geq j 16))||(geq j 24))&&(Lj F 1))&&(y_ F 1048576))&&(Lj O 1))
else
some (((false&&(Lj F 1))&&(y_ F 1048576))&&(Lj O 1))
def Ty:Bgd:=some (pT 1 (Cb (Bd 256 z) 245))
def Mf:Bgm:=some D
def Mj:=Mf
def Il(j6:Bht)(Oc:Bg5)(a f:Int)(b:LI):Bgm:=if(Dq f 0)then(Ty a).bind λg=>(Cm b ([(Gf f g)]:LI)).bind λh=>(Ty a).bind λk=>Oc (Ah f k) h
else
j6 b
def Ep:Nat->Int->LI->Option (LI)
|0,_,_=>none
|c+1,d,e=>Il Mj (Ep c) z d e
def EU a:=Ep a Aq
def FI(j4:Int->Int->LI->Option (LI))(a m:Int):Bgm:=j4 a m ([]:LI)
def Dk:=FI EU
def EB(h a k f b:Int):Bgh:=(
(Hu (Bl a 0)).bind λ_=>(
if(Dq b (Cb 4000 a))then
some true
else(Dk f b).bind λg=>some (Dq (Ac g) 1000)))
def Bco(a f g h k:Int)(b:LB):Bgd:=if((b==([]:LB)) !=(geq a 1))then
some 26
else
some 0
def DZ:Bgd:=if(Dq z 100000)then
some 8
else
some 0
def DM:=DZ
def FK:Bgd:=(Aj Bfe Beu).bind λz=>Bet (Ae Be8 z) (Ae Beu 1)
def FO Q4:=FK Q4
def Tm:Bgd:=if(Ci Bfg (Ac Bfl))then(Aj Bfl Bfg).bind λz=>if(Ci z 5)then
some 8
else(Aj Bfl Bfg).bind λc=>if(Dq c 100000)then
some 8
else
Bet Bfw Bfg
else
Bgb Bfw
def Ir:Nat->Int->Int->Option Int
|0,_,_=>none
|z+1,c,d=>Tm (FO (Ir z) D) DM D c d
def FV a:=Ir a Aq
def Ta(j6:Bho)(a:LI):Bgd:=if((Ci (Ac a) 1)||(Dq (Ac a) 1000))then
some 8
else
j6 a 0 0
def It:=Ta FV
def JM(g h k a b:Int):Bgm:=(Dk a b).bind λf=>some f
def Bct(f a b g h:Int):Bgj:=some (a,b)
abbrev Ff:=Option (Int×Int)
def Baw:Ff:=some (z,0)
def Bb8:=Baw
def Tl(j6:Int->Ff)(Oc:Int->Int->Ff)(a:LB)(b f:Int):Ff:=if(Ci f 4)then(Aj a f).bind λg=>if(Lj g 128)then
some (0,12)
else(Aj a f).bind λh=>Oc (Ae (Bd 128 b) (Ad h:Int)) (Ae f 1)
else
j6 b
def Ip:Nat->Int->Int->Ff
|0,_,_=>none
|z+1,d,e=>Tl Bb8 (Ip z) c d e
def FC a:=Ip a Aq
def FU(j4:LB->Int->Int->Ff)(a:LB):Ff:=if(Bl (Ac a) 4)then
some (0,2)
else
j4 a 0 0
def Zi:=FU FC
abbrev Gd:=Option (Int×Int)
def JR:Gd:=if(Dq z 4000)then
some (0,4)
else
if(Ci (Ac c) z)then
some (0,24)
else(Aj c 5).bind λd=>if(geq d 16)then(Ca c (Ah z 10) z).bind λe=>(Ca c 3 10).bind λi=>(Cm ([51,68,73]:LB) i).bind λj=>if(e !=j)then
some (0,12)
else
some (z,0)
else
some (z,0)
def Ud:=JR
def IL(j6:LB->Int->Gd)(a:LB)(b:Int):Gd:=(Aj a 5).bind λo=>if(geq o 16)then
j6 a (Ae (Ae 10 b) 10)
else
j6 a (Ae 10 b)
def Uk:=IL Ud
def JD(j5:LB->Int->Gd)(a:LB):Gd:=if(Ci (Ac a) 10)then
some (0,24)
else(Ca a 6 10).bind λp=>(Zi p).bind λ(b,f)=>(Aj a 3).bind λu=>if(Ci u 2)then
if true then
if true then
if(true||(Bl f 0))then
some (0,12)
else
j5 a b
else(Aj a 5).bind λv=>if(Bl v 0)then(Aj a 5).bind λw=>if(Bl w 16)then
if(true||(Bl f 0))then
some (0,12)
else
j5 a b
else(Aj a 3).bind λy=>if((Bl y 4)||(Bl f 0))then
some (0,12)
else
j5 a b
else
if(false||(Bl f 0))then
some (0,12)
else
j5 a b
else(Aj a 4).bind λaa=>if(Bl aa 0)then
if(true||(Bl f 0))then
some (0,12)
else
j5 a b
else(Aj a 5).bind λab=>if(Bl ab 0)then(Aj a 5).bind λac=>if(Bl ac 16)then
if(true||(Bl f 0))then
some (0,12)
else
j5 a b
else(Aj a 3).bind λad=>if((Bl ad 4)||(Bl f 0))then
some (0,12)
else
j5 a b
else
if(false||(Bl f 0))then
some (0,12)
else
j5 a b
else(Aj a 3).bind λae=>if(Dq ae 4)then
if true then
if(true||(Bl f 0))then
some (0,12)
else
j5 a b
else(Aj a 5).bind λaf=>if(Bl af 0)then(Aj a 5).bind λag=>if(Bl ag 16)then
if(true||(Bl f 0))then
some (0,12)
else
j5 a b
else(Aj a 3).bind λah=>if((Bl ah 4)||(Bl f 0))then
some (0,12)
else
j5 a b
else
if(false||(Bl f 0))then
some (0,12)
else
j5 a b
else(Aj a 4).bind λai=>if(Bl ai 0)then
if(true||(Bl f 0))then
some (0,12)
else
j5 a b
else(Aj a 5).bind λaj=>if(Bl aj 0)then(Aj a 5).bind λak=>if(Bl ak 16)then
if(true||(Bl f 0))then
some (0,12)
else
j5 a b
else(Aj a 3).bind λal=>if((Bl al 4)||(Bl f 0))then
some (0,12)
else
j5 a b
else
if(false||(Bl f 0))then
some (0,12)
else
j5 a b
def KR:=JD Uk
def IU(j4:LB->Gd)(a:LB):Gd:=if(Ci (Ac a) 3)then
some (0,6)
else(Ca a 0 3).bind λam=>if(am !=([73,68,51]:LB))then
some (0,6)
else
j4 a
def BY:=IU KR
def Aae:Bgi:=some A
def Ab9:=Aae
def Zp:Bgi:=if(Lj o8 0)then(Aj Be6 o8).bind λz=>Bes (Ae (Bd 256 Y) (Ad z:UInt64)) (Ah o8 1)
else
Ber Y
def Lw:Nat->UInt64->Int->Option UInt64
|0,_,_=>none
|z+1,d,e=>Zp Ab9 (Lw z) c d e
def Ab5 a:=Lw a Aq
abbrev Bhh:=LB->UInt64->Int->Option UInt64
def Aat(j4:Bhh)(a:LB):Bgi:=j4 a 0 (Ah (Ac a) 1)
def Dc:=Aat Ab5
def Tu:Bhr:=(Ca c 12 16).bind λz=>(Dc z).bind λd=>(Ca c 16 20).bind λe=>(Dc e).bind λi=>if(((Ci d 32)||(Dq d 3032))||(Dq i 1000))then
some (0,0,false)
else
some ((Ah (Ad d:Int) 32),(Ad i:Int),true)
def AI:Bgf:=some c
def Ai7:=AI
def Pw(j6:LB->Option (LB))(Oc:UInt64->Int->LB->Option (LB))(b:Int)(f:UInt64)(g:Int)(a:LB):Bgf:=if(Ci g b)then(Cm a ([(Ad (AX f 256):UInt8)]:LB)).bind λh=>Oc (Cb f 256) (Ae g 1) h
else
j6 a
def Gu:Nat->UInt64->Int->LB->Option (LB)
|0,_,_,_=>none
|c+1,d,e,i=>Pw Ai7 (Gu c) z d e i
def AH b:=Gu b Aq
def AO(j4:Int->UInt64->Int->LB->Option (LB))(k:UInt64)(b:Int):Bgf:=j4 b k 0 ([]:LB)
def Dz:=AO AH
def Pn:Bgf:=(Dz 2000 4).bind λc=>(Cm ([(65:UInt8),(80:UInt8),(69:UInt8),(84:UInt8),(65:UInt8),(71:UInt8),(69:UInt8),(88:UInt8)]:LB) c).bind λe=>(Dz (Ad (Ae z 32):UInt64) 4).bind λi=>(Cm e i).bind λj=>(Dz (Ad d:UInt64) 4).bind λB=>(Cm j B).bind λC=>(Dz A 4).bind λD=>(Cm C D).bind λE=>(vg (8:Int) (0:UInt8)).bind λF=>(Cm E F).bind λG=>some G
def Tx:Bgf:=(Pn z d 2684354560).bind λc=>some c
def Jz:Bgf:=if M then(Pn z d 2147483648).bind λc=>some c
else(Pn z d 0).bind λe=>some e
abbrev Jn:=Option (Int×Int)
def FN:Jn:=if(Ci (Ac c) (Ae 64 z))then
some (0,24)
else(Ca c (Ah (Ae 64 z) 32) (Ae 64 z)).bind λe=>(Jz z d true).bind λi=>if(e !=i)then
some (0,12)
else
some ((Ae 64 z),0)
def GD:=FN
def FF(j4:LB->Int->Int->Jn)(a:LB):Jn:=if(Ci (Ac a) 32)then
some (0,24)
else(Ca a 0 32).bind λk=>(Tu k).bind λ(b,f,m)=>if(!m)then
some (0,12)
else(Ca a 0 32).bind λn=>(Tx b f).bind λo=>if(n !=o)then
some (0,12)
else
j4 a b f
def FM:=FF GD
def EY(j3:LB->Jn)(a:LB):Jn:=if(Ci (Ac a) 8)then
some (0,6)
else(Ca a 0 8).bind λp=>if(p !=([65,80,69,84,65,71,69,88]:LB))then
some (0,6)
else
j3 a
def Zf:=EY FM
abbrev Fh:=Option (LI×Int)
def FL(Q4:Int->LI->Fh)(a:LB)(b:Int)(f:LI)(g h:Int):Fh:=if(geq h 6)then
some (f,0)
else
if(Bl h 0)then
some (([]:LI),h)
else
if(Dq (Ae b g) 4000)then
some (([]:LI),4)
else(Cm f ([g]:LI)).bind λm=>Q4 (Ae b g) m
def Mi Q4:=FL Q4
def To(j9:Int->LI->Int->Int->Fh)(a:LB)(b:Int)(f:LI):Fh:=(Ca a b (Ac a)).bind λn=>(BY n).bind λ(o,k)=>if(geq k 6)then(Ca a b (Ac a)).bind λp=>(Zf p).bind λ(u,v)=>j9 b f u v
else
j9 b f o k
def Mc:Nat->Int->LI->Fh
|0,_,_=>none
|z+1,d,e=>To (Mi (Mc z) c) c d e
def Bba a:=Mc a Aq
def Bar(j6:LB->Int->LI->Fh)(a:LB):Fh:=j6 a 0 ([]:LI)
def Aao:=Bar Bba
abbrev Fm:=Option (Int×Int)
def EX:Fm:=some (d,z)
def GB:=EX
def Sy(j6:Int->Int->Fm)(Oc:Int->Int->Fm)(a:Int)(b:LI)(f g:Int):Fm:=if(Ci g (Ac b))then(Aj b g).bind λ_=>(Aj b g).bind λh=>Oc (Ae f h) (Ae g 1)
else
j6 a f
def Ig:Nat->Int->Int->Fm
|0,_,_=>none
|c+1,d,e=>Sy GB (Ig c) z T d e
def Tc a b:=Ig a b Aq
def FJ(j4:Int->LI->Int->Int->Fm)(k:LB):Fm:=(Aao k).bind λ(b,a)=>j4 a b 0 0
def Ma:=FJ Tc
def Oi:Bgh:=if(Ci (Ac c) (Ac i))then(Ca i 0 (Ac c)).bind λz=>some (c==z)
else
some false
def JP:Bgs:=if Bfd then
some (Ri (Cb L 2) 3988292384)
else
some (Cb L 2)
def IP:=JP
def IB(j2:UInt32->Bool->Option UInt32)(a:UInt32)(f:Int):Bgs:=if(geq f 1)then
j2 a (!(geq (AX a 2) 1))
else
j2 a (geq (AX a 2) 1)
def DQ:=IB IP
def KC:Bgs:=some L
def KW:=KC
abbrev Bhz:=UInt32->Option UInt32
abbrev Bhc:=UInt32->UInt8->Int->Option UInt32
def Vk(j6:Bhz)(Oc:Bhc)(a:UInt32)(b:UInt8)(f:Int):Bgs:=if(Ci f 8)then(DQ a (Ad (AX b 2):Int)).bind λg=>Oc g (Cb b 2) (Ae f 1)
else
j6 a
def Jl:Nat->UInt32->UInt8->Int->Option UInt32
|0,_,_,_=>none
|q+1,a,b,f=>Vk KW (Jl q) a b f
def Bbo:=Jl Aq
def Bc2(j4:Bhc)(h:UInt32)(k:UInt8):Bgs:=j4 h k 0
def Ad3:=Bc2 Bbo
def CQ:Bgs:=some L
def EJ:=CQ
def Qm(j6:Bhz)(Oc:UInt32->Int->Option UInt32)(a:LB)(b:UInt32)(f:Int):Bgs:=if(Ci f (Ac a))then(Aj a f).bind λg=>(Ad3 b g).bind λh=>Oc h (Ae f 1)
else
j6 b
def Ho:Nat->UInt32->Int->Option UInt32
|0,_,_=>none
|z+1,d,e=>Qm EJ (Ho z) c d e
def DI a:=Ho a Aq
def CJ(j4:LB->UInt32->Int->Option UInt32)(k:UInt32)(a:LB):Bgs:=j4 a k 0
def ML:=CJ DI
def Rt:Bgs:=(ML 4294967295 c).bind λz=>some (Ah 4294967295 z)
abbrev Gc:=Option (Int×Int×Int×Int×Int×Int)
def JK:Gc:=(Xj (Ad A:Int) (Ad P:Int) (Ad Bey:Int) (Ad Y:Int) (Ad Bfa:Int)).bind λz=>if(!z)then
some (0,0,0,0,0,12)
else(EB (Ad A:Int) (Ad P:Int) (Ad Bey:Int) (Ad Y:Int) (Ad Bfa:Int)).bind λc=>if c then
some (0,0,0,0,0,4)
else
some ((Ad A:Int),(Ad P:Int),(Ad Bey:Int),(Ad Y:Int),(Ad Bfa:Int),0)
def JX:=JK
def JL(j6:UInt64->UInt64->UInt64->UInt64->UInt64->Gc)(a:LB):Gc:=(Ca a 4 6).bind λu=>(Ca a 6 8).bind λp=>(Ca a 8 10).bind λo=>(Ca a 10 14).bind λn=>(Ca a 14 18).bind λm=>(
(Dc u).bind λk=>(
(Dc p).bind λh=>(
(Dc o).bind λg=>(
(Dc n).bind λf=>(
(Dc m).bind λb=>(
j6 k h g f b))))))
def KF:=JL JX
def JC(j5:LB->Gc)(a:LB):Gc:=if(Ci (Ac a) 22)then
some (0,0,0,0,0,24)
else(Ca a 18 22).bind λy=>(Ca a 0 18).bind λaa=>(Dc y).bind λab=>(Rt aa).bind λac=>if(Bl ab (Ad ac:UInt64))then
some (0,0,0,0,0,22)
else
j5 a
def KB:=JC KF
def IX(j4:LB->Gc)(a:LB):Gc:=(Ca a 0 (Gf 4 (Ac a))).bind λad=>(Ca ([84,84,65,49]:LB) 0 (Gf 4 (Ac a))).bind λae=>if(ad !=ae)then
some (0,0,0,0,0,12)
else
j4 a
def Nl:=IX KB
abbrev Ql:=Option (Int×Int×Int×Int×Int×Int×Int)
def AF:Ql:=(Nl i).bind λ(c,d,e,j,A,B)=>if(geq B 24)then
some (0,0,0,0,0,0,(-1:Int))
else
some ((Ae z 22),c,d,e,j,A,B)
def Ahu:=AF
def Ai8(j2:Int->LB->Ql)(f:LB):Ql:=(Ma f).bind λ(b,g)=>if(geq g 24)then
some (0,0,0,0,0,0,(-1:Int))
else
if(Bl g 0)then
some (0,0,0,0,0,0,g)
else(Ca f b (Ac f)).bind λa=>(Oi a ([73,68,51]:LB)).bind λu=>if u then
some (0,0,0,0,0,0,(-1:Int))
else(Oi a ([65,80,69,84,65,71,69,88]:LB)).bind λv=>if v then
some (0,0,0,0,0,0,(-1:Int))
else
j2 b a
def Uy:=Ai8 Ahu
def KE:Bgi:=if Bfd then
some (Ri (Bd A 2) 4823603603198064275)
else
some (Bd A 2)
def Ue:=KE
def JH(j2:UInt64->Bool->Option UInt64)(a:UInt64)(f:Int):Bgi:=if(geq f 1)then
j2 a (!(Lj a 9223372036854775808))
else
j2 a (Lj a 9223372036854775808)
def DR:=JH Ue
def KK:Bgi:=some A
def ID:=KK
def Vr:Bgi:=if(Dq q9 0)then(Hu (Bl q9 0)).bind λ_=>(DR Bfx (Ge (Cb (Ad Bfc:Int) q9) 2)).bind λz=>Bes z (Cb q9 2)
else
Ber Bfx
def Jm:Nat->UInt64->Int->Option UInt64
|0,_,_=>none
|z+1,c,d=>Vr ID (Jm z) Bfc c d
def Bbk b:=Jm b Aq
def Bbq(j4:UInt8->UInt64->Int->Option UInt64)(h:UInt64)(b:UInt8):Bgi:=j4 b h 128
def Acl:=Bbq Bbk
def DH:Bgi:=some A
def DF:=DH
def Qw:Bgi:=if(Ci o8 (Ac Be6))then(Aj Be6 o8).bind λz=>(Acl Y z).bind λc=>Bes c (Ae o8 1)
else
Ber Y
def Hn:Nat->UInt64->Int->Option UInt64
|0,_,_=>none
|z+1,d,e=>Qw DF (Hn z) c d e
def Baa a:=Hn a Aq
def Ba3(j4:Bhh)(k:UInt64)(a:LB):Bgi:=j4 a k 0
def Wx:=Ba3 Baa
def Ad1:Bgi:=(Wx 0 c).bind λz=>some z
def Jp:Bgf:=(Ad1 c).bind λz=>(Dz z 8).bind λd=>some d
abbrev Dt:=Option (LI×Int)
def JS:Dt:=(It D).bind λz=>if(Bl z 0)then
some (([]:LI),12)
else
some (D,0)
def Uw:=JS
def Uq(j8:LI->Dt)(Q4:Int->LI->Dt)(b:LB)(a g:Int)(f:LI):Dt:=if(Ci g a)then(Ca b (Bd 4 g) (Ae (Bd 4 g) 4)).bind λk=>(Dc k).bind λm=>(Cm f ([(Ad m:Int)]:LI)).bind λn=>Q4 (Ae g 1) n
else
j8 f
def Jk:Nat->Int->LI->Dt
|0,_,_=>none
|d+1,e,i=>Uq Uw (Jk d) c z e i
def KH b a:=Jk b a Aq
def IF(j6:LB->Int->Int->LI->Dt)(b:LB)(a:Int):Dt:=j6 b a 0 ([]:LI)
def JB:=IF KH
def IG(j5:LB->Int->Dt)(b:LB)(a:Int):Dt:=if((Ci a 1)||(Dq a 1000))then
some (([]:LI),2)
else
if(Ci (Ac b) (Ae (Bd 4 a) 4))then
some (([]:LI),24)
else(Ca b (Bd 4 a) (Ae (Bd 4 a) 4)).bind λo=>(Ca b 0 (Bd 4 a)).bind λp=>(Dc o).bind λu=>(Rt p).bind λv=>if(Bl u (Ad v:UInt64))then
some (([]:LI),22)
else
j5 b a
def Np:=IG JB
abbrev Is:=Option (Int×LI×Int)
def Bae:Is:=if(geq d 24)then
some (0,([]:LI),(-1:Int))
else
some ((Ae (Ae z (Bd 4 (Ac T))) 4),T,d)
def Bac:=Bae
def Baj(j4:Int->Int->LI->Is)(a:LB)(b k m n o f:Int):Is:=(Ca a f (Ac a)).bind λp=>(JM b k m n o).bind λu=>(Np p (Ac u)).bind λ(h,g)=>j4 f g h
def Bad:=Baj Bac
def Baf(j3:LB->Jz6 Is)(a:LB)(b k m n o:Int)(v:LB):Is:=if(geq b 2)then
if(Ci (Ac a) 8)then
some (0,([]:LI),(-1:Int))
else(Ca a 0 8).bind λw=>(Jp v).bind λy=>if(w !=y)then
some (0,([]:LI),26)
else
j3 a b k m n o 8
else
j3 a b k m n o 0
def Bce:=Baf Bad
def Ad0:Bgw:=if(Dq (Ac p8) 100000)then
some (0,4)
else(Wx A p8).bind λz=>some (z,0)
def Aej:Bgw:=(Ad0 0 c).bind λ(z,d)=>some (z,d)
def Bcf:Bgl:=some e
def Bcd:=Bcf
def Ab8(Q4:Bg4)(b:UInt64)(f:Int)(a:LX)(g:Int32):Bgl:=(Aj a f).bind λ_=>(He a f g).bind λh=>Q4 (Cb b 256) (Ae f 1) h
def Zg Q4:=Ab8 Q4
def Za(j8:UInt64->Int->LX->Int32->Option (LX))(j10:Bhs)(b:UInt64)(f:Int)(a:LX):Bgl:=if(Ci f 8)then
if(Dq (Ad (AX b 256):Int32) 127)then
j8 b f a (Ah (Ad (AX b 256):Int32) 256)
else
j8 b f a (Ad (AX b 256):Int32)
else
j10 a
def Jd:Nat->UInt64->Int->LX->Option (LX)
|0,_,_,_=>none
|q+1,b,f,a=>Za (Zg (Jd q)) Bcd b f a
def Bcm:=Jd Aq
def Bcv(j6:Bg4)(k:UInt64):Bgl:=j6 k 0 (List.replicate 16 (0:Int32))
def Ajb:=Bcv Bcm
def Jt:Bhe:=if(Dq (Ac c) 64)then
some (([(0:Int32),(0:Int32),(0:Int32),(0:Int32),(0:Int32),(0:Int32),(0:Int32),(0:Int32),(0:Int32),(0:Int32),(0:Int32),(0:Int32),(0:Int32),(0:Int32),(0:Int32),(0:Int32)]:LX),2)
else(Aej c).bind λ(z,d)=>(Ajb z).bind λe=>some (e,0)
def Xa:Bgf:=(Rt c).bind λz=>(Cm ([]:LB) c).bind λd=>(Cm d ([(Ad z:UInt8),(Ad (Bw z (GI.toZ (8:UInt64)).toNat):UInt8),(Ad (Bw z (GI.toZ (16:UInt64)).toNat):UInt8),(Ad (Bw z (GI.toZ (24:UInt64)).toNat):UInt8)]:LB)).bind λe=>some e
def Og:Bgd:=if(Ci (Ac c) 5)then
some 24
else
if(Dq (Ac c) 41254)then
some 4
else(Ca c 0 (Ah (Ac c) 4)).bind λz=>(Xa z).bind λd=>if(d !=c)then
some 22
else
some 0
def Lp:Bhb:=some (10,10,16384,16384)
def Bb1:Bgi:=some A
def Bap:=Bb1
def Tn:Bgi:=if(Ci o8 Bfj)then
Bes (Bd Y 2) (Ae o8 1)
else
Ber Y
def Ie:Nat->UInt64->Int->Option UInt64
|0,_,_=>none
|c+1,d,e=>Tn Bap (Ie c) z d e
def Bay b:=Ie b Aq
def Bam(j4:Int->UInt64->Int->Option UInt64)(b:Int):Bgi:=j4 b 1 0
def Fj:=Bam Bay
def GU(a g:Int)(h k:UInt64)(b:UInt32):Bgh:=(Fj a).bind λf=>some (Ci (Ad b:UInt64) f)
def CY(a g:Int)(h k:UInt64)(b:UInt32):Bgs:=(Fj a).bind λf=>some (Ad (Ah (Ad b:UInt64) f):UInt32)
abbrev Xp:=Option (Int×UInt64)
def KP:Xp:=if(Ci z 24)then(Fj (Ae z 5)).bind λc=>if(Dq (Ah (Ae A P) (Cb A 16)) c)then
some ((Ae z 1),(Ah (Ae A P) (Cb A 16)))
else
some (z,(Ah (Ae A P) (Cb A 16)))
else
some (z,(Ah (Ae A P) (Cb A 16)))
def Ug:=KP
def JF(j2:Int->UInt64->UInt64->Xp)(b:Int)(a f:UInt64):Xp:=if(Dq b 0)then(Fj (Ae b 4)).bind λh=>if(Ci (Ah (Ae a f) (Cb a 16)) h)then
some ((Ah b 1),(Ah (Ae a f) (Cb a 16)))
else
j2 b a f
else
j2 b a f
def Tw:=JF Ug
abbrev Ti:=Option (Int×Int×UInt64×UInt64)
def DP(f:UInt32)(g a:Int)(h b:UInt64)(w:Int)(y:UInt64):Ti:=(Tw g h (Ad f:UInt64)).bind λ(aa,ab)=>some (aa,w,ab,y)
def Qq:=DP
def BL(j2:UInt32->Int->Int->UInt64->UInt64->Int->UInt64->Ti)(g a:Int)(h b:UInt64)(f:UInt32):Ti:=(GU g a h b f).bind λo=>if(!o)then(
(
(CY g a h b f).bind λk=>(Tw a b (Ad k:UInt64)).bind λ(m,n)=>j2 f g a h b m n))
else
j2 f g a h b a b
def Wu:=BL Qq
abbrev Er:=Option (Int×Int×UInt64×UInt64)
def Ba8:Er:=some (z,d,A,P)
def Ba2:=Ba8
def DN(j6:Int->Int->UInt64->UInt64->Er)(Oc:Jz3 (UInt64->UInt64->Er))(a:Int)(b:LU)(m f g:Int)(h k:UInt64):Er:=if(Ci m (Ac b))then(Aj b m).bind λn=>(Wu f g h k n).bind λ(o,p,u,v)=>Oc (Ae m a) o p u v
else
j6 f g h k
def Lb:Nat->Jz3 (UInt64->UInt64->Er)
|0,_,_,_,_,_=>none
|c+1,d,e,i,j,A=>DN Ba2 (Lb c) z R d e i j A
def Bai a b:=Lb a b Aq
def CG(j4:Int->LU->Jz3 (UInt64->UInt64->Er))(a:Int)(b:LU):Er:=(Lp).bind λ(w,y,aa,ab)=>(Hu (Bl a 0)).bind λ_=>j4 a b (Ge (Ac b) a) w y aa ab
def Oe:=CG Bai
def Ac3:Bgd:=some (Ge z 2)
def Ach:=Ac3
def Zh:Bgd:=if(Ci Bfb (Ge Be8 8))then
Bet (Cb Beu 2) (Ae Bfb 1)
else
Be0 Beu
def Mb:Nat->Int->Int->Option Int
|0,_,_=>none
|c+1,d,e=>Zh Ach (Mb c) z d e
def Ac4 a:=Mb a Aq
def Ac5(j4:Jz3 (Option Int))(g:LB)(k a:Int):Bgd:=(Aj g (Cb a 8)).bind λh=>j4 a (Ad h:Int) 0
def Kh:=Ac5 Ac4
abbrev Eb:=Option (LB×Int)
def MP:Eb:=(Aj i (Cb j 8)).bind λ_=>(Aj i (Cb j 8)).bind λc=>(Aj i (Cb j 8)).bind λ_=>(He i (Cb j 8) (Ae c (Ad (Bd z d):UInt8))).bind λe=>some (e,(Ae j 1))
def Wv:=MP
def Xr(j8:Jz3 (LB->Eb))(Q4:Int->Int->Eb)(b a:Int)(f:LB)(g h:Int):Eb:=if(Ci h (Ge a 8))then
Q4 (Bd g 2) (Ae h 1)
else
j8 b g a f
def Ks:Nat->Int->Int->Eb
|0,_,_=>none
|c+1,e,j=>Xr Wv (Ks c) z d i e j
def MO b a f:=Ks b a f Aq
def MY(j6:Int->Int->LB->Int->Int->Eb)(b a:Int)(f:LB):Eb:=j6 b a f 1 0
def Wy:=MY MO
def MR(j5:Int->Int->LB->Eb)(k:LB)(a b:Int):Eb:=if(geq (Ge a 8) 0)then(Cm k ([(0:UInt8)]:LB)).bind λo=>j5 b a o
else
j5 b a k
def Vw:=MR Wy
abbrev Ee:=Option (LB×Int)
def Azx:Ee:=some (i,z)
def Azu:=Azx
def Pv(j6:Int->LB->Ee)(Oc:Int->Int->LB->Ee)(f:Int)(g:LB)(h k a:Int)(b:LB):Ee:=if(Ci k f)then(Kh g h k).bind λm=>(Vw b a m).bind λ(n,o)=>Oc (Ae k 1) o n
else
j6 a b
def Gw:Nat->Int->Int->LB->Ee
|0,_,_,_=>none
|c+1,d,e,j=>Pv Azu (Gw c) z i B d e j
def Azt f g h:=Gw f g h Aq
def Azy(j4:Int->LB->Jz3 (LB->Ee))(g:LB)(h p f:Int):Ee:=j4 f g h p 0 ([]:LB)
def JN:=Azy Azt
def Bb5:Bgi:=some A
def Bat:=Bb5
def Tk:Bgi:=if(Lj o8 0)then(Kh Be6 Bf9 (Ae Bfj o8)).bind λz=>Bes (Ae (Bd 2 Y) (Ad z:UInt64)) (Ah o8 1)
else
Ber Y
def If:Nat->UInt64->Int->Option UInt64
|0,_,_=>none
|c+1,d,e=>Tk Bat (If c) z i B d e
def FG b f g:=If b f g Aq
def FP(j4:Int->LB->Int->UInt64->Int->Option UInt64)(f:LB)(g b m:Int):Bgi:=j4 b f g 0 (Ah m 1)
def Re:=FP FG
abbrev Gl:=Option (Int×Int)
def NB(b a:Int)(g:LB)(f:Int):Gl:=if(geq a 48)then
some (a,(Ae b a))
else
if(Lj (Ae b a) f)then
some ((-1:Int),0)
else
some (a,(Ae (Ae b a) 1))
def Xq:=NB
def Xm(j6:Int->Int->LB->Int->Gl)(Oc:Int->Gl)(b:Int)(g:LB)(f a:Int):Gl:=if((Ci (Ae b a) f)&&(Ci a 48))then(Kh g f (Ae b a)).bind λh=>if(geq h 1)then
Oc (Ae a 1)
else
j6 b a g f
else
j6 b a g f
def Kk:Nat->Int->Gl
|0,_=>none
|c+1,d=>Xm Xq (Kk c) z i B d
def Bcc b g f:=Kk b g f Aq
def Bch(j4:Int->LB->Int->Int->Gl)(g:LB)(f b:Int):Gl:=j4 b g f 0
def Adw:=Bch Bcc
def BF:Bgd:=(Fj G).bind λz=>(Hu (Bl z 0)).bind λ_=>some (Ad (Gf 48 (Cb (Ad L:UInt64) z)):Int)
abbrev Zc:=Option (UInt32×Int×Int)
def Xd:Zc:=if((Ci d 0)||(Ci (Ah B j) I))then
some (0,0,24)
else(Re i B j I).bind λc=>if(Ci d 48)then(Fj z).bind λe=>some ((Ad (Ae (Bd (Ad d:UInt64) e) c):UInt32),(Ae j I),0)
else(BF (Ad c:UInt32) z).bind λA=>if(Ci A d)then
some (0,0,12)
else
some ((Ad c:UInt32),(Ae j I),0)
def Xo:=Xd
def MM(j2:Jz3 (LB->Int->Int->Zc))(h:LB)(f n g:Int):Zc:=if(Lj n f)then
some (0,0,24)
else(Adw h f n).bind λ(a,b)=>if(geq a 48)then
j2 g a b h f 32
else
j2 g a b h f g
def HB:=MM Xo
def GX(g:LB)(b a f n:Int)(v w:UInt64):Option (UInt32×Int×Int):=if(Lj a b)then
some (0,0,24)
else(Kh g b a).bind λo=>if(geq o 0)then
if(Ci (Ah (Ah b a) 1) f)then
some (0,0,24)
else(Re g b (Ae a 1) f).bind λp=>some ((Ad p:UInt32),(Ae (Ae a 1) f),0)
else(HB g b (Ae a 1) n).bind λ(h,u,k)=>if(Bl k 0)then
some (0,0,k)
else(Fj f).bind λm=>if(Dq (Ae (Ad h:UInt64) m) 4294967295)then
some (0,0,12)
else
some ((Ad (Ae (Ad h:UInt64) m):UInt32),u,0)
abbrev Bk:=Option (LU×Int)
def Bb6:Bk:=some (R,0)
def Bav:=Bb6
def Tf(j18:LU->Bk)(Li:Int->Bk)(a:LB)(b:LU)(m:Int):Bk:=if(Ci m (Bd 8 (Ac a)))then(Kh a (Bd 8 (Ac a)) m).bind λn=>if(Bl n 0)then
some (b,12)
else
Li (Ae m 1)
else
j18 b
def Ij:Nat->Int->Bk
|0,_=>none
|z+1,d=>Tf Bav (Ij z) c R d
def FH a b:=Ij a b Aq
def FA(j16:LB->LU->Int->Bk)(f:Int)(a:LB)(b:LU):Bk:=if(Dq (Ah (Bd 8 (Ac a)) f) 7)then
some (b,12)
else
j16 a b f
def Tq:=FA FH
def FQ(VM:Int->Int->LU->Bk)(g h:Int)(a:LB)(f k:Int)(b:LU)(p u:Int)(v w:UInt64):Bk:=(JN a (Bd 8 (Ac a)) f (Gf (Ae f 81) (Bd 8 (Ac a)))).bind λ(y,aa)=>(GX y aa 0 p u v w).bind λ(ab,ac,o)=>if(Bl o 0)then
some (b,o)
else(Cm b ([ab]:LU)).bind λad=>VM (Ae f ac) (Ae k 1) ad
def Ih VM:=FQ VM
def FW(j13:Int->Int->LU->Int->Int->UInt64->UInt64->Bk)(j15:Int->LB->LU->Bk)(g h:Int)(a:LB)(f k:Int)(b:LU):Bk:=if(Ci k (Bd h g))then(Lp).bind λ(n,ae,af,ag)=>if(Lj k g)then(Oe g b).bind λ(ah,ai,aj,ak)=>j13 f k b ah ai aj ak
else
j13 f k b n ae af ag
else
j15 f a b
def Es:Nat->Int->Int->LU->Bk
|0,_,_,_=>none
|c+1,e,j,A=>FW (Ih (Es c) z d i) Tq z d i e j A
def Bas g h a:=Es g h a Aq
def JZ(j10:Int->Int->LB->Int->Int->LU->Bk)(g h:Int)(a:LB):Bk:=j10 g h a 0 0 ([]:LU)
def BI:=JZ Bas
def Bcw:Bgj:=if(geq z 8)then
some (4,0)
else
if((geq z 16)||(geq z 24))then
some (5,0)
else
some (0,2)
def Bdd:Option (Int×LX×LX×Int):=(Bcw z).bind λ(c,d)=>if(Bl d 0)then
some (0,(List.replicate 16 (0:Int32)),(List.replicate 16 (0:Int32)),2)
else
if(geq z 16)then
some (9,e,(List.replicate 16 (0:Int32)),0)
else
some (10,e,(List.replicate 16 (0:Int32)),0)
def Ado:Bg7:=(Bdd z e).bind λ(c,d,i,j)=>if(Bl j 0)then
some (0,0,0,(List.replicate 16 (0:Int32)),(List.replicate 16 (0:Int32)),2)
else
some (z,0,c,d,i,0)
def CC:Bgq:=if(geq (AX L 2) 0)then
some (Ad (Cb L 2):Int32)
else
some (Ad (Cb (pJ (Ae (Ad L:Int) 1)) 2):Int32)
def Cl:Bgq:=some (Ad (Ad (Ad z:UInt64):UInt32):Int32)
def NF:Bgq:=some (Ad z:Int32)
def MN:=NF
def Ws(j6:Int->Option Int32)(Oc:Int->Int->Option Int32)(h:Int)(b f:LX)(g a:Int):Bgq:=if(Ci a 16)then(Aj b a).bind λ_=>(Aj f a).bind λ_=>(Aj b a).bind λk=>(Aj f a).bind λm=>(Cl (Bd (Ad k:Int) (Ad m:Int))).bind λn=>(Cl (Ae g (Ad n:Int))).bind λo=>Oc (Ad o:Int) (Ae a 1)
else
j6 g
def Kq:Nat->Int->Int->Option Int32
|0,_,_=>none
|c+1,d,i=>Ws MN (Kq c) z e J d i
def Bc7 h b f:=Kq h b f Aq
def Bcg(j4:Int->LX->LX->Int->Int->Option Int32)(h:Int)(b f:LX):Bgq:=j4 h b f 0 0
def Adq:=Bcg Bc7
def II:Bgq:=(Adq z e J).bind λc=>(Cl (Ae (Ad c:Int) (Cb G 2))).bind λd=>(Hu (Bl G 0)).bind λ_=>(Hu (Bl G 0)).bind λ_=>if(Ci (Ge (Ad d:Int) G) 0)then
some (Ad (Ah (Cb (Ad d:Int) G) 1):Int32)
else
some (Ad (Cb (Ad d:Int) G):Int32)
def Vm:=II
def IQ(j2:Int->LX->LX->Int->Option Int32)(b:Int)(f g:LX):Bgq:=if(geq b 9)then
j2 b f g 512
else
j2 b f g 1024
def CN:=IQ Vm
def EC:Bgq:=if(geq z 0)then
some 4
else
if(y_ z 3)then
some 2
else
some 1
def Ts:Bgq:=if(Ci C 0)then
some (-1:Int32)
else
if(Dq C 0)then
some 1
else
some 0
abbrev Ed:=Option (Int×LX×LX)
def Azz:Ed:=some (z,e,J)
def Azw:=Azz
def Pa(j6:Int->LX->LX->Ed)(Oc:Int->LX->Ed)(h:Int32)(g:Int)(b:LX)(a:Int)(f:LX):Ed:=if(Ci a 16)then(Aj f a).bind λ_=>(Aj b a).bind λ_=>(Aj f a).bind λk=>(Aj b a).bind λm=>(EC a).bind λn=>(Ts m).bind λo=>(Ts h).bind λp=>(Aj f a).bind λ_=>(He f a (Ae k (Bd (Bd n o) p))).bind λu=>Oc (Ae a 1) u
else
j6 g f b
def Gz:Nat->Int->LX->Ed
|0,_,_=>none
|z+1,c,d=>Pa Azw (Gz z) C E l7 c d
def Azr h g b:=Gz h g b Aq
def Azp(j4:Int32->Int->LX->Int->LX->Ed)(g:Int)(v b:LX)(h:Int32):Ed:=j4 h g b 0 v
def IH:=Azp Azr
abbrev Eo:=Option (Int×LX×LX)
def CF:Eo:=(Aj l9 0).bind λ_=>(He l9 0 C).bind λz=>some (E,l7,z)
def BC:=CF
def Rl(j6:Int32->Int->LX->LX->Eo)(Oc:Int->LX->Eo)(b:Int32)(f:Int)(g:LX)(h:Int)(a:LX):Eo:=if(Dq h 0)then(Aj a (Ah h 1)).bind λ_=>(Aj a (Ah h 1)).bind λm=>(Aj a h).bind λ_=>(He a h m).bind λn=>Oc (Ah h 1) n
else
j6 b f g a
def Hq:Nat->Int->LX->Eo
|0,_,_=>none
|z+1,c,d=>Rl BC (Hq z) C E l7 c d
def Bab b f g:=Hq b f g Aq
def Ba6(j4:Int32->Int->LX->Int->LX->Eo)(f:Int)(g o:LX)(b:Int32):Eo:=j4 b f g 15 o
def MJ:=Ba6 Bab
def Um:Option (Int32×Int×LX×LX):=(CN z e J).bind λc=>(Cl (Ae (Ad C:Int) (Ad c:Int))).bind λd=>(IH z e J C).bind λ(i,j,A)=>(MJ i j A d).bind λ(B,D,E)=>some (d,B,D,E)
def BH:Bgq:=(Hu (Bl E 0)).bind λ_=>(Hu (Bl E 0)).bind λ_=>if(Ci (Ge (Bd (Ah E 1) (Ad C:Int)) E) 0)then
some (Ad (Ah (Cb (Bd (Ah E 1) (Ad C:Int)) E) 1):Int32)
else
some (Ad (Cb (Bd (Ah E 1) (Ad C:Int)) E):Int32)
def Rb:=BH
def DS(j2:Int32->Int->Option Int32)(f:Int)(b:Int32):Bgq:=if(geq f 5)then
j2 b 32
else
j2 b 16
def Oh:=DS Rb
def Xh(b:Int)(a:Int32)(h:Int)(k m:LX):Bgd:=if(geq b 8)then(Oh 4 a).bind λf=>some (Ad f:Int)
else(Oh 5 a).bind λg=>some (Ad g:Int)
def Uh:Option (Int32×Int×Int32×Int×LX×LX):=(Um E l7 l9 Be7).bind λ(c,d,e,i)=>(Xh z C E l7 l9).bind λj=>(Cl (Ae (Ad c:Int) j)).bind λA=>some (A,z,A,d,e,i)
def Qr:Bgd:=if((Ci z 1)||(Dq z 6))then
some 2
else
if(Dq (Ac e) 4000)then
some 4
else(Hu (Bl z 0)).bind λ_=>if(Dq (Ge (Ac e) z) 0)then
some 2
else
some 0
def Azv:Bgl:=some e
def Azs:=Azv
def Pr(j8:Bhs)(Q4:Bgz)(a:LX)(f:Int)(b:LX):Bgl:=if(Lj f 0)then(Aj b (Ae f 1)).bind λ_=>(Aj a f).bind λk=>(Aj b (Ae f 1)).bind λm=>(Cl (Ah (Ad m:Int) (Ad k:Int))).bind λn=>(Aj b f).bind λ_=>(He b f n).bind λo=>Q4 (Ah f 1) o
else
j8 b
def Gv:Nat->Int->LX->Option (LX)
|0,_,_=>none
|z+1,c,d=>Pr Azs (Gv z) e c d
def Azn a:=Gv a Aq
def AV(j6:LX->Int->LX->Option (LX))(a p:LX):Bgl:=j6 a (Ah (Ac a) 2) p
def Pd:=AV Azn
def Aia(j5:LX->LX->Option (LX))(a:LX):Bgl:=(vg (Ac a) (0:Int32)).bind λh=>(Hu (geq (Ac a) (Ac a))).bind λ_=>(Aj a (Ah (Ac a) 1)).bind λu=>(Aj h (Ah (Ac a) 1)).bind λ_=>(He h (Ah (Ac a) 1) u).bind λg=>if(Dq (Ac a) 1)then(Aj a (Ah (Ac a) 1)).bind λv=>(Aj a (Ah (Ac a) 2)).bind λw=>(Cl (Ae (Ad v:Int) (Cb (Ad w:Int) 2))).bind λy=>(Aj g (Ah (Ac a) 1)).bind λ_=>(He g (Ah (Ac a) 1) y).bind λaa=>j5 a aa
else
j5 a g
def Vi:=Aia Pd
abbrev Fy:=Option (LX×Int)
def Bby:Fy:=some (e,0)
def Bc1:=Bby
def KQ(j6:LX->Fy)(Oc:Int->LX->Fy)(a:Int)(b:LX)(g:Int)(f:LX):Fy:=if(Ci g (Ac b))then(Ca b g (Ae g a)).bind λh=>(Vi h).bind λk=>(Cm f k).bind λm=>Oc (Ae g a) m
else
j6 f
def Nh:Nat->Int->LX->Fy
|0,_,_=>none
|c+1,d,i=>KQ Bc1 (Nh c) z e d i
def Bbw a b:=Nh a b Aq
def IM(j4:Int->LX->Int->LX->Fy)(a:Int)(b:LX):Fy:=(Qr a b).bind λn=>if(Bl n 0)then(Qr a b).bind λo=>some (([]:LX),o)
else
j4 a b 0 ([]:LX)
def CE:=IM Bbw
def AL(b f:Int)(w:LX):Bgl:=(CE b w).bind λ(aj,ai)=>some aj
def Pb:=AL
def AN(Q3:Bgz)(a:LU)(b f:Int)(g:LX)(h:Int)(m:LX):Bgl:=Q3 (Ae h 1) m
def Aib Q3:=AN Q3
abbrev Bg2:=Int->LX->Int->Int32->Int->LX->LX->Option (LX)
def AD(VN:Bg2)(a:LU)(h b f:Int)(g:LX)(k:Int)(ah:LX)(y:Int)(aa:Int32)(ab:Int)(ac ad:LX):Bgl:=VN (Ae k b) ah y aa ab ac ad
def Ai6 VN:=AD VN
def AK(j30:Bg2)(a:LU)(h b f:Int)(g:LX)(k:Int)(ae:Int32)(m:LX)(n:Int)(o:Int32)(p:Int)(u v:LX)(y:Int)(aa:Int32)(ab:Int)(ac ad:LX):Bgl:=(Aj m k).bind λ_=>(He m k ae).bind λah=>j30 k ah y aa ab ac ad
def AP VN a h b f g:=AK (Ai6 VN a h b f g) a h b f g
def AJ(j29:Int->Int32->LX->Int->Int32->Int->LX->LX->Int->Int32->Int->LX->LX->Option (LX))(j32:Bgz)(a:LU)(b f:Int)(g:LX)(h k:Int)(m:LX)(n:Int)(o:Int32)(p:Int)(u v:LX):Bgl:=if(Ci k (Ac a))then(Aj a k).bind λag=>(
(CC ag).bind λaf=>(
(Uh n o p u v af).bind λ(ae,y,aa,ab,ac,ad)=>j29 k ae m n o p u v y aa ab ac ad))
else
j32 h m
def Jw(Q3:Bgz)(a:LU)(b f:Int)(g:LX)(h:Int):Nat->Int->LX->Int->Int32->Int->LX->LX->Option (LX)
|0,_,_,_,_,_,_,_=>none
|q+1,k,m,n,o,p,u,v=>AJ (AP (Jw Q3 a b f g h q) a h b f g) (Aib Q3 a b f g) a b f g h k m n o p u v
def AM Q3 a b f g h:=Jw Q3 a b f g h Aq
def Pc(j26:Int->Int->LX->Int->Int32->Int->LX->LX->Option (LX))(j34:Int->Int->LX->Option (LX))(a:LU)(b f:Int)(g:LX)(h:Int)(w:LX):Bgl:=if(Ci h b)then(Ado f g).bind λ(ak,ai,al,am,an,aq)=>j26 h h w ak ai al am an
else
j34 b f w
def Fa:Nat->Int->LX->Option (LX)
|0,_,_=>none
|z+1,c,d=>Pc (AM (Fa z) R y8 y9 Bfh) Pb R y8 y9 Bfh c d
def AW a b f g:=Fa a b f g Aq
def BW(j18:LU->Int->Int->LX->Int->LX->Option (LX))(b f:Int)(g:LX)(a:LU):Bgl:=(vg (Ac a) (0:Int32)).bind λao=>(Hu (geq (Ac a) (Ac a))).bind λ_=>j18 a b f g 0 ao
def Of:=BW AW
def Om(g f:Int)(a:LX):Bhe:=(Ap f a).bind λb=>if(Bl b 0)then
some (([]:LX),b)
else
some (a,0)
abbrev Td:=Option (LX×Int)
def Lc:Td:=if(Bl z 0)then
some (([]:LX),z)
else(
(
(Of d j e R).bind λc=>(Om d j c).bind λ(i,A)=>some (i,A)))
def Kw:=Lc
def Rp(j2:Jz3 (LX->LU->Td))(a b:Int)(g:LX)(p:Int)(k:LB):Td:=(Ec a b p).bind λy=>if(Bl y 0)then
some (([]:LX),2)
else(Og k).bind λaa=>if(Bl aa 0)then(Og k).bind λab=>some (([]:LX),ab)
else(Ca k 0 (Ah (Ac k) 4)).bind λac=>(BI a p ac).bind λ(h,f)=>j2 f a b g h
def Du:=Rp Kw
def Xi:Bgf:=if(geq z 24)then(Cm ([(Ad (Ge d 256):UInt8),(Ad (Ge (Cb d 256) 256):UInt8)]:LB) ([(Ad (Cb d 65536):UInt8)]:LB)).bind λc=>some c
else
some ([(Ad (Ge d 256):UInt8),(Ad (Ge (Cb d 256) 256):UInt8)]:LB)
def Kr:=Xi
def MX(j2:Bhx)(a:Int)(f:Int32):Bgf:=if(geq a 8)then
some ([(Ad (Ae (Ad f:Int) 128):UInt8)]:LB)
else
if(Ci (Ad f:Int) 0)then(Ht a).bind λh=>j2 a (Ae (Ad f:Int) (Bd 2 h))
else
j2 a (Ad f:Int)
def GF:=MX Kr
abbrev Fk:=Option (LB×Int)
def Bau:Fk:=some (c,0)
def Bax:=Bau
def Tj(j6:LB->Fk)(Oc:Int->LB->Fk)(b:Int)(a:LX)(g:Int)(f:LB):Fk:=if(Ci g (Ac a))then(Aj a g).bind λh=>(GF b h).bind λk=>(Cm f k).bind λm=>Oc (Ae g 1) m
else
j6 f
def Ik:Nat->Int->LB->Fk
|0,_,_=>none
|c+1,d,i=>Tj Bax (Ik c) z e d i
def Bb4 b a:=Ik b a Aq
def FT(j4:Int->LX->Int->LB->Fk)(b:Int)(a:LX):Fk:=(Ap b a).bind λn=>if(Bl n 0)then(Ap b a).bind λo=>some (([]:LB),o)
else
j4 b a 0 ([]:LB)
def Qn:=FT Bb4
abbrev Th:=Option (LB×Int)
def Ba1(o:LX)(f:Int)(p g:LB)(h k a m n:Int)(u:LI)(b:Int)(v:LB)(w:Bool)(y:Int):Th:=if(Bl f 0)then
some (([]:LB),f)
else(Qn a o).bind λ(ac,ai)=>some (ac,0)
def Bak:=Ba1
def Bag(j2:LX->Int->LB->LB->Jz5 (LI->Int->LB->Bool->Int->Th))(p g:LB)(h k a m n:Int)(u:LI)(b:Int)(v:LB)(w:Bool)(y:Int):Th:=(Aj u b).bind λaa=>if(Ci (Ac g) aa)then
some (([]:LB),(-1:Int))
else(Jt p).bind λ(ad,aj)=>(Ca g 0 aa).bind λae=>(Bct h k a m n).bind λ(af,ag)=>(JM h k a m n).bind λab=>(Aj ab b).bind λ_=>(Aj ab b).bind λah=>(Du af ag ad ah ae).bind λ(o,f)=>j2 o f p g h k a m n u b v w y
def Bc8:=Bag Bak
abbrev Kl:=Option (LB×LB×Int×Int×Int×Int×Int×LI×Int×LB×Bool×Int×Int)
def Bbt:Kl:=if(geq (Ac X) 0)then(Bce i B I U Z l5 c).bind λ(z,d,e)=>if(Bl e 0)then
some (c,i,B,I,U,Z,l5,X,l6,V,M,N,e)
else(Ca i z (Ac i)).bind λj=>some (c,j,B,I,U,Z,l5,d,l6,V,M,N,0)
else
if(geq l6 (Ac X))then
if(Dq (Ac i) 4000)then
some (c,i,B,I,U,Z,l5,X,l6,V,M,N,38)
else
some (c,i,B,I,U,Z,l5,X,l6,V,M,N,(-1:Int))
else(Bc8 c i B I U Z l5 X l6 V M N).bind λ(A,C)=>if(Bl C 0)then
some (c,i,B,I,U,Z,l5,X,l6,V,M,N,C)
else(Cm ([]:LB) V).bind λD=>(Cm D A).bind λE=>(
(
(
(Aj X l6).bind λF=>(
(Ca i F (Ac i)).bind λG=>some (c,G,B,I,U,Z,l5,X,(Ae l6 1),E,M,N,0)))))
def Bbv:=Bbt
def Bbn:Kl:=(Bco B I U Z l5 c).bind λz=>some (c,i,B,I,U,Z,l5,X,l6,V,M,N,z)
def Bbr:=Bbn
abbrev Bgx:=LB->LB->Jz5 (LI->Int->LB->Bool->Int->Kl)
def JI(j3:Bgx)(j4:Bgx)(g a:LB)(m n o p u:Int)(b:LI)(f:Int)(v:LB)(h:Bool)(k:Int):Kl:=if(geq m 0)then(Uy a).bind λ(ac,ae,w,af,ag,y,ai)=>if(Bl ai 0)then
some (g,a,m,n,o,p,u,b,f,v,h,k,ai)
else(
(Ca a ac (Ac a)).bind λad=>(
j3 g ad ae w af ag y b f v h k))
else
j4 g a m n o p u b f v h k
def DX:=JI Bbr Bbv
abbrev Ww:=Option (LB×LB×Int×Int×Int×Int×Int×LI×Int×LB×Bool×Int)
def Bbm:Ww:=(Cm ([]:LI) T).bind λe=>some (c,Bev,z,d,j,F,O,e,B,Bf5,M,N)
def Bbp:=Bbm
def Bbf(j2:LB->Jz5 (LI->Int->Bool->Int->LB->LB->Ww))(f w:LB)(g h k m n:Int)(o:LI)(p:Int)(y:LB)(u:Bool)(v:Int):Ww:=(
(
(
(Cm ([]:LB) w).bind λa=>(
(Cm ([]:LB) y).bind λb=>j2 f g h k m n o p u v a b))))
def Bd1:=Bbf Bbp
abbrev Bgt:=Option (LB×LB×Int×Int×Int×Int×Int×LI×Int×LB×Bool×Int×Int)
def Bea(b g:LB)(h k m n o:Int)(p:LI)(u:Int)(f:LB)(v:Bool)(w a:Int):Bgt:=some (b,([]:LB),0,0,0,0,0,([]:LI),0,f,false,a,a)
abbrev Vj:=Option (LB×LB×Int×Int×Int×Int×Int×LI×Int×LB×Bool×Int×Int)
def Bde(Z1:LB->Jz6 (LI->LB->Vj))(a:LB)(b:Bool)(f:Int)(av:LB)(aw ax ay az ba bb:Int)(dy:Bool)(dk:Int)(bc:LI)(bd:LB):Vj:=if dy then(Bcr a av aw ax ay az ba bc bb bd b f).bind λ(dz,fa,fb,ap,be,ae,fc,fd,fe,ff,fg,af)=>some (dz,fa,fb,ap,be,ae,fc,fd,fe,ff,fg,af,0)
else
if(Bl dk 0)then(Bea a av aw ax ay az ba bc bb bd b f dk).bind λ(fh,fi,fj,fk,fl,fm,fn,fo,fp,fq,fs,ft,fu)=>some (fh,fi,fj,fk,fl,fm,fn,fo,fp,fq,fs,ft,fu)
else
Z1 av aw ax ay az ba bb bc bd
def Ady Z1:=Bde Z1
def Bdj(j71:LB->Jz6 (Bool->Int->LI->LB->Vj))(a:LB)(b:Bool)(f m o n p u h:Int)(v:LB)(bf:Bool)(bg:Int)(bh:LB)(bi:LI):Vj:=j71 bh m o n p u h bf bg bi v
def Bdk Z1 a b f:=Bdj (Ady Z1 a b f) a b f
def Bdb(a m:LB)(n o p u v:Int)(w:LI)(y:Int)(b:LB)(aa:Bool)(ab:Int):Bgv:=(
(
(Cm ([]:LB) b).bind λf=>some (a,([]:LB),0,0,0,0,0,([]:LI),0,f,false,0)))
def Bci:Bgt:=(Bdb c i B I U Z l5 X l6 V M N).bind λ(z,d,e,j,A,C,D,E,F,G,J,L)=>some (z,d,e,j,A,C,D,E,F,G,J,Be3,Be3)
abbrev Xf:=Option (LB×LB×Int×Int×Int×Int×Int×LI×Int×LB×Bool×Int×Int)
def Bbu(bk3:LB->LB->Jz5 (LI->Int->LB->Bool->Int->Xf))(a b:LB)(f g h k m:Int)(n:LI)(o:Int)(p:LB)(u:Bool)(v:Int):Xf:=(DX a b f g h k m n o p u v).bind λ(bb,bc,bd,be,bf,bg,bh,bi,bj,bk,bl,bm,w)=>if(geq w (-1:Int))then(Bd1 a b f g h k m n o p u v).bind λ(bn,bp,bq,br,bs,bt,bu,bv,bw,bx,bz,da)=>some (bn,bp,bq,br,bs,bt,bu,bv,bw,bx,bz,da,0)
else
if(Bl w 0)then(Bci a b f g h k m n o p u v w).bind λ(db,dc,dd,de,df,dg,dh,di,dj,dk,dl,dm,dn)=>some (db,dc,dd,de,df,dg,dh,di,dj,dk,dl,dm,dn)
else
bk3 bb bc bd be bf bg bh bi bj bk bl bm
def KJ:Nat->LB->LB->Jz5 (LI->Int->LB->Bool->Int->Xf)
|0,_,_,_,_,_,_,_,_,_,_,_,_=>none
|q+1,a,b,f,g,h,k,m,n,o,p,u,v=>Bbu (KJ q) a b f g h k m n o p u v
abbrev Fz:=Option (Int×Int)
def Vp:Fz:=if(Ci (Ac c) N)then
some (0,24)
else
if(i==V)then(Ca c (Ah (Ac c) N) (Ae (Ah (Ac c) N) 32)).bind λe=>(Tx z d).bind λj=>if(e !=j)then
some (0,12)
else
some (N,0)
else
some (N,0)
def Vl:=Vp
def Uj(j6:LB->Int->Int->LB->LB->Int->Fz)(a:LB)(f g:Int)(b h:LB):Fz:=if(b==h)then
j6 a f g b h (Ae (Ae 32 f) 32)
else
j6 a f g b h (Ae 32 f)
def Ux:=Uj Vl
def KD(j5:LB->Int->Int->LB->LB->Fz)(a:LB):Fz:=(Ca a (Ah (Ac a) 32) (Ac a)).bind λb=>(Tu b).bind λ(f,g,n)=>if(!n)then
some (0,12)
else(Jz f g true).bind λh=>(
if(!(b==h))then(Jz f g false).bind λm=>if(b !=m)then
some (0,12)
else
j5 a f g b h
else
j5 a f g b h)
def KG:=KD Ux
def IC(j4:LB->Fz)(a:LB):Fz:=if(Ci (Ac a) 32)then
some (0,6)
else(Ca a (Ah (Ac a) 32) (Ae (Ah (Ac a) 32) 8)).bind λu=>if(u !=([65,80,69,84,65,71,69,88]:LB))then
some (0,6)
else
j4 a
def CB:=IC KG
abbrev Eu:=Option (Int×Int)
def Ba5:Eu:=some (z,0)
def Ba0:=Ba5
def EM(j6:Int->Eu)(Oc:LB->Int->Eu)(b:LB)(a:Int):Eu:=if(Dq (Ac b) 0)then(CB b).bind λ(g,h)=>if(Bl h 0)then
some (0,38)
else(Ca b 0 (Ah (Ac b) g)).bind λk=>Oc k (Ae a 1)
else
j6 a
def Le:Nat->LB->Int->Eu
|0,_,_=>none
|q+1,b,a=>EM Ba0 (Le q) b a
def Ba9:=Le Aq
def BK(j4:LB->Int->Eu)(f:LB):Eu:=if(Dq (Ac f) 4000)then
some (0,38)
else
j4 f 0
def Wz:=BK Ba9
abbrev UD:=Option (Int×Int×Int×Int×Int×Int×LI×Int)
def Al3:UD:=(Xx z d j F O).bind λ(e,i)=>if(Bl i 0)then
some (0,0,0,0,0,0,([]:LI),i)
else(Ca c Beq (Ac c)).bind λA=>(GZ A (Ac e)).bind λ(B,C)=>if(Bl C 0)then
some (0,0,0,0,0,0,([]:LI),C)
else
some (z,d,j,F,O,(Ae (Ae Beq (Bd 4 (Ac B))) 4),B,0)
def Po:=Al3
def Un(j2:LB->Jz6 UD)(a n:LB):UD:=if(Dq (Ac n) 64)then
some (0,0,0,0,0,0,([]:LI),2)
else
if(Dq (Ac a) 100000)then
some (0,0,0,0,0,0,([]:LI),4)
else(Vf a).bind λ(f,w)=>if(Bl w 0)then
some (0,0,0,0,0,0,([]:LI),w)
else(Ca a f (Ac a)).bind λad=>(JA ad).bind λ(b,g,h,k,m,y)=>if(Bl y 0)then
some (0,0,0,0,0,0,([]:LI),y)
else
if((n==([]:LB)) !=(geq b 1))then
some (0,0,0,0,0,0,([]:LI),26)
else
if(n !=([]:LB))then
if(Ci (Ac a) (Ae (Ae f 22) 8))then
some (0,0,0,0,0,0,([]:LI),24)
else(Ca a (Ae f 22) (Ae (Ae f 22) 8)).bind λae=>(Wg ae n).bind λ(af,aa)=>if(Bl aa 0)then
some (0,0,0,0,0,0,([]:LI),aa)
else
if(!af)then
some (0,0,0,0,0,0,([]:LI),26)
else
j2 a b g h k m (Ae (Ae f 22) 8)
else
j2 a b g h k m (Ae f 22)
def Ds:=Un Po
abbrev Ic:=Option (Int×Int×Int×Int×Int×Int×LI×Int)
def CD:Ic:=if(Bl d 0)then
some (0,0,0,0,0,0,([]:LI),d)
else
some (j,F,O,Beq,Be2,(Ae (Ae z (Bd 4 (Ac T))) 4),T,0)
def BQ:=CD
def BR(j4:Jz7 (LI->Ic))(a:LB)(b h k f g n:Int):Ic:=(Ca a n (Ac a)).bind λy=>(Dk f g).bind λaa=>(Np y (Ac aa)).bind λ(p,o)=>j4 n o b h k f g p
def Kv:=BR BQ
def Qk(j3:LB->Jz6 Ic)(a u:LB):Ic:=if(Dq (Ac a) 100000)then
some (0,0,0,0,0,0,([]:LI),4)
else(Ma a).bind λ(m,v)=>if(Bl v 0)then
some (0,0,0,0,0,0,([]:LI),v)
else(Ca a m (Ac a)).bind λab=>(Nl ab).bind λ(b,h,k,f,g,w)=>if(Bl w 0)then
some (0,0,0,0,0,0,([]:LI),w)
else
if((u==([]:LB)) !=(geq b 1))then
some (0,0,0,0,0,0,([]:LI),26)
else
if(geq b 2)then
if(Ci (Ah (Ac a) (Ae m 22)) 8)then
some (0,0,0,0,0,0,([]:LI),24)
else(Ca a (Ae m 22) (Ae (Ae m 22) 8)).bind λac=>(Jp u).bind λad=>if(ac !=ad)then
some (0,0,0,0,0,0,([]:LI),26)
else
j3 a b h k f g (Ae (Ae m 22) 8)
else
j3 a b h k f g (Ae m 22)
def Dw:=Qk Kv
def Bb9:Bgd:=some z
def Bb0:=Bb9
def Te(j6:Bgy)(Oc:Bh1)(b h k m n o f:Int)(g:LI)(a p:Int):Bgd:=if(Ci p b)then(Aj g p).bind λu=>Oc (Ae a u) (Ae p 1)
else
j6 a
def Io:Nat->Int->Int->Option Int
|0,_,_=>none
|c+1,e,i=>Te Bb0 (Io c) z d j F O Beq Be2 T e i
def Ban b h k m n o f g:=Io b h k m n o f g Aq
def Baz(j4:Jz7 (LI->Int->Int->Option Int))(h k m n o f:Int)(g:LI)(b:Int):Bgd:=j4 b h k m n o f g f 0
def Aa5:=Baz Ban
abbrev Zj:=Option (LB×Int)
def MZ(u:LX)(n o g f h k p:Int)(b:LI):Zj:=if(Bl n 0)then
some (([]:LB),n)
else(Qn f u).bind λ(af,ai)=>some (af,0)
def MU:=MZ
def MS(j2:LX->Jz7 (LI->Zj))(v y:LB)(o g f h k p:Int)(b:LI)(a:Int):Zj:=(Aa5 o g f h k p b a).bind λm=>(Aj b a).bind λaa=>if(Ci (Ah (Ac v) m) aa)then
some (([]:LB),24)
else(Jt y).bind λ(ab,ag)=>(Aj b a).bind λac=>(Ca v m (Ae m ac)).bind λad=>(
(Dk h k).bind λw=>(Aj w a).bind λ_=>(Aj w a).bind λae=>(Du g f ab ae ad).bind λ(u,n)=>j2 u n o g f h k p b)
def Pp:=MS MU
def Dj:Option (Int×Int×Int×Int×Int×Int×Int):=if(Dq (Ac c) 100000)then
some (0,0,0,0,0,0,4)
else(Ma c).bind λ(z,d)=>if(Bl d 0)then
some (0,0,0,0,0,0,d)
else(Ca c z (Ac c)).bind λe=>(Nl e).bind λ(i,j,A,B,C,D)=>some (z,i,j,A,B,C,D)
def MV(f:LB)(a g m n o p:Int)(b:LB):Bgj:=if((b==([]:LB)) !=(geq g 1))then
some (0,26)
else
if(b==([]:LB))then
some (a,0)
else
if(Ci (Ac f) (Ae a 8))then
some (0,24)
else(Ca f a (Ae a 8)).bind λh=>(Jp b).bind λk=>if(h !=k)then
some (0,26)
else
some ((Ae a 8),0)
def Lr(a:LB)(b o p u f g:Int):Bhm:=(Ca a b (Ac a)).bind λh=>(Dk f g).bind λk=>(Np h (Ac k)).bind λ(m,n)=>some (m,n)
abbrev Dv:=Option (Int×Int×Int×LX×Int)
def EZ:Dv:=(Ca c z (Ac c)).bind λi=>(Wz i).bind λ(A,B)=>if(Bl B 0)then
some (0,0,0,([]:LX),38)
else
some (d,j,F,e,0)
def FY:=EZ
def FB(bk7:Int->Int->LX->Dv)(a:LB)(o f g h n:Int)(b p:LI)(u:LX)(m k:Int)(y:LX)(w:Int)(v:LX):Dv:=if(Bl w 0)then
some (0,0,0,([]:LX),w)
else(Cm v y).bind λah=>(Aj b k).bind λ_=>(Aj b k).bind λai=>bk7 (Ae m ai) (Ae k 1) ah
def FZ bk7:=FB bk7
def Vo(j10:Int->Int->LX->Int->LX->Dv)(j12:LB->Jz4 (LX->Dv))(a:LB)(o f g h n:Int)(b p:LI)(u:LX)(m k:Int)(v:LX):Dv:=if(Ci k (Ac b))then(Aj b k).bind λ_=>(Aj b k).bind λaj=>if(Ci (Ah (Ac a) m) aj)then
some (0,0,0,([]:LX),24)
else(Aj p k).bind λ_=>(Aj b k).bind λ_=>(Aj p k).bind λak=>(Aj b k).bind λal=>(Ca a m (Ae m al)).bind λam=>(Du f g u ak am).bind λ(y,w)=>j10 m k y w v
else
j12 a m f g h v
def Jo:Nat->Int->Int->LX->Dv
|0,_,_,_=>none
|e+1,i,A,B=>Vo (FZ (Jo e) c z d j F O T X J) FY c z d j F O T X J i A B
def IV a o f g h n b p u:=Jo a o f g h n b p u Aq
def IW(j7:LB->Jz5 (LI->LI->LX->Int->Int->LX->Dv))(a aa:LB):Dv:=if(Dq (Ac aa) 64)then
some (0,0,0,([]:LX),2)
else(Dj a).bind λ(an,o,f,g,h,n,ab)=>if(Bl ab 0)then
some (0,0,0,([]:LX),ab)
else(MV a (Ae an 22) o f g h n aa).bind λ(ac,ad)=>if(Bl ad 0)then
some (0,0,0,([]:LX),ad)
else(Lr a ac o f g h n).bind λ(b,ae)=>if(Bl ae 0)then
some (0,0,0,([]:LX),ae)
else(Dk h n).bind λp=>(Jt aa).bind λ(u,ap)=>j7 a o f g h n b p u (Ae ac (Ae (Bd 4 (Ac b)) 4)) 0 ([]:LX)
def Hm:=IW IV
abbrev Dd:=Option (Int×Int×Int×Int×Int×Int)
def EV:Dd:=if(Ci (Ac c) B)then
some (0,0,0,0,0,24)
else
some (z,(Ae z 22),d,(Ae (Ae d (Bd 4 (Ac T))) 4),B,0)
def Tp:=EV
def Tr(j8:LB->Int->Int->LI->Int->Dd)(Q4:Int->Int->Dd)(b:LB)(a f:Int)(g:LI)(k h:Int):Dd:=if(Ci k (Ac g))then(Aj g k).bind λ_=>(Aj g k).bind λy=>Q4 (Ae k 1) (Ae h y)
else
j8 b a f g h
def Iq:Nat->Int->Int->Dd
|0,_,_=>none
|e+1,i,j=>Tr Tp (Iq e) c z d T i j
def GC b a f g:=Iq b a f g Aq
def GA(j6:LB->Int->Int->LI->Int->Int->Dd)(b:LB)(m n o p u a f:Int):Dd:=if(Ci (Ac b) f)then
some (0,0,0,0,0,24)
else(Lr b f m n o p u).bind λ(g,v)=>if(Bl v 0)then
some (0,0,0,0,0,v)
else
j6 b a f g 0 (Ae (Ae f (Bd 4 (Ac g))) 4)
def Ii:=GA GC
def FX(j5:LB->Jz7 Dd)(b:LB):Dd:=(Dj b).bind λ(a,m,n,o,p,u,w)=>if(Bl w 0)then
some (0,0,0,0,0,w)
else
if(geq m 2)then
j5 b m n o p u a (Ae (Ae a 22) 8)
else
j5 b m n o p u a (Ae a 22)
def Aa6:=FX Ii
end Go.Pl
