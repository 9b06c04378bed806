/- A part of the proof of a statement of this seat (see the text that ends in Proof): PtPure. No conditions of its own. -/
import Derived.Test.YtfcmocdmhnafcaaGreatDoorPtBA
set_option linter.unusedVariables false
namespace Go.Pl
open Go Go.Lv
abbrev LB:=List UInt8
abbrev LI:=List Int
abbrev LX:=List Int32
abbrev LU:=List UInt32
abbrev LQ:=List UInt64
def Aw5(a b f:Int)(g:LX):Option (Int×Int):=
some (a,b)
abbrev Anw:=Option (Int32×Int32×Int)
def Bgk(a:Int)(b:Bool):Anw:=
if b then
(Kj (Ni (Aj a 1) 0)).bind fun _=>
some ((Ayf (Dt (1:Int32) (GI.toZ (Aj a 1)).toNat)),(Aj (Dt (1:Int32) (GI.toZ (Aj a 1)).toNat) 1),0)
else
some (0,0,2)
def Aud:=Bgk
def Atf(j2:Int→Bool→Anw)(a:Int):Anw:=
if(geq a 8)then
j2 a (geq a 8)
else
if(geq a 16)then
j2 a (geq a 16)
else
j2 a (geq a 24)
def Ah3:=Atf Aud
def Vk(a b:Int):Option Int:=
(Ah3 b).bind fun(g,h,f)=>
if(((Ay f 0)||(Cc a 1))||(Ee a 6))then
some 2
else
some 0
def Ae1(a:Int):Option (Int×Int):=
if((Cc a 1)||(Ee a 1048576))then
some (0,2)
else
some ((Av5 1 (Cp (Bj 256 a) 245)),0)
def Vl(g b:Int):Option (Int×Int):=
(Ae1 g).bind fun(a,f)=>
if(Ay f 0)then
some (0,f)
else
if((Cc b 1)||(Ee b 4000))then
some (0,2)
else
(Kj (Ay a 0)).bind fun _=>
if(Ee (Cp (Aj (Ae b a) 1) a) 1000)then
some (0,4)
else
some ((Cp (Aj (Ae b a) 1) a),0)
def Bka(a g f:Int)(h:LX)(b:Int):Option Int:=
(Aw5 a g f h).bind fun(k,m)=>
(Vk k m).bind fun n=>
if((Ay n 0)||(Cc b 1))then
some 8
else
(Kj (Ay a 0)).bind fun _=>
if(Ee b (Cp 4000 a))then
some 8
else
(Vl f b).bind fun(p,o)=>
if(Ay o 0)then
some 8
else
some 0
def Bhd:Option Int:=
some 0
def Auw:=Bhd
def Aen(j6:Option Int)(bk4:Int→Option Int)(b f:Int32)(a:LX)(g:Int):Option Int:=
if(Cc g (Ac a))then
(getI a g).bind fun h=>
if((Cc h b)||(Ee h f))then
some 16
else
bk4 (Ae g 1)
else
j6
def Sk(b f:Int32)(a:LX):Nat→Int→Option Int
|0,_=>none
|q+1,g=>Aen Auw (Sk b f a q) b f a g
def As6 b f a:=Sk b f a FUEL
def Amj(j4:Int32→Int32→LX→Int→Option Int)(m:Int)(a:LX):Option Int:=
(Ah3 m).bind fun(b,f,k)=>
if(Ay k 0)then
some k
else
if(Ee (Ac a) 4000)then
some 4
else
j4 b f a 0
def Yj:=Amj As6
def Af4(a f h:Int)(b:LX):Option Int:=
if(Cc a 1)then
some 8
else
(Kj (Ay a 0)).bind fun _=>
if(Ay (Ho (Ac b) a) 0)then
some 8
else
(Kj (Ay a 0)).bind fun _=>
(Bka a f h b (Cp (Ac b) a)).bind fun g=>
if(Ay g 0)then
some g
else
(Yj f b).bind fun k=>
if(Ay k 0)then
some 8
else
some 0
abbrev Aob:=Option (Int×Int×Int×Int×Int×Int)
def Bfb(h:LB)(a b f:Int)(g:LX):Aob:=
if(h !=([]:LB))then
some (2,a,b,f,(Cp (Ac g) a),0)
else
some (1,a,b,f,(Cp (Ac g) a),0)
def As0:=Bfb
def Alb(j2:LB→Int→Int→Int→LX→Aob)(a b f:Int)(g:LX)(h:LB):Aob:=
(Af4 a b f g).bind fun k=>
if(Ay k 0)then
some (0,0,0,0,0,k)
else
if(Ee (Ac h) 64)then
some (0,0,0,0,0,2)
else
(Kj (Ay a 0)).bind fun _=>
(
j2 h a b f g)
def Bci:=Alb As0
abbrev Br:=Option (UInt64×Int)
def Au9(h:UInt64):Br:=
some (h,0)
def Al4:=Au9
def All(j30:UInt64→Br)(h b:UInt64)(a:LB)(f:LQ):Br:=
j30 h
def Akg:=All Al4
def Ady(j29:UInt64→UInt64→LB→LQ→Br)(bk27:UInt64→Int→Br)(a:LB)(b:UInt64)(f:LQ)(h:UInt64)(m:Int):Br:=
if(Cc m (Ac a))then
(getI a m).bind fun p=>
Option.bind (getI f (GI.toZ (Aa5 (Ad (Ca h (GI.toZ (56:UInt64)).toNat):UInt8) p))) fun _=>
Option.bind (getI f (GI.toZ (Aa5 (Ad (Ca h (GI.toZ (56:UInt64)).toNat):UInt8) p))) fun u=>
bk27 (Aa5 (Dt h (GI.toZ (8:UInt64)).toNat) u) (Ae m 1)
else
j29 h b a f
def So(a:LB)(b:UInt64)(f:LQ):Nat→UInt64→Int→Br
|0,_,_=>none
|q+1,h,m=>Ady Akg (So a b f q) a b f h m
def Akz a b f:=So a b f FUEL
def Al0(j27:LB→UInt64→LQ→UInt64→Int→Br)(b:UInt64)(a:LB)(f:LQ):Br:=
j27 a b f b 0
def Ae4:=Al0 Akz
def At1(bk16:Int→LQ→Br)(b:UInt64)(a:LB)(g:Int)(o:LQ):Br:=
bk16 (Ae g 1) o
def Alx bk16:=At1 bk16
def Ali(j24:Int→LQ→Br)(b:UInt64)(a:LB)(g:Int)(k:UInt64)(f:LQ):Br:=
(getI f g).bind fun _=>
(Mn f g k).bind fun o=>
j24 g o
def Ael bk16 b a:=Ali (Alx bk16 b a) b a
def Adv(j23:Int→UInt64→LQ→Br)(bk21:UInt64→Int→Br)(b:UInt64)(a:LB)(g:Int)(f:LQ)(k:UInt64)(n:Int):Br:=
if(Cc n 8)then
bk21 (Aa5 (Dt k (GI.toZ (1:UInt64)).toNat) (Bj 4823603603198064275 (Ca k (GI.toZ (63:UInt64)).toNat))) (Ae n 1)
else
j23 g k f
def Sj(bk16:Int→LQ→Br)(b:UInt64)(a:LB)(g:Int)(f:LQ):Nat→UInt64→Int→Br
|0,_,_=>none
|q+1,k,n=>Adv (Ael bk16 b a) (Sj bk16 b a g f q) b a g f k n
def Ak3 bk16 b a g f:=Sj bk16 b a g f FUEL
def Ae7(j21:Int→LQ→UInt64→Int→Br)(j26:UInt64→LB→LQ→Br)(b:UInt64)(a:LB)(g:Int)(f:LQ):Br:=
if(Cc g 256)then
j21 g f (Dt (Ad g:UInt64) (GI.toZ (56:UInt64)).toNat) 0
else
j26 b a f
def Nr(b:UInt64)(a:LB):Nat→Int→LQ→Br
|0,_,_=>none
|q+1,g,f=>Ae7 (Ak3 (Nr b a q) b a) Ae4 b a g f
def Al9 b a:=Nr b a FUEL
def Aoc(j16:UInt64→LB→Int→LQ→Br)(b:UInt64)(a:LB):Br:=
if(Ee (Ac a) 100000)then
some (0,4)
else
j16 b a 0 (List.replicate 256 (0:UInt64))
def Aq7:=Aoc Al9
def Apj(a:LB):Option (UInt64×Int):=
(Aq7 0 a).bind fun(b,f)=>
some (b,f)
def Brd(a:LX):Option (LX):=
some a
def Bhz:=Brd
def Arf(j6:LX→Option (LX))(bk4:Int→LX→Option (LX))(f:UInt64)(b:Int)(a:LX):Option (LX):=
if(Cc b 8)then
(Kj (Ni (Bj 8 b) 0)).bind fun _=>
(getI a b).bind fun _=>
(Mn a b (Ad (Ad (Ca f (GI.toZ (Bj 8 b)).toNat):Int8):Int32)).bind fun g=>
bk4 (Ae b 1) g
else
j6 a
def Af7(f:UInt64):Nat→Int→LX→Option (LX)
|0,_,_=>none
|q+1,b,a=>Arf Bhz (Af7 f q) f b a
def Bfu f:=Af7 f FUEL
def Bgp(j4:UInt64→Int→LX→Option (LX))(f:UInt64):Option (LX):=
j4 f 0 (List.replicate 16 (0:Int32))
def Bl5:=Bgp Bfu
def Tj(a:LB):Option (LX×Int):=
if(Ee (Ac a) 64)then
some (([(0:Int32),(0:Int32),(0:Int32),(0:Int32),(0:Int32),(0:Int32),(0:Int32),(0:Int32),(0:Int32),(0:Int32),(0:Int32),(0:Int32),(0:Int32),(0:Int32),(0:Int32),(0:Int32)]:LX),2)
else
(Apj a).bind fun(f,b)=>
if(Ay b 0)then
some (([(0:Int32),(0:Int32),(0:Int32),(0:Int32),(0:Int32),(0:Int32),(0:Int32),(0:Int32),(0:Int32),(0:Int32),(0:Int32),(0:Int32),(0:Int32),(0:Int32),(0:Int32),(0:Int32)]:LX),b)
else
(Bl5 f).bind fun g=>
some (g,0)
def Ai1(a b:UInt64):Option (UInt64×UInt64):=
some ((Ae (Ae (Bj (Ca a (GI.toZ (32:UInt64)).toNat) (Ca b (GI.toZ (32:UInt64)).toNat)) (Ca (Ae (Bj (Ca a (GI.toZ (32:UInt64)).toNat) (Dy b 4294967295)) (Ca (Bj (Dy a 4294967295) (Dy b 4294967295)) (GI.toZ (32:UInt64)).toNat)) (GI.toZ (32:UInt64)).toNat)) (Ca (Ae (Dy (Ae (Bj (Ca a (GI.toZ (32:UInt64)).toNat) (Dy b 4294967295)) (Ca (Bj (Dy a 4294967295) (Dy b 4294967295)) (GI.toZ (32:UInt64)).toNat)) 4294967295) (Bj (Dy a 4294967295) (Ca b (GI.toZ (32:UInt64)).toNat))) (GI.toZ (32:UInt64)).toNat)),(Bj a b))
def Ag3(a b:UInt64):Option (UInt64×UInt64):=
(Ai1 a b).bind fun(f,g)=>
some (f,g)
def Pa(a:LI):Option (LI):=
some a
def Jp:=Pa
def Hh(j10:LI→Option (LI))(bk8:Int→LI→Option (LI))(b:Int)(a:LI):Option (LI):=
if(Cc b (Ac a))then
(
(vwI (Ac a) b (Ac a)).bind fun _=>
(vwI (Ac a) 0 b).bind fun _=>
bk8 (Ae b (Al6 ((Ac a)-b) (Aod a 0 (b-(0:Int))).length)) (Wh a b ((Ac a)-b) (Aod a 0 (b-(0:Int)))))
else
j10 a
def Ej:Nat→Int→LI→Option (LI)
|0,_,_=>none
|q+1,b,a=>Hh Jp (Ej q) b a
def Rf:=Ej FUEL
def Qz(j8:Int→LI→Option (LI))(f:LI)(g:UInt64):Option (LI):=
(mkI (Ad g:Int) (0:Int)).bind fun k=>
(Kj (geq (Ad g:Int) (Ad g:Int))).bind fun _=>
j8 (Al6 (Ac k) f.length) (Be7 k f)
def Qq:=Qz Rf
def Qv(j7:LI→UInt64→Option (LI))(f:LI)(h:Int):Option (LI):=
(Ag3 (Ad (Ac f):UInt64) (Ad h:UInt64)).bind fun(m,g)=>
if((Ee m 0)||(Ee g 9223372036854775807))then
none
else
j7 f g
def Re:=Qv Qq
def Qt(j6:LI→Int→Option (LI))(f:LI)(h:Int):Option (LI):=
if(Cc h 0)then
none
else
j6 f h
def Od:=Qt Re
def Amq(f:LI):Option (LI):=
some f
def Aai:=Amq
def Gf(j16:LI→Option (LI))(bk14:Int→LI→Option (LI))(a:List LI)(g:Int)(f:LI):Option (LI):=
if(Cc g (Ac a))then
(getI a g).bind fun o=>
(Cx f o).bind fun p=>
bk14 (Ae g 1) p
else
j16 f
def Dv(a:List LI):Nat→Int→LI→Option (LI)
|0,_,_=>none
|q+1,g,f=>Gf Aai (Dv a q) a g f
def Pc a:=Dv a FUEL
def Oy(j14:(List LI)→Int→LI→Option (LI))(a:List LI)(k:LI):Option (LI):=
j14 a 0 k
def Jo:=Oy Pc
def Ox(j13:(List LI)→LI→Option (LI))(b:Int)(a:List LI):Option (LI):=
if(Ee (Aj b (Aj (0:Int) (0:Int))) 0)then
(vwI 0 0 0).bind fun _=>
(mkI (Aj b (Aj (0:Int) (0:Int))) (0:Int)).bind fun u=>
(Cx ([]:LI) u).bind fun m=>
(vwI (Ac m) 0 0).bind fun _=>
j13 a (Aod m 0 ((0:Int)-(0:Int)))
else
j13 a ([]:LI)
def Ou:=Ox Jo
def Pg(j12:Int→(List LI)→Option (LI))(a:List LI)(b:Int):Option (LI):=
if(Cc b 0)then
none
else
j12 b a
def Oz:=Pg Ou
def Hk(j11:(List LI)→Int→Option (LI))(bk9:Int→Int→Option (LI))(a:List LI)(b h:Int):Option (LI):=
if(Cc h (Ac a))then
(getI a h).bind fun n=>
if(Cc (Ae b (Ac n)) 0)then
none
else
bk9 (Ae b (Ac n)) (Ae h 1)
else
j11 a b
def Ek(a:List LI):Nat→Int→Int→Option (LI)
|0,_,_=>none
|q+1,b,h=>Hk Oz (Ek a q) a b h
def Qw a:=Ek a FUEL
def Qr(j9:(List LI)→Int→Int→Option (LI))(a:List LI):Option (LI):=
j9 a 0 0
def Oi:=Qr Qw
def Als(a b:LI):Option (LI):=
(Oi ([a,b]:List LI)).bind fun f=>
some f
def Yn(a b:Int):Option (LI×Int):=
(Vl a b).bind fun(f,g)=>
if(Ay g 0)then
some (([]:LI),g)
else
(Ae1 a).bind fun(h,n)=>
(Od ([h]:LI) (Aj f 1)).bind fun k=>
(Als k ([(Aj b (Bj (Aj f 1) h))]:LI)).bind fun m=>
some (m,0)
def Awx(a f:Int)(b:LX):Option Int:=
(Vk a f).bind fun g=>
if(Ay g 0)then
some g
else
(Yj f b).bind fun h=>
if(Ay h 0)then
some h
else
if(geq (Ac b) 0)then
some 2
else
(Kj (Ay a 0)).bind fun _=>
if(Ay (Ho (Ac b) a) 0)then
some 2
else
some 0
def Apk(a:Int)(b:LX):Option Int:=
if((Cc a 1)||(Ee a 6))then
some 2
else
if(Ee (Ac b) 4000)then
some 4
else
(Kj (Ay a 0)).bind fun _=>
if(Ay (Ho (Ac b) a) 0)then
some 2
else
some 0
def Ei(a:LX):Option (LX):=
(
(Cx ([]:LX) a).bind fun b=>
some b)
abbrev Iw:=Option (LX×Int)
def Bng(f:LX):Iw:=
some (f,0)
def Bck:=Bng
def Bos(bk12:Int→LX→Iw)(b a:Int)(k:LX):Iw:=
bk12 (Ae a b) k
def Bcz bk12:=Bos bk12
def Bcq(j20:Int→LX→Iw)(b a:Int)(g:LX):Iw:=
if(Ee (Aj ((Ae a b)-a) 1) 0)then
(Kj (decide (0≤(Aj ((Ae a b)-a) 1)∧(Aj ((Ae a b)-a) 1)<((Ae a b)-a)))).bind fun _=>
Option.bind (Kj (decide (0≤(Aj (Aj ((Ae a b)-a) 1) 1)∧(Aj (Aj ((Ae a b)-a) 1) 1)<((Ae a b)-a)))) fun _=>
(getI g (a+(Aj ((Ae a b)-a) 1))).bind fun m=>
(getI g (a+(Aj (Aj ((Ae a b)-a) 1) 1))).bind fun n=>
(Kj (decide (0≤(Aj ((Ae a b)-a) 1)∧(Aj ((Ae a b)-a) 1)<((Ae a b)-a)))).bind fun _=>
(Mn g (a+(Aj ((Ae a b)-a) 1)) (Aj m (Cp n 2))).bind fun o=>
j20 a o
else
j20 a g
def Bbw bk12 b:=Bcq (Bcz bk12 b) b
def Bco(j19:Int→LX→Iw)(bk17:Int→LX→Iw)(b a h:Int)(g:LX):Iw:=
if(Cc h (Aj ((Ae a b)-a) 1))then
(Kj (decide (0≤(Ae h 1)∧(Ae h 1)<((Ae a b)-a)))).bind fun _=>
(Kj (decide (0≤h∧h<((Ae a b)-a)))).bind fun _=>
(getI g (a+(Ae h 1))).bind fun m=>
(getI g (a+h)).bind fun n=>
(Kj (decide (0≤h∧h<((Ae a b)-a)))).bind fun _=>
(Mn g (a+h) (Aj m n)).bind fun o=>
bk17 (Ae h 1) o
else
j19 a g
def As2(bk12:Int→LX→Iw)(b a:Int):Nat→Int→LX→Iw
|0,_,_=>none
|q+1,h,g=>Bco (Bbw bk12 b) (As2 bk12 b a q) b a h g
def Bc0 bk12 b a:=As2 bk12 b a FUEL
def Bb7(j17:Int→Int→LX→Iw)(j22:LX→Iw)(b a:Int)(f:LX):Iw:=
if(Cc a (Ac f))then
(vwI (Ac f) a (Ae a b)).bind fun _=>
j17 a 0 f
else
j22 f
def Asw(b:Int):Nat→Int→LX→Iw
|0,_,_=>none
|q+1,a,f=>Bb7 (Bc0 (Asw b q) b) Bck b a f
def Bcv b:=Asw b FUEL
def Bdz(j12:Int→Int→LX→Iw)(b:Int)(p:LX):Iw:=
(Apk b p).bind fun u=>
if(Ay u 0)then
some (([]:LX),u)
else
(Ei p).bind fun v=>
j12 b 0 v
def Buh:=Bdz Bcv
abbrev Axc:=Option (Int×LX×LX×Int)
def Bnm(a:Int)(b:LX)(f:Bool):Axc:=
if f then
some (10,b,(List.replicate 16 (0:Int32)),0)
else
if(geq a 16)then
some (9,b,(List.replicate 16 (0:Int32)),0)
else
some (0,(List.replicate 16 (0:Int32)),(List.replicate 16 (0:Int32)),2)
def Bbm:=Bnm
def Bcn(j2:Int→LX→Bool→Axc)(a:Int)(b:LX):Axc:=
if(geq a 8)then
j2 a b (geq a 8)
else
j2 a b (geq a 24)
def Ayu:=Bcn Bbm
def Bba(a:Int)(f:LX):Option (Int×Int32×Int×LX×LX×Int):=
(Ayu a f).bind fun(g,h,k,b)=>
if(Ay b 0)then
some (0,0,0,(List.replicate 16 (0:Int32)),(List.replicate 16 (0:Int32)),b)
else
some (a,0,g,h,k,0)
def Zi(a:Int)(k:Int32)(b:Int)(f m:LX):Option Int:=
(Ayu a f).bind fun(g,n,o,h)=>
if((Ay h 0)||(Ay g b))then
some 8
else
some 0
def Aup(a:Int):Option (Int×Int):=
if(geq a 8)then
some (4,0)
else
if(geq a 16)then
if(geq a 16)then
some (5,0)
else
some (0,2)
else
if(geq a 24)then
some (5,0)
else
some (0,2)
def Am3(a:Int)(b:Int32):Option Int32:=
(Kj (Ni a 0)).bind fun _=>
(Kj (Ni a 0)).bind fun _=>
some (Ad (Bk8 (Aj (Dt (Ad b:Int) (GI.toZ a).toNat) (Ad b:Int)) (GI.toZ a).toNat):Int32)
def Yf(b:Int)(f:Int32):Option (Int32×Int):=
(Aup b).bind fun(g,a)=>
if(Ay a 0)then
some (0,a)
else
(Am3 g f).bind fun h=>
some (h,0)
def Af9(a:Int)(b f:LX):Option Int:=
if((Ay a 9)&&(Ay a 10))then
some 8
else
some 0
abbrev Ug:=Option (Int32×Int)
def Awf(g:Int32)(a:Int)(b f:LX):Ug:=
(Kj (Ni a 0)).bind fun _=>
some ((Ca g (GI.toZ a).toNat),0)
def Aoo:=Awf
def Ahd(j6:Int32→Int→LX→LX→Ug)(bk4:Int32→Int→Ug)(b:LX)(a:Int)(f:LX)(g:Int32)(h:Int):Ug:=
if(Cc h 16)then
(getI b h).bind fun m=>
(getI f h).bind fun _=>
(getI f h).bind fun n=>
bk4 (Ae g (Bj m n)) (Ae h 1)
else
j6 g a b f
def Vm(b:LX)(a:Int)(f:LX):Nat→Int32→Int→Ug
|0,_,_=>none
|q+1,g,h=>Ahd Aoo (Vm b a f q) b a f g h
def Anq b a f:=Vm b a f FUEL
def Ant(j4:LX→Int→LX→Int32→Int→Ug)(a:Int)(b f:LX):Ug:=
(Af9 a b f).bind fun k=>
if(Ay k 0)then
some (0,k)
else
(Kj (Ni (Aj a 1) 0)).bind fun _=>
j4 b a f (Dt (1:Int32) (GI.toZ (Aj a 1)).toNat) 0
def Amh:=Ant Anq
def Aow(a:Int):Option Int32:=
if(geq a 0)then
some 4
else
if(Cc a 4)then
some 2
else
some 1
abbrev Ts:=Option (Int×LX×LX×Int)
def Bh8(g:Int)(b f:LX):Ts:=
some (g,b,f,0)
def Av7:=Bh8
def Ag8(j6:Int→LX→LX→Ts)(bk4:Int→LX→Ts)(h:Int32)(f:LX)(g a:Int)(b:LX):Ts:=
if(Cc a 16)then
(getI f a).bind fun m=>
if(geq m 0)then
bk4 (Ae a 1) b
else
if((Cc m 0)==(Cc h 0))then
(getI b a).bind fun _=>
(getI b a).bind fun o=>
(Aow a).bind fun p=>
(getI b a).bind fun _=>
(Mn b a (Ae o p)).bind fun u=>
bk4 (Ae a 1) u
else
(getI b a).bind fun _=>
(getI b a).bind fun v=>
(Aow a).bind fun w=>
(getI b a).bind fun _=>
(Mn b a (Aj v w)).bind fun y=>
bk4 (Ae a 1) y
else
j6 g b f
def Vq(h:Int32)(f:LX)(g:Int):Nat→Int→LX→Ts
|0,_,_=>none
|q+1,a,b=>Ag8 Av7 (Vq h f g q) h f g a b
def Awg h f g:=Vq h f g FUEL
def Anv(j4:Int32→LX→Int→Int→LX→Ts)(g:Int)(k f:LX)(h:Int32):Ts:=
(Af9 g k f).bind fun n=>
if(Ay n 0)then
some (0,(List.replicate 16 (0:Int32)),(List.replicate 16 (0:Int32)),n)
else
if(geq h 0)then
some (g,k,f,0)
else
j4 h f g 0 k
def Aqf:=Anv Awg
abbrev Aun:=Option (Int×LX×LX×Int)
def Az7(g:Int32)(b:Int)(f a:LX):Aun:=
(getI (Wh a 1 ((16:Int)-(1:Int)) (Aod a 0 ((16:Int)-(0:Int)))) 0).bind fun _=>
(Mn (Wh a 1 ((16:Int)-(1:Int)) (Aod a 0 ((16:Int)-(0:Int)))) 0 g).bind fun k=>
some (b,f,k,0)
def Aqm:=Az7
def Ajs(j2:Int32→Int→LX→LX→Aun)(b:Int)(f a:LX)(g:Int32):Aun:=
(Af9 b f a).bind fun h=>
if(Ay h 0)then
some (0,(List.replicate 16 (0:Int32)),(List.replicate 16 (0:Int32)),h)
else
(
(vwI 16 1 16).bind fun _=>
(vwI 16 0 16).bind fun _=>
j2 g b f a)
def Ave:=Ajs Aqm
def Aqs(a:Int)(b f:LX)(g h:Int32):Option (Int×LX×LX):=
(Aqf a b f h).bind fun(k,m,n,v)=>
(Ave k m n g).bind fun(o,p,u,w)=>
some (o,p,u)
def Atd(b:Int)(f g:LX)(a:Int32):Option (Int32×Int×LX×LX×Int):=
(Amh b f g).bind fun(h,k)=>
if(Ay k 0)then
some (0,0,(List.replicate 16 (0:Int32)),(List.replicate 16 (0:Int32)),k)
else
(Aqs b f g a (Aj a h)).bind fun(m,n,o)=>
some ((Aj a h),m,n,o,0)
def Ag6(a:Int)(b:Int32)(f:Int)(g h:LX)(k:Int32):Option (Int32×Int×Int32×Int×LX×LX×Int):=
(Zi a b f g h).bind fun m=>
if(Ay m 0)then
some (0,0,0,0,(List.replicate 16 (0:Int32)),(List.replicate 16 (0:Int32)),m)
else
(Yf a b).bind fun(n,y)=>
(Atd f g h (Aj k n)).bind fun(o,p,u,v,w)=>
(
some (o,a,k,p,u,v,w))
def Bkb(a:Int32):Option UInt32:=
some (Aa5 (Dt (Ad a:UInt32) (GI.toZ (1:UInt64)).toNat) (Ad (Ca a (GI.toZ (31:UInt64)).toNat):UInt32))
abbrev Cu:=Option (LU×Int)
def Axf(k:LU):Cu:=
some (k,0)
def Al7:=Axf
def Amm(j12:LU→Cu)(bk10:Int→(List (Int×Int32×(Int×LX×LX×Unit)×Unit))→LU→Cu)(b:LX)(a f g:Int)(o:List (Int×Int32×(Int×LX×LX×Unit)×Unit))(k:LU):Cu:=
if(Cc g (Ac b))then
(getI b g).bind fun _=>
(getI b g).bind fun ac=>
(Kj (Ay a 0)).bind fun _=>
(getI o (Ho g a)).bind fun _=>
(getI o (Ho g a)).bind fun p=>
(Ag6 p.1 p.2.1 p.2.2.1.1 p.2.2.1.2.1 p.2.2.1.2.2.1 ac).bind fun(u,ad,ae,v,af,ag,w)=>
if(Ay w 0)then
some (([]:LU),w)
else
(Mn o (Ho g a) (ad,ae,(v,af,ag,()),())).bind fun ah=>
(Bkb u).bind fun ai=>
(Cx k ([ai]:LU)).bind fun aj=>
bk10 (Ae g 1) ah aj
else
j12 k
def Ab2(b:LX)(a f:Int):Nat→Int→(List (Int×Int32×(Int×LX×LX×Unit)×Unit))→LU→Cu
|0,_,_,_=>none
|q+1,g,o,k=>Amm Al7 (Ab2 b a f q) b a f g o k
def Alc b a f:=Ab2 b a f FUEL
def Am9(j10:LX→Int→Int→Int→(List (Int×Int32×(Int×LX×LX×Unit)×Unit))→LU→Cu)(a f:Int)(b:LX)(h:List (Int×Int32×(Int×LX×LX×Unit)×Unit)):Cu:=
j10 b a f 0 h ([]:LU)
def Am1:=Am9 Alc
def Am0(j9:Int→Int→LX→(List (Int×Int32×(Int×LX×LX×Unit)×Unit))→Cu)(bk7:Int→(List (Int×Int32×(Int×LX×LX×Unit)×Unit))→Cu)(a f:Int)(m b:LX)(n:Int)(h:List (Int×Int32×(Int×LX×LX×Unit)×Unit)):Cu:=
if(Cc n 6)then
(Bba f m).bind fun(ak,al,u,am,an,v)=>
(getI h n).bind fun _=>
(Mn h n (ak,al,(u,am,an,()),())).bind fun ao=>
bk7 (Ae n 1) ao
else
j9 a f b h
def Adc(a f:Int)(m b:LX):Nat→Int→(List (Int×Int32×(Int×LX×LX×Unit)×Unit))→Cu
|0,_,_=>none
|q+1,n,h=>Am0 Am1 (Adc a f m b q) a f m b n h
def Ann a f m b:=Adc a f m b FUEL
def Am7(j7:Int→Int→LX→LX→Int→(List (Int×Int32×(Int×LX×LX×Unit)×Unit))→Cu)(a f:Int)(m y:LX):Cu:=
(Awx a f y).bind fun aa=>
if(Ay aa 0)then
some (([]:LU),aa)
else
(Buh a y).bind fun(b,ab)=>
if(Ay ab 0)then
some (([]:LU),ab)
else
j7 a f m b 0 (List.replicate 6 ((0:Int),(0:Int32),((0:Int),(List.replicate 16 (0:Int32)),(List.replicate 16 (0:Int32)),()),()))
def Au3:=Am7 Ann
def Axw:Option (Int×Int×UInt64×UInt64):=
some (10,10,16384,16384)
abbrev Kg:=Option ((List (Int×Int×UInt64×UInt64×Unit)))
def Ayd(a:List (Int×Int×UInt64×UInt64×Unit)):Kg:=
some a
def Am8:=Ayd
def Ank(j6:(List (Int×Int×UInt64×UInt64×Unit))→Kg)(bk4:Int→(List (Int×Int×UInt64×UInt64×Unit))→Kg)(b:Int)(a:List (Int×Int×UInt64×UInt64×Unit)):Kg:=
if(Cc b 6)then
(Axw).bind fun(f,g,h,k)=>
(getI a b).bind fun _=>
(Mn a b (f,g,h,k,())).bind fun m=>
bk4 (Ae b 1) m
else
j6 a
def Adm:Nat→Int→(List (Int×Int×UInt64×UInt64×Unit))→Kg
|0,_,_=>none
|q+1,b,a=>Ank Am8 (Adm q) b a
def Ang:=Adm FUEL
def Amv(j4:Int→(List (Int×Int×UInt64×UInt64×Unit))→Kg):Kg:=
j4 0 (List.replicate 6 ((0:Int),(0:Int),(0:UInt64),(0:UInt64),()))
def As7:=Amv Ang
def Km(b:LB)(a:Int):Option Int:=
if(((Cc a 0)||(Ee a 330000))||(Ay (Ac b) (Bk8 (Ae a 7) (GI.toZ (3:UInt64)).toNat)))then
some 8
else
if(Ee (Dy a 7) 0)then
(getI b (Aj (Ac b) 1)).bind fun f=>
(Kj (Ni (Dy a 7) 0)).bind fun _=>
if(Ay (Ca f (GI.toZ (Dy a 7)).toNat) 0)then
some 8
else
some 0
else
some 0
def Awr(a b:Int)(f g:UInt64):Option Int:=
if(!((geq (Eh (Av5 a 0) 24) a)&&((geq (Eh (Av5 b 0) 24) b)&&((geq (Eh f 68719476735) f)&&((geq (Eh g 68719476735) g)&&true)))))then
some 8
else
some 0
def Anr:=Awr
def Ag5(j4:Int→Int→UInt64→UInt64→Option Int)(a b:Int)(f g:UInt64):Option Int:=
(
(
j4 a b f g))
def Anu:=Ag5 Anr
def Ag1(j3:Int→Int→UInt64→UInt64→Option Int)(a b:Int)(f g:UInt64):Option Int:=
(
(
j3 a b f g))
def Akn:=Ag1 Anu
def Af3(a f:Int)(g h:UInt64)(b:UInt32):Option (Int×UInt32):=
(Kj (Ni a 0)).bind fun _=>
if(geq (Ca b (GI.toZ a).toNat) 0)then
some (0,b)
else
(Kj (Ni a 0)).bind fun _=>
some (1,(Aj b (Dt (1:UInt32) (GI.toZ a).toNat)))
def Fu(a:LB):Option (LB):=
(
(Cx ([]:LB) a).bind fun b=>
some b)
def Bax(a:LB)(b:Int):Option (LB×Int):=
(Fu a).bind fun f=>
some (f,b)
abbrev Dg:=Option (LB×Int×Int)
def Bkh(f:Int)(o:LB):Dg:=
some (o,f,0)
def Azj:=Bkh
def Bks(bk15:UInt64→Int→Int→LB→Dg)(b:UInt64)(a:Int)(m:UInt64)(h f:Int)(w:LB):Dg:=
(Kj (Ni (Eh h (Aj 8 (Dy f 7))) 0)).bind fun _=>
bk15 (Ca m (GI.toZ (Eh h (Aj 8 (Dy f 7)))).toNat) (Aj h (Eh h (Aj 8 (Dy f 7)))) (Ae f (Eh h (Aj 8 (Dy f 7)))) w
def Ay0 bk15:=Bks bk15
def Ay3(j19:UInt64→Int→Int→LB→Dg)(b:UInt64)(a:Int)(m:UInt64)(h f:Int)(u:LB):Dg:=
(getI u (Aj (Ac u) 1)).bind fun _=>
(Kj (Ni (Eh h (Aj 8 (Dy f 7))) 0)).bind fun _=>
(Kj (Ni (Dy f 7) 0)).bind fun _=>
(getI u (Aj (Ac u) 1)).bind fun ad=>
(getI u (Aj (Ac u) 1)).bind fun _=>
Option.bind (Mn u (Aj (Ac u) 1) (gor ad (Dt (Ad (Dy m (Aj (Dt (1:UInt64) (GI.toZ (Eh h (Aj 8 (Dy f 7)))).toNat) 1)):UInt8) (GI.toZ (Dy f 7)).toNat))) fun w=>
j19 m h f w
def Az4 bk15 b a:=Ay3 (Ay0 bk15 b a) b a
def Azp(j18:UInt64→Int→Int→LB→Dg)(j21:Int→LB→Dg)(b:UInt64)(a:Int)(m:UInt64)(h f:Int)(o:LB):Dg:=
if(Ee h 0)then
if(geq (Dy f 7) 0)then
(Cx o ([(0:UInt8)]:LB)).bind fun ab=>
j18 m h f ab
else
j18 m h f o
else
j21 f o
def Aqt(b:UInt64)(a:Int):Nat→UInt64→Int→Int→LB→Dg
|0,_,_,_,_=>none
|q+1,m,h,f,o=>Azp (Az4 (Aqt b a q) b a) Azj b a m h f o
def Ayt b a:=Aqt b a FUEL
def Bli(g:Int)(p:LB):Dg:=
some (p,g,0)
def Azg:=Bli
def Bk6(bk22:UInt64→Int→Int→LB→Dg)(b:UInt64)(a:Int)(n:UInt64)(k g:Int)(y:LB):Dg:=
(Kj (Ni (Eh k (Aj 8 (Dy g 7))) 0)).bind fun _=>
bk22 (Ca n (GI.toZ (Eh k (Aj 8 (Dy g 7)))).toNat) (Aj k (Eh k (Aj 8 (Dy g 7)))) (Ae g (Eh k (Aj 8 (Dy g 7)))) y
def Ayy bk22:=Bk6 bk22
def Azz(j26:UInt64→Int→Int→LB→Dg)(b:UInt64)(a:Int)(n:UInt64)(k g:Int)(v:LB):Dg:=
(getI v (Aj (Ac v) 1)).bind fun _=>
(Kj (Ni (Eh k (Aj 8 (Dy g 7))) 0)).bind fun _=>
(Kj (Ni (Dy g 7) 0)).bind fun _=>
(getI v (Aj (Ac v) 1)).bind fun ae=>
(getI v (Aj (Ac v) 1)).bind fun _=>
Option.bind (Mn v (Aj (Ac v) 1) (gor ae (Dt (Ad (Dy n (Aj (Dt (1:UInt64) (GI.toZ (Eh k (Aj 8 (Dy g 7)))).toNat) 1)):UInt8) (GI.toZ (Dy g 7)).toNat))) fun y=>
j26 n k g y
def Ay4 bk22 b a:=Azz (Ayy bk22 b a) b a
def Ayr(j25:UInt64→Int→Int→LB→Dg)(j28:Int→LB→Dg)(b:UInt64)(a:Int)(n:UInt64)(k g:Int)(p:LB):Dg:=
if(Ee k 0)then
if(geq (Dy g 7) 0)then
(Cx p ([(0:UInt8)]:LB)).bind fun w=>
j25 n k g w
else
j25 n k g p
else
j28 g p
def Aqk(b:UInt64)(a:Int):Nat→UInt64→Int→Int→LB→Dg
|0,_,_,_,_=>none
|q+1,n,k,g,p=>Ayr (Ay4 (Aqk b a q) b a) Azg b a n k g p
def Ayv b a:=Aqk b a FUEL
def Bbu(j15:UInt64→Int→UInt64→Int→Int→LB→Dg)(j22:UInt64→Int→UInt64→Int→Int→LB→Dg)(ac:LB)(aa:Int)(b:UInt64)(a:Int):Dg:=
(Km ac aa).bind fun af=>
if(Ay af 0)then
some (([]:LB),0,8)
else
if((Cc a 0)||(Ee a 64))then
some (([]:LB),0,2)
else
if(Cc a 64)then
(Kj (Ni a 0)).bind fun _=>
if(Ay (Ca b (GI.toZ a).toNat) 0)then
some (([]:LB),0,16)
else
if(Ee (Ae aa a) 330000)then
some (([]:LB),0,18)
else
(Bax ac aa).bind fun(ag,ah)=>
j15 b a b a ah ag
else
if(Ee (Ae aa a) 330000)then
some (([]:LB),0,18)
else
(Bax ac aa).bind fun(ab,ai)=>
j22 b a b a ai ab
def Au4:=Bbu Ayt Ayv
def Ajz(b:UInt32)(a:Int):Option Bool:=
(Kj (Ni a 0)).bind fun _=>
some (Ni (Ca b (GI.toZ a).toNat) 48)
def Azt(a:Int):Option (Int×Int):=
if((Cc a 0)||(Ee a 48))then
some (0,2)
else
some ((Eh (Ae a 1) 48),0)
def Bcj(b:LB)(f a:Int):Option (LB×Int×Int):=
(Km b f).bind fun g=>
if(Ay g 0)then
some (([]:LB),0,g)
else
(Azt a).bind fun(k,h)=>
if(Ay h 0)then
some (([]:LB),0,h)
else
(Kj (Ni a 0)).bind fun _=>
(Au4 b f (Aj (Dt (1:UInt64) (GI.toZ a).toNat) 1) k).bind fun(m,n,o)=>
some (m,n,o)
abbrev Ap3:=Option (LB×Int×Int)
def Bib(b:LB)(f h:Int)(k:UInt32)(m:Int):Ap3:=
(Bcj b f h).bind fun(p,u,n)=>
if(Ay n 0)then
some (([]:LB),0,n)
else
(Au4 p u (Ad k:UInt64) m).bind fun(v,w,y)=>
some (v,w,y)
def Awv:=Bib
def Awb(j2:LB→Int→Int→UInt32→Int→Ap3)(b:LB)(f:Int)(g:UInt32)(a:Int):Ap3:=
(Km b f).bind fun o=>
if(Ay o 0)then
some (([]:LB),0,o)
else
if((Cc a 0)||(Ee a 24))then
some (([]:LB),0,2)
else
(Kj (Ni a 0)).bind fun _=>
(Kj (Ni a 0)).bind fun _=>
(Ajz g a).bind fun aa=>
if aa then
j2 b f 48 g 32
else
j2 b f (Ad (Ca g (GI.toZ a).toNat):Int) (Dy g (Aj (Dt (1:UInt32) (GI.toZ a).toNat) 1)) a
def Beo:=Awb Awv
abbrev Iq:=Option (LB×Int×Int×Int×UInt64×UInt64×Int)
def Ak9(k u n:Int)(a:UInt64)(b:UInt32)(o:UInt64)(m:LB):Iq:=
(
(
some (m,k,u,n,(Ae a (Aj (Ad b:UInt64) (Ca a (GI.toZ (4:UInt64)).toNat))),o,0)))
def At7:=Ak9
def Aw0(j10:Int→Int→Int→UInt64→UInt32→UInt64→LB→Iq)(b:UInt32)(k n:Int)(a o:UInt64)(m:LB)(u:Int):Iq:=
j10 k u n a b o m
def Awd:=Aw0 At7
def Aw3(j9:UInt32→Int→Int→UInt64→UInt64→LB→Int→Iq)(b:UInt32)(f:Int)(a:UInt64)(k:Int)(m:LB)(n:Int)(o:UInt64):Iq:=
if(Ee f 0)then
(Kj (Ni f 0)).bind fun _=>
if(Cc (Ae a (Aj (Ad b:UInt64) (Ca a (GI.toZ (4:UInt64)).toNat))) (Dt (16:UInt64) (GI.toZ f).toNat))then
j9 b k n a o m (Aj f 1)
else
if(Cc f 24)then
(Kj (Ni f 0)).bind fun _=>
if(Ee (Ae a (Aj (Ad b:UInt64) (Ca a (GI.toZ (4:UInt64)).toNat))) (Dt (32:UInt64) (GI.toZ f).toNat))then
j9 b k n a o m (Ae f 1)
else
j9 b k n a o m f
else
j9 b k n a o m f
else
if(Cc f 24)then
(Kj (Ni f 0)).bind fun _=>
if(Ee (Ae a (Aj (Ad b:UInt64) (Ca a (GI.toZ (4:UInt64)).toNat))) (Dt (32:UInt64) (GI.toZ f).toNat))then
j9 b k n a o m (Ae f 1)
else
j9 b k n a o m f
else
j9 b k n a o m f
def Awl:=Aw3 Awd
def Av8(j8:UInt32→Int→UInt64→Int→LB→Int→UInt64→Iq)(b:UInt32)(f h:Int)(a g:UInt64)(y k:Int)(m:LB):Iq:=
if(Ay y 0)then
some (([]:LB),0,0,0,0,0,y)
else
(Af3 f h a g b).bind fun(ag,p)=>
if(geq ag 1)then
if(Ee h 0)then
(Kj (Ni h 0)).bind fun _=>
if(Cc (Ae g (Aj (Ad p:UInt64) (Ca g (GI.toZ (4:UInt64)).toNat))) (Dt (16:UInt64) (GI.toZ h).toNat))then
j8 b f a k m (Aj h 1) (Ae g (Aj (Ad p:UInt64) (Ca g (GI.toZ (4:UInt64)).toNat)))
else
if(Cc h 24)then
(Kj (Ni h 0)).bind fun _=>
if(Ee (Ae g (Aj (Ad p:UInt64) (Ca g (GI.toZ (4:UInt64)).toNat))) (Dt (32:UInt64) (GI.toZ h).toNat))then
j8 b f a k m (Ae h 1) (Ae g (Aj (Ad p:UInt64) (Ca g (GI.toZ (4:UInt64)).toNat)))
else
j8 b f a k m h (Ae g (Aj (Ad p:UInt64) (Ca g (GI.toZ (4:UInt64)).toNat)))
else
j8 b f a k m h (Ae g (Aj (Ad p:UInt64) (Ca g (GI.toZ (4:UInt64)).toNat)))
else
if(Cc h 24)then
(Kj (Ni h 0)).bind fun _=>
if(Ee (Ae g (Aj (Ad p:UInt64) (Ca g (GI.toZ (4:UInt64)).toNat))) (Dt (32:UInt64) (GI.toZ h).toNat))then
j8 b f a k m (Ae h 1) (Ae g (Aj (Ad p:UInt64) (Ca g (GI.toZ (4:UInt64)).toNat)))
else
j8 b f a k m h (Ae g (Aj (Ad p:UInt64) (Ca g (GI.toZ (4:UInt64)).toNat)))
else
j8 b f a k m h (Ae g (Aj (Ad p:UInt64) (Ca g (GI.toZ (4:UInt64)).toNat)))
else
j8 b f a k m h g
def Awm:=Av8 Awl
def Awq(j7:UInt32→Int→Int→UInt64→UInt64→Int→Int→LB→Iq)(b:UInt32)(v:LB)(w f h:Int)(a g:UInt64):Iq:=
(Af3 f h a g b).bind fun(ad,ae)=>
(Au4 v w (Ad ad:UInt64) 1).bind fun(aa,ab,ac)=>
if((geq ac 0)&&(geq ad 0))then
(Au4 aa ab (Ad ae:UInt64) f).bind fun(ah,ai,aj)=>
j7 b f h a g aj ai ah
else
if(geq ac 0)then
(Beo aa ab ae h).bind fun(ak,al,am)=>
j7 b f h a g am al ak
else
j7 b f h a g ac ab aa
def Awz:=Awq Awm
def Aw1(j6:UInt32→LB→Int→Int→Int→UInt64→UInt64→Iq)(v:LB)(w f h:Int)(a g:UInt64)(b:UInt32):Iq:=
(Km v w).bind fun an=>
if(Ay an 0)then
some (([]:LB),0,0,0,0,0,8)
else
(Akn f h a g).bind fun ao=>
if(Ay ao 0)then
some (([]:LB),0,0,0,0,0,8)
else
j6 b v w f h a g
def Bhe:=Aw1 Awz
abbrev Bq:=Option (UInt32×Int)
def Aub(h:UInt32):Bq:=
some (h,0)
def Al8:=Aub
def Afe(j30:UInt32→Bq)(bk28:UInt32→Int→Bq)(a:LB)(b:LU)(h:UInt32)(m:Int):Bq:=
if(Cc m (Ac a))then
(getI a m).bind fun p=>
(getI b (GI.toZ (Aa5 (Ad h:UInt8) p))).bind fun _=>
(getI b (GI.toZ (Aa5 (Ad h:UInt8) p))).bind fun u=>
bk28 (Aa5 (Ca h (GI.toZ (8:UInt64)).toNat) u) (Ae m 1)
else
j30 h
def Tl(a:LB)(b:LU):Nat→UInt32→Int→Bq
|0,_,_=>none
|q+1,h,m=>Afe Al8 (Tl a b q) a b h m
def Akr a b:=Tl a b FUEL
def Aln(j28:LB→LU→UInt32→Int→Bq)(f:UInt32)(a:LB)(b:LU):Bq:=
j28 a b f 0
def Akp:=Aln Akr
def Alu(j27:UInt32→LB→LU→Bq)(f:UInt32)(a:LB)(b:LU):Bq:=
j27 f a b
def Ade:=Alu Akp
def As8(bk16:Int→LU→Bq)(f:UInt32)(a:LB)(g:Int)(o:LU):Bq:=
bk16 (Ae g 1) o
def Ale bk16:=As8 bk16
def Alj(j24:Int→LU→Bq)(f:UInt32)(a:LB)(g:Int)(k:UInt32)(b:LU):Bq:=
(getI b g).bind fun _=>
(Mn b g k).bind fun o=>
j24 g o
def Ad7 bk16 f a:=Alj (Ale bk16 f a) f a
def Adk(j23:Int→UInt32→LU→Bq)(bk21:UInt32→Int→Bq)(f:UInt32)(a:LB)(g:Int)(b:LU)(k:UInt32)(n:Int):Bq:=
if(Cc n 8)then
bk21 (Aa5 (Ca k (GI.toZ (1:UInt64)).toNat) (Bj 3988292384 (Dy k 1))) (Ae n 1)
else
j23 g k b
def Ta(bk16:Int→LU→Bq)(f:UInt32)(a:LB)(g:Int)(b:LU):Nat→UInt32→Int→Bq
|0,_,_=>none
|q+1,k,n=>Adk (Ad7 bk16 f a) (Ta bk16 f a g b q) f a g b k n
def Akk bk16 f a g b:=Ta bk16 f a g b FUEL
def Adh(j21:Int→LU→UInt32→Int→Bq)(j26:UInt32→LB→LU→Bq)(f:UInt32)(a:LB)(g:Int)(b:LU):Bq:=
if(Cc g 256)then
j21 g b (Ad g:UInt32) 0
else
j26 f a b
def Nv(f:UInt32)(a:LB):Nat→Int→LU→Bq
|0,_,_=>none
|q+1,g,b=>Adh (Akk (Nv f a q) f a) Ade f a g b
def Amk f a:=Nv f a FUEL
def Anz(j16:UInt32→LB→Int→LU→Bq)(f:UInt32)(a:LB):Bq:=
if(Ee (Ac a) 100000)then
some (0,4)
else
j16 f a 0 (List.replicate 256 (0:UInt32))
def Ap0:=Anz Amk
def Aag(b:LB):Option (UInt32×Int):=
(Ap0 4294967295 b).bind fun(f,a)=>
if(Ay a 0)then
some (0,a)
else
some ((Bfx f),0)
def Bdt(b:UInt64)(a:Int):Option Bool:=
if(geq a 8)then
some true
else
(Kj (Ni (Bj 8 a) 0)).bind fun _=>
some (geq (Ca b (GI.toZ (Bj 8 a)).toNat) 0)
abbrev Ab8:=Option (LB×Int)
def Bcx(a:LB):Ab8:=
some (a,0)
def Atr:=Bcx
def Anp(j6:LB→Ab8)(bk4:Int→LB→Ab8)(f:UInt64)(g:LB)(b:Int)(a:LB):Ab8:=
if(Cc b (Ac g))then
(Kj (Ni (Bj 8 b) 0)).bind fun _=>
(getI a b).bind fun _=>
(Mn a b (Ad (Ca f (GI.toZ (Bj 8 b)).toNat):UInt8)).bind fun k=>
bk4 (Ae b 1) k
else
j6 a
def Ac0(f:UInt64)(g:LB):Nat→Int→LB→Ab8
|0,_,_=>none
|q+1,b,a=>Anp Atr (Ac0 f g q) f g b a
def Auk f g:=Ac0 f g FUEL
def Ats(j4:UInt64→LB→Int→LB→Ab8)(f:UInt64)(h:Int):Ab8:=
if((Cc h 1)||(Ee h 8))then
some (([]:LB),2)
else
(Bdt f h).bind fun m=>
if(!m)then
some (([]:LB),16)
else
(mkI h (0:UInt8)).bind fun g=>
(Kj (geq h h)).bind fun _=>
j4 f g 0 g
def Abk:=Ats Auk
def Ajq(f:LB):Option (LB):=
some f
def Xq:=Ajq
def Xi(j16:LB→Option (LB))(bk14:Int→LB→Option (LB))(a:List LB)(g:Int)(f:LB):Option (LB):=
if(Cc g (Ac a))then
(getI a g).bind fun o=>
(Cx f o).bind fun p=>
bk14 (Ae g 1) p
else
j16 f
def Mx(a:List LB):Nat→Int→LB→Option (LB)
|0,_,_=>none
|q+1,g,f=>Xi Xq (Mx a q) a g f
def Xl a:=Mx a FUEL
def Xp(j14:(List LB)→Int→LB→Option (LB))(a:List LB)(k:LB):Option (LB):=
j14 a 0 k
def Xg:=Xp Xl
def Xr(j13:(List LB)→LB→Option (LB))(b:Int)(a:List LB):Option (LB):=
if(Ee (Aj b (Aj (0:Int) (0:Int))) 0)then
(vwI 0 0 0).bind fun _=>
(mkI (Aj b (Aj (0:Int) (0:Int))) (0:UInt8)).bind fun u=>
(Cx ([]:LB) u).bind fun m=>
(vwI (Ac m) 0 0).bind fun _=>
j13 a (Aod m 0 ((0:Int)-(0:Int)))
else
j13 a ([]:LB)
def Xf:=Xr Xg
def Xe(j12:Int→(List LB)→Option (LB))(a:List LB)(b:Int):Option (LB):=
if(Cc b 0)then
none
else
j12 b a
def Xn:=Xe Xf
def Ye(j11:(List LB)→Int→Option (LB))(bk9:Int→Int→Option (LB))(a:List LB)(b h:Int):Option (LB):=
if(Cc h (Ac a))then
(getI a h).bind fun n=>
if(Cc (Ae b (Ac n)) 0)then
none
else
bk9 (Ae b (Ac n)) (Ae h 1)
else
j11 a b
def Nm(a:List LB):Nat→Int→Int→Option (LB)
|0,_,_=>none
|q+1,b,h=>Ye Xn (Nm a q) a b h
def Yz a:=Nm a FUEL
def Ya(j9:(List LB)→Int→Int→Option (LB))(a:List LB):Option (LB):=
j9 a 0 0
def Acn:=Ya Yz
abbrev Bg:=Option (LB×Int)
def Axi(u:Int)(p:LB):Bg:=
(Aag p).bind fun(af,ac)=>
if(Ay ac 0)then
some (([]:LB),ac)
else
(Abk (Ad af:UInt64) 4).bind fun(m,h)=>
if(Ay h 0)then
some (([]:LB),h)
else
(Acn ([p,m]:List LB)).bind fun ag=>
some (ag,0)
def Ala:=Axi
def Aya(bk27:Int→(List (Int×Int×UInt64×UInt64×Unit))→Int→LB→Bg)(a:LU)(b f g:Int)(k:List (Int×Int×UInt64×UInt64×Unit))(n:Int)(v:LB):Bg:=
bk27 (Ae g 1) k n v
def Amd bk27:=Aya bk27
def Axe(bk44:Int→Int→LB→Bg)(h:Int)(a:LU)(g b f:Int)(k:List (Int×Int×UInt64×UInt64×Unit))(m:LB)(o n:Int)(aa:LB):Bg:=
bk44 (Ae o 1) (Ae n 1) aa
def Ak2 bk44:=Axe bk44
def Alp(j48:Int→Int→LB→Bg)(h:Int)(a:LU)(g b f:Int)(k:List (Int×Int×UInt64×UInt64×Unit))(m:LB)(o n:Int)(y:LB):Bg:=
(getI m (Cp o 8)).bind fun _=>
(getI m (Cp o 8)).bind fun ah=>
(Kj (Ni (Ho o 8) 0)).bind fun _=>
(getI y (Cp n 8)).bind fun _=>
(Kj (Ni (Ho n 8) 0)).bind fun _=>
(getI y (Cp n 8)).bind fun ai=>
(getI y (Cp n 8)).bind fun _=>
Option.bind (Mn y (Cp n 8) (gor ai (Dt (Dy (Ca ah (GI.toZ (Ho o 8)).toNat) 1) (GI.toZ (Ho n 8)).toNat))) fun aa=>
j48 o n aa
def Alw bk44 h a g b f k m:=Alp (Ak2 bk44 h a g b f k m) h a g b f k m
def Aky(j47:Int→Int→LB→Bg)(j50:Int→(List (Int×Int×UInt64×UInt64×Unit))→Int→LB→Bg)(a:LU)(b f h g:Int)(k:List (Int×Int×UInt64×UInt64×Unit))(m:LB)(o n:Int)(v:LB):Bg:=
if(Cc o h)then
if(geq (Ho n 8) 0)then
(Cx v ([(0:UInt8)]:LB)).bind fun aj=>
j47 o n aj
else
j47 o n v
else
j50 g k n v
def Acf(bk27:Int→(List (Int×Int×UInt64×UInt64×Unit))→Int→LB→Bg)(a:LU)(b f h g:Int)(k:List (Int×Int×UInt64×UInt64×Unit))(m:LB):Nat→Int→Int→LB→Bg
|0,_,_,_=>none
|q+1,o,n,v=>Aky (Alw (Acf bk27 a b f h g k m q) h a g b f k m) (Amd bk27 a b f) a b f h g k m o n v
def Akv bk27 a b f h g k m:=Acf bk27 a b f h g k m FUEL
def Ak4(j44:Int→Int→(List (Int×Int×UInt64×UInt64×Unit))→LB→Int→Int→LB→Bg)(j52:Int→LB→Bg)(a:LU)(b f g:Int)(w:List (Int×Int×UInt64×UInt64×Unit))(u:Int)(p:LB):Bg:=
if(Cc g (Ac a))then
(getI a g).bind fun _=>
(getI a g).bind fun ak=>
(Kj (Ay b 0)).bind fun _=>
(getI w (Ho g b)).bind fun _=>
(getI w (Ho g b)).bind fun ab=>
(Bhe ([]:LB) 0 ab.1 ab.2.1 ab.2.2.1 ab.2.2.2.1 ak).bind fun(m,h,al,am,an,ao,ad)=>
if(Ay ad 0)then
some (([]:LB),ad)
else
(Kj (Ay b 0)).bind fun _=>
(getI w (Ho g b)).bind fun _=>
(Mn w (Ho g b) (al,am,an,ao,())).bind fun k=>
j44 h g k m 0 u p
else
j52 u p
def Ab9(a:LU)(b f:Int):Nat→Int→(List (Int×Int×UInt64×UInt64×Unit))→Int→LB→Bg
|0,_,_,_,_=>none
|q+1,g,w,u,p=>Ak4 (Akv (Ab9 a b f q) a b f) Ala a b f g w u p
def Amc a b f:=Ab9 a b f FUEL
def Am4(j27:LU→Int→Int→Int→(List (Int×Int×UInt64×UInt64×Unit))→Int→LB→Bg)(b f:Int)(ap aq:LX):Bg:=
(Au3 b f ap aq).bind fun(a,ae)=>
if(Ay ae 0)then
some (([]:LB),ae)
else
(As7).bind fun ar=>
j27 a b f 0 ar 0 ([]:LB)
def Aeq:=Am4 Amc
def Yu(a:Int)(b:LX):LI→Int→Option (List LX)
  |[],_=>some []
  |n::l,x=>Option.bind (Az b x (Ae x (Bj n a))) fun p=>Option.bind (Yu a b l (Ae x (Bj n a))) fun ps=>some (p::ps)
def Ahe(a f:Int)(t:LX):List LX→List LB→Option (List LB×Int)
  |[],o=>some (o,0)
  |x::xs,o=>Option.bind (Aeq a f t x) fun y=>
    if(Ay y.2 0)=true then some ([],y.2)
    else Option.bind (Cx o [y.1]) fun o'=>Ahe a f t xs o'
def Aul(a h:Int)(b:LX):Option (List LX):=
  Option.bind (Kj (Ay a 0)) fun _=>Option.bind (Yn h (Cp (Ac b) a)) fun l=>Option.bind (Kj (decide (Ac l.1≤17179869184))) fun _=>Yu a b l.1 0
def Atx(a f h:Int)(b:LX)(p:LB):Option (List LB×Int):=
  Option.bind (Af4 a f h b) fun e=>
    if(Ay e 0)=true then some ([],e)
    else Option.bind (Tj p) fun t=>
      if(Ay t.2 0)=true then some ([],t.2)
      else Option.bind (Aul a h b) fun xs=>Ahe a f t.1 xs []
def Agt(b f a g h:Int):Option Bool:=
some (((((((geq b 1)||(geq b 2))&&(Ee f 0))&&(gle f 6))&&(Ee g 0))&&(gle g 1048576))&&(Ee h 0))
def Nc:=Agt
def Zu(j2:Int→Int→Int→Int→Int→Option Bool)(b f a g h:Int):Option Bool:=
if(geq a 8)then
if(geq a 8)then
j2 b f a g h
else
some false
else
if(geq a 16)then
if(geq a 16)then
j2 b f a g h
else
some false
else
if(geq a 24)then
j2 b f a g h
else
some false
def Rb:=Zu Nc
def Ah2(k a m f b:Int):Option Bool:=
(Kj (Ay a 0)).bind fun _=>
if(Ee b (Cp 4000 a))then
some false
else
(Vl f b).bind fun(g,h)=>
some ((geq h 0)&&(gle g 1000))
def Up(a b f g h:Int):Option Int:=
(Rb a b f g h).bind fun k=>
if(!k)then
some 8
else
(Ah2 a b f g h).bind fun m=>
if(!m)then
some 8
else
some 0
abbrev Nu:=Option (LB×Int)
def Bc9(a:LB):Nu:=
(Aag a).bind fun(u,aa)=>
(Abk (Ad u:UInt64) 4).bind fun(n,v)=>
(Cx a n).bind fun o=>
some (o,0)
def Arq:=Bc9
def Arw(j6:LB→Nu)(bk4:Int→LB→Nu)(b f g h k m:Int)(a:LB):Nu:=
if(Cc m 5)then
(getI ([b,f,g,h,k]:LI) m).bind fun w=>
(getI ([(2:Int),(2:Int),(2:Int),(4:Int),(4:Int)]:LI) m).bind fun y=>
(Abk (Ad w:UInt64) y).bind fun(n,v)=>
(Cx a n).bind fun o=>
bk4 (Ae m 1) o
else
j6 a
def Aiv(b f g h k:Int):Nat→Int→LB→Nu
|0,_,_=>none
|q+1,m,a=>Arw Arq (Aiv b f g h k q) b f g h k m a
def Ar8 b f g h k:=Aiv b f g h k FUEL
def Arr(j4:Int→Int→Int→Int→Int→Int→LB→Nu)(b f g h k:Int):Nu:=
(Up b f g h k).bind fun p=>
if(Ay p 0)then
some (([]:LB),p)
else
j4 b f g h k 0 ([(84:UInt8),(84:UInt8),(65:UInt8),(49:UInt8)]:LB)
def Aym:=Arr Ar8
def Bag(a:LB):Option (UInt64×Int):=
if(Ee (Ac a) 64)then
some (0,2)
else
(Apj a).bind fun(b,f)=>
some (b,0)
def Aea(b:LB):Option (LB×Int):=
(Bag b).bind fun(f,a)=>
if(Ay a 0)then
some (([]:LB),a)
else
(Abk f 8).bind fun(g,h)=>
some (g,h)
def Bdy:Option Int:=
some 0
def Ati:=Bdy
def Aep(j6:Option Int)(bk4:Int→Int→Option Int)(a:LI)(f b:Int):Option Int:=
if(Cc b (Ac a))then
(getI a b).bind fun g=>
if((Cc g 5)||(Ee g f))then
some 8
else
bk4 (Aj f g) (Ae b 1)
else
j6
def Sd(a:LI):Nat→Int→Int→Option Int
|0,_,_=>none
|q+1,f,b=>Aep Ati (Sd a q) a f b
def Ame a:=Sd a FUEL
def Aei(j4:LI→Int→Int→Option Int)(a:LI):Option Int:=
if((geq (Ac a) 0)||(Ee (Ac a) 1000))then
some 8
else
j4 a 100000 0
def Qm:=Aei Ame
abbrev Hi:=Option (LB×Int)
def Bc2(g:LB):Hi:=
some (g,0)
def Ar2:=Bc2
def Ar0(j14:LB→Hi)(b:LB):Hi:=
(Aag b).bind fun(m,u)=>
(Abk (Ad m:UInt64) 4).bind fun(n,v)=>
(Cx b n).bind fun g=>
j14 g
def Ar5:=Ar0 Ar2
def Bc6(bk8:Int→LB→Hi)(a:LI)(f:Int)(h:LB):Hi:=
bk8 (Ae f 1) h
def Art bk8:=Bc6 bk8
def Atg(j11:Int→LB→Hi)(j13:LB→Hi)(a:LI)(f:Int)(b:LB):Hi:=
if(Cc f (Ac a))then
(getI a f).bind fun o=>
(Abk (Ad o:UInt64) 4).bind fun(p,w)=>
(Cx b p).bind fun h=>
j11 f h
else
j13 b
def Ak6(a:LI):Nat→Int→LB→Hi
|0,_,_=>none
|q+1,f,b=>Atg (Art (Ak6 a q) a) Ar5 a f b
def Auh a:=Ak6 a FUEL
def Atl(j8:LI→Int→LB→Hi)(a:LI):Hi:=
(Qm a).bind fun k=>
if(Ay k 0)then
some (([]:LB),k)
else
j8 a 0 ([]:LB)
def Bcb:=Atl Auh
def Awy(a:LB):Option Int:=
some (Ac a)
def Be4(a:LB):Option (LB):=
some a
def Au6:=Be4
def Atq(j6:LB→Option (LB))(bk4:Int→LB→Option (LB))(b:List LB)(f:Int)(a:LB):Option (LB):=
if(Cc f (Ac b))then
(getI b f).bind fun g=>
(Cx a g).bind fun h=>
bk4 (Ae f 1) h
else
j6 a
def Ak1(b:List LB):Nat→Int→LB→Option (LB)
|0,_,_=>none
|q+1,f,a=>Atq Au6 (Ak1 b q) b f a
def Au1 b:=Ak1 b FUEL
def Ato(j4:(List LB)→Int→LB→Option (LB))(b:List LB):Option (LB):=
j4 b 0 ([]:LB)
def Bb9:=Ato Au1
abbrev Eo:=Option (LB×Int)
def Bc7(k:Int)(a:List LB)(b f n:LB):Eo:=
if(Ay k 0)then
some (([]:LB),k)
else
(Cx ([b,f,n]:List LB) a).bind fun m=>
(Bb9 m).bind fun ad=>
some (ad,0)
def Asc:=Bc7
def Ar7(j14:Int→(List LB)→LB→LB→LB→Eo)(h:LI)(a:List LB)(b f:LB):Eo:=
(Bcb h).bind fun(n,k)=>
j14 k a b f n
def Ary:=Ar7 Asc
def Bc8(bk9:Int→LI→Eo)(a:List LB)(b f:LB)(g:Int)(m:LI):Eo:=
bk9 (Ae g 1) m
def Arz bk9:=Bc8 bk9
def Ata(j11:Int→LI→Eo)(j13:LI→(List LB)→LB→LB→Eo)(a:List LB)(b f:LB)(g:Int)(h:LI):Eo:=
if(Cc g (Ac a))then
(getI a g).bind fun _=>
(getI a g).bind fun ae=>
(Awy ae).bind fun k=>
(getI h g).bind fun _=>
(Mn h g k).bind fun m=>
j11 g m
else
j13 h a b f
def Aks(a:List LB)(b f:LB):Nat→Int→LI→Eo
|0,_,_=>none
|q+1,g,h=>Ata (Arz (Aks a b f q) a b f) Ary a b f g h
def Atz a b f:=Aks a b f FUEL
def At9(j9:(List LB)→LB→LB→Int→LI→Eo)(a:List LB)(b f:LB):Eo:=
(mkI (Ac a) (0:Int)).bind fun af=>
(Kj (geq (Ac a) (Ac a))).bind fun _=>
j9 a b f 0 af
def Auq:=At9 Atz
def Auu(j8:(List LB)→LB→LB→Eo)(p u v:Int)(w:LX)(o:LB):Eo:=
(Bci p u v w o).bind fun(y,ag,ah,ai,aj,aa)=>
if(Ay aa 0)then
some (([]:LB),aa)
else
(Atx p u v w o).bind fun(a,ab)=>
if(Ay ab 0)then
some (([]:LB),ab)
else
(Aym y ag ah ai aj).bind fun(b,ac)=>
if(Ay ac 0)then
some (([]:LB),ac)
else
if(geq y 2)then
(Aea o).bind fun(ak,al)=>
j8 a b ak
else
j8 a b ([]:LB)
def Bcg:=Auu Auq
def Ak7:Option (LB×Bool):=
(Bcg 1 8 8000 ([(0:Int32)]:LX) ([]:LB)).bind fun(a,b)=>
some (a,((geq b 0)&&(geq (Ac a) 36)))
def Ahm(a:LB):Option (LB×LB×Int×Int×Int×Int×Int×LI×Int×LB×Bool×Int×Int):=
if(Ee (Ac a) 64)then
some (([]:LB),([]:LB),0,0,0,0,0,([]:LI),0,([]:LB),false,0,2)
else
some (a,([]:LB),0,0,0,0,0,([]:LI),0,([]:LB),false,0,0)
def Kz(a:LB):Option (LB):=
(
(Cx ([]:LB) a).bind fun b=>
some b)
def Fl(a:LI):Option (LI):=
(
(Cx ([]:LI) a).bind fun b=>
some b)
def Dd(a b:LB)(f g h k m:Int)(n:LI)(o:Int)(p:LB)(u:Bool)(v:Int):Option (LB×LB×Int×Int×Int×Int×Int×LI×Int×LB×Bool×Int):=
(Kz b).bind fun w=>
(Kz p).bind fun y=>
(Fl n).bind fun aa=>
some (a,w,f,g,h,k,m,aa,o,y,u,v)
def Cy(g h k a b:Int):Option (LI×Int):=
(Up g h k a b).bind fun f=>
if(Ay f 0)then
some (([]:LI),f)
else
(Yn a b).bind fun(m,n)=>
some (m,n)
def Nq(a f g h k:Int)(b:LB):Option Int:=
if((b==([]:LB)) !=(geq a 1))then
some 26
else
some 0
def Aru(w:Int)(o p:LB)(h b f k m:Int)(g:LI)(a:Int)(n:LB)(u:Bool)(v:Int):Option Bool:=
some (gle (Ac n) w)
def Aik:=Aru
def Abp(j8:Int→LB→LB→Int→Int→Int→Int→Int→LI→Int→LB→Bool→Int→Option Bool)(bk6:Int→Int→Option Bool)(y:LI)(o p:LB)(h b f k m:Int)(g:LI)(a:Int)(n:LB)(u:Bool)(v w aa:Int):Option Bool:=
if(Cc aa (Ac y))then
(getI y aa).bind fun ac=>
bk6 (Ae w (Cp (Bj (Bj ac b) f) 8)) (Ae aa 1)
else
j8 w o p h b f k m g a n u v
def Pj(y:LI)(o p:LB)(h b f k m:Int)(g:LI)(a:Int)(n:LB)(u:Bool)(v:Int):Nat→Int→Int→Option Bool
|0,_,_=>none
|q+1,w,aa=>Abp Aik (Pj y o p h b f k m g a n u v q) y o p h b f k m g a n u v w aa
def Aiu y o p h b f k m g a n u v:=Pj y o p h b f k m g a n u v FUEL
def Ai3(j6:LI→LB→LB→Int→Int→Int→Int→Int→LI→Int→LB→Bool→Int→Int→Int→Option Bool)(o p:LB)(h b f k m:Int)(g:LI)(a:Int)(n:LB)(u:Bool)(v:Int)(ab:LI):Option Bool:=
if(geq (Ac g) 0)then
some ((geq a 0)&&(geq (Ac n) 0))
else
(Qm g).bind fun ad=>
if((((Ay ad 0)||(Ay (Ac g) (Ac ab)))||(Cc a 0))||(Ee a (Ac ab)))then
some false
else
(Az ab 0 a).bind fun y=>
j6 y o p h b f k m g a n u v 0 0
def Ai2:=Ai3 Aiu
def Ai6(j5:LB→LB→Int→Int→Int→Int→Int→LI→Int→LB→Bool→Int→LI→Option Bool)(o p:LB)(h b f k m:Int)(g:LI)(a:Int)(n:LB)(u:Bool)(v:Int):Option Bool:=
if((geq h 0)&&((geq b 0)&&((geq f 0)&&((geq k 0)&&((geq m 0)&&true)))))then
some (((geq (Ac g) 0)&&(geq a 0))&&(geq (Ac n) 0))
else
(Cy h b f k m).bind fun(ab,ae)=>
if(Ay ae 0)then
some false
else
(Nq h b f k m o).bind fun af=>
if(Ay af 0)then
some false
else
j5 o p h b f k m g a n u v ab
def Zw:=Ai6 Ai2
def Jh(a b:LB):Option Bool:=
some (a==b)
def Lz(b a:LB):Option Bool:=
if(Ni (Ac b) (Ac a))then
(Az b 0 (Ac a)).bind fun f=>
(Jh f a).bind fun g=>
some g
else
some false
abbrev Lw:=Option (Int×Int)
def Bav(b:Int):Lw:=
some (b,0)
def Apl:=Bav
def Aah(j6:Int→Lw)(bk4:Int→Int→Lw)(a:LB)(b f:Int):Lw:=
if(Cc f (Ac a))then
(getI a f).bind fun g=>
if(Ee g 127)then
some (0,12)
else
bk4 (gor (Dt b (GI.toZ (7:UInt64)).toNat) (Ad g:Int)) (Ae f 1)
else
j6 b
def Nh(a:LB):Nat→Int→Int→Lw
|0,_,_=>none
|q+1,b,f=>Aah Apl (Nh a q) a b f
def Agu a:=Nh a FUEL
def Agh(j4:LB→Int→Int→Lw)(a:LB):Lw:=
if(Ay (Ac a) 4)then
some (0,2)
else
j4 a 0 0
def Ahb:=Agh Agu
abbrev Ik:=Option (Int×Int)
def Arv(a:LB)(b:UInt8)(h:Int):Ik:=
if(Ee h 4000)then
some (0,4)
else
if(Cc (Ac a) h)then
some (0,24)
else
if(geq b 16)then
(Az a (Aj h 10) h).bind fun k=>
(Az k 0 3).bind fun u=>
if(u !=([51,68,73]:LB))then
some (0,12)
else
(Az k 3 (Ac k)).bind fun v=>
(Az a 3 10).bind fun w=>
(Jh v w).bind fun y=>
if(!y)then
some (0,12)
else
some (h,0)
else
some (h,0)
def Abl:=Arv
def Ait(j8:LB→UInt8→Int→Ik)(a:LB)(g:Int)(b:UInt8):Ik:=
if(geq b 16)then
j8 a b (Ae (Ae g 10) 10)
else
j8 a b (Ae g 10)
def Abm:=Ait Abl
def Ail(j7:LB→Int→UInt8→Ik)(a:LB)(g:Int)(b:UInt8)(m:Bool):Ik:=
if m then
some (0,12)
else
j7 a g b
def Aim:=Ail Abm
def Ai0(j6:LB→Int→UInt8→Bool→Ik)(a:LB)(f b:UInt8):Ik:=
(Az a 6 10).bind fun aa=>
(Ahb aa).bind fun(g,ab)=>
if(Ay ab 0)then
if true then
j6 a g b true
else
if(geq b 0)then
j6 a g b (!((Ni f 2)&&(gle f 4)))
else
if(geq b 16)then
j6 a g b (!(geq f 4))
else
j6 a g b (!false)
else
(getI a 4).bind fun ac=>
if(Ay ac 0)then
j6 a g b true
else
if(geq b 0)then
j6 a g b (!((Ni f 2)&&(gle f 4)))
else
if(geq b 16)then
j6 a g b (!(geq f 4))
else
j6 a g b (!false)
def Aio:=Ai0 Aim
def Abr(j5:LB→UInt8→UInt8→Ik)(a:LB):Ik:=
(Lz a ([(73:UInt8),(68:UInt8),(51:UInt8)]:LB)).bind fun n=>
if(!n)then
some (0,6)
else
if(Cc (Ac a) 10)then
some (0,24)
else
(getI a 3).bind fun f=>
(getI a 5).bind fun b=>
(
(
(
j5 a f b)))
def Aj3:=Abr Aio
abbrev Ab6:=Option (UInt64×Int)
def Bnx(b:UInt64):Ab6:=
some (b,0)
def Bb4:=Bnx
def Amy(j6:UInt64→Ab6)(bk4:UInt64→Int→Ab6)(a:LB)(b:UInt64)(f:Int):Ab6:=
if(Cc f (Ac a))then
(getI a f).bind fun g=>
(Kj (Ni (Bj 8 f) 0)).bind fun _=>
bk4 (gor b (Dt (Ad g:UInt64) (GI.toZ (Bj 8 f)).toNat)) (Ae f 1)
else
j6 b
def Ac8(a:LB):Nat→UInt64→Int→Ab6
|0,_,_=>none
|q+1,b,f=>Amy Bb4 (Ac8 a q) a b f
def Aue a:=Ac8 a FUEL
def Aua(j4:LB→UInt64→Int→Ab6)(a:LB):Ab6:=
if((Cc (Ac a) 1)||(Ee (Ac a) 8))then
some (0,2)
else
j4 a 0 0
def Aur:=Aua Aue
def Apn(f:LB)(a b:Int):Option (UInt64×Int):=
if(((Cc b 1)||(Ee b 8))||(Cc a 0))then
some (0,2)
else
if(Ee a (Aj (Ac f) b))then
some (0,24)
else
(Az f a (Ae a b)).bind fun g=>
(Aur g).bind fun(h,k)=>
some (h,k)
def Bgr(g:LB):Option (LB):=
some g
def Axk:=Bgr
def Aqv(j6:LB→Option (LB))(bk4:Int→LB→Option (LB))(a b:Int)(f:UInt64)(h:Int)(g:LB):Option (LB):=
if(Cc h (Ac ([(2000:UInt64),(Ad (Ae a 32):UInt64),(Ad b:UInt64),f,(0:UInt64),(0:UInt64)]:LQ)))then
(getI ([(2000:UInt64),(Ad (Ae a 32):UInt64),(Ad b:UInt64),f,(0:UInt64),(0:UInt64)]:LQ) h).bind fun _=>
(getI ([(2000:UInt64),(Ad (Ae a 32):UInt64),(Ad b:UInt64),f,(0:UInt64),(0:UInt64)]:LQ) h).bind fun k=>
(Abk k 4).bind fun(m,o)=>
(Cx g m).bind fun n=>
bk4 (Ae h 1) n
else
j6 g
def Abt(a b:Int)(f:UInt64):Nat→Int→LB→Option (LB)
|0,_,_=>none
|q+1,h,g=>Aqv Axk (Abt a b f q) a b f h g
def Aw6 a b f:=Abt a b f FUEL
def Axq(j4:Int→Int→UInt64→Int→LB→Option (LB))(a b:Int)(f:UInt64):Option (LB):=
j4 a b f 0 ([(65:UInt8),(80:UInt8),(69:UInt8),(84:UInt8),(65:UInt8),(71:UInt8),(69:UInt8),(88:UInt8)]:LB)
def Avb:=Axq Aw6
def Aj8(b:LB)(g:UInt64):Option (Int×Int×Bool):=
(Apn b 12 4).bind fun(a,m)=>
(Apn b 16 4).bind fun(f,n)=>
if(((Cc a 32)||(Ee a 3032))||(Ee f 1000))then
some (0,0,false)
else
(Avb (Aj (Ad a:Int) 32) (Ad f:Int) g).bind fun h=>
(Jh b h).bind fun k=>
some ((Aj (Ad a:Int) 32),(Ad f:Int),k)
def Avs(a:LB):Option (Int×Int):=
(Lz a ([(65:UInt8),(80:UInt8),(69:UInt8),(84:UInt8),(65:UInt8),(71:UInt8),(69:UInt8),(88:UInt8)]:LB)).bind fun f=>
if(!f)then
some (0,6)
else
if(Cc (Ac a) 32)then
some (0,24)
else
(Az a 0 32).bind fun g=>
(Aj8 g 2684354560).bind fun(b,h,k)=>
if(!k)then
some (0,12)
else
if(Cc (Ac a) (Ae b 64))then
some (0,24)
else
(Az a (Aj (Ae b 64) 32) (Ae b 64)).bind fun m=>
(Avb b h 2147483648).bind fun n=>
(Jh m n).bind fun o=>
if(!o)then
some (0,12)
else
some ((Ae b 64),0)
def Yk(a:LB):Option (Int×Int):=
(Aj3 a).bind fun(f,b)=>
if(Ay b 6)then
some (f,b)
else
(Avs a).bind fun(g,h)=>
some (g,h)
def Vo(b:List UInt8):Nat→Int→Option (Int×Int)
  |0,_=>none
  |q+1,x=>Option.bind (Az b x (Ac b)) fun s=>Option.bind (Yk s) fun r=>
    if geq r.2 (6:Int)=true then some (x,0)
    else if(geq r.2 (0:Int)&&Ee (Ae x r.1) (4000:Int))=true then some (0,4)
    else if Ay r.2 (0:Int)=true then some (0,r.2)
    else Vo b q (Ae x r.1)
def Jg(b:List UInt8):Option (Int×Int):=Vo b FUEL 0
def Ag(a:Int):Option (Bool×Int):=
some (false,a)
def Fy(b a:LB):Option Bool:=
if(Ni (Ac b) (Ac a))then
(Az b 0 (Ac a)).bind fun f=>
some (f==a)
else
some false
def Ih(a b:LB):Option Bool:=
(Fy a b).bind fun f=>
some f
def Bc3:Option Bool:=
some false
def Ar9:=Bc3
def Vf(j6:Option Bool)(bk4:Int→Option Bool)(a:LB)(b:Int):Option Bool:=
if(Cc b 2)then
(getI ([([73,68,51]:LB),([65,80,69,84,65,71,69,88]:LB)]:List LB) b).bind fun f=>
if(Cc (Ac a) (Ac f))then
(Ih f a).bind fun g=>
if g then
some true
else
bk4 (Ae b 1)
else
bk4 (Ae b 1)
else
j6
def Jf(a:LB):Nat→Int→Option Bool
|0,_=>none
|q+1,b=>Vf Ar9 (Jf a q) a b
def Ai5 a:=Jf a FUEL
def Aix(j4:LB→Int→Option Bool)(a:LB):Option Bool:=
j4 a 0
def Pq:=Aix Ai5
abbrev Qs:=Option (Int×Int×Int×Int×Int×Int)
def Asy(a:LI):Qs:=
(getI a 0).bind fun _=>
(getI a 0).bind fun h=>
(getI a 1).bind fun _=>
(getI a 1).bind fun k=>
(getI a 2).bind fun _=>
(getI a 2).bind fun m=>
(getI a 3).bind fun _=>
(getI a 3).bind fun n=>
(getI a 4).bind fun _=>
(getI a 4).bind fun o=>
(Rb h k m n o).bind fun p=>
if(!p)then
some (0,0,0,0,0,12)
else
(Ah2 h k m n o).bind fun u=>
if(!u)then
some (0,0,0,0,0,4)
else
some (h,k,m,n,o,0)
def Aez:=Asy
def Aeu(j6:LI→Qs)(bk4:Int→Int→LI→Qs)(b:LB)(g f:Int)(a:LI):Qs:=
if(Cc f 5)then
(getI ([(2:Int),(2:Int),(2:Int),(4:Int),(4:Int)]:LI) f).bind fun h=>
(Apn b g h).bind fun(v,ae)=>
(getI a f).bind fun _=>
(Mn a f (Ad v:Int)).bind fun w=>
bk4 (Ae g h) (Ae f 1) w
else
j6 a
def Ns(b:LB):Nat→Int→Int→LI→Qs
|0,_,_,_=>none
|q+1,g,f,a=>Aeu Aez (Ns b q) b g f a
def Ads b:=Ns b FUEL
def Ama(j4:LB→Int→Int→LI→Qs)(b:LB):Qs:=
(Az b 0 (Eh 4 (Ac b))).bind fun y=>
(Ih ([84,84,65,49]:LB) y).bind fun aa=>
if(!aa)then
some (0,0,0,0,0,12)
else
if(Cc (Ac b) 22)then
some (0,0,0,0,0,24)
else
(Apn b 18 4).bind fun(ab,af)=>
(Az b 0 18).bind fun ac=>
(Aag ac).bind fun(ad,ag)=>
if(Ay (Ad ad:UInt64) ab)then
some (0,0,0,0,0,22)
else
j4 b 4 0 (List.replicate 5 (0:Int))
def Mz:=Ama Ads
def Zy(a f:LB):Option (Bool×Int):=
(Aea f).bind fun(b,g)=>
if((Ay g 0)||(Ay (Ac a) (Ac b)))then
some (false,2)
else
(Jh a b).bind fun h=>
some (h,0)
abbrev Ul:=Option (LI×Int)
def Aws(a:LI):Ul:=
(Qm a).bind fun k=>
if(Ay k 0)then
some (([]:LI),12)
else
some (a,0)
def Ag9:=Aws
def Ag4(j6:LI→Ul)(bk4:Int→LI→Ul)(b:LB)(f:LI)(g:Int)(a:LI):Ul:=
if(Cc g (Ac f))then
(Apn b (Bj 4 g) 4).bind fun(k,u)=>
(getI a g).bind fun _=>
(Mn a g (Ad k:Int)).bind fun m=>
bk4 (Ae g 1) m
else
j6 a
def Vj(b:LB)(f:LI):Nat→Int→LI→Ul
|0,_,_=>none
|q+1,g,a=>Ag4 Ag9 (Vj b f q) b f g a
def Aol b f:=Vj b f FUEL
def Aor(j4:LB→LI→Int→LI→Ul)(b:LB)(h:Int):Ul:=
if((Cc h 1)||(Ee h 1000))then
some (([]:LI),2)
else
if(Cc (Ac b) (Ae (Bj 4 h) 4))then
some (([]:LI),24)
else
(Apn b (Bj 4 h) 4).bind fun(n,v)=>
(Az b 0 (Bj 4 h)).bind fun o=>
(Aag o).bind fun(p,w)=>
if(Ay (Ad p:UInt64) n)then
some (([]:LI),22)
else
(mkI h (0:Int)).bind fun f=>
(Kj (geq h h)).bind fun _=>
j4 b f 0 f
def Af2:=Aor Aol
def Abc(f a b g h:Int):Option (Int×Int):=
some (a,b)
def Ae6(a:LB):Option (LB×Int):=
if(Cc (Ac a) 5)then
some (([]:LB),24)
else
if(Ee (Ac a) 41254)then
some (([]:LB),4)
else
(Az a 0 (Aj (Ac a) 4)).bind fun f=>
(Aag f).bind fun(g,b)=>
if(Ay b 0)then
some (([]:LB),b)
else
(Az a (Aj (Ac a) 4) (Ac a)).bind fun h=>
(Aur h).bind fun(k,m)=>
if((Ay m 0)||(Ay k (Ad g:UInt64)))then
some (([]:LB),22)
else
(Az a 0 (Aj (Ac a) 4)).bind fun n=>
some (n,0)
def Bl4(a:LB):Option (LB×Int×Int):=
if(Ee (Ac a) 41250)then
some (([]:LB),0,4)
else
(Fu a).bind fun b=>
some (b,(Bj 8 (Ac a)),0)
def Bod(g:UInt64):Option UInt64:=
some g
def Bb1:=Bod
def Aut(j6:UInt64→Option UInt64)(bk4:UInt64→Int→Option UInt64)(b f:Int)(h:LB)(k:Int)(g:UInt64)(a:Int):Option UInt64:=
if(Cc a f)then
(getI h (Bk8 (Ae b a) (GI.toZ (3:UInt64)).toNat)).bind fun m=>
(Kj (Ni (Dy (Ae b a) 7) 0)).bind fun _=>
(Kj (Ni (Eh (Aj f a) (Aj 8 (Dy (Ae b a) 7))) 0)).bind fun _=>
(Kj (Ni a 0)).bind fun _=>
bk4 (gor g (Dt (Ad (Dy (Ca m (GI.toZ (Dy (Ae b a) 7)).toNat) (Aj (Dt (1:UInt8) (GI.toZ (Eh (Aj f a) (Aj 8 (Dy (Ae b a) 7)))).toNat) 1)):UInt64) (GI.toZ a).toNat)) (Ae a (Eh (Aj f a) (Aj 8 (Dy (Ae b a) 7))))
else
j6 g
def Ah5(b f:Int)(h:LB)(k:Int):Nat→UInt64→Int→Option UInt64
|0,_,_=>none
|q+1,g,a=>Aut Bb1 (Ah5 b f h k q) b f h k g a
def Bcm b f h k:=Ah5 b f h k FUEL
def Bcu(j4:Int→Int→LB→Int→UInt64→Int→Option UInt64)(h:LB)(k b f:Int):Option UInt64:=
j4 b f h k 0 0
def Az1:=Bcu Bcm
abbrev Er:=Option (LB×Int×Int)
def Ayo(o:Int)(p:LB):Er:=
some (p,o,0)
def Are:=Ayo
def Azy(bk27:Int→Int→LB→Er)(a:Int)(g:LB)(f b h:Int)(u:LB):Er:=
bk27 (Ae b 64) h u
def Aj0 bk27:=Azy bk27
def Ay8(bk44:UInt64→Int→Int→LB→Er)(a b:Int)(g:LB)(f:Int)(k n:UInt64)(m h:Int)(w:LB):Er:=
(Kj (Ni (Eh m (Aj 8 (Dy h 7))) 0)).bind fun _=>
bk44 (Ca n (GI.toZ (Eh m (Aj 8 (Dy h 7)))).toNat) (Aj m (Eh m (Aj 8 (Dy h 7)))) (Ae h (Eh m (Aj 8 (Dy h 7)))) w
def Aqp bk44:=Ay8 bk44
def Ard(j48:UInt64→Int→Int→LB→Er)(a b:Int)(g:LB)(f:Int)(k n:UInt64)(m h:Int)(v:LB):Er:=
(getI v (Aj (Ac v) 1)).bind fun _=>
(Kj (Ni (Eh m (Aj 8 (Dy h 7))) 0)).bind fun _=>
(Kj (Ni (Dy h 7) 0)).bind fun _=>
(getI v (Aj (Ac v) 1)).bind fun aa=>
(getI v (Aj (Ac v) 1)).bind fun _=>
Option.bind (Mn v (Aj (Ac v) 1) (gor aa (Dt (Ad (Dy n (Aj (Dt (1:UInt64) (GI.toZ (Eh m (Aj 8 (Dy h 7)))).toNat) 1)):UInt8) (GI.toZ (Dy h 7)).toNat))) fun w=>
j48 n m h w
def Aju bk44 a b g f k:=Ard (Aqp bk44 a b g f k) a b g f k
def Aj5(j47:UInt64→Int→Int→LB→Er)(j50:Int→Int→LB→Er)(a:Int)(g:LB)(f b:Int)(k n:UInt64)(m h:Int)(u:LB):Er:=
if(Ee m 0)then
if(geq (Dy h 7) 0)then
(Cx u ([(0:UInt8)]:LB)).bind fun ab=>
j47 n m h ab
else
j47 n m h u
else
j50 b h u
def Po(bk27:Int→Int→LB→Er)(a:Int)(g:LB)(f b:Int)(k:UInt64):Nat→UInt64→Int→Int→LB→Er
|0,_,_,_,_=>none
|q+1,n,m,h,u=>Aj5 (Aju (Po bk27 a g f b k q) a b g f k) (Aj0 bk27 a g f) a g f b k n m h u
def Ara bk27 a g f b k:=Po bk27 a g f b k FUEL
def Aqx(j44:Int→UInt64→UInt64→Int→Int→LB→Er)(j52:Int→LB→Er)(a:Int)(g:LB)(f b o:Int)(p:LB):Er:=
if(Cc b a)then
(Az1 g f b (Eh 64 (Aj a b))).bind fun k=>
j44 b k k (Eh 64 (Aj a b)) o p
else
j52 o p
def Aac(a:Int)(g:LB)(f:Int):Nat→Int→Int→LB→Er
|0,_,_,_=>none
|q+1,b,o,p=>Aqx (Ara (Aac a g f q) a g f) Are a g f b o p
def Aqj a g f:=Aac a g f FUEL
def Atk(j27:Int→LB→Int→Int→Int→LB→Er)(g:LB)(f y a:Int):Er:=
(Km g f).bind fun ac=>
if(Ay ac 0)then
some (([]:LB),0,8)
else
if(((Cc y 0)||(Ee y a))||(Ee a f))then
some (([]:LB),0,2)
else
j27 a g f y 0 ([]:LB)
def Auy:=Atk Aqj
def Aex(g:LB)(b f a:Int):Option (UInt64×Int):=
(Km g b).bind fun h=>
if(Ay h 0)then
some (0,8)
else
if(((Cc a 0)||(Ee a 64))||(Cc f 0))then
some (0,2)
else
if(Ee f (Aj b a))then
some (0,24)
else
(Az1 g b f a).bind fun k=>
some (k,0)
def Ge(a:UInt64):Option Int:=
if(geq a 0)then
some 64
else
(getI ([(0:UInt8),(1:UInt8),(56:UInt8),(2:UInt8),(57:UInt8),(49:UInt8),(28:UInt8),(3:UInt8),(61:UInt8),(58:UInt8),(42:UInt8),(50:UInt8),(38:UInt8),(29:UInt8),(17:UInt8),(4:UInt8),(62:UInt8),(47:UInt8),(59:UInt8),(36:UInt8),(45:UInt8),(43:UInt8),(51:UInt8),(22:UInt8),(53:UInt8),(39:UInt8),(33:UInt8),(30:UInt8),(24:UInt8),(18:UInt8),(12:UInt8),(5:UInt8),(63:UInt8),(55:UInt8),(48:UInt8),(27:UInt8),(60:UInt8),(41:UInt8),(37:UInt8),(16:UInt8),(46:UInt8),(35:UInt8),(44:UInt8),(21:UInt8),(52:UInt8),(32:UInt8),(23:UInt8),(11:UInt8),(54:UInt8),(26:UInt8),(40:UInt8),(15:UInt8),(34:UInt8),(20:UInt8),(31:UInt8),(10:UInt8),(25:UInt8),(14:UInt8),(19:UInt8),(9:UInt8),(13:UInt8),(8:UInt8),(7:UInt8),(6:UInt8)]:LB) (GI.toZ (Ca (Bj (Dy a (Ayf a)) 285870213051353865) (GI.toZ (58:UInt64)).toNat))).bind fun b=>
some (Ad b:Int)
abbrev Ig:=Option (Int×Int×Int)
def Bfr:Ig:=
some (0,0,24)
def At2:=Bfr
def Awe(j10:Ig):Ig:=
j10
def Av9:=Awe At2
def Aoj(j9:Ig)(f a:Int):Ig:=
if(geq f 48)then
some (f,(Ae 0 (Ae a f)),0)
else
j9
def An7:=Aoj Av9
def An8(j8:Int→Int→Ig)(f b a:Int):Ig:=
if(Cc f (Eh 48 (Aj b a)))then
some (f,(Ae (Ae (0:Int) (1:Int)) (Ae a f)),0)
else
j8 f a
def An3:=An8 An7
def Anx(j7:Int→Int→Int→Ig)(h:Int)(k:UInt64)(a:Int)(g:LB)(b:Int):Ig:=
if(Ay h 0)then
some (0,0,h)
else
(Ge (Bfx k)).bind fun f=>
j7 f b a
def Aop:=Anx An3
def Aa6(j6:Int→UInt64→Int→LB→Int→Ig)(g:LB)(b a:Int):Ig:=
(Km g b).bind fun m=>
if(Ay m 0)then
some (0,0,m)
else
if(Cc a 0)then
some (0,0,2)
else
if(Ni a b)then
some (0,0,24)
else
(
(
(Aex g b a (Eh 48 (Aj b a))).bind fun(k,h)=>
j6 h k a g b))
def Agd:=Aa6 Aop
abbrev As9:=Option (UInt32×Int×Int)
def Ari(a b f:Int)(g:LB)(h k:Int):As9:=
(Aex g h b k).bind fun(m,n)=>
if(Ay n 0)then
some (0,0,n)
else
if(Cc f 48)then
(Kj (Ni a 0)).bind fun _=>
some ((gor (Dt (Ad f:UInt32) (GI.toZ a).toNat) (Ad m:UInt32)),(Ae b k),0)
else
(Ajz (Ad m:UInt32) a).bind fun u=>
if(!u)then
some (0,0,12)
else
some ((Ad m:UInt32),(Ae b k),0)
def Ajv:=Ari
def Ap9(j2:Int→Int→Int→LB→Int→Int→As9)(g:LB)(h v a:Int):As9:=
(Km g h).bind fun o=>
if(Ay o 0)then
some (0,0,o)
else
if((Cc a 0)||(Ee a 24))then
some (0,0,2)
else
(Agd g h v).bind fun(f,b,p)=>
if(Ay p 0)then
some (0,0,p)
else
if(geq f 48)then
j2 a b f g h 32
else
j2 a b f g h a
def Ava:=Ap9 Ajv
abbrev La:=Option (UInt32×Int×Int×Int×UInt64×UInt64×Int)
def Awj(f:UInt32)(k w m:Int)(a n:UInt64):La:=
some (f,k,w,m,(Ae a (Aj (Ad f:UInt64) (Ca a (GI.toZ (4:UInt64)).toNat))),n,0)
def Aoa:=Awj
def Aq6(j10:UInt32→Int→Int→Int→UInt64→UInt64→La)(f:UInt32)(k m:Int)(a n:UInt64)(w:Int):La:=
j10 f k w m a n
def Ap4:=Aq6 Aoa
def Arc(j9:UInt32→Int→Int→UInt64→UInt64→Int→La)(f:UInt32)(k b:Int)(a:UInt64)(m:Int)(n:UInt64):La:=
if(Ee b 0)then
(Kj (Ni b 0)).bind fun _=>
if(Cc (Ae a (Aj (Ad f:UInt64) (Ca a (GI.toZ (4:UInt64)).toNat))) (Dt (16:UInt64) (GI.toZ b).toNat))then
j9 f k m a n (Aj b 1)
else
if(Cc b 24)then
(Kj (Ni b 0)).bind fun _=>
if(Ee (Ae a (Aj (Ad f:UInt64) (Ca a (GI.toZ (4:UInt64)).toNat))) (Dt (32:UInt64) (GI.toZ b).toNat))then
j9 f k m a n (Ae b 1)
else
j9 f k m a n b
else
j9 f k m a n b
else
if(Cc b 24)then
(Kj (Ni b 0)).bind fun _=>
if(Ee (Ae a (Aj (Ad f:UInt64) (Ca a (GI.toZ (4:UInt64)).toNat))) (Dt (32:UInt64) (GI.toZ b).toNat))then
j9 f k m a n (Ae b 1)
else
j9 f k m a n b
else
j9 f k m a n b
def Adg:=Arc Ap4
def Aqy(j8:UInt32→Int→Int→UInt64→Int→UInt64→La)(b h:Int)(a g:UInt64)(f:UInt32)(k:Int):La:=
(Af3 b h a g f).bind fun(ad,o)=>
if(geq ad 1)then
if(Ee h 0)then
(Kj (Ni h 0)).bind fun _=>
if(Cc (Ae g (Aj (Ad o:UInt64) (Ca g (GI.toZ (4:UInt64)).toNat))) (Dt (16:UInt64) (GI.toZ h).toNat))then
j8 f k b a (Aj h 1) (Ae g (Aj (Ad o:UInt64) (Ca g (GI.toZ (4:UInt64)).toNat)))
else
if(Cc h 24)then
(Kj (Ni h 0)).bind fun _=>
if(Ee (Ae g (Aj (Ad o:UInt64) (Ca g (GI.toZ (4:UInt64)).toNat))) (Dt (32:UInt64) (GI.toZ h).toNat))then
j8 f k b a (Ae h 1) (Ae g (Aj (Ad o:UInt64) (Ca g (GI.toZ (4:UInt64)).toNat)))
else
j8 f k b a h (Ae g (Aj (Ad o:UInt64) (Ca g (GI.toZ (4:UInt64)).toNat)))
else
j8 f k b a h (Ae g (Aj (Ad o:UInt64) (Ca g (GI.toZ (4:UInt64)).toNat)))
else
if(Cc h 24)then
(Kj (Ni h 0)).bind fun _=>
if(Ee (Ae g (Aj (Ad o:UInt64) (Ca g (GI.toZ (4:UInt64)).toNat))) (Dt (32:UInt64) (GI.toZ h).toNat))then
j8 f k b a (Ae h 1) (Ae g (Aj (Ad o:UInt64) (Ca g (GI.toZ (4:UInt64)).toNat)))
else
j8 f k b a h (Ae g (Aj (Ad o:UInt64) (Ca g (GI.toZ (4:UInt64)).toNat)))
else
j8 f k b a h (Ae g (Aj (Ad o:UInt64) (Ca g (GI.toZ (4:UInt64)).toNat)))
else
j8 f k b a h g
def Aj4:=Aqy Adg
def Aqc(j7:Int→Int→UInt64→UInt64→UInt32→Int→La)(p:Int)(u:LB)(v b h:Int)(a g:UInt64):La:=
(Aex u v p 1).bind fun(ae,aa)=>
if(Ay aa 0)then
some (0,0,0,0,0,0,aa)
else
if(geq ae 0)then
(Aex u v (Ae p 1) b).bind fun(af,ab)=>
if(Ay ab 0)then
some (0,0,0,0,0,0,ab)
else
j7 b h a g (Ad af:UInt32) (Ae (Ae p 1) b)
else
(Ava u v (Ae p 1) h).bind fun(y,ag,ac)=>
if(Ay ac 0)then
some (0,0,0,0,0,0,ac)
else
(Kj (Ni b 0)).bind fun _=>
if(Cc (Ae y (Dt (1:UInt32) (GI.toZ b).toNat)) y)then
some (0,0,0,0,0,0,12)
else
j7 b h a g (Ae y (Dt (1:UInt32) (GI.toZ b).toNat)) ag
def Aq1:=Aqc Aj4
def Arn(j6:Int→LB→Int→Int→Int→UInt64→UInt64→La)(u:LB)(v p b h:Int)(a g:UInt64):La:=
(Km u v).bind fun ah=>
if(Ay ah 0)then
some (0,0,0,0,0,0,8)
else
(Akn b h a g).bind fun ai=>
if(Ay ai 0)then
some (0,0,0,0,0,0,8)
else
j6 p u v b h a g
def Agj:=Arn Aq1
abbrev Bm:=Option (LU×Int×Int)
def Axm(k:Int)(m:LU):Bm:=
some (m,k,0)
def Alh:=Axm
def Aly(bk16:Int→Int→(List (Int×Int×UInt64×UInt64×Unit))→LU→Bm)(a f:Int)(g:LB)(b k v:Int)(w:UInt32)(h:Int)(ag:List (Int×Int×UInt64×UInt64×Unit))(m:LU):Bm:=
(Cx m ([w]:LU)).bind fun ak=>
bk16 (Ae k v) (Ae h 1) ag ak
def Ach bk16:=Aly bk16
def Tu(j22:Int→Int→UInt32→Int→(List (Int×Int×UInt64×UInt64×Unit))→LU→Bm)(a f:Int)(g:LB)(b k h y:Int)(w:UInt32)(v:Int)(n:List (Int×Int×UInt64×UInt64×Unit))(m:LU)(aa ab:Int)(ac ad:UInt64):Bm:=
if(Ay y 0)then
some (([]:LU),0,y)
else
(Kj (Ay a 0)).bind fun _=>
(getI n (Ho h a)).bind fun _=>
(Mn n (Ho h a) (aa,ab,ac,ad,())).bind fun ag=>
j22 k v w h ag m
def Tt bk16 a f g b:=Tu (Ach bk16 a f g b) a f g b
def Uk(j21:Int→Int→Int→UInt32→Int→(List (Int×Int×UInt64×UInt64×Unit))→LU→Int→Int→UInt64→UInt64→Bm)(j24:Int→LU→Bm)(a f:Int)(g:LB)(b k h:Int)(n:List (Int×Int×UInt64×UInt64×Unit))(m:LU):Bm:=
if(Cc h (Bj f a))then
(Auy g b k (Eh (Ae k 81) b)).bind fun(ah,ae,af)=>
if(Ay af 0)then
some (([]:LU),0,af)
else
(Kj (Ay a 0)).bind fun _=>
(getI n (Ho h a)).bind fun _=>
(
(
(getI n (Ho h a)).bind fun p=>
(
(Agj ah ae 0 p.1 p.2.1 p.2.2.1 p.2.2.2.1).bind fun(w,v,aa,ab,ac,ad,y)=>
j21 k h y w v n m aa ab ac ad)))
else
j24 k m
def Nl(a f:Int)(g:LB)(b:Int):Nat→Int→Int→(List (Int×Int×UInt64×UInt64×Unit))→LU→Bm
|0,_,_,_,_=>none
|q+1,k,h,n,m=>Uk (Tt (Nl a f g b q) a f g b) Alh a f g b k h n m
def Akl a f g b:=Nl a f g b FUEL
def Ako(j16:Int→Int→LB→Int→Int→Int→(List (Int×Int×UInt64×UInt64×Unit))→LU→Bm)(a f:Int)(g:LB)(b:Int)(o:List (Int×Int×UInt64×UInt64×Unit)):Bm:=
j16 a f g b 0 0 o ([]:LU)
def Acg:=Ako Akl
def Alf(j15:Int→Int→LB→Int→(List (Int×Int×UInt64×UInt64×Unit))→Bm)(bk13:Int→(List (Int×Int×UInt64×UInt64×Unit))→Bm)(a f:Int)(g:LB)(b u:Int)(o:List (Int×Int×UInt64×UInt64×Unit)):Bm:=
if(Cc u 6)then
(Axw).bind fun(al,ae,af,am)=>
(getI o u).bind fun _=>
(Mn o u (al,ae,af,am,())).bind fun an=>
bk13 (Ae u 1) an
else
j15 a f g b o
def Abx(a f:Int)(g:LB)(b:Int):Nat→Int→(List (Int×Int×UInt64×UInt64×Unit))→Bm
|0,_,_=>none
|q+1,u,o=>Alf Acg (Abx a f g b q) a f g b u o
def Uh a f g b:=Abx a f g b FUEL
def Ae5(j13:Int→Int→LB→Int→Int→(List (Int×Int×UInt64×UInt64×Unit))→Bm)(a f:Int)(g:LB)(b:Int):Bm:=
j13 a f g b 0 (List.replicate 6 ((0:Int),(0:Int),(0:UInt64),(0:UInt64),()))
def Afd:=Ae5 Uh
def Zz(a:UInt32):Option Int32:=
some (Aa5 (Ad (Ca a (GI.toZ (1:UInt64)).toNat):Int32) (Ayf (Ad (Dy a 1):Int32)))
def Atn(b:Int)(f g:LX)(a:Int32):Option (Int32×Int×LX×LX×Int):=
(Amh b f g).bind fun(h,k)=>
if(Ay k 0)then
some (0,0,(List.replicate 16 (0:Int32)),(List.replicate 16 (0:Int32)),k)
else
(Aqs b f g (Ae a h) a).bind fun(m,n,o)=>
some ((Ae a h),m,n,o,0)
def Ly(a:Int)(b:Int32)(f:Int)(g h:LX)(o:Int32):Option (Int32×Int×Int32×Int×LX×LX×Int):=
(Zi a b f g h).bind fun k=>
if(Ay k 0)then
some (0,0,0,0,(List.replicate 16 (0:Int32)),(List.replicate 16 (0:Int32)),k)
else
(Yf a b).bind fun(m,y)=>
(Atn f g h o).bind fun(n,p,u,v,w)=>
(
some ((Ae n m),a,(Ae n m),p,u,v,w))
abbrev Gh:=Option (LX×Int)
def Bke(f:LX):Gh:=
some (f,0)
def Aze:=Bke
def Ayl(bk12:Int→LX→Gh)(b a:Int)(h:LX):Gh:=
bk12 (Ae a b) h
def Aqu bk12:=Ayl bk12
def Aj2(j20:Int→LX→Gh)(bk18:Int→LX→Gh)(b a g:Int)(h:LX):Gh:=
if(Ni g 0)then
(Kj (decide (0≤(Ae g 1)∧(Ae g 1)<((Ae a b)-a)))).bind fun _=>
(Kj (decide (0≤g∧g<((Ae a b)-a)))).bind fun _=>
(getI h (a+(Ae g 1))).bind fun o=>
(getI h (a+g)).bind fun p=>
(Kj (decide (0≤g∧g<((Ae a b)-a)))).bind fun _=>
(Mn h (a+g) (Aj o p)).bind fun u=>
bk18 (Aj g 1) u
else
j20 a h
def Aad(bk12:Int→LX→Gh)(b a:Int):Nat→Int→LX→Gh
|0,_,_=>none
|q+1,g,h=>Aj2 (Aqu bk12 b) (Aad bk12 b a q) b a g h
def Ap2 bk12 b a:=Aad bk12 b a FUEL
def Aq2(j18:Int→Int→LX→Gh)(b a:Int)(k:LX):Gh:=
j18 a (Aj (Aj ((Ae a b)-a) 1) 1) k
def Aj1 bk12 b:=Aq2 (Ap2 bk12 b) b
def Aq3(j17:Int→LX→Gh)(j22:LX→Gh)(b a:Int)(f:LX):Gh:=
if(Cc a (Ac f))then
(vwI (Ac f) a (Ae a b)).bind fun _=>
if(Ee (Aj ((Ae a b)-a) 1) 0)then
(Kj (decide (0≤(Aj ((Ae a b)-a) 1)∧(Aj ((Ae a b)-a) 1)<((Ae a b)-a)))).bind fun _=>
Option.bind (Kj (decide (0≤(Aj (Aj ((Ae a b)-a) 1) 1)∧(Aj (Aj ((Ae a b)-a) 1) 1)<((Ae a b)-a)))) fun _=>
(getI f (a+(Aj ((Ae a b)-a) 1))).bind fun v=>
(getI f (a+(Aj (Aj ((Ae a b)-a) 1) 1))).bind fun w=>
(Kj (decide (0≤(Aj ((Ae a b)-a) 1)∧(Aj ((Ae a b)-a) 1)<((Ae a b)-a)))).bind fun _=>
(Mn f (a+(Aj ((Ae a b)-a) 1)) (Ae v (Cp w 2))).bind fun y=>
j17 a y
else
j17 a f
else
j22 f
def Uo(b:Int):Nat→Int→LX→Gh
|0,_,_=>none
|q+1,a,f=>Aq3 (Aj1 (Uo b q) b) Aze b a f
def Aqr b:=Uo b FUEL
def Ass(j12:Int→Int→LX→Gh)(b:Int)(m:LX):Gh:=
(Apk b m).bind fun n=>
if(Ay n 0)then
some (([]:LX),n)
else
(Ei m).bind fun aa=>
j12 b 0 aa
def Ay1:=Ass Aqr
abbrev Bu:=Option (LX×Int)
def Ajk(a b:Int)(k:LX):Bu:=
(Ay1 a k).bind fun(ah,af)=>
if(Ay af 0)then
some (([]:LX),af)
else
(Yj b ah).bind fun ae=>
if(Ay ae 0)then
some (([]:LX),ae)
else
some (ah,0)
def Mg:=Ajk
def Ajo(bk13:Int→(List (Int×Int32×(Int×LX×LX×Unit)×Unit))→LX→Bu)(a:Int)(f:LU)(b g:Int)(w:Int32)(u:Int)(h:List (Int×Int32×(Int×LX×LX×Unit)×Unit))(k:LX)(y:Int)(v:Int32)(aa:Int)(ab ac:LX):Bu:=
if(Ay u 0)then
some (([]:LX),u)
else
(Mn h (Ho g a) (y,v,(aa,ab,ac,()),())).bind fun ai=>
(Cx k ([w]:LX)).bind fun aj=>
bk13 (Ae g 1) ai aj
def Aan bk13:=Ajo bk13
def Mi(j16:Int→Int32→Int→(List (Int×Int32×(Int×LX×LX×Unit)×Unit))→LX→Int→Int32→Int→LX→LX→Bu)(j18:Int→Int→LX→Bu)(f:LU)(a b g:Int)(h:List (Int×Int32×(Int×LX×LX×Unit)×Unit))(k:LX):Bu:=
if(Cc g (Ac f))then
(getI f g).bind fun ag=>
(Kj (Ay a 0)).bind fun _=>
(getI h (Ho g a)).bind fun _=>
(
(getI h (Ho g a)).bind fun m=>
(
(Zz ag).bind fun ae=>
(
(Ly m.1 m.2.1 m.2.2.1.1 m.2.2.1.2.1 m.2.2.1.2.2.1 ae).bind fun(w,y,v,aa,ab,ac,u)=>
j16 g w u h k y v aa ab ac)))
else
j18 a b k
def Iy(f:LU)(a b:Int):Nat→Int→(List (Int×Int32×(Int×LX×LX×Unit)×Unit))→LX→Bu
|0,_,_,_=>none
|q+1,g,h,k=>Mi (Aan (Iy f a b q) a f b) Mg f a b g h k
def Ajf f a b:=Iy f a b FUEL
def Ajd(j13:LU→Int→Int→Int→(List (Int×Int32×(Int×LX×LX×Unit)×Unit))→LX→Bu)(f:LU)(a b:Int)(n:List (Int×Int32×(Int×LX×LX×Unit)×Unit)):Bu:=
j13 f a b 0 n ([]:LX)
def Aaz:=Ajd Ajf
def Aji(j12:LU→Int→Int→(List (Int×Int32×(Int×LX×LX×Unit)×Unit))→Bu)(bk10:Int→(List (Int×Int32×(Int×LX×LX×Unit)×Unit))→Bu)(f:LU)(a b:Int)(o:LX)(p:Int)(n:List (Int×Int32×(Int×LX×LX×Unit)×Unit)):Bu:=
if(Cc p 6)then
(Bba b o).bind fun(ak,af,ae,al,am,v)=>
(getI n p).bind fun _=>
(Mn n p (ak,af,(ae,al,am,()),())).bind fun an=>
bk10 (Ae p 1) an
else
j12 f a b n
def Aay(f:LU)(a b:Int)(o:LX):Nat→Int→(List (Int×Int32×(Int×LX×LX×Unit)×Unit))→Bu
|0,_,_=>none
|q+1,p,n=>Aji Aaz (Aay f a b o q) f a b o p n
def Rs f a b o:=Aay f a b o FUEL
def Abu(j10:LU→Int→Int→LX→Int→(List (Int×Int32×(Int×LX×LX×Unit)×Unit))→Bu)(a b:Int)(o:LX)(f:LU):Bu:=
j10 f a b o 0 (List.replicate 6 ((0:Int),(0:Int32),((0:Int),(List.replicate 16 (0:Int32)),(List.replicate 16 (0:Int32)),()),()))
def Vh:=Abu Rs
def deframe_Decode(a h:Int)(u:LX)(f:Int)(v:LB):Option (LX×Int):=
(Vk a h).bind fun k=>
if(Ay k 0)then
some (([]:LX),k)
else
if(Cc f 1)then
some (([]:LX),2)
else
(Kj (Ay a 0)).bind fun _=>
if(Ee f (Cp 4000 a))then
some (([]:LX),2)
else
(Ae6 v).bind fun(w,m)=>
if(Ay m 0)then
some (([]:LX),m)
else
(Bl4 w).bind fun(n,b,o)=>
if(Ay o 0)then
some (([]:LX),o)
else
(Afd a f n b).bind fun(y,g,p)=>
if(Ay p 0)then
some (([]:LX),p)
else
if(Ni (Aj b g) 8)then
some (([]:LX),12)
else
(Aex n b g (Aj b g)).bind fun(aa,ab)=>
if((Ay ab 0)||(Ay aa 0))then
some (([]:LX),12)
else
(Vh a h u y).bind fun(ac,ad)=>
some (ac,ad)
abbrev Cz:=Option (LB×Int)
def Bc4(g:LB):Cz:=
some (g,0)
def Arp:=Bc4
def Asa(bk16:Int→LB→Cz)(b:Int)(a:LX)(f:Int)(h:LB):Cz:=
bk16 (Ae f 1) h
def Air bk16:=Asa bk16
def Abs(j28:Int→LB→Cz)(bk26:Int→LB→Cz)(b:Int)(a:LX)(k:Int32)(f m:Int)(h:LB):Cz:=
if(Cc m (Cp b 8))then
(Kj (Ni (Bj 8 m) 0)).bind fun _=>
(Cx h ([(Ad (Ca k (GI.toZ (Bj 8 m)).toNat):UInt8)]:LB)).bind fun p=>
bk26 (Ae m 1) p
else
j28 f h
def Jj(bk16:Int→LB→Cz)(b:Int)(a:LX)(k:Int32)(f:Int):Nat→Int→LB→Cz
|0,_,_=>none
|q+1,m,h=>Abs (Air bk16 b a) (Jj bk16 b a k f q) b a k f m h
def Ain bk16 b a k f:=Jj bk16 b a k f FUEL
def Ai7(j26:Int32→Int→Int→LB→Cz)(b:Int)(a:LX)(f:Int)(g:LB)(k:Int32):Cz:=
j26 k f 0 g
def Mc bk16 b a:=Ai7 (Ain bk16 b a) b a
def Abn(j25:Int→LB→Int32→Cz)(j30:LB→Cz)(b:Int)(a:LX)(f:Int)(g:LB):Cz:=
if(Cc f (Ac a))then
(getI a f).bind fun n=>
if(geq b 8)then
j25 f g (Ae n 128)
else
j25 f g n
else
j30 g
def Ft(b:Int)(a:LX):Nat→Int→LB→Cz
|0,_,_=>none
|q+1,f,g=>Abn (Mc (Ft b a q) b a) Arp b a f g
def Ar4 b a:=Ft b a FUEL
def Alq(j16:Int→LX→Int→LB→Cz)(b:Int)(a:LX):Cz:=
(Yj b a).bind fun o=>
if(Ay o 0)then
some (([]:LB),o)
else
j16 b a 0 ([]:LB)
def width_Bytes:=Alq Ar4
def Aa8:Option Int:=
some (-1:Int)
def Na:=Aa8
def Dr(j6:Option Int)(bk4:Int→Option Int)(a:LI)(b f:Int):Option Int:=
if(Cc f (Ac a))then
(getI a f).bind fun g=>
if(geq b g)then
some f
else
bk4 (Ae f 1)
else
j6
def Bl(a:LI)(b:Int):Nat→Int→Option Int
|0,_=>none
|q+1,f=>Dr Na (Bl a b q) a b f
def Hj a b:=Bl a b FUEL
def Hc(j4:LI→Int→Int→Option Int)(a:LI)(b:Int):Option Int:=
j4 a b 0
def If:=Hc Hj
def He(a:LI)(b:Int):Option Bool:=
(If a b).bind fun f=>
some (Ni f 0)
def Rg(a:Int):Option Bool:=
(He ([(4:Int),(12:Int),(16:Int),(22:Int),(24:Int),(26:Int),(38:Int)]:LI) a).bind fun b=>
some b
def Am5(bi:Bool):Option Int:=
if(!bi)then
some 8
else
some 0
def Bb:=Am5
def Adj(j22:Bool→Option Int):Option Int:=
j22 ((true==true)&&((geq (0:Int) (0:Int))&&true))
def Xm:=Adj Bb
def Aem(j22:Bool→Option Int)(bj:Bool)(bk:Int):Option Int:=
j22 ((bj==true)&&((geq bk 0)&&true))
def Dq:=Aem Bb
def Ae0(j13:Bool→Int→Option Int)(g ak:LB)(ae af aa ag ab b:Int)(m:Bool)(n:Int)(f:LI)(h:LB):Option Int:=
(Nq ae af aa ag ab g).bind fun dm=>
(Ag dm).bind fun(dn,am)=>
j13 dn am
def Xb:=Ae0 Dq
def Adt(j22:Bool→Option Int)(bl:Bool)(bm:Int):Option Int:=
j22 ((bl==true)&&((geq bm 0)&&true))
def Il:=Adt Bb
def Aef(j25:Bool→Int→Option Int)(g a:LB)(k p o u v b:Int)(m:Bool)(n:Int)(f:LI)(h:LB)(bg:Int):Option Int:=
(Cy k p o u v).bind fun(dp,bh)=>
if(Ay bh 0)then
(Ag bh).bind fun(an,bn)=>
j25 an bn
else
(Az a bg (Ac a)).bind fun dq=>
(Af2 dq (Ac dp)).bind fun(dr,aa)=>
if(geq aa 24)then
j25 true 0
else
if(Ay aa 0)then
(Ag aa).bind fun(ds,ab)=>
j25 ds ab
else
(Az a (Ae (Ae bg (Bj 4 (Ac dr))) 4) (Ac a)).bind fun fc=>
j25 false 0
def Ii:=Aef Il
def Afb(j25:Bool→Int→Option Int)(j24:LB→LB→Int→Int→Int→Int→Int→Int→Bool→Int→LI→LB→Int→Option Int)(bd:Bool)(bc:Int)(g a:LB)(k p o u v b:Int)(m:Bool)(n:Int)(f:LI)(h:LB):Option Int:=
if(Ay bc 0)then
(Ag bc).bind fun(dt,bh)=>
j25 dt bh
else
if(!bd)then
(Ag 26).bind fun(an,bn)=>
j25 an bn
else
j24 g a k p o u v b m n f h 8
def Ad4:=Afb Il Ii
def Afa(j15:Bool→Int→LB→LB→Int→Int→Int→Int→Int→Int→Bool→Int→LI→LB→Option Int)(g a:LB)(k p o u v b:Int)(m:Bool)(n:Int)(f:LI)(h:LB):Option Int:=
(Az a 0 8).bind fun du=>
(Zy du g).bind fun(bd,bc)=>
j15 bd bc g a k p o u v b m n f h
def Xs:=Afa Ad4
def Adp(j22:Bool→Option Int)(bp:Bool)(bq:Int):Option Int:=
j22 ((bp==true)&&((geq bq 0)&&true))
def Gn:=Adp Bb
def Xk(j28:Bool→Int→Option Int)(w ah:Int)(g a:LB)(k p o u v b:Int)(m:Bool)(n:Int)(ao:LX)(f:LI)(h:LB):Option Int:=
if(Ay ah 0)then
(Ag ah).bind fun(br,bs)=>
j28 br bs
else
(width_Bytes o ao).bind fun(bt,be)=>
if(Ay be 0)then
(Ag be).bind fun(bu,bv)=>
j28 bu bv
else
(Cx h bt).bind fun dv=>
(
(Az a w (Ac a)).bind fun dw=>
j28 false 0)
def Adr:=Xk Gn
def Ad8(j27:Int→Int→LB→LB→Int→Int→Int→Int→Int→Int→Bool→Int→LX→LI→LB→Option Int)(w:Int)(g a:LB)(k p o u v b:Int)(m:Bool)(n:Int)(ap:LX)(ad f:LI)(h:LB):Option Int:=
(getI ad b).bind fun _=>
(Az a 0 w).bind fun dx=>
(getI ad b).bind fun dy=>
(Abc k p o u v).bind fun(dz,bf)=>
(deframe_Decode dz bf ap dy dx).bind fun(ao,ah)=>
j27 w ah g a k p o u v b m n ao f h
def Wx:=Ad8 Adr
def Zt(j13:Bool→Int→Option Int)(j12:LB→LB→Int→Int→Int→Int→Int→Int→Bool→Int→LI→LB→Option Int)(j25:Bool→Int→Option Int)(j23:LB→LB→Int→Int→Int→Int→Int→Int→Bool→Int→LI→LB→Option Int)(j24:LB→LB→Int→Int→Int→Int→Int→Int→Bool→Int→LI→LB→Int→Option Int)(j28:Bool→Int→Option Int)(j26:Int→LB→LB→Int→Int→Int→Int→Int→Int→Bool→Int→LX→LI→LI→LB→Option Int)(j22:Bool→Option Int)(j21:Option Int)(aq ar:LB)(au av aw ax ay:Int)(az:LI)(ai:Int)(aj:LB)(ac:Bool)(y:Int):Option Int:=
if(Ee (Ac aq) 64)then
some 8
else
if((geq y 0)&&(!ac))then
(Dd aq ar au av aw ax ay az ai aj ac y).bind fun(g,a,k,p,o,u,v,f,b,h,m,n)=>
(Zw aq ar au av aw ax ay az ai aj ac y).bind fun bw=>
if bw then
if(geq k 0)then
(Jg a).bind fun(al,ba)=>
if(geq ba 24)then
j13 true 0
else
if(Ay ba 0)then
(Ag ba).bind fun(bx,bz)=>
j13 bx bz
else
(Az a al (Ac a)).bind fun da=>
(Pq da).bind fun an=>
if an then
j13 true 0
else
(Az a al (Ac a)).bind fun db=>
(Mz db).bind fun(ae,af,aa,ag,ab,bb)=>
if(geq bb 24)then
j13 true 0
else
if(Ay bb 0)then
(Ag bb).bind fun(dc,dd)=>
j13 dc dd
else
(
(Az a (Ae al 22) (Ac a)).bind fun ak=>
(
j12 g ak ae af aa ag ab b m n f h))
else
if(geq (Ac f) 0)then
if(geq k 2)then
if(Cc (Ac a) 8)then
j25 true 0
else
j23 g a k p o u v b m n f h
else
j24 g a k p o u v b m n f h 0
else
if(Cc b (Ac f))then
(getI f b).bind fun _=>
(getI f b).bind fun w=>
if(Cc (Ac a) w)then
j28 true 0
else
(Tj g).bind fun(ap,am)=>
if(Ay am 0)then
(Ag am).bind fun(de,df)=>
j28 de df
else
(Cy k p o u v).bind fun(ad,dg)=>
if((Ay dg 0)||(Ni b (Ac ad)))then
(Ag 8).bind fun(dh,di)=>
j28 dh di
else
j26 w g a k p o u v b m n ap ad f h
else
if(Ee (Ac a) 4000)then
(Ag 38).bind fun(dj,bf)=>
j22 ((dj==true)&&((geq bf 0)&&true))
else
j21
else
j22 false
else
if((geq (Ac ar) 0)&&(geq (Ac az) 0))then
if((((geq au 0)&&((geq av 0)&&((geq aw 0)&&((geq ax 0)&&((geq ay 0)&&true)))))&&(geq ai 0))&&(gle (Ac aj) 12000))then
if(geq y 0)then
j22 true
else
if(!ac)then
(Rg y).bind fun dk=>
j22 dk
else
j22 false
else
j22 false
else
if((false&&(geq ai 0))&&(gle (Ac aj) 12000))then
if(geq y 0)then
j22 true
else
if(!ac)then
(Rg y).bind fun dl=>
j22 dl
else
j22 false
else
j22 false
def Ie:=Zt Dq Xb Il Xs Ii Gn Wx Bb Xm
def Qu(f g:LB)(h k m n o:Int)(p:LI)(u:Int)(v:LB)(b:Bool)(a:Int):Option (LB×LB×Int×Int×Int×Int×Int×LI×Int×LB×Bool×Int×Int):=
(Ie f g h k m n o p u v b a).bind fun w=>
if(Ay w 0)then
some (([]:LB),([]:LB),0,0,0,0,0,([]:LI),0,([]:LB),false,0,w)
else
if(Ay a 0)then
(
(
(Dd f g h k m n o p u v b a).bind fun(y,aa,ab,ac,ad,ae,af,ag,ah,ai,aj,ak)=>
(
some (y,aa,ab,ac,ad,ae,af,ag,ah,ai,aj,ak,a))))
else
if b then
(Dd f g h k m n o p u v b a).bind fun(al,am,an,ao,ap,aq,ar,au,av,aw,ax,ay)=>
some (al,am,an,ao,ap,aq,ar,au,av,aw,ax,ay,36)
else
(Dd f g h k m n o p u v b a).bind fun(az,ba,bb,bc,bd,be,bf,bg,bh,bi,bj,bk)=>
some (az,ba,bb,bc,bd,be,bf,bg,bh,bi,bj,bk,0)
def Aqq(b g:LB)(h k m n o:Int)(p:LI)(u:Int)(f:LB)(v:Bool)(w a:Int):Option (LB×LB×Int×Int×Int×Int×Int×LI×Int×LB×Bool×Int×Int):=
some (b,([]:LB),0,0,0,0,0,([]:LI),0,f,false,a,a)
abbrev pushdec_Feed_O:=Option (LB×LB×Int×Int×Int×Int×Int×LI×Int×LB×Bool×Int×Int)
def Agf(bk37:LB→Int→Int→Int→Int→Int→Int→LI→LB→pushdec_Feed_O)(a:LB)(b:Bool)(f:Int)(ar:LB)(au av aw ax ay az:Int)(bh:Bool)(be:Int)(ba:LI)(bb:LB):pushdec_Feed_O:=
if bh then
(Dd a ar au av aw ax ay ba az bb b f).bind fun(fh,fi,fj,bc,bi,ai,fk,fl,fm,fn,fo,aj)=>
some (fh,fi,fj,bc,bi,ai,fk,fl,fm,fn,fo,aj,0)
else
if(Ay be 0)then
(Aqq a ar au av aw ax ay ba az bb b f be).bind fun(fp,fq,fs,ft,fu,fv,fw,fx,fy,fz,ga,gb,gc)=>
some (fp,fq,fs,ft,fu,fv,fw,fx,fy,fz,ga,gb,gc)
else
bk37 ar au av aw ax ay az ba bb
def Bn bk37:=Agf bk37
def Apa(j71:LB→Int→Int→Int→Int→Int→Int→Bool→Int→LI→LB→pushdec_Feed_O)(a:LB)(b:Bool)(f:Int)(g:LB)(m p o u v h:Int)(k:LI)(n:LB):pushdec_Feed_O:=
j71 g m p o u v h true 0 k n
def Aae bk37 a b f:=Apa (Bn bk37 a b f) a b f
def Apb(j71:LB→Int→Int→Int→Int→Int→Int→Bool→Int→LI→LB→pushdec_Feed_O)(a:LB)(b:Bool)(f h:Int)(k:LI)(n:LB)(bj:Bool)(bk:Int)(bl:LB)(bm bn bp bq br:Int):pushdec_Feed_O:=
j71 bl bm bn bp bq br h bj bk k n
def Nd bk37 a b f:=Apb (Bn bk37 a b f) a b f
def Agr(j62:Int→LI→LB→Bool→Int→LB→Int→Int→Int→Int→Int→pushdec_Feed_O)(a:LB)(b:Bool)(f:Int)(af:LB)(ab ac y ad aa h:Int)(k:LI)(n:LB):pushdec_Feed_O:=
(Nq ab ac y ad aa a).bind fun gd=>
(Ag gd).bind fun(ge,ak)=>
j62 h k n ge ak af ab ac y ad aa
def Sn bk37 a b f:=Agr (Nd bk37 a b f) a b f
def Apc(j71:LB→Int→Int→Int→Int→Int→Int→Bool→Int→LI→LB→pushdec_Feed_O)(a:LB)(b:Bool)(f m p o u v h:Int)(n:LB)(bs:Bool)(bt:Int)(bu:LB)(bv:LI):pushdec_Feed_O:=
j71 bu m p o u v h bs bt bv n
def Kl bk37 a b f:=Apc (Bn bk37 a b f) a b f
def Age(j75:Int→Int→Int→Int→Int→Int→LB→Bool→Int→LB→LI→pushdec_Feed_O)(a:LB)(b:Bool)(f:Int)(g:LB)(m p o u v h:Int)(k:LI)(n:LB)(bf:Int):pushdec_Feed_O:=
(Cy m p o u v).bind fun(gf,bg)=>
if(Ay bg 0)then
(Ag bg).bind fun(al,bw)=>
j75 m p o u v h n al bw g k
else
(Az g bf (Ac g)).bind fun gg=>
(Af2 gg (Ac gf)).bind fun(dw,y)=>
if(geq y 24)then
j75 m p o u v h n true 0 g k
else
if(Ay y 0)then
(Ag y).bind fun(gh,aa)=>
j75 m p o u v h n gh aa g k
else
(Az g (Ae (Ae bf (Bj 4 (Ac dw))) 4) (Ac g)).bind fun gi=>
j75 m p o u v h n false 0 gi dw
def Ka bk37 a b f:=Age (Kl bk37 a b f) a b f
def Agq(j75:Int→Int→Int→Int→Int→Int→LB→Bool→Int→LB→LI→pushdec_Feed_O)(j74:LB→Int→Int→Int→Int→Int→Int→LI→LB→Int→pushdec_Feed_O)(a:LB)(b:Bool)(f:Int)(bd:Bool)(aq:Int)(g:LB)(m p o u v h:Int)(k:LI)(n:LB):pushdec_Feed_O:=
if(Ay aq 0)then
(Ag aq).bind fun(gj,bg)=>
j75 m p o u v h n gj bg g k
else
if(!bd)then
(Ag 26).bind fun(al,bw)=>
j75 m p o u v h n al bw g k
else
j74 g m p o u v h k n 8
def Agi bk37 a b f:=Agq (Kl bk37 a b f) (Ka bk37 a b f) a b f
def Af5(j64:Bool→Int→LB→Int→Int→Int→Int→Int→Int→LI→LB→pushdec_Feed_O)(a:LB)(b:Bool)(f:Int)(g:LB)(m p o u v h:Int)(k:LI)(n:LB):pushdec_Feed_O:=
(Az g 0 8).bind fun gk=>
(Zy gk a).bind fun(bd,aq)=>
j64 bd aq g m p o u v h k n
def Tn bk37 a b f:=Af5 (Agi bk37 a b f) a b f
def Apo(j71:LB→Int→Int→Int→Int→Int→Int→Bool→Int→LI→LB→pushdec_Feed_O)(a:LB)(b:Bool)(f m p o u v:Int)(k:LI)(bx:Bool)(bz:Int)(da:LB)(db:Int)(dc:LB):pushdec_Feed_O:=
j71 da m p o u v db bx bz k dc
def Ng bk37 a b f:=Apo (Bn bk37 a b f) a b f
def Aaf(j78:Int→Int→Int→Int→Int→LI→Bool→Int→LB→Int→LB→pushdec_Feed_O)(a:LB)(b:Bool)(f w ag:Int)(g:LB)(m p o u v h:Int)(am:LX)(k:LI)(n:LB):pushdec_Feed_O:=
if(Ay ag 0)then
(Ag ag).bind fun(dd,de)=>
j78 m p o u v k dd de g h n
else
(width_Bytes o am).bind fun(df,aj)=>
if(Ay aj 0)then
(Ag aj).bind fun(dg,dh)=>
j78 m p o u v k dg dh g h n
else
(Cx n df).bind fun di=>
(
(Az g w (Ac g)).bind fun dj=>
j78 m p o u v k false 0 dj (Ae h 1) di)
def Af6 bk37 a b f:=Aaf (Ng bk37 a b f) a b f
def Agb(j77:Int→Int→LB→Int→Int→Int→Int→Int→Int→LX→LI→LB→pushdec_Feed_O)(a:LB)(b:Bool)(f w:Int)(g:LB)(m p o u v h:Int)(an:LX)(ae k:LI)(n:LB):pushdec_Feed_O:=
(getI ae h).bind fun _=>
(Az g 0 w).bind fun gl=>
(getI ae h).bind fun gm=>
(Abc m p o u v).bind fun(bi,ai)=>
(deframe_Decode bi ai an gm gl).bind fun(am,ag)=>
j77 w ag g m p o u v h am k n
def Sy bk37 a b f:=Agb (Af6 bk37 a b f) a b f
def Hv(j62:Int→LI→LB→Bool→Int→LB→Int→Int→Int→Int→Int→pushdec_Feed_O)(j61:LB→Int→Int→Int→Int→Int→Int→LI→LB→pushdec_Feed_O)(j75:Int→Int→Int→Int→Int→Int→LB→Bool→Int→LB→LI→pushdec_Feed_O)(j73:LB→Int→Int→Int→Int→Int→Int→LI→LB→pushdec_Feed_O)(j74:LB→Int→Int→Int→Int→Int→Int→LI→LB→Int→pushdec_Feed_O)(j78:Int→Int→Int→Int→Int→LI→Bool→Int→LB→Int→LB→pushdec_Feed_O)(j76:Int→LB→Int→Int→Int→Int→Int→Int→LX→LI→LI→LB→pushdec_Feed_O)(j71:LB→Int→Int→Int→Int→Int→Int→Bool→Int→LI→LB→pushdec_Feed_O)(j70:LB→Int→Int→Int→Int→Int→Int→LI→LB→pushdec_Feed_O)(a:LB)(b:Bool)(f:Int)(g:LB)(m p o u v h:Int)(k:LI)(n:LB):pushdec_Feed_O:=
if(geq m 0)then
(Jg g).bind fun(ah,ao)=>
if(geq ao 24)then
j62 h k n true 0 g m p o u v
else
if(Ay ao 0)then
(Ag ao).bind fun(dk,dl)=>
j62 h k n dk dl g m p o u v
else
(Az g ah (Ac g)).bind fun dm=>
(Pq dm).bind fun al=>
if al then
j62 h k n true 0 g m p o u v
else
(Az g ah (Ac g)).bind fun dn=>
(Mz dn).bind fun(ab,ac,y,ad,aa,ap)=>
if(geq ap 24)then
j62 h k n true 0 g m p o u v
else
if(Ay ap 0)then
(Ag ap).bind fun(dp,dq)=>
j62 h k n dp dq g m p o u v
else
(
(Az g (Ae ah 22) (Ac g)).bind fun af=>
(
j61 af ab ac y ad aa h k n))
else
if(geq (Ac k) 0)then
if(geq m 2)then
if(Cc (Ac g) 8)then
j75 m p o u v h n true 0 g k
else
j73 g m p o u v h k n
else
j74 g m p o u v h k n 0
else
if(Cc h (Ac k))then
(getI k h).bind fun _=>
(getI k h).bind fun w=>
if(Cc (Ac g) w)then
j78 m p o u v k true 0 g h n
else
(Tj a).bind fun(an,ak)=>
if(Ay ak 0)then
(Ag ak).bind fun(dr,ds)=>
j78 m p o u v k dr ds g h n
else
(Cy m p o u v).bind fun(ae,dt)=>
if((Ay dt 0)||(Ni h (Ac ae)))then
(Ag 8).bind fun(du,bc)=>
j78 m p o u v k du bc g h n
else
j76 w g m p o u v h an ae k n
else
if(Ee (Ac g) 4000)then
(Ag 38).bind fun(dv,ai)=>
j71 g m p o u v h dv ai k n
else
j70 g m p o u v h k n
def Ar(a:LB)(b:Bool)(f:Int):Nat→LB→Int→Int→Int→Int→Int→Int→LI→LB→pushdec_Feed_O
|0,_,_,_,_,_,_,_,_,_=>none
|q+1,g,m,p,o,u,v,h,k,n=>Hv (Nd (Ar a b f q) a b f) (Sn (Ar a b f q) a b f) (Kl (Ar a b f q) a b f) (Tn (Ar a b f q) a b f) (Ka (Ar a b f q) a b f) (Ng (Ar a b f q) a b f) (Sy (Ar a b f q) a b f) (Bn (Ar a b f q) a b f) (Aae (Ar a b f q) a b f) a b f g m p o u v h k n
def Ao7 a b f:=Ar a b f FUEL
def Va(j37:LB→Bool→Int→LB→Int→Int→Int→Int→Int→Int→LI→LB→pushdec_Feed_O)(gn go:LB)(gp gq gr gs gt:Int)(gu:LI)(gv:Int)(gw:LB)(gx:Bool)(gy:Int)(gz:LB):pushdec_Feed_O:=
(Qu gn go gp gq gr gs gt gu gv gw gx gy).bind fun(a,dx,dy,dz,fa,fb,fc,fd,fe,ff,b,f,fg)=>
if(Ay fg 0)then
some (a,dx,dy,dz,fa,fb,fc,fd,fe,ff,b,f,fg)
else
(Cx dx gz).bind fun ha=>
j37 a b f ha dy dz fa fb fc fe fd ff
def Hm:=Va Ao7
def Rh(a:LB):Option (LB×LB×Int×Int×Int×Int×Int×LI×Int×LB×Bool×Int×Bool):=
(Ahm ([]:LB)).bind fun(b,f,g,h,k,m,n,o,p,u,v,w,y)=>
(Hm b f g h k m n o p u v w a).bind fun(aa,ab,ac,ad,ae,af,ag,ah,ai,aj,ak,al,am)=>
some (aa,ab,ac,ad,ae,af,ag,ah,ai,aj,ak,al,((geq y 0)&&(geq am 0)))
abbrev Axt:=Option (Int×Int)
def Bbz(a:LB):Axt:=
(Az a (Aj (Ac a) 32) (Ac a)).bind fun g=>
(Aj8 g 0).bind fun(f,y,h)=>
if h then
if(Cc (Aj (Ac a) 32) f)then
some (0,24)
else
some ((Ae f 32),0)
else
(Az a (Aj (Ac a) 32) (Ac a)).bind fun k=>
(Aj8 k 2147483648).bind fun(b,m,n)=>
if(!n)then
some (0,12)
else
if(Cc (Ac a) (Ae b 64))then
some (0,24)
else
(Az a (Aj (Ac a) (Ae b 64)) (Ae (Aj (Ac a) (Ae b 64)) 32)).bind fun o=>
(Avb b m 2684354560).bind fun p=>
(Jh o p).bind fun u=>
if(!u)then
some (0,12)
else
some ((Ae b 64),0)
def Asx:=Bbz
def At8(j2:LB→Axt)(a:LB):Axt:=
if(Cc (Aj (Ac a) 32) 0)then
some (0,6)
else
(Az a (Aj (Ac a) 32) (Ac a)).bind fun v=>
(Lz v ([(65:UInt8),(80:UInt8),(69:UInt8),(84:UInt8),(65:UInt8),(71:UInt8),(69:UInt8),(88:UInt8)]:LB)).bind fun w=>
if(!w)then
some (0,6)
else
j2 a
def Aza:=At8 Asx
abbrev Fo:=Option (Int×Int)
def Bbi(a:Int):Fo:=
some (a,0)
def Ao8:=Bbi
def Aos(bk8:Int→LB→Fo)(a:Int)(g:LB):Fo:=
bk8 (Ae a 1) g
def Agl bk8:=Aos bk8
def Agc(j12:Int→LB→Fo)(a f:Int)(b:LB):Fo:=
if(geq f 0)then
some (0,38)
else
(Az b 0 (Aj (Ac b) f)).bind fun g=>
j12 a g
def Ag0 bk8:=Agc (Agl bk8)
def Ai8(j11:Int→Int→LB→Fo)(j14:Int→Fo)(a:Int)(b:LB):Fo:=
if(Ee (Ac b) 0)then
(Aza b).bind fun(f,k)=>
j11 a f b
else
j14 a
def Vg:Nat→Int→LB→Fo
|0,_,_=>none
|q+1,a,b=>Ai8 (Ag0 (Vg q)) Ao8 a b
def Ar1:=Vg FUEL
def Ai4(j8:Int→LB→Fo)(h:LB):Fo:=
if(Ee (Ac h) 4000)then
some (0,38)
else
j8 0 h
def Aeg:=Ai4 Ar1
def Ae3(p a:LB)(g u v w y:Int)(b:LI)(h:Int)(aa:LB)(ab:Bool)(ac:Int):Option Int:=
if(geq g 0)then
(Jg a).bind fun(k,f)=>
if(Ay f 0)then
some f
else
(Az a k (Ac a)).bind fun m=>
(Mz m).bind fun(ad,ae,af,ag,ah,n)=>
some n
else
if((Cc h (Ac b))||(geq (Ac b) 0))then
some 24
else
(Aeg a).bind fun(ai,o)=>
some o
def It(aa ab:LB)(ac ad ae af ag:Int)(ah:LI)(ai:Int)(aj:LB)(ak:Bool)(al:Int):Option (LB×LB×Int×Int×Int×Int×Int×LI×Int×LB×Bool×Int×Int):=
(Qu aa ab ac ad ae af ag ah ai aj ak al).bind fun(a,f,g,h,k,m,n,o,p,b,u,v,w)=>
if(Ay w 0)then
some (a,f,g,h,k,m,n,o,p,b,u,v,w)
else
(Ae3 a f g h k m n o p b u v).bind fun y=>
if(Ay y 0)then
(Aqq a f g h k m n o p b u v y).bind fun(am,an,ao,ap,aq,ar,au,av,aw,ax,ay,az,ba)=>
some (am,an,ao,ap,aq,ar,au,av,aw,ax,ay,az,ba)
else
some (a,([]:LB),0,0,0,0,0,([]:LI),0,b,true,0,0)
def Lo(am an:LB):Option (LB×LB×Int×Int×Int×Int×Int×LI×Int×LB×Bool×Int×Int):=
(Ahm an).bind fun(a,b,f,g,h,k,m,n,o,p,u,v,w)=>
if(Ay w 0)then
some (a,b,f,g,h,k,m,n,o,p,u,v,w)
else
(Hm a b f g h k m n o p u v am).bind fun(y,aa,ab,ac,ad,ae,af,ag,ah,ai,aj,ak,al)=>
if(Ay al 0)then
some (y,aa,ab,ac,ad,ae,af,ag,ah,ai,aj,ak,al)
else
(It y aa ab ac ad ae af ag ah ai aj ak).bind fun(ao,ap,aq,ar,au,av,aw,ax,ay,az,ba,bb,bc)=>
some (ao,ap,aq,ar,au,av,aw,ax,ay,az,ba,bb,bc)
def Uc:Option Bool:=
(Ak7).bind fun(a,b)=>
if(!b)then
some false
else
(Az a 0 22).bind fun f=>
(Rh f).bind fun(ai,aj,ak,al,am,an,g,h,ao,ap,aq,ar,k)=>
(Az a 0 30).bind fun m=>
(Rh m).bind fun(au,av,aw,ax,ay,az,ba,n,bb,o,bc,bd,p)=>
(Rh a).bind fun(be,bf,bg,bh,bi,bj,bk,bl,bm,u,bn,bp,v)=>
(Lo a ([]:LB)).bind fun(bq,br,bs,bt,bu,bv,bw,bx,bz,w,y,da,aa)=>
(Cx ([]:LB) a).bind fun ab=>
(Cx ab ([(0:UInt8)]:LB)).bind fun ac=>
(Lo ac ([]:LB)).bind fun(db,dc,dd,de,df,dg,dh,di,dj,dk,dl,dm,ad)=>
(Az a 0 35).bind fun ae=>
(Lo ae ([]:LB)).bind fun(dn,dp,dq,dr,ds,dt,du,dv,dw,dx,dy,dz,af)=>
(Lo ([(73:UInt8)]:LB) ([]:LB)).bind fun(fa,fb,fc,fd,fe,ff,fg,fh,fi,fj,fk,fl,ag)=>
(Lo ([]:LB) ([]:LB)).bind fun(fm,fn,fo,fp,fq,fs,ft,fu,fv,fw,fx,fy,ah)=>
some ((((((((((((((k&&(geq g 1))&&(geq (Ac h) 0))&&p)&&(geq (Ac n) 1))&&(geq (Ac o) 0))&&v)&&(u==([128]:LB)))&&(geq aa 0))&&y)&&(w==([128]:LB)))&&(geq ad 38))&&(geq af 24))&&(geq ag 12))&&(geq ah 24))
def Ll(a:LB):Option Bool:=
some (((Ee (Ac a) 5000)&&(Cc (Ac a) 12000))||(Ee (Ac a) 12100))
def Gl(f g b a h:Int):Option Bool:=
if((((geq f 1)||(geq f 2))&&(Ni g 1))&&(gle g 6))then
some ((((((geq b 8)||(geq b 16))||(geq b 24))&&(Ni a 1))&&(gle a 1048576))&&(Ni h 1))
else
some (((false&&(Ni a 1))&&(gle a 1048576))&&(Ni h 1))
def Qk(a:Int):Option Int:=
some (Av5 1 (Cp (Bj 256 a) 245))
def Ny(a:LI):Option (LI):=
some a
def Jv:=Ny
def Gz(j6:LI→Option (LI))(bk4:Int→LI→Option (LI))(b f:Int)(a:LI):Option (LI):=
if(Ee f 0)then
(Qk b).bind fun g=>
(Cx a ([(Eh f g)]:LI)).bind fun h=>
(Qk b).bind fun k=>
bk4 (Aj f k) h
else
j6 a
def Dl(b:Int):Nat→Int→LI→Option (LI)
|0,_,_=>none
|q+1,f,a=>Gz Jv (Dl b q) b f a
def Wj b:=Dl b FUEL
def Wq(j4:Int→Int→LI→Option (LI))(b m:Int):Option (LI):=
j4 b m ([]:LI)
def Fp:=Wq Wj
def Ij(h a k f b:Int):Option Bool:=
(
(Kj (Ay a 0)).bind fun _=>
(
if(Ee b (Cp 4000 a))then
some true
else
(Fp f b).bind fun g=>
some (Ee (Ac g) 1000)))
def Hs(a b f g h:Int):Option Int:=
(Gl a b f g h).bind fun k=>
if(!k)then
some 8
else
(Ij a b f g h).bind fun m=>
if m then
some 8
else
some 0
def Dh(a f g h k:Int)(b:LB):Option Int:=
if((b==([]:LB)) !=(geq a 1))then
some 26
else
some 0
def Aee(b:Int):Option Int:=
if(Ee b 100000)then
some 8
else
some 0
def Ua:=Aee
def Afv(bk6:Int→Int→Option Int)(a:LI)(b f:Int):Option Int:=
(getI a f).bind fun g=>
bk6 (Ae b g) (Ae f 1)
def Wf bk6:=Afv bk6
def Oq(j8:Int→Int→Option Int)(j10:Int→Option Int)(a:LI)(b f:Int):Option Int:=
if(Cc f (Ac a))then
(getI a f).bind fun h=>
if(Cc h 5)then
some 8
else
(getI a f).bind fun k=>
if(Ee k 100000)then
some 8
else
j8 b f
else
j10 b
def Gx(a:LI):Nat→Int→Int→Option Int
|0,_,_=>none
|q+1,b,f=>Oq (Wf (Gx a q) a) Ua a b f
def Wu a:=Gx a FUEL
def Nx(j6:LI→Int→Int→Option Int)(a:LI):Option Int:=
if((Cc (Ac a) 1)||(Ee (Ac a) 1000))then
some 8
else
j6 a 0 0
def Fj:=Nx Wu
def Du(g h k a b:Int):Option (LI):=
(Fp a b).bind fun f=>
some f
def Fh(f a b g h:Int):Option (Int×Int):=
some (a,b)
def Aap(a b:Int):Option Int:=
some (Cp (Bj a b) 8)
def Aia(k a b f g h:Int):Option Int:=
(Fh a b f g h).bind fun(p,u)=>
(Aap p u).bind fun v=>
some (Bj k v)
def Xw:=Aia
def Pv(j6:Int→Int→Int→Int→Int→Int→Option Int)(bk4:Int→Int→Option Int)(n a b f g h:Int)(m:LI)(k o:Int):Option Int:=
if(Cc o n)then
(getI m o).bind fun _=>
(getI m o).bind fun w=>
bk4 (Ae k w) (Ae o 1)
else
j6 k a b f g h
def Hz(n a b f g h:Int)(m:LI):Nat→Int→Int→Option Int
|0,_,_=>none
|q+1,k,o=>Pv Xw (Hz n a b f g h m q) n a b f g h m k o
def Ahq n a b f g h m:=Hz n a b f g h m FUEL
def Zf(j4:Int→Int→Int→Int→Int→Int→LI→Int→Int→Option Int)(a b f g h n:Int):Option Int:=
(Du a b f g h).bind fun m=>
j4 n a b f g h m 0 0
def Qc:=Zf Ahq
abbrev Fi:=Option (Int×Int)
def Asi(a:Int):Fi:=
some (a,0)
def Afp:=Asi
def Of(j6:Int→Fi)(bk4:Int→Int→Fi)(b:LB)(a f:Int):Fi:=
if(Cc f 4)then
(getI b f).bind fun g=>
if(Ni g 128)then
some (0,12)
else
(getI b f).bind fun h=>
bk4 (Ae (Bj 128 a) (Ad h:Int)) (Ae f 1)
else
j6 a
def Gy(b:LB):Nat→Int→Int→Fi
|0,_,_=>none
|q+1,a,f=>Of Afp (Gy b q) b a f
def Vy b:=Gy b FUEL
def Vu(j4:LB→Int→Int→Fi)(b:LB):Fi:=
if(Ay (Ac b) 4)then
some (0,2)
else
j4 b 0 0
def Tz:=Vu Vy
abbrev Gg:=Option (Int×Int)
def Ahy(a:LB)(g:Int):Gg:=
if(Ee g 4000)then
some (0,4)
else
if(Cc (Ac a) g)then
some (0,24)
else
(getI a 5).bind fun h=>
if(geq h 16)then
(Az a (Aj g 10) g).bind fun k=>
(Az a 3 10).bind fun m=>
(Cx ([51,68,73]:LB) m).bind fun n=>
if(k !=n)then
some (0,12)
else
some (g,0)
else
some (g,0)
def Qj:=Ahy
def Zn(j6:LB→Int→Gg)(a:LB)(b:Int):Gg:=
(getI a 5).bind fun o=>
if(geq o 16)then
j6 a (Ae (Ae 10 b) 10)
else
j6 a (Ae 10 b)
def Pm:=Zn Qj
def Yd(j5:LB→Int→Gg)(a:LB):Gg:=
if(Cc (Ac a) 10)then
some (0,24)
else
(Az a 6 10).bind fun p=>
(Tz p).bind fun(b,f)=>
(getI a 3).bind fun u=>
if(Cc u 2)then
if true then
if true then
if(true||(Ay f 0))then
some (0,12)
else
j5 a b
else
(getI a 5).bind fun v=>
if(Ay v 0)then
(getI a 5).bind fun w=>
if(Ay w 16)then
if(true||(Ay f 0))then
some (0,12)
else
j5 a b
else
(getI a 3).bind fun y=>
if((Ay y 4)||(Ay f 0))then
some (0,12)
else
j5 a b
else
if(false||(Ay f 0))then
some (0,12)
else
j5 a b
else
(getI a 4).bind fun aa=>
if(Ay aa 0)then
if(true||(Ay f 0))then
some (0,12)
else
j5 a b
else
(getI a 5).bind fun ab=>
if(Ay ab 0)then
(getI a 5).bind fun ac=>
if(Ay ac 16)then
if(true||(Ay f 0))then
some (0,12)
else
j5 a b
else
(getI a 3).bind fun ad=>
if((Ay ad 4)||(Ay f 0))then
some (0,12)
else
j5 a b
else
if(false||(Ay f 0))then
some (0,12)
else
j5 a b
else
(getI a 3).bind fun ae=>
if(Ee ae 4)then
if true then
if(true||(Ay f 0))then
some (0,12)
else
j5 a b
else
(getI a 5).bind fun af=>
if(Ay af 0)then
(getI a 5).bind fun ag=>
if(Ay ag 16)then
if(true||(Ay f 0))then
some (0,12)
else
j5 a b
else
(getI a 3).bind fun ah=>
if((Ay ah 4)||(Ay f 0))then
some (0,12)
else
j5 a b
else
if(false||(Ay f 0))then
some (0,12)
else
j5 a b
else
(getI a 4).bind fun ai=>
if(Ay ai 0)then
if(true||(Ay f 0))then
some (0,12)
else
j5 a b
else
(getI a 5).bind fun aj=>
if(Ay aj 0)then
(getI a 5).bind fun ak=>
if(Ay ak 16)then
if(true||(Ay f 0))then
some (0,12)
else
j5 a b
else
(getI a 3).bind fun al=>
if((Ay al 4)||(Ay f 0))then
some (0,12)
else
j5 a b
else
if(false||(Ay f 0))then
some (0,12)
else
j5 a b
def Zm:=Yd Pm
def Zk(j4:LB→Gg)(a:LB):Gg:=
if(Cc (Ac a) 3)then
some (0,6)
else
(Az a 0 3).bind fun am=>
if(am !=([73,68,51]:LB))then
some (0,6)
else
j4 a
def Xc:=Zk Zm
def Alr(a:UInt64):Option UInt64:=
some a
def Ab3:=Alr
def Tv(j6:UInt64→Option UInt64)(bk4:UInt64→Int→Option UInt64)(b:LB)(a:UInt64)(f:Int):Option UInt64:=
if(Ni f 0)then
(getI b f).bind fun g=>
bk4 (Ae (Bj 256 a) (Ad g:UInt64)) (Aj f 1)
else
j6 a
def Kk(b:LB):Nat→UInt64→Int→Option UInt64
|0,_,_=>none
|q+1,a,f=>Tv Ab3 (Kk b q) b a f
def Ab7 b:=Kk b FUEL
def Abz(j4:LB→UInt64→Int→Option UInt64)(b:LB):Option UInt64:=
j4 b 0 (Aj (Ac b) 1)
def Am:=Abz Ab7
def Pk(b:LB):Option (Int×Int×Bool):=
(Az b 12 16).bind fun g=>
(Am g).bind fun a=>
(Az b 16 20).bind fun h=>
(Am h).bind fun f=>
if(((Cc a 32)||(Ee a 3032))||(Ee f 1000))then
some (0,0,false)
else
some ((Aj (Ad a:Int) 32),(Ad f:Int),true)
def Ac2(a:LB):Option (LB):=
some a
def Sm:=Ac2
def Lu(j6:LB→Option (LB))(bk4:UInt64→Int→LB→Option (LB))(b:Int)(f:UInt64)(g:Int)(a:LB):Option (LB):=
if(Cc g b)then
(Cx a ([(Ad (Ada f 256):UInt8)]:LB)).bind fun h=>
bk4 (Cp f 256) (Ae g 1) h
else
j6 a
def Fb(b:Int):Nat→UInt64→Int→LB→Option (LB)
|0,_,_,_=>none
|q+1,f,g,a=>Lu Sm (Fb b q) b f g a
def Ry b:=Fb b FUEL
def Th(j4:Int→UInt64→Int→LB→Option (LB))(k:UInt64)(b:Int):Option (LB):=
j4 b k 0 ([]:LB)
def De:=Th Ry
def Nb(a b:Int)(f:UInt64):Option (LB):=
(De 2000 4).bind fun g=>
(Cx ([(65:UInt8),(80:UInt8),(69:UInt8),(84:UInt8),(65:UInt8),(71:UInt8),(69:UInt8),(88:UInt8)]:LB) g).bind fun h=>
(De (Ad (Ae a 32):UInt64) 4).bind fun k=>
(Cx h k).bind fun m=>
(De (Ad b:UInt64) 4).bind fun n=>
(Cx m n).bind fun o=>
(De f 4).bind fun p=>
(Cx o p).bind fun u=>
(mkI (8:Int) (0:UInt8)).bind fun v=>
(Cx u v).bind fun w=>
some w
def Qd(a b:Int):Option (LB):=
(Nb a b 2684354560).bind fun f=>
some f
def Iv(a b:Int)(f:Bool):Option (LB):=
if f then
(Nb a b 2147483648).bind fun g=>
some g
else
(Nb a b 0).bind fun h=>
some h
abbrev Kv:=Option (Int×Int)
def Af0(a:LB)(b f:Int):Kv:=
if(Cc (Ac a) (Ae 64 b))then
some (0,24)
else
(Az a (Aj (Ae 64 b) 32) (Ae 64 b)).bind fun g=>
(Iv b f true).bind fun h=>
if(g !=h)then
some (0,12)
else
some ((Ae 64 b),0)
def Vx:=Af0
def Wg(j4:LB→Int→Int→Kv)(a:LB):Kv:=
if(Cc (Ac a) 32)then
some (0,24)
else
(Az a 0 32).bind fun k=>
(Pk k).bind fun(b,f,m)=>
if(!m)then
some (0,12)
else
(Az a 0 32).bind fun n=>
(Qd b f).bind fun o=>
if(n !=o)then
some (0,12)
else
j4 a b f
def Vw:=Wg Vx
def Vt(j3:LB→Kv)(a:LB):Kv:=
if(Cc (Ac a) 8)then
some (0,6)
else
(Az a 0 8).bind fun p=>
if(p !=([65,80,69,84,65,71,69,88]:LB))then
some (0,6)
else
j3 a
def Ui:=Vt Vw
abbrev Fm:=Option (LI×Int)
def Afh(bk6:Int→LI→Fm)(a:LB)(b:Int)(f:LI)(g h:Int):Fm:=
if(geq h 6)then
some (f,0)
else
if(Ay h 0)then
some (([]:LI),h)
else
if(Ee (Ae b g) 4000)then
some (([]:LI),4)
else
(Cx f ([g]:LI)).bind fun m=>
bk6 (Ae b g) m
def Js bk6:=Afh bk6
def Oe(j9:Int→LI→Int→Int→Fm)(a:LB)(b:Int)(f:LI):Fm:=
(Az a b (Ac a)).bind fun n=>
(Xc n).bind fun(o,k)=>
if(geq k 6)then
(Az a b (Ac a)).bind fun p=>
(Ui p).bind fun(u,v)=>
j9 b f u v
else
j9 b f o k
def Jy(a:LB):Nat→Int→LI→Fm
|0,_,_=>none
|q+1,b,f=>Oe (Js (Jy a q) a) a b f
def Afk a:=Jy a FUEL
def Afm(j6:LB→Int→LI→Fm)(a:LB):Fm:=
j6 a 0 ([]:LI)
def Aby:=Afm Afk
abbrev Fq:=Option (Int×Int)
def Afn(a b:Int):Fq:=
some (b,a)
def Vr:=Afn
def Og(j6:Int→Int→Fq)(bk4:Int→Int→Fq)(a:Int)(f:LI)(b g:Int):Fq:=
if(Cc g (Ac f))then
(getI f g).bind fun _=>
(getI f g).bind fun h=>
bk4 (Ae b h) (Ae g 1)
else
j6 a b
def Gw(a:Int)(f:LI):Nat→Int→Int→Fq
|0,_,_=>none
|q+1,b,g=>Og Vr (Gw a f q) a f b g
def Oj a f:=Gw a f FUEL
def Wm(j4:Int→LI→Int→Int→Fq)(k:LB):Fq:=
(Aby k).bind fun(f,a)=>
j4 a f 0 0
def Ki:=Wm Oj
def Me(a b:LB):Option Bool:=
if(Cc (Ac a) (Ac b))then
(Az b 0 (Ac a)).bind fun f=>
some (a==f)
else
some false
def Ah7(a:UInt32)(b:Bool):Option UInt32:=
if b then
some (Aa5 (Cp a 2) 3988292384)
else
some (Cp a 2)
def Yb:=Ah7
def Ym(j2:UInt32→Bool→Option UInt32)(a:UInt32)(f:Int):Option UInt32:=
if(geq f 1)then
j2 a (!(geq (Ada a 2) 1))
else
j2 a (geq (Ada a 2) 1)
def Wv:=Ym Yb
def Ahx(a:UInt32):Option UInt32:=
some a
def Yx:=Ahx
def Pu(j6:UInt32→Option UInt32)(bk4:UInt32→UInt8→Int→Option UInt32)(a:UInt32)(b:UInt8)(f:Int):Option UInt32:=
if(Cc f 8)then
(Wv a (Ad (Ada b 2):Int)).bind fun g=>
bk4 g (Cp b 2) (Ae f 1)
else
j6 a
def Ib:Nat→UInt32→UInt8→Int→Option UInt32
|0,_,_,_=>none
|q+1,a,b,f=>Pu Yx (Ib q) a b f
def Ahh:=Ib FUEL
def Aic(j4:UInt32→UInt8→Int→Option UInt32)(h:UInt32)(k:UInt8):Option UInt32:=
j4 h k 0
def Aed:=Aic Ahh
def Ad1(a:UInt32):Option UInt32:=
some a
def Tx:=Ad1
def Mv(j6:UInt32→Option UInt32)(bk4:UInt32→Int→Option UInt32)(b:LB)(a:UInt32)(f:Int):Option UInt32:=
if(Cc f (Ac b))then
(getI b f).bind fun g=>
(Aed a g).bind fun h=>
bk4 h (Ae f 1)
else
j6 a
def Gc(b:LB):Nat→UInt32→Int→Option UInt32
|0,_,_=>none
|q+1,a,f=>Mv Tx (Gc b q) b a f
def Ud b:=Gc b FUEL
def Ux(j4:LB→UInt32→Int→Option UInt32)(k:UInt32)(b:LB):Option UInt32:=
j4 b k 0
def Aat:=Ux Ud
def Ph(a:LB):Option UInt32:=
(Aat 4294967295 a).bind fun b=>
some (Aj 4294967295 b)
abbrev Gi:=Option (Int×Int×Int×Int×Int×Int)
def Ahn(k h g f b:UInt64):Gi:=
(Gl (Ad k:Int) (Ad h:Int) (Ad g:Int) (Ad f:Int) (Ad b:Int)).bind fun v=>
if(!v)then
some (0,0,0,0,0,12)
else
(Ij (Ad k:Int) (Ad h:Int) (Ad g:Int) (Ad f:Int) (Ad b:Int)).bind fun w=>
if w then
some (0,0,0,0,0,4)
else
some ((Ad k:Int),(Ad h:Int),(Ad g:Int),(Ad f:Int),(Ad b:Int),0)
def Xv:=Ahn
def Qo(j6:UInt64→UInt64→UInt64→UInt64→UInt64→Gi)(a:LB):Gi:=
(Az a 4 6).bind fun u=>
(Az a 6 8).bind fun p=>
(Az a 8 10).bind fun o=>
(Az a 10 14).bind fun n=>
(Az a 14 18).bind fun m=>
(
(Am u).bind fun k=>
(
(Am p).bind fun h=>
(
(Am o).bind fun g=>
(
(Am n).bind fun f=>
(
(Am m).bind fun b=>
(
j6 k h g f b))))))
def Zg:=Qo Xv
def Yw(j5:LB→Gi)(a:LB):Gi:=
if(Cc (Ac a) 22)then
some (0,0,0,0,0,24)
else
(Az a 18 22).bind fun y=>
(Az a 0 18).bind fun aa=>
(Am y).bind fun ab=>
(Ph aa).bind fun ac=>
if(Ay ab (Ad ac:UInt64))then
some (0,0,0,0,0,22)
else
j5 a
def Zh:=Yw Zg
def Zq(j4:LB→Gi)(a:LB):Gi:=
(Az a 0 (Eh 4 (Ac a))).bind fun ad=>
(Az ([84,84,65,49]:LB) 0 (Eh 4 (Ac a))).bind fun ae=>
if(ad !=ae)then
some (0,0,0,0,0,12)
else
j4 a
def Lp:=Zq Zh
abbrev Uq:=Option (Int×Int×Int×Int×Int×Int×Int)
def Ac7(b:Int)(a:LB):Uq:=
(Lp a).bind fun(k,m,n,o,p,h)=>
if(geq h 24)then
some (0,0,0,0,0,0,(-1:Int))
else
some ((Ae b 22),k,m,n,o,p,h)
def Td:=Ac7
def Tc(j2:Int→LB→Uq)(f:LB):Uq:=
(Ki f).bind fun(b,g)=>
if(geq g 24)then
some (0,0,0,0,0,0,(-1:Int))
else
if(Ay g 0)then
some (0,0,0,0,0,0,g)
else
(Az f b (Ac f)).bind fun a=>
(Me a ([73,68,51]:LB)).bind fun u=>
if u then
some (0,0,0,0,0,0,(-1:Int))
else
(Me a ([65,80,69,84,65,71,69,88]:LB)).bind fun v=>
if v then
some (0,0,0,0,0,0,(-1:Int))
else
j2 b a
def Ld:=Tc Td
def Ahj(a:UInt64)(b:Bool):Option UInt64:=
if b then
some (Aa5 (Bj a 2) 4823603603198064275)
else
some (Bj a 2)
def Ps:=Ahj
def Zr(j2:UInt64→Bool→Option UInt64)(a:UInt64)(f:Int):Option UInt64:=
if(geq f 1)then
j2 a (!(Ni a 9223372036854775808))
else
j2 a (Ni a 9223372036854775808)
def Xj:=Zr Ps
def Aid(a:UInt64):Option UInt64:=
some a
def Yi:=Aid
def Qh(j6:UInt64→Option UInt64)(bk4:UInt64→Int→Option UInt64)(b:UInt8)(a:UInt64)(f:Int):Option UInt64:=
if(Ee f 0)then
(Kj (Ay f 0)).bind fun _=>
(Xj a (Ho (Cp (Ad b:Int) f) 2)).bind fun g=>
bk4 g (Cp f 2)
else
j6 a
def Ht(b:UInt8):Nat→UInt64→Int→Option UInt64
|0,_,_=>none
|q+1,a,f=>Qh Yi (Ht b q) b a f
def Ah1 b:=Ht b FUEL
def Aii(j4:UInt8→UInt64→Int→Option UInt64)(h:UInt64)(b:UInt8):Option UInt64:=
j4 b h 128
def Aec:=Aii Ah1
def Adu(a:UInt64):Option UInt64:=
some a
def Uy:=Adu
def Mq(j6:UInt64→Option UInt64)(bk4:UInt64→Int→Option UInt64)(b:LB)(a:UInt64)(f:Int):Option UInt64:=
if(Cc f (Ac b))then
(getI b f).bind fun g=>
(Aec a g).bind fun h=>
bk4 h (Ae f 1)
else
j6 a
def Fw(b:LB):Nat→UInt64→Int→Option UInt64
|0,_,_=>none
|q+1,a,f=>Mq Uy (Fw b q) b a f
def Adq b:=Fw b FUEL
def Aeo(j4:LB→UInt64→Int→Option UInt64)(k:UInt64)(b:LB):Option UInt64:=
j4 b k 0
def Rm:=Aeo Adq
def Ad0(a:LB):Option UInt64:=
(Rm 0 a).bind fun b=>
some b
def Lc(a:LB):Option (LB):=
(Ad0 a).bind fun b=>
(De b 8).bind fun f=>
some f
abbrev Dn:=Option (LI×Int)
def Ahv(f:LI):Dn:=
(Fj f).bind fun h=>
if(Ay h 0)then
some (([]:LI),12)
else
some (f,0)
def Py:=Ahv
def Px(j8:LI→Dn)(bk6:Int→LI→Dn)(b:LB)(a g:Int)(f:LI):Dn:=
if(Cc g a)then
(Az b (Bj 4 g) (Ae (Bj 4 g) 4)).bind fun k=>
(Am k).bind fun m=>
(Cx f ([(Ad m:Int)]:LI)).bind fun n=>
bk6 (Ae g 1) n
else
j8 f
def Hu(b:LB)(a:Int):Nat→Int→LI→Dn
|0,_,_=>none
|q+1,g,f=>Px Py (Hu b a q) b a g f
def Yr b a:=Hu b a FUEL
def Xy(j6:LB→Int→Int→LI→Dn)(b:LB)(a:Int):Dn:=
j6 b a 0 ([]:LI)
def Ze:=Xy Yr
def Zc(j5:LB→Int→Dn)(b:LB)(a:Int):Dn:=
if((Cc a 1)||(Ee a 1000))then
some (([]:LI),2)
else
if(Cc (Ac b) (Ae (Bj 4 a) 4))then
some (([]:LI),24)
else
(Az b (Bj 4 a) (Ae (Bj 4 a) 4)).bind fun o=>
(Az b 0 (Bj 4 a)).bind fun p=>
(Am o).bind fun u=>
(Ph p).bind fun v=>
if(Ay u (Ad v:UInt64))then
some (([]:LI),22)
else
j5 b a
def Qn:=Zc Ze
abbrev Jr:=Option (Int×LI×Int)
def Aer(b g:Int)(h:LI):Jr:=
if(geq g 24)then
some (0,([]:LI),(-1:Int))
else
some ((Ae (Ae b (Bj 4 (Ac h))) 4),h,g)
def Un:=Aer
def Uu(j4:Int→Int→LI→Jr)(a:LB)(f k m n o b:Int):Jr:=
(Az a b (Ac a)).bind fun p=>
(Du f k m n o).bind fun u=>
(Qn p (Ac u)).bind fun(h,g)=>
j4 b g h
def Cr:=Uu Un
def Fx(j3:LB→Int→Int→Int→Int→Int→Int→Jr)(a:LB)(f k m n o:Int)(v:LB):Jr:=
if(geq f 2)then
if(Cc (Ac a) 8)then
some (0,([]:LI),(-1:Int))
else
(Az a 0 8).bind fun w=>
(Lc v).bind fun y=>
if(w !=y)then
some (0,([]:LI),26)
else
j3 a f k m n o 8
else
j3 a f k m n o 0
def Da:=Fx Cr
def Afc(b:UInt64)(a:LB):Option (UInt64×Int):=
if(Ee (Ac a) 100000)then
some (0,4)
else
(Rm b a).bind fun f=>
some (f,0)
def Agv(a:LB):Option (UInt64×Int):=
(Afc 0 a).bind fun(b,f)=>
some (b,f)
def Av1(a:LX):Option (LX):=
some a
def Aje:=Av1
def Ak5(bk6:UInt64→Int→LX→Option (LX))(b:UInt64)(f:Int)(a:LX)(g:Int32):Option (LX):=
(getI a f).bind fun _=>
(Mn a f g).bind fun h=>
bk6 (Cp b 256) (Ae f 1) h
def Uj bk6:=Ak5 bk6
def Us(j8:UInt64→Int→LX→Int32→Option (LX))(j10:LX→Option (LX))(b:UInt64)(f:Int)(a:LX):Option (LX):=
if(Cc f 8)then
if(Ee (Ad (Ada b 256):Int32) 127)then
j8 b f a (Aj (Ad (Ada b 256):Int32) 256)
else
j8 b f a (Ad (Ada b 256):Int32)
else
j10 a
def Hp:Nat→UInt64→Int→LX→Option (LX)
|0,_,_,_=>none
|q+1,b,f,a=>Us (Uj (Hp q)) Aje b f a
def Akt:=Hp FUEL
def Al5(j6:UInt64→Int→LX→Option (LX))(k:UInt64):Option (LX):=
j6 k 0 (List.replicate 16 (0:Int32))
def Aiw:=Al5 Akt
def Qb(a:LB):Option (LX×Int):=
if(Ee (Ac a) 64)then
some (([(0:Int32),(0:Int32),(0:Int32),(0:Int32),(0:Int32),(0:Int32),(0:Int32),(0:Int32),(0:Int32),(0:Int32),(0:Int32),(0:Int32),(0:Int32),(0:Int32),(0:Int32),(0:Int32)]:LX),2)
else
(Agv a).bind fun(b,g)=>
(Aiw b).bind fun f=>
some (f,0)
def Qg(a:Int):Option Int:=
if(geq a 8)then
some 128
else
if(geq a 16)then
some 32768
else
if(geq a 24)then
some 8388608
else
some 0
def Uv(a b:Int):Option Int:=
if((Cc a 1)||(Ee a 6))then
some 2
else
(Qg b).bind fun f=>
if(geq f 0)then
some 2
else
some 0
def Ke(a f b:Int):Option Int:=
(Uv a f).bind fun g=>
if((Ay g 0)||(Cc b 1))then
some 2
else
(Kj (Ay a 0)).bind fun _=>
if(Ee b (Cp 4000 a))then
some 2
else
some 0
def Rr(b:LB):Option (LB):=
(Ph b).bind fun a=>
(Cx ([]:LB) b).bind fun f=>
(Cx f ([(Ad a:UInt8),(Ad (Ca a (GI.toZ (8:UInt64)).toNat):UInt8),(Ad (Ca a (GI.toZ (16:UInt64)).toNat):UInt8),(Ad (Ca a (GI.toZ (24:UInt64)).toNat):UInt8)]:LB)).bind fun g=>
some g
def Md(a:LB):Option Int:=
if(Cc (Ac a) 5)then
some 24
else
if(Ee (Ac a) 41254)then
some 4
else
(Az a 0 (Aj (Ac a) 4)).bind fun b=>
(Rr b).bind fun f=>
if(f !=a)then
some 22
else
some 0
def Kf:Option (Int×Int×UInt64×UInt64):=
some (10,10,16384,16384)
def Asm(a:UInt64):Option UInt64:=
some a
def Afw:=Asm
def Nz(j6:UInt64→Option UInt64)(bk4:UInt64→Int→Option UInt64)(b:Int)(a:UInt64)(f:Int):Option UInt64:=
if(Cc f b)then
bk4 (Bj a 2) (Ae f 1)
else
j6 a
def Ha(b:Int):Nat→UInt64→Int→Option UInt64
|0,_,_=>none
|q+1,a,f=>Nz Afw (Ha b q) b a f
def Afz b:=Ha b FUEL
def Afr(j4:Int→UInt64→Int→Option UInt64)(b:Int):Option UInt64:=
j4 b 1 0
def Eb:=Afr Afz
def Sg(a g:Int)(h k:UInt64)(b:UInt32):Option Bool:=
(Eb a).bind fun f=>
some (Cc (Ad b:UInt64) f)
def Ls(a g:Int)(h k:UInt64)(b:UInt32):Option UInt32:=
(Eb a).bind fun f=>
some (Ad (Aj (Ad b:UInt64) f):UInt32)
abbrev Aa2:=Option (Int×UInt64)
def Aig(b:Int)(a f:UInt64):Aa2:=
if(Cc b 24)then
(Eb (Ae b 5)).bind fun g=>
if(Ee (Aj (Ae a f) (Cp a 16)) g)then
some ((Ae b 1),(Aj (Ae a f) (Cp a 16)))
else
some (b,(Aj (Ae a f) (Cp a 16)))
else
some (b,(Aj (Ae a f) (Cp a 16)))
def Qi:=Aig
def Za(j2:Int→UInt64→UInt64→Aa2)(b:Int)(a f:UInt64):Aa2:=
if(Ee b 0)then
(Eb (Ae b 4)).bind fun h=>
if(Cc (Aj (Ae a f) (Cp a 16)) h)then
some ((Aj b 1),(Aj (Ae a f) (Cp a 16)))
else
j2 b a f
else
j2 b a f
def Io:=Za Qi
abbrev Wk:=Option (Int×Int×UInt64×UInt64)
def Adl(h:UInt32)(f a:Int)(g b:UInt64)(o:Int)(p:UInt64):Wk:=
(Io f g (Ad h:UInt64)).bind fun(aa,ab)=>
some (aa,o,ab,p)
def Mp:=Adl
def Mw(j2:UInt32→Int→Int→UInt64→UInt64→Int→UInt64→Wk)(f a:Int)(g b:UInt64)(h:UInt32):Wk:=
(Sg f a g b h).bind fun u=>
if(!u)then
(
(
(Ls f a g b h).bind fun k=>
(Io a b (Ad k:UInt64)).bind fun(m,n)=>
j2 h f a g b m n))
else
j2 h f a g b a b
def Ro:=Mw Mp
abbrev Eu:=Option (Int×Int×UInt64×UInt64)
def Apw(a b:Int)(f g:UInt64):Eu:=
some (a,b,f,g)
def Aeh:=Apw
def Ty(j6:Int→Int→UInt64→UInt64→Eu)(bk4:Int→Int→Int→UInt64→UInt64→Eu)(h:Int)(k:LU)(m a b:Int)(f g:UInt64):Eu:=
if(Cc m (Ac k))then
(getI k m).bind fun n=>
(Ro a b f g n).bind fun(o,p,u,v)=>
bk4 (Ae m h) o p u v
else
j6 a b f g
def Ir(h:Int)(k:LU):Nat→Int→Int→Int→UInt64→UInt64→Eu
|0,_,_,_,_,_=>none
|q+1,m,a,b,f,g=>Ty Aeh (Ir h k q) h k m a b f g
def Aeb h k:=Ir h k FUEL
def Uz(j4:Int→LU→Int→Int→Int→UInt64→UInt64→Eu)(h:Int)(k:LU):Eu:=
(Kf).bind fun(w,y,aa,ab)=>
(Kj (Ay h 0)).bind fun _=>
j4 h k (Ho (Ac k) h) w y aa ab
def Mj:=Uz Aeb
def Amg(a:Int):Option Int:=
some (Ho a 2)
def Abv:=Amg
def Um(j6:Int→Option Int)(bk4:Int→Int→Option Int)(b a f:Int):Option Int:=
if(Cc f (Ho b 8))then
bk4 (Cp a 2) (Ae f 1)
else
j6 a
def Kb(b:Int):Nat→Int→Int→Option Int
|0,_,_=>none
|q+1,a,f=>Um Abv (Kb b q) b a f
def Acd b:=Kb b FUEL
def Aca(j4:Int→Int→Int→Option Int)(g:LB)(k b:Int):Option Int:=
(getI g (Cp b 8)).bind fun h=>
j4 b (Ad h:Int) 0
def Je:=Aca Acd
abbrev Ea:=Option (LB×Int)
def Ajn(b g a:Int)(f:LB):Ea:=
(getI f (Cp a 8)).bind fun _=>
(getI f (Cp a 8)).bind fun m=>
(getI f (Cp a 8)).bind fun _=>
(Mn f (Cp a 8) (Ae m (Ad (Bj b g):UInt8))).bind fun n=>
some (n,(Ae a 1))
def Ri:=Ajn
def Rn(j8:Int→Int→Int→LB→Ea)(bk6:Int→Int→Ea)(b a:Int)(f:LB)(g h:Int):Ea:=
if(Cc h (Ho a 8))then
bk6 (Bj g 2) (Ae h 1)
else
j8 b g a f
def Jd(b a:Int)(f:LB):Nat→Int→Int→Ea
|0,_,_=>none
|q+1,g,h=>Rn Ri (Jd b a f q) b a f g h
def Aa0 b a f:=Jd b a f FUEL
def Aa1(j6:Int→Int→LB→Int→Int→Ea)(b a:Int)(f:LB):Ea:=
j6 b a f 1 0
def Rp:=Aa1 Aa0
def Aaq(j5:Int→Int→LB→Ea)(k:LB)(a b:Int):Ea:=
if(geq (Ho a 8) 0)then
(Cx k ([(0:UInt8)]:LB)).bind fun o=>
j5 b a o
else
j5 b a k
def Tf:=Aaq Rp
abbrev Dx:=Option (LB×Int)
def Aoz(a:Int)(b:LB):Dx:=
some (b,a)
def Ac1:=Aoz
def Ln(j6:Int→LB→Dx)(bk4:Int→Int→LB→Dx)(f:Int)(g:LB)(h k a:Int)(b:LB):Dx:=
if(Cc k f)then
(Je g h k).bind fun m=>
(Tf b a m).bind fun(n,o)=>
bk4 (Ae k 1) o n
else
j6 a b
def Ez(f:Int)(g:LB)(h:Int):Nat→Int→Int→LB→Dx
|0,_,_,_=>none
|q+1,k,a,b=>Ln Ac1 (Ez f g h q) f g h k a b
def Acq f g h:=Ez f g h FUEL
def Ac4(j4:Int→LB→Int→Int→Int→LB→Dx)(g:LB)(h p f:Int):Dx:=
j4 f g h p 0 ([]:LB)
def Yp:=Ac4 Acq
def Ase(a:UInt64):Option UInt64:=
some a
def Aft:=Ase
def Oo(j6:UInt64→Option UInt64)(bk4:UInt64→Int→Option UInt64)(b:Int)(f:LB)(g:Int)(a:UInt64)(h:Int):Option UInt64:=
if(Ni h 0)then
(Je f g (Ae b h)).bind fun k=>
bk4 (Ae (Bj 2 a) (Ad k:UInt64)) (Aj h 1)
else
j6 a
def Gs(b:Int)(f:LB)(g:Int):Nat→UInt64→Int→Option UInt64
|0,_,_=>none
|q+1,a,h=>Oo Aft (Gs b f g q) b f g a h
def Wl b f g:=Gs b f g FUEL
def Wa(j4:Int→LB→Int→UInt64→Int→Option UInt64)(f:LB)(g b m:Int):Option UInt64:=
j4 b f g 0 (Aj m 1)
def Nj:=Wa Wl
abbrev Hq:=Option (Int×Int)
def Aja(b a:Int)(g:LB)(f:Int):Hq:=
if(geq a 48)then
some (a,(Ae b a))
else
if(Ni (Ae b a) f)then
some ((-1:Int),0)
else
some (a,(Ae (Ae b a) 1))
def Rq:=Aja
def Rw(j6:Int→Int→LB→Int→Hq)(bk4:Int→Hq)(b:Int)(g:LB)(f a:Int):Hq:=
if((Cc (Ae b a) f)&&(Cc a 48))then
(Je g f (Ae b a)).bind fun h=>
if(geq h 1)then
bk4 (Ae a 1)
else
j6 b a g f
else
j6 b a g f
def Ja(b:Int)(g:LB)(f:Int):Nat→Int→Hq
|0,_=>none
|q+1,a=>Rw Rq (Ja b g f q) b g f a
def Ajc b g f:=Ja b g f FUEL
def Ajm(j4:Int→LB→Int→Int→Hq)(g:LB)(f b:Int):Hq:=
j4 b g f 0
def Agp:=Ajm Ajc
def Xt(b:UInt32)(f:Int):Option Int:=
(Eb f).bind fun a=>
(Kj (Ay a 0)).bind fun _=>
some (Ad (Eh 48 (Cp (Ad b:UInt64) a)):Int)
abbrev Ab0:=Option (UInt32×Int×Int)
def Aau(g a b:Int)(h:LB)(f k:Int):Ab0:=
if((Cc a 0)||(Cc (Aj f b) k))then
some (0,0,24)
else
(Nj h f b k).bind fun m=>
if(Cc a 48)then
(Eb g).bind fun o=>
some ((Ad (Ae (Bj (Ad a:UInt64) o) m):UInt32),(Ae b k),0)
else
(Xt (Ad m:UInt32) g).bind fun p=>
if(Cc p a)then
some (0,0,12)
else
some ((Ad m:UInt32),(Ae b k),0)
def Rj:=Aau
def Aa4(j2:Int→Int→Int→LB→Int→Int→Ab0)(h:LB)(f n g:Int):Ab0:=
if(Ni n f)then
some (0,0,24)
else
(Agp h f n).bind fun(a,b)=>
if(geq a 48)then
j2 g a b h f 32
else
j2 g a b h f g
def Zs:=Aa4 Rj
def Aaa(g:LB)(b a f n:Int)(v w:UInt64):Option (UInt32×Int×Int):=
if(Ni a b)then
some (0,0,24)
else
(Je g b a).bind fun o=>
if(geq o 0)then
if(Cc (Aj (Aj b a) 1) f)then
some (0,0,24)
else
(Nj g b (Ae a 1) f).bind fun p=>
some ((Ad p:UInt32),(Ae (Ae a 1) f),0)
else
(Zs g b (Ae a 1) n).bind fun(h,u,k)=>
if(Ay k 0)then
some (0,0,k)
else
(Eb f).bind fun m=>
if(Ee (Ae (Ad h:UInt64) m) 4294967295)then
some (0,0,12)
else
some ((Ad (Ae (Ad h:UInt64) m):UInt32),u,0)
abbrev Bd:=Option (LU×Int)
def Asj(b:LU):Bd:=
some (b,0)
def Afy:=Asj
def On(j18:LU→Bd)(bk16:Int→Bd)(a:LB)(b:LU)(m:Int):Bd:=
if(Cc m (Bj 8 (Ac a)))then
(Je a (Bj 8 (Ac a)) m).bind fun n=>
if(Ay n 0)then
some (b,12)
else
bk16 (Ae m 1)
else
j18 b
def Gu(a:LB)(b:LU):Nat→Int→Bd
|0,_=>none
|q+1,m=>On Afy (Gu a b q) a b m
def Ws a b:=Gu a b FUEL
def We(j16:LB→LU→Int→Bd)(f:Int)(a:LB)(b:LU):Bd:=
if(Ee (Aj (Bj 8 (Ac a)) f) 7)then
some (b,12)
else
j16 a b f
def Oa:=We Ws
def Afl(bk10:Int→Int→LU→Bd)(g h:Int)(a:LB)(f k:Int)(b:LU)(o p:Int)(u v:UInt64):Bd:=
(Yp a (Bj 8 (Ac a)) f (Eh (Ae f 81) (Bj 8 (Ac a)))).bind fun(y,aa)=>
(Aaa y aa 0 o p u v).bind fun(ab,ac,w)=>
if(Ay w 0)then
some (b,w)
else
(Cx b ([ab]:LU)).bind fun ad=>
bk10 (Ae f ac) (Ae k 1) ad
def Gq bk10:=Afl bk10
def Vz(j13:Int→Int→LU→Int→Int→UInt64→UInt64→Bd)(j15:Int→LB→LU→Bd)(g h:Int)(a:LB)(f k:Int)(b:LU):Bd:=
if(Cc k (Bj h g))then
(Kf).bind fun(n,ae,af,ag)=>
if(Ni k g)then
(Mj g b).bind fun(ah,ai,aj,ak)=>
j13 f k b ah ai aj ak
else
j13 f k b n ae af ag
else
j15 f a b
def Dm(g h:Int)(a:LB):Nat→Int→Int→LU→Bd
|0,_,_,_=>none
|q+1,f,k,b=>Vz (Gq (Dm g h a q) g h a) Oa g h a f k b
def Afx g h a:=Dm g h a FUEL
def Zb(j10:Int→Int→LB→Int→Int→LU→Bd)(g h:Int)(a:LB):Bd:=
j10 g h a 0 0 ([]:LU)
def Wy:=Zb Afx
def Alk(a:Int):Option (Int×Int):=
if(geq a 8)then
some (4,0)
else
if((geq a 16)||(geq a 24))then
some (5,0)
else
some (0,2)
def Aox(a:Int)(b:LX):Option (Int×LX×LX×Int):=
(Alk a).bind fun(g,f)=>
if(Ay f 0)then
some (0,(List.replicate 16 (0:Int32)),(List.replicate 16 (0:Int32)),2)
else
if(geq a 16)then
some (9,b,(List.replicate 16 (0:Int32)),0)
else
some (10,b,(List.replicate 16 (0:Int32)),0)
def Ags(a:Int)(b:LX):Option (Int×Int32×Int×LX×LX×Int):=
(Aox a b).bind fun(f,g,h,k)=>
if(Ay k 0)then
some (0,0,0,(List.replicate 16 (0:Int32)),(List.replicate 16 (0:Int32)),2)
else
some (a,0,f,g,h,0)
def Lf(a:UInt32):Option Int32:=
if(geq (Ada a 2) 0)then
some (Ad (Cp a 2):Int32)
else
some (Ad (Cp (Ayf (Ae (Ad a:Int) 1)) 2):Int32)
def Cf(a:Int):Option Int32:=
some (Ad (Ad (Ad a:UInt64):UInt32):Int32)
def Ajh(a:Int):Option Int32:=
some (Ad a:Int32)
def Aas:=Ajh
def Rk(j6:Int→Option Int32)(bk4:Int→Int→Option Int32)(h:Int)(f g:LX)(a b:Int):Option Int32:=
if(Cc b 16)then
(getI f b).bind fun _=>
(getI g b).bind fun _=>
(getI f b).bind fun k=>
(getI g b).bind fun m=>
(Cf (Bj (Ad k:Int) (Ad m:Int))).bind fun n=>
(Cf (Ae a (Ad n:Int))).bind fun o=>
bk4 (Ad o:Int) (Ae b 1)
else
j6 a
def Jb(h:Int)(f g:LX):Nat→Int→Int→Option Int32
|0,_,_=>none
|q+1,a,b=>Rk Aas (Jb h f g q) h f g a b
def Ajl h f g:=Jb h f g FUEL
def Ai9(j4:Int→LX→LX→Int→Int→Option Int32)(h:Int)(f g:LX):Option Int32:=
j4 h f g 0 0
def Agw:=Ai9 Ajl
def Aif(b:Int)(f g:LX)(a:Int):Option Int32:=
(Agw b f g).bind fun k=>
(Cf (Ae (Ad k:Int) (Cp a 2))).bind fun h=>
(Kj (Ay a 0)).bind fun _=>
(Kj (Ay a 0)).bind fun _=>
if(Cc (Ho (Ad h:Int) a) 0)then
some (Ad (Aj (Cp (Ad h:Int) a) 1):Int32)
else
some (Ad (Cp (Ad h:Int) a):Int32)
def Pw:=Aif
def Yo(j2:Int→LX→LX→Int→Option Int32)(b:Int)(f g:LX):Option Int32:=
if(geq b 9)then
j2 b f g 512
else
j2 b f g 1024
def Xh:=Yo Pw
def Ww(a:Int):Option Int32:=
if(geq a 0)then
some 4
else
if(gle a 3)then
some 2
else
some 1
def Pp(a:Int32):Option Int32:=
if(Cc a 0)then
some (-1:Int32)
else
if(Ee a 0)then
some 1
else
some 0
abbrev Dz:=Option (Int×LX×LX)
def Ao0(g:Int)(b a:LX):Dz:=
some (g,b,a)
def Acl:=Ao0
def Lr(j6:Int→LX→LX→Dz)(bk4:Int→LX→Dz)(h:Int32)(g:Int)(a:LX)(f:Int)(b:LX):Dz:=
if(Cc f 16)then
(getI b f).bind fun _=>
(getI a f).bind fun _=>
(getI b f).bind fun k=>
(getI a f).bind fun m=>
(Ww f).bind fun n=>
(Pp m).bind fun o=>
(Pp h).bind fun p=>
(getI b f).bind fun _=>
(Mn b f (Ae k (Bj (Bj n o) p))).bind fun u=>
bk4 (Ae f 1) u
else
j6 g b a
def Fc(h:Int32)(g:Int)(a:LX):Nat→Int→LX→Dz
|0,_,_=>none
|q+1,f,b=>Lr Acl (Fc h g a q) h g a f b
def Ac5 h g a:=Fc h g a FUEL
def Acm(j4:Int32→Int→LX→Int→LX→Dz)(g:Int)(v a:LX)(h:Int32):Dz:=
j4 h g a 0 v
def Yv:=Acm Ac5
abbrev Et:=Option (Int×LX×LX)
def Aek(b:Int32)(f:Int)(g a:LX):Et:=
(getI a 0).bind fun _=>
(Mn a 0 b).bind fun k=>
some (f,g,k)
def Uf:=Aek
def Mu(j6:Int32→Int→LX→LX→Et)(bk4:Int→LX→Et)(b:Int32)(f:Int)(g:LX)(h:Int)(a:LX):Et:=
if(Ee h 0)then
(getI a (Aj h 1)).bind fun _=>
(getI a (Aj h 1)).bind fun m=>
(getI a h).bind fun _=>
(Mn a h m).bind fun n=>
bk4 (Aj h 1) n
else
j6 b f g a
def Fz(b:Int32)(f:Int)(g:LX):Nat→Int→LX→Et
|0,_,_=>none
|q+1,h,a=>Mu Uf (Fz b f g q) b f g h a
def Ado b f g:=Fz b f g FUEL
def Ae8(j4:Int32→Int→LX→Int→LX→Et)(f:Int)(g o:LX)(b:Int32):Et:=
j4 b f g 15 o
def Aao:=Ae8 Ado
def Pr(a:Int)(b f:LX)(g:Int32):Option (Int32×Int×LX×LX):=
(Xh a b f).bind fun k=>
(Cf (Ae (Ad g:Int) (Ad k:Int))).bind fun h=>
(Yv a b f g).bind fun(m,n,o)=>
(Aao m n o h).bind fun(p,u,v)=>
some (h,p,u,v)
def Ad3(b:Int32)(a:Int):Option Int32:=
(Kj (Ay a 0)).bind fun _=>
(Kj (Ay a 0)).bind fun _=>
if(Cc (Ho (Bj (Aj a 1) (Ad b:Int)) a) 0)then
some (Ad (Aj (Cp (Bj (Aj a 1) (Ad b:Int)) a) 1):Int32)
else
some (Ad (Cp (Bj (Aj a 1) (Ad b:Int)) a):Int32)
def My:=Ad3
def Ub(j2:Int32→Int→Option Int32)(f:Int)(b:Int32):Option Int32:=
if(geq f 5)then
j2 b 32
else
j2 b 16
def Mf:=Ub My
def Rv(b:Int)(a:Int32)(h:Int)(k m:LX):Option Int:=
if(geq b 8)then
(Mf 4 a).bind fun f=>
some (Ad f:Int)
else
(Mf 5 a).bind fun g=>
some (Ad g:Int)
def Ia(a:Int)(k:Int32)(b:Int)(f g:LX)(m:Int32):Option (Int32×Int×Int32×Int×LX×LX):=
(Pr b f g m).bind fun(n,o,p,u)=>
(Rv a k b f g).bind fun v=>
(Cf (Ae (Ad n:Int) v)).bind fun h=>
some (h,a,h,o,p,u)
def Nw(a:Int)(b:LX):Option Int:=
if((Cc a 1)||(Ee a 6))then
some 2
else
if(Ee (Ac b) 4000)then
some 4
else
(Kj (Ay a 0)).bind fun _=>
if(Ee (Ho (Ac b) a) 0)then
some 2
else
some 0
def Api(b:LX):Option (LX):=
some b
def Acy:=Api
def Lg(j8:LX→Option (LX))(bk6:Int→LX→Option (LX))(a:LX)(f:Int)(b:LX):Option (LX):=
if(Ni f 0)then
(getI b (Ae f 1)).bind fun _=>
(getI a f).bind fun m=>
(getI b (Ae f 1)).bind fun n=>
(Cf (Aj (Ad n:Int) (Ad m:Int))).bind fun o=>
(getI b f).bind fun _=>
(Mn b f o).bind fun p=>
bk6 (Aj f 1) p
else
j8 b
def Fa(a:LX):Nat→Int→LX→Option (LX)
|0,_,_=>none
|q+1,f,b=>Lg Acy (Fa a q) a f b
def Ac6 a:=Fa a FUEL
def Ti(j6:LX→Int→LX→Option (LX))(a g:LX):Option (LX):=
j6 a (Aj (Ac a) 2) g
def Lk:=Ti Ac6
def Sa(j5:LX→LX→Option (LX))(a:LX):Option (LX):=
(mkI (Ac a) (0:Int32)).bind fun k=>
(Kj (geq (Ac a) (Ac a))).bind fun _=>
(getI a (Aj (Ac a) 1)).bind fun u=>
(getI k (Aj (Ac a) 1)).bind fun _=>
(Mn k (Aj (Ac a) 1) u).bind fun h=>
if(Ee (Ac a) 1)then
(getI a (Aj (Ac a) 1)).bind fun v=>
(getI a (Aj (Ac a) 2)).bind fun w=>
(Cf (Ae (Ad v:Int) (Cp (Ad w:Int) 2))).bind fun y=>
(getI h (Aj (Ac a) 1)).bind fun _=>
(Mn h (Aj (Ac a) 1) y).bind fun aa=>
j5 a aa
else
j5 a h
def Qf:=Sa Lk
abbrev Gk:=Option (LX×Int)
def Ath(f:LX):Gk:=
some (f,0)
def Aho:=Ath
def Yq(j6:LX→Gk)(bk4:Int→LX→Gk)(a:Int)(b:LX)(g:Int)(f:LX):Gk:=
if(Cc g (Ac b))then
(Az b g (Ae g a)).bind fun h=>
(Qf h).bind fun k=>
(Cx f k).bind fun m=>
bk4 (Ae g a) m
else
j6 f
def Ku(a:Int)(b:LX):Nat→Int→LX→Gk
|0,_,_=>none
|q+1,g,f=>Yq Aho (Ku a b q) a b g f
def Ah4 a b:=Ku a b FUEL
def Zo(j4:Int→LX→Int→LX→Gk)(a:Int)(b:LX):Gk:=
(Nw a b).bind fun n=>
if(Ay n 0)then
(Nw a b).bind fun o=>
some (([]:LX),o)
else
j4 a b 0 ([]:LX)
def Xa:=Zo Ah4
def Acu(a f:Int)(w:LX):Option (LX):=
(Xa a w).bind fun(aj,ai)=>
some aj
def Lj:=Acu
def Acr(bk18:Int→LX→Option (LX))(b:LU)(a f:Int)(g:LX)(h:Int)(m:LX):Option (LX):=
bk18 (Ae h 1) m
def Tp bk18:=Acr bk18
def Acs(bk26:Int→LX→Int→Int32→Int→LX→LX→Option (LX))(b:LU)(h a f:Int)(g:LX)(k:Int)(af:LX)(y:Int)(aa:Int32)(ab:Int)(ac ad:LX):Option (LX):=
bk26 (Ae k a) af y aa ab ac ad
def Tg bk26:=Acs bk26
def Tk(j30:Int→LX→Int→Int32→Int→LX→LX→Option (LX))(b:LU)(h a f:Int)(g:LX)(k:Int)(ae:Int32)(m:LX)(n:Int)(o:Int32)(p:Int)(u v:LX)(y:Int)(aa:Int32)(ab:Int)(ac ad:LX):Option (LX):=
(getI m k).bind fun _=>
(Mn m k ae).bind fun af=>
j30 k af y aa ab ac ad
def Sp bk26 b h a f g:=Tk (Tg bk26 b h a f g) b h a f g
def Lt(j29:Int→Int32→LX→Int→Int32→Int→LX→LX→Int→Int32→Int→LX→LX→Option (LX))(j32:Int→LX→Option (LX))(b:LU)(a f:Int)(g:LX)(h k:Int)(m:LX)(n:Int)(o:Int32)(p:Int)(u v:LX):Option (LX):=
if(Cc k (Ac b))then
(getI b k).bind fun ah=>
(
(Lf ah).bind fun ag=>
(
(Ia n o p u v ag).bind fun(ae,y,aa,ab,ac,ad)=>
j29 k ae m n o p u v y aa ab ac ad))
else
j32 h m
def Hy(bk18:Int→LX→Option (LX))(b:LU)(a f:Int)(g:LX)(h:Int):Nat→Int→LX→Int→Int32→Int→LX→LX→Option (LX)
|0,_,_,_,_,_,_,_=>none
|q+1,k,m,n,o,p,u,v=>Lt (Sp (Hy bk18 b a f g h q) b h a f g) (Tp bk18 b a f g) b a f g h k m n o p u v
def Sr bk18 b a f g h:=Hy bk18 b a f g h FUEL
def Lq(j26:Int→Int→LX→Int→Int32→Int→LX→LX→Option (LX))(j34:Int→Int→LX→Option (LX))(b:LU)(a f:Int)(g:LX)(h:Int)(w:LX):Option (LX):=
if(Cc h a)then
(Ags f g).bind fun(ak,ai,al,am,an,aq)=>
j26 h h w ak ai al am an
else
j34 a f w
def Dp(b:LU)(a f:Int)(g:LX):Nat→Int→LX→Option (LX)
|0,_,_=>none
|q+1,h,w=>Lq (Sr (Dp b a f g q) b a f g) Lj b a f g h w
def To b a f g:=Dp b a f g FUEL
def Ur(j18:LU→Int→Int→LX→Int→LX→Option (LX))(a f:Int)(g:LX)(b:LU):Option (LX):=
(mkI (Ac b) (0:Int32)).bind fun ao=>
(Kj (geq (Ac b) (Ac b))).bind fun _=>
j18 b a f g 0 ao
def Iz:=Ur To
def Asl:Option Int:=
some 0
def Afs:=Asl
def Dk(j6:Option Int)(bk4:Int→Option Int)(a:LX)(b f:Int):Option Int:=
if(Cc f (Ac a))then
(getI a f).bind fun g=>
if(Cc (Ad g:Int) (Ayf b))then
some 16
else
(getI a f).bind fun h=>
if(Ni (Ad h:Int) b)then
some 16
else
bk4 (Ae f 1)
else
j6
def Bc(a:LX)(b:Int):Nat→Int→Option Int
|0,_=>none
|q+1,f=>Dk Afs (Bc a b q) a b f
def Afu a b:=Bc a b FUEL
def Gv(j4:LX→Int→Int→Option Int)(k:Int)(a:LX):Option Int:=
(Qg k).bind fun b=>
if(geq b 0)then
some 2
else
if(Ee (Ac a) 4000)then
some 4
else
j4 a b 0
def cadenzaref18_Check:=Gv Afu
def Mm(g f:Int)(a:LX):Option (LX×Int):=
(cadenzaref18_Check f a).bind fun b=>
if(Ay b 0)then
some (([]:LX),b)
else
some (a,0)
abbrev Wr:=Option (LX×Int)
def Dw(f a b:Int)(g:LX)(h:LU):Wr:=
if(Ay f 0)then
some (([]:LX),f)
else
(
(
(Iz a b g h).bind fun m=>
(Mm a b m).bind fun(n,o)=>
some (n,o)))
def Gb:=Dw
def Ms(j2:Int→Int→Int→LX→LU→Wr)(a b:Int)(g:LX)(p:Int)(k:LB):Wr:=
(Ke a b p).bind fun y=>
if(Ay y 0)then
some (([]:LX),2)
else
(Md k).bind fun aa=>
if(Ay aa 0)then
(Md k).bind fun ab=>
some (([]:LX),ab)
else
(Az k 0 (Aj (Ac k) 4)).bind fun ac=>
(Wy a p ac).bind fun(h,f)=>
j2 f a b g h
def cadenzaref21_Decode:=Ms Gb
def Aar(a b:Int):Option (LB):=
if(geq a 24)then
(Cx ([(Ad (Ho b 256):UInt8),(Ad (Ho (Cp b 256) 256):UInt8)]:LB) ([(Ad (Cp b 65536):UInt8)]:LB)).bind fun g=>
some g
else
some ([(Ad (Ho b 256):UInt8),(Ad (Ho (Cp b 256) 256):UInt8)]:LB)
def Jc:=Aar
def Aal(j2:Int→Int→Option (LB))(a:Int)(f:Int32):Option (LB):=
if(geq a 8)then
some ([(Ad (Ae (Ad f:Int) 128):UInt8)]:LB)
else
if(Cc (Ad f:Int) 0)then
(Qg a).bind fun h=>
j2 a (Ae (Ad f:Int) (Bj 2 h))
else
j2 a (Ad f:Int)
def Zx:=Aal Jc
abbrev Fg:=Option (LB×Int)
def Aso(b:LB):Fg:=
some (b,0)
def Afo:=Aso
def Ok(j6:LB→Fg)(bk4:Int→LB→Fg)(f:Int)(a:LX)(g:Int)(b:LB):Fg:=
if(Cc g (Ac a))then
(getI a g).bind fun h=>
(Zx f h).bind fun k=>
(Cx b k).bind fun m=>
bk4 (Ae g 1) m
else
j6 b
def Gt(f:Int)(a:LX):Nat→Int→LB→Fg
|0,_,_=>none
|q+1,g,b=>Ok Afo (Gt f a q) f a g b
def Afq f a:=Gt f a FUEL
def Wc(j4:Int→LX→Int→LB→Fg)(f:Int)(a:LX):Fg:=
(cadenzaref18_Check f a).bind fun n=>
if(Ay n 0)then
(cadenzaref18_Check f a).bind fun o=>
some (([]:LB),o)
else
j4 f a 0 ([]:LB)
def Nt:=Wc Afq
abbrev Wd:=Option (LB×Int)
def Ga(o:LX)(f:Int)(p g:LB)(h k a m n:Int)(u:LI)(b:Int)(v:LB)(w:Bool)(y:Int):Wd:=
if(Ay f 0)then
some (([]:LB),f)
else
(Nt a o).bind fun(ac,ai)=>
some (ac,0)
def Ed:=Ga
def Ec(j2:LX→Int→LB→LB→Int→Int→Int→Int→Int→LI→Int→LB→Bool→Int→Wd)(p g:LB)(h k a m n:Int)(u:LI)(b:Int)(v:LB)(w:Bool)(y:Int):Wd:=
(getI u b).bind fun aa=>
if(Cc (Ac g) aa)then
some (([]:LB),(-1:Int))
else
(Qb p).bind fun(ad,aj)=>
(Az g 0 aa).bind fun ae=>
(Fh h k a m n).bind fun(af,ag)=>
(Du h k a m n).bind fun ab=>
(getI ab b).bind fun _=>
(getI ab b).bind fun ah=>
(cadenzaref21_Decode af ag ad ah ae).bind fun(o,f)=>
j2 o f p g h k a m n u b v w y
def Ch:=Ec Ed
abbrev Ml:=Option (LB×LB×Int×Int×Int×Int×Int×LI×Int×LB×Bool×Int×Int)
def Bp(g a:LB)(m o p u v:Int)(b:LI)(f:Int)(n:LB)(h:Bool)(k:Int):Ml:=
if(geq (Ac b) 0)then
(Da a m o p u v g).bind fun(ag,ak,w)=>
if(Ay w 0)then
some (g,a,m,o,p,u,v,b,f,n,h,k,w)
else
(Az a ag (Ac a)).bind fun al=>
some (g,al,m,o,p,u,v,ak,f,n,h,k,0)
else
if(geq f (Ac b))then
if(Ee (Ac a) 4000)then
some (g,a,m,o,p,u,v,b,f,n,h,k,38)
else
some (g,a,m,o,p,u,v,b,f,n,h,k,(-1:Int))
else
(Ch g a m o p u v b f n h k).bind fun(am,y)=>
if(Ay y 0)then
some (g,a,m,o,p,u,v,b,f,n,h,k,y)
else
(Cx ([]:LB) n).bind fun an=>
(Cx an am).bind fun ah=>
(
(
(
(getI b f).bind fun ad=>
(
(Az a ad (Ac a)).bind fun ae=>
some (g,ae,m,o,p,u,v,b,(Ae f 1),ah,h,k,0)))))
def Bz:=Bp
def Hx(g af:LB)(aa w ab ac y:Int)(b:LI)(f:Int)(n:LB)(h:Bool)(k:Int):Ml:=
(Dh aa w ab ac y g).bind fun aw=>
some (g,af,aa,w,ab,ac,y,b,f,n,h,k,aw)
def Fk:=Hx
def Bo(j3:LB→LB→Int→Int→Int→Int→Int→LI→Int→LB→Bool→Int→Ml)(j4:LB→LB→Int→Int→Int→Int→Int→LI→Int→LB→Bool→Int→Ml)(g a:LB)(m o p u v:Int)(b:LI)(f:Int)(n:LB)(h:Bool)(k:Int):Ml:=
if(geq m 0)then
(Ld a).bind fun(ag,aa,w,ab,ac,y,ai)=>
if(Ay ai 0)then
some (g,a,m,o,p,u,v,b,f,n,h,k,ai)
else
(
(Az a ag (Ac a)).bind fun af=>
(
j3 g af aa w ab ac y b f n h k))
else
j4 g a m o p u v b f n h k
def cadenzaref37_take:=Bo Fk Bz
def Wn(o p:LB)(b f g h k:Int)(m:LI)(a:Int)(n:LB)(u:Bool)(v:Int):Option Bool:=
(cadenzaref37_take o p b f g h k m a n u v).bind fun(af,ag,ah,ai,aj,ak,al,am,an,ao,ap,aq,w)=>
some (geq w (-1:Int))
def Bf:=Wn
def Ju(j4:LB→LB→Int→Int→Int→Int→Int→LI→Int→LB→Bool→Int→Option Bool)(o p:LB)(b f g h k:Int)(m:LI)(a:Int)(n:LB)(u:Bool)(v:Int):Option Bool:=
if(geq (Ac m) 0)then
if((Ay a 0)||(Ee (Ac n) 0))then
some false
else
j4 o p b f g h k m a n u v
else
(Fj m).bind fun y=>
if(Ay y 0)then
if((true||(Cc a 0))||(Ee a (Ac m)))then
some false
else
(Qc b f g h k a).bind fun aa=>
if(Ee (Ac n) aa)then
some false
else
j4 o p b f g h k m a n u v
else
(Du b f g h k).bind fun ab=>
if(((Ay (Ac m) (Ac ab))||(Cc a 0))||(Ee a (Ac m)))then
some false
else
(Qc b f g h k a).bind fun ac=>
if(Ee (Ac n) ac)then
some false
else
j4 o p b f g h k m a n u v
def Jq:=Ju Bf
def Oc(j4:LB→LB→Int→Int→Int→Int→Int→LI→Int→LB→Bool→Int→Option Bool)(j3:LB→LB→Int→Int→Int→Int→Int→LI→Int→LB→Bool→Int→Option Bool)(o p:LB)(b f g h k:Int)(m:LI)(a:Int)(n:LB)(u:Bool)(v:Int):Option Bool:=
if((geq b 0)&&((geq f 0)&&((geq g 0)&&((geq h 0)&&((geq k 0)&&true)))))then
if(((Ee (Ac m) 0)||(Ay a 0))||(Ee (Ac n) 0))then
some false
else
j4 o p b f g h k m a n u v
else
(Hs b f g h k).bind fun ad=>
if(Ay ad 0)then
some false
else
(Dh b f g h k o).bind fun ae=>
if(Ay ae 0)then
some false
else
j3 o p b f g h k m a n u v
def Hr:=Oc Bf Jq
def Qp(a:Int):Option Bool:=
some (((((((geq a 4)||(geq a 12))||(geq a 16))||(geq a 22))||(geq a 24))||(geq a 26))||(geq a 38))
def Bt(h k:LB)(m n o p u:Int)(v:LI)(f:Int)(g:LB)(b:Bool)(a:Int):Option Int:=
if(Ee (Ac h) 64)then
some 8
else
if((geq a 0)&&(!b))then
(Hr h k m n o p u v f g b a).bind fun w=>
if(!w)then
some 8
else
some 0
else
if((geq (Ac k) 0)&&(geq (Ac v) 0))then
if((!(((geq m 0)&&((geq n 0)&&((geq o 0)&&((geq p 0)&&((geq u 0)&&true)))))&&(geq f 0)))||(Ee (Ac g) 12000))then
some 8
else
if(Ay a 0)then
if b then
some 8
else
(Qp a).bind fun y=>
if(!y)then
some 8
else
some 0
else
some 0
else
if((!(false&&(geq f 0)))||(Ee (Ac g) 12000))then
some 8
else
if(Ay a 0)then
if b then
some 8
else
(Qp a).bind fun aa=>
if(!aa)then
some 8
else
some 0
else
some 0
def An5:Option Bool:=
some true
def Aa7:=An5
def Ks(j6:Option Bool)(bk4:Int→Option Bool)(a b:LI)(f:Int):Option Bool:=
if(Cc f (Ac a))then
(getI a f).bind fun g=>
(getI b f).bind fun h=>
if(Ay g h)then
some false
else
bk4 (Ae f 1)
else
j6
def El(a b:LI):Nat→Int→Option Bool
|0,_=>none
|q+1,f=>Ks Aa7 (El a b q) a b f
def Aba a b:=El a b FUEL
def Qx(j4:LI→LI→Int→Option Bool)(a b:LI):Option Bool:=
if(Ay (Ac a) (Ac b))then
some false
else
j4 a b 0
def Ot:=Qx Aba
def Lm(o p:LB)(u v w y aa:Int)(ab:LI)(a:Int)(b:LB)(f:Bool)(g:Int)(ac ad:LB)(ae af ag ah ai:Int)(aj:LI)(h:Int)(k:LB)(m:Bool)(n:Int):Option Bool:=
if(((o==ac)&&(p==ad))&&((geq u ae)&&((geq v af)&&((geq w ag)&&((geq y ah)&&((geq aa ai)&&true))))))then
(Ot ab aj).bind fun ak=>
some ((((ak&&(geq a h))&&(b==k))&&(f==m))&&(geq g n))
else
some ((((false&&(geq a h))&&(b==k))&&(f==m))&&(geq g n))
def Tr(a:Bool)(b m u:Int)(ah n:LB)(ai aj ak al am:Int)(an:LI)(ao:Int)(o:LB)(v:Bool)(p:Int):Option Bool:=
if(Ay m 0)then
if((a&&(geq u m))&&(!v))then
some ((geq b 0)||(geq b m))
else
some false
else
some ((a&&(geq u 36))&&v)
def Kx:=Tr
def Kw(j6:Bool→Int→Int→Int→LB→LB→Int→Int→Int→Int→Int→LI→Int→LB→Bool→Int→Option Bool)(f:LB)(a:Bool)(b:Int)(w:LB)(y aa ab ac ad ae:Int)(g:LB)(h:Bool)(k:Int)(af:LB)(ag:LI):Option Bool:=
(It w af y aa ab ac ad ag ae g h k).bind fun(ah,n,ai,aj,ak,al,am,an,ao,o,v,p,m)=>
(Hm ah n ai aj ak al am an ao o v p f).bind fun(ar,au,av,aw,ax,ay,az,ba,bb,bc,bd,be,u)=>
(It ar au av aw ax ay az ba bb bc bd be).bind fun(bg,bh,bi,bj,bk,bl,bm,bn,bp,bq,br,bs,bf)=>
(Ie ah n ai aj ak al am an ao o v p).bind fun bt=>
if(Ay bt 0)then
if true then
if((((true||(Ay u bf))||(Ay p m))||(o !=g))||(Ay (Ac n) 0))then
some false
else
j6 a b m u ah n ai aj ak al am an ao o v p
else
(Lm ar au av aw ax ay az ba bb bc bd be bg bh bi bj bk bl bm bn bp bq br bs).bind fun bu=>
if(((((!bu)||(Ay u bf))||(Ay p m))||(o !=g))||(Ay (Ac n) 0))then
some false
else
j6 a b m u ah n ai aj ak al am an ao o v p
else
(Lm ah n ai aj ak al am an ao o v p ar au av aw ax ay az ba bb bc bd be).bind fun bv=>
if(!bv)then
if((((true||(Ay u bf))||(Ay p m))||(o !=g))||(Ay (Ac n) 0))then
some false
else
j6 a b m u ah n ai aj ak al am an ao o v p
else
(Lm ar au av aw ax ay az ba bb bc bd be bg bh bi bj bk bl bm bn bp bq br bs).bind fun bw=>
if(((((!bw)||(Ay u bf))||(Ay p m))||(o !=g))||(Ay (Ac n) 0))then
some false
else
j6 a b m u ah n ai aj ak al am an ao o v p
def Lb:=Kw Kx
def Kt(j5:LB→Bool→Int→LB→Int→Int→Int→Int→Int→Int→LB→Bool→Int→LB→LI→Option Bool)(ap aq f:LB)(a:Bool):Option Bool:=
(Ahm ap).bind fun(bx,bz,da,db,dc,dd,de,df,dg,dh,di,dj,dk)=>
(Hm bx bz da db dc dd de df dg dh di dj aq).bind fun(w,af,y,aa,ab,ac,ad,ag,ae,g,h,k,b)=>
if(Ay dk 0)then
if true then
if((true||(Ay k b))||h)then
some false
else
j5 f a b w y aa ab ac ad ae g h k af ag
else
(Bt w af y aa ab ac ad ag ae g h k).bind fun dl=>
if(((Ay dl 0)||(Ay k b))||h)then
some false
else
j5 f a b w y aa ab ac ad ae g h k af ag
else
(Ie w af y aa ab ac ad ag ae g h k).bind fun dm=>
if(Ay dm 0)then
if((true||(Ay k b))||h)then
some false
else
j5 f a b w y aa ab ac ad ae g h k af ag
else
(Bt w af y aa ab ac ad ag ae g h k).bind fun dn=>
if(((Ay dn 0)||(Ay k b))||h)then
some false
else
j5 f a b w y aa ab ac ad ae g h k af ag
def Gm:=Kt Lb
def Ky(j4:LB→LB→LB→Bool→Option Bool)(ap aq f:LB):Option Bool:=
(Uc).bind fun a=>
if(Ee (Ac ap) 64)then
if true then
if(true||(!a))then
some a
else
j4 ap aq f a
else
(Ll f).bind fun dp=>
if(dp||(!a))then
some a
else
j4 ap aq f a
else
(Ll aq).bind fun dq=>
if dq then
if(true||(!a))then
some a
else
j4 ap aq f a
else
(Ll f).bind fun dr=>
if(dr||(!a))then
some a
else
j4 ap aq f a
def Is:=Ky Gm
abbrev Aaw:=Option (LB×LB×Int×Int×Int×Int×Int×LI×Int×LB×Bool×Int)
def Ahr(f:LB)(g h k m n:Int)(o:LI)(p:Int)(u:Bool)(v:Int)(a b:LB):Aaw:=
(Cx ([]:LI) o).bind fun af=>
some (f,a,g,h,k,m,n,af,p,b,u,v)
def Ah8:=Ahr
def Ahs(j2:LB→Int→Int→Int→Int→Int→LI→Int→Bool→Int→LB→LB→Aaw)(f w:LB)(g h k m n:Int)(o:LI)(p:Int)(y:LB)(u:Bool)(v:Int):Aaw:=
(
(
(
(Cx ([]:LB) w).bind fun a=>
(
(Cx ([]:LB) y).bind fun b=>
j2 f g h k m n o p u v a b))))
def Wz:=Ahs Ah8
def Qe(f g:LB)(h k m n o:Int)(p:LI)(u:Int)(v:LB)(b:Bool)(a:Int):Option Int:=
if(Ay a 0)then
some a
else
if b then
some 36
else
some 0
def Ano(a m:LB)(n o p u v:Int)(w:LI)(y:Int)(b:LB)(aa:Bool)(ab:Int):Option (LB×LB×Int×Int×Int×Int×Int×LI×Int×LB×Bool×Int):=
(
(
(Cx ([]:LB) b).bind fun f=>
some (a,([]:LB),0,0,0,0,0,([]:LI),0,f,false,0)))
def Aam(b f:LB)(g h k m n:Int)(o:LI)(p:Int)(u:LB)(v:Bool)(w a:Int):Option (LB×LB×Int×Int×Int×Int×Int×LI×Int×LB×Bool×Int×Int):=
(Ano b f g h k m n o p u v w).bind fun(y,aa,ab,ac,ad,ae,af,ag,ah,ai,aj,ak)=>
some (y,aa,ab,ac,ad,ae,af,ag,ah,ai,aj,a,a)
abbrev Mk:=Option (LB×LB×Int×Int×Int×Int×Int×LI×Int×LB×Bool×Int×Int)
def Df(bk3:LB→LB→Int→Int→Int→Int→Int→LI→Int→LB→Bool→Int→Mk)(a b:LB)(f g h k m:Int)(n:LI)(o:Int)(p:LB)(u:Bool)(v:Int):Mk:=
(cadenzaref37_take a b f g h k m n o p u v).bind fun(bb,bc,bd,be,bf,bg,bh,bi,bj,bk,bl,bm,w)=>
if(geq w (-1:Int))then
(Wz a b f g h k m n o p u v).bind fun(bn,bp,bq,br,bs,bt,bu,bv,bw,bx,bz,da)=>
some (bn,bp,bq,br,bs,bt,bu,bv,bw,bx,bz,da,0)
else
if(Ay w 0)then
(Aam a b f g h k m n o p u v w).bind fun(db,dc,dd,de,df,dg,dh,di,dj,dk,dl,dm,dn)=>
some (db,dc,dd,de,df,dg,dh,di,dj,dk,dl,dm,dn)
else
bk3 bb bc bd be bf bg bh bi bj bk bl bm
def Be:Nat→LB→LB→Int→Int→Int→Int→Int→LI→Int→LB→Bool→Int→Mk
|0,_,_,_,_,_,_,_,_,_,_,_,_=>none
|q+1,a,b,f,g,h,k,m,n,o,p,u,v=>Df (Be q) a b f g h k m n o p u v
def At5:=Be FUEL
def Ql(j3:LB→LB→Int→Int→Int→Int→Int→LI→Int→LB→Bool→Int→Mk)(al am:LB)(an ao ap aq ar:Int)(au:LI)(av:Int)(aw:LB)(ax:Bool)(ay:Int)(dp:LB):Mk:=
(Bt al am an ao ap aq ar au av aw ax ay).bind fun az=>
if(Ay az 0)then
some (([]:LB),([]:LB),0,0,0,0,0,([]:LI),0,([]:LB),false,0,az)
else
(Wz al am an ao ap aq ar au av aw ax ay).bind fun(y,aa,ab,ac,ad,ae,af,ag,ah,ai,aj,ak)=>
(Qe y aa ab ac ad ae af ag ah ai aj ak).bind fun ba=>
if(Ay ba 0)then
some (y,aa,ab,ac,ad,ae,af,ag,ah,ai,aj,ak,ba)
else
(Cx aa dp).bind fun dq=>
j3 y dq ab ac ad ae af ag ah ai aj ak
def Im:=Ql At5
abbrev Gj:=Option (Int×Int)
def Zd(a:LB)(f g:Int)(b h:LB)(k:Int):Gj:=
if(Cc (Ac a) k)then
some (0,24)
else
if(b==h)then
(Az a (Aj (Ac a) k) (Ae (Aj (Ac a) k) 32)).bind fun o=>
(Qd f g).bind fun p=>
if(o !=p)then
some (0,12)
else
some (k,0)
else
some (k,0)
def Yc:=Zd
def Yl(j6:LB→Int→Int→LB→LB→Int→Gj)(a:LB)(f g:Int)(b h:LB):Gj:=
if(b==h)then
j6 a f g b h (Ae (Ae 32 f) 32)
else
j6 a f g b h (Ae 32 f)
def Zp:=Yl Yc
def Ahg(j5:LB→Int→Int→LB→LB→Gj)(a:LB):Gj:=
(Az a (Aj (Ac a) 32) (Ac a)).bind fun b=>
(Pk b).bind fun(f,g,n)=>
if(!n)then
some (0,12)
else
(Iv f g true).bind fun h=>
(
if(!(b==h))then
(Iv f g false).bind fun m=>
if(b !=m)then
some (0,12)
else
j5 a f g b h
else
j5 a f g b h)
def Aib:=Ahg Zp
def Ahf(j4:LB→Gj)(a:LB):Gj:=
if(Cc (Ac a) 32)then
some (0,6)
else
(Az a (Aj (Ac a) 32) (Ae (Aj (Ac a) 32) 8)).bind fun u=>
if(u !=([65,80,69,84,65,71,69,88]:LB))then
some (0,6)
else
j4 a
def Ad9:=Ahf Aib
abbrev Es:=Option (Int×Int)
def Aq9(a:Int):Es:=
some (a,0)
def Aqg:=Aq9
def Adz(j6:Int→Es)(bk4:LB→Int→Es)(b:LB)(a:Int):Es:=
if(Ee (Ac b) 0)then
(Ad9 b).bind fun(g,h)=>
if(Ay h 0)then
some (0,38)
else
(Az b 0 (Aj (Ac b) g)).bind fun k=>
bk4 k (Ae a 1)
else
j6 a
def Mr:Nat→LB→Int→Es
|0,_,_=>none
|q+1,b,a=>Adz Aqg (Mr q) b a
def Ap7:=Mr FUEL
def Ae9(j4:LB→Int→Es)(f:LB):Es:=
if(Ee (Ac f) 4000)then
some (0,38)
else
j4 f 0
def Aa3:=Ae9 Ap7
def Rt(p a:LB)(g u v w y:Int)(b:LI)(h:Int)(aa:LB)(ab:Bool)(ac:Int):Option Int:=
if(geq g 0)then
(Ki a).bind fun(k,f)=>
if(Ay f 0)then
some f
else
(Az a k (Ac a)).bind fun m=>
(Lp m).bind fun(ad,ae,af,ag,ah,n)=>
some n
else
if((geq (Ac b) 0)||(Cc h (Ac b)))then
some 24
else
(Aa3 a).bind fun(ai,o)=>
if(Ay o 0)then
some 38
else
some 0
abbrev Aoi:=Option (Int×Int×Int×Int×Int×Int×LI×Int)
def Bej(a:LB)(b f g h k n:Int):Aoi:=
(Cy b f g h k).bind fun(ab,p)=>
if(Ay p 0)then
some (0,0,0,0,0,0,([]:LI),p)
else
(Az a n (Ac a)).bind fun ac=>
(Af2 ac (Ac ab)).bind fun(u,v)=>
if(Ay v 0)then
some (0,0,0,0,0,0,([]:LI),v)
else
some (b,f,g,h,k,(Ae (Ae n (Bj 4 (Ac u))) 4),u,0)
def Ber:=Bej
def Bd0(j2:LB→Int→Int→Int→Int→Int→Int→Aoi)(a o:LB):Aoi:=
if(Ee (Ac o) 64)then
some (0,0,0,0,0,0,([]:LI),2)
else
if(Ee (Ac a) 100000)then
some (0,0,0,0,0,0,([]:LI),4)
else
(Jg a).bind fun(m,w)=>
if(Ay w 0)then
some (0,0,0,0,0,0,([]:LI),w)
else
(Az a m (Ac a)).bind fun ad=>
(Mz ad).bind fun(b,f,g,h,k,y)=>
if(Ay y 0)then
some (0,0,0,0,0,0,([]:LI),y)
else
if((o==([]:LB)) !=(geq b 1))then
some (0,0,0,0,0,0,([]:LI),26)
else
if(o !=([]:LB))then
if(Cc (Ac a) (Ae (Ae m 22) 8))then
some (0,0,0,0,0,0,([]:LI),24)
else
(Az a (Ae m 22) (Ae (Ae m 22) 8)).bind fun ae=>
(Zy ae o).bind fun(af,aa)=>
if(Ay aa 0)then
some (0,0,0,0,0,0,([]:LI),aa)
else
if(!af)then
some (0,0,0,0,0,0,([]:LI),26)
else
j2 a b f g h k (Ae (Ae m 22) 8)
else
j2 a b f g h k (Ae m 22)
def seekto_Open:=Bd0 Ber
abbrev Jw:=Option (Int×Int×Int×Int×Int×Int×LI×Int)
def Apv(m n b h k f g:Int)(o:LI):Jw:=
if(Ay n 0)then
some (0,0,0,0,0,0,([]:LI),n)
else
some (b,h,k,f,g,(Ae (Ae m (Bj 4 (Ac o))) 4),o,0)
def Aqn:=Apv
def Apy(j4:Int→Int→Int→Int→Int→Int→Int→LI→Jw)(a:LB)(b h k f g m:Int):Jw:=
(Az a m (Ac a)).bind fun y=>
(Fp f g).bind fun aa=>
(Qn y (Ac aa)).bind fun(o,n)=>
j4 m n b h k f g o
def Arm:=Apy Aqn
def Aqe(j3:LB→Int→Int→Int→Int→Int→Int→Jw)(a u:LB):Jw:=
if(Ee (Ac a) 100000)then
some (0,0,0,0,0,0,([]:LI),4)
else
(Ki a).bind fun(p,v)=>
if(Ay v 0)then
some (0,0,0,0,0,0,([]:LI),v)
else
(Az a p (Ac a)).bind fun ab=>
(Lp ab).bind fun(b,h,k,f,g,w)=>
if(Ay w 0)then
some (0,0,0,0,0,0,([]:LI),w)
else
if((u==([]:LB)) !=(geq b 1))then
some (0,0,0,0,0,0,([]:LI),26)
else
if(geq b 2)then
if(Cc (Aj (Ac a) (Ae p 22)) 8)then
some (0,0,0,0,0,0,([]:LI),24)
else
(Az a (Ae p 22) (Ae (Ae p 22) 8)).bind fun ac=>
(Lc u).bind fun ad=>
if(ac !=ad)then
some (0,0,0,0,0,0,([]:LI),26)
else
j3 a b h k f g (Ae (Ae p 22) 8)
else
j3 a b h k f g (Ae p 22)
def cadenzaref40_Opened:=Aqe Arm
def Asn(a:Int):Option Int:=
some a
def Asf:=Asn
def Vs(j6:Int→Option Int)(bk4:Int→Int→Option Int)(b h k m n o f:Int)(g:LI)(a p:Int):Option Int:=
if(Cc p b)then
(getI g p).bind fun u=>
bk4 (Ae a u) (Ae p 1)
else
j6 a
def Jt(b h k m n o f:Int)(g:LI):Nat→Int→Int→Option Int
|0,_,_=>none
|q+1,a,p=>Vs Asf (Jt b h k m n o f g q) b h k m n o f g a p
def Asg b h k m n o f g:=Jt b h k m n o f g FUEL
def Asd(j4:Int→Int→Int→Int→Int→Int→Int→LI→Int→Int→Option Int)(h k m n o f:Int)(g:LI)(b:Int):Option Int:=
j4 b h k m n o f g f 0
def Alv:=Asd Asg
abbrev Ace:=Option (LB×Int)
def Ajg(p:LX)(m n g b h k o:Int)(a:LI):Ace:=
if(Ay m 0)then
some (([]:LB),m)
else
(Nt b p).bind fun(af,ai)=>
some (af,0)
def Ajj:=Ajg
def Ajb(j2:LX→Int→Int→Int→Int→Int→Int→Int→LI→Ace)(v y:LB)(n g b h k o:Int)(a:LI)(f:Int):Ace:=
(Alv n g b h k o a f).bind fun u=>
(getI a f).bind fun aa=>
if(Cc (Aj (Ac v) u) aa)then
some (([]:LB),24)
else
(Qb y).bind fun(ab,ag)=>
(getI a f).bind fun ac=>
(Az v u (Ae u ac)).bind fun ad=>
(
(Fp h k).bind fun w=>
(getI w f).bind fun _=>
(getI w f).bind fun ae=>
(cadenzaref21_Decode g b ab ae ad).bind fun(p,m)=>
j2 p m n g b h k o a)
def cadenzaref40_Got:=Ajb Ajj
abbrev Tw:=Option (Int×Int×Int×LX×Int)
def As5(a:LB)(aa b f h:Int)(ad:LX):Tw:=
(Az a aa (Ac a)).bind fun aq=>
(Aeg aq).bind fun(bb,ar)=>
if(Ay ar 0)then
some (0,0,0,([]:LX),38)
else
some (b,f,h,ad,0)
def As1:=As5
def Atv(bk21:Int→Int→LX→Tw)(a:LB)(w:LI)(m b f h o p n g y ab:Int)(ac:LX)(k:LI)(aa aj ak ae:Int)(am ad:LX):Tw:=
if(Ay ak 0)then
some (0,0,0,([]:LX),ak)
else
(Cx ad am).bind fun au=>
bk21 (Ae aa aj) (Ae ae 1) au
def Asv bk21:=Atv bk21
def Alg(j24:Int→Int→Int→Int→LX→LX→Tw)(j26:LB→Int→Int→Int→Int→LX→Tw)(a:LB)(w:LI)(m b f h o p n g y ab:Int)(ac:LX)(k:LI)(aa ae:Int)(ad:LX):Tw:=
if(Cc ae (Ac w))then
(getI w ae).bind fun _=>
(getI w ae).bind fun aj=>
if(Cc (Ac a) (Ae aa aj))then
some (0,0,0,([]:LX),24)
else
(getI k ae).bind fun _=>
(Az a aa (Ae aa aj)).bind fun av=>
(getI k ae).bind fun aw=>
(deframe_Decode b f ac aw av).bind fun(am,ak)=>
j24 aa aj ak ae am ad
else
j26 a aa b f h ad
def Adi(a:LB)(w:LI)(m b f h o p n g y ab:Int)(ac:LX)(k:LI):Nat→Int→Int→LX→Tw
|0,_,_,_=>none
|q+1,aa,ae,ad=>Alg (Asv (Adi a w m b f h o p n g y ab ac k q) a w m b f h o p n g y ab ac k) As1 a w m b f h o p n g y ab ac k aa ae ad
end Go.Pl
