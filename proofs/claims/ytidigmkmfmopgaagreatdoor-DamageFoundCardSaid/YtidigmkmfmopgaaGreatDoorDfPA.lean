/- A part of the proof of a statement of this seat (see the text that ends in Proof): DfPure. No conditions of its own. -/
import Derived.Test.YtidigmkmfmopgaaGreatDoorDfBA
set_option linter.unusedVariables false
namespace Go.Pl
open Go Go.Lv
abbrev LB:=List UInt8
abbrev LI:=List Int
abbrev LX:=List Int32
abbrev LU:=List UInt32
abbrev LQ:=List UInt64
def Afm(a b f:Int)(g:LX):Option (Int×Int):=
some (a,b)
abbrev Ape:=Option (Int32×Int32×Int)
def Awt(a:Int)(b:Bool):Ape:=
if b then
(Hu (Jz (Aj a 1) 0)).bind fun _=>
some ((Bce (Cp (1:Int32) (GI.toZ (Aj a 1)).toNat)),(Aj (Cp (1:Int32) (GI.toZ (Aj a 1)).toNat) 1),0)
else
some (0,0,2)
def Amz:=Awt
def Ane(j2:Int→Bool→Ape)(a:Int):Ape:=
if(geq a 8)then
j2 a (geq a 8)
else
if(geq a 16)then
j2 a (geq a 16)
else
j2 a (geq a 24)
def Qt:=Ane Amz
def Ff(a b:Int):Option Int:=
(Qt b).bind fun(g,h,f)=>
if(((Ay f 0)||(Bn a 1))||(Fi a 6))then
some 2
else
some 0
def Re(a:Int):Option (Int×Int):=
if((Bn a 1)||(Fi a 1048576))then
some (0,2)
else
some ((Ay7 1 (Bt (Au 256 a) 245)),0)
def Gw(g b:Int):Option (Int×Int):=
(Re g).bind fun(a,f)=>
if(Ay f 0)then
some (0,f)
else
if((Bn b 1)||(Fi b 4000))then
some (0,2)
else
(Hu (Ay a 0)).bind fun _=>
if(Fi (Bt (Aj (Ad b a) 1) a) 1000)then
some (0,4)
else
some ((Bt (Aj (Ad b a) 1) a),0)
def Afp(a g f:Int)(h:LX)(b:Int):Option Int:=
(Afm a g f h).bind fun(k,m)=>
(Ff k m).bind fun n=>
if((Ay n 0)||(Bn b 1))then
some 8
else
(Hu (Ay a 0)).bind fun _=>
if(Fi b (Bt 4000 a))then
some 8
else
(Gw f b).bind fun(p,o)=>
if(Ay o 0)then
some 8
else
some 0
def Bk6:Option Int:=
some 0
def Awg:=Bk6
def Ab1(j6:Option Int)(bk4:Int→Option Int)(b f:Int32)(a:LX)(g:Int):Option Int:=
if(Bn g (Ac a))then
(getI a g).bind fun h=>
if((Bn h b)||(Fi h f))then
some 16
else
bk4 (Ad g 1)
else
j6
def Ps(b f:Int32)(a:LX):Nat→Int→Option Int
|0,_=>none
|q+1,g=>Ab1 Awg (Ps b f a q) b f a g
def Aw4 b f a:=Ps b f a FUEL
def Amn(j4:Int32→Int32→LX→Int→Option Int)(m:Int)(a:LX):Option Int:=
(Qt m).bind fun(b,f,k)=>
if(Ay k 0)then
some k
else
if(Fi (Ac a) 4000)then
some 4
else
j4 b f a 0
def Vn:=Amn Aw4
def Dh(a f h:Int)(b:LX):Option Int:=
if(Bn a 1)then
some 8
else
(Hu (Ay a 0)).bind fun _=>
if(Ay (Fc (Ac b) a) 0)then
some 8
else
(Hu (Ay a 0)).bind fun _=>
(Afp a f h b (Bt (Ac b) a)).bind fun g=>
if(Ay g 0)then
some g
else
(Vn f b).bind fun k=>
if(Ay k 0)then
some 8
else
some 0
abbrev Apm:=Option (Int×Int×Int×Int×Int×Int)
def Axo(h:LB)(a b f:Int)(g:LX):Apm:=
if(h !=([]:LB))then
some (2,a,b,f,(Bt (Ac g) a),0)
else
some (1,a,b,f,(Bt (Ac g) a),0)
def Ant:=Axo
def Ad7(j2:LB→Int→Int→Int→LX→Apm)(a b f:Int)(g:LX)(h:LB):Apm:=
(Dh a b f g).bind fun k=>
if(Ay k 0)then
some (0,0,0,0,0,k)
else
if(Fi (Ac h) 64)then
some (0,0,0,0,0,2)
else
(Hu (Ay a 0)).bind fun _=>
(
j2 h a b f g)
def Aou:=Ad7 Ant
abbrev Bl:=Option (UInt64×Int)
def Aw5(h:UInt64):Bl:=
some (h,0)
def Akv:=Aw5
def Am4(j30:UInt64→Bl)(h b:UInt64)(a:LB)(f:LQ):Bl:=
j30 h
def Ak6:=Am4 Akv
def Abw(j29:UInt64→UInt64→LB→LQ→Bl)(bk27:UInt64→Int→Bl)(a:LB)(b:UInt64)(f:LQ)(h:UInt64)(m:Int):Bl:=
if(Bn m (Ac a))then
(getI a m).bind fun p=>
Option.bind (getI f (GI.toZ (Sy (Af (Bi h (GI.toZ (56:UInt64)).toNat):UInt8) p))) fun _=>
Option.bind (getI f (GI.toZ (Sy (Af (Bi h (GI.toZ (56:UInt64)).toNat):UInt8) p))) fun u=>
bk27 (Sy (Cp h (GI.toZ (8:UInt64)).toNat) u) (Ad m 1)
else
j29 h b a f
def Pu(a:LB)(b:UInt64)(f:LQ):Nat→UInt64→Int→Bl
|0,_,_=>none
|q+1,h,m=>Abw Ak6 (Pu a b f q) a b f h m
def Ama a b f:=Pu a b f FUEL
def Amd(j27:LB→UInt64→LQ→UInt64→Int→Bl)(b:UInt64)(a:LB)(f:LQ):Bl:=
j27 a b f b 0
def Aa8:=Amd Ama
def Aw9(bk16:Int→LQ→Bl)(b:UInt64)(a:LB)(g:Int)(o:LQ):Bl:=
bk16 (Ad g 1) o
def Ak5 bk16:=Aw9 bk16
def Al3(j24:Int→LQ→Bl)(b:UInt64)(a:LB)(g:Int)(k:UInt64)(f:LQ):Bl:=
(getI f g).bind fun _=>
(Jj f g k).bind fun o=>
j24 g o
def Adl bk16 b a:=Al3 (Ak5 bk16 b a) b a
def Abm(j23:Int→UInt64→LQ→Bl)(bk21:UInt64→Int→Bl)(b:UInt64)(a:LB)(g:Int)(f:LQ)(k:UInt64)(n:Int):Bl:=
if(Bn n 8)then
bk21 (Sy (Cp k (GI.toZ (1:UInt64)).toNat) (Au 4823603603198064275 (Bi k (GI.toZ (63:UInt64)).toNat))) (Ad n 1)
else
j23 g k f
def Py(bk16:Int→LQ→Bl)(b:UInt64)(a:LB)(g:Int)(f:LQ):Nat→UInt64→Int→Bl
|0,_,_=>none
|q+1,k,n=>Abm (Adl bk16 b a) (Py bk16 b a g f q) b a g f k n
def Ank bk16 b a g f:=Py bk16 b a g f FUEL
def Adf(j21:Int→LQ→UInt64→Int→Bl)(j26:UInt64→LB→LQ→Bl)(b:UInt64)(a:LB)(g:Int)(f:LQ):Bl:=
if(Bn g 256)then
j21 g f (Cp (Af g:UInt64) (GI.toZ (56:UInt64)).toNat) 0
else
j26 b a f
def Mo(b:UInt64)(a:LB):Nat→Int→LQ→Bl
|0,_,_=>none
|q+1,g,f=>Adf (Ank (Mo b a q) b a) Aa8 b a g f
def Ann b a:=Mo b a FUEL
def Ap0(j16:UInt64→LB→Int→LQ→Bl)(b:UInt64)(a:LB):Bl:=
if(Fi (Ac a) 100000)then
some (0,4)
else
j16 b a 0 (List.replicate 256 (0:UInt64))
def At4:=Ap0 Ann
def Aqk(a:LB):Option (UInt64×Int):=
(At4 0 a).bind fun(b,f)=>
some (b,f)
def Bvc(a:LX):Option (LX):=
some a
def Bj1:=Bvc
def Atj(j6:LX→Option (LX))(bk4:Int→LX→Option (LX))(f:UInt64)(b:Int)(a:LX):Option (LX):=
if(Bn b 8)then
(Hu (Jz (Au 8 b) 0)).bind fun _=>
(getI a b).bind fun _=>
(Jj a b (Af (Af (Bi f (GI.toZ (Au 8 b)).toNat):Int8):Int32)).bind fun g=>
bk4 (Ad b 1) g
else
j6 a
def Afu(f:UInt64):Nat→Int→LX→Option (LX)
|0,_,_=>none
|q+1,b,a=>Atj Bj1 (Afu f q) f b a
def Bko f:=Afu f FUEL
def Bi4(j4:UInt64→Int→LX→Option (LX))(f:UInt64):Option (LX):=
j4 f 0 (List.replicate 16 (0:Int32))
def Bn7:=Bi4 Bko
def Aai(a:LB):Option (LX×Int):=
if(Fi (Ac a) 64)then
some (([(0:Int32),(0:Int32),(0:Int32),(0:Int32),(0:Int32),(0:Int32),(0:Int32),(0:Int32),(0:Int32),(0:Int32),(0:Int32),(0:Int32),(0:Int32),(0:Int32),(0:Int32),(0:Int32)]:LX),2)
else
(Aqk a).bind fun(f,b)=>
if(Ay b 0)then
some (([(0:Int32),(0:Int32),(0:Int32),(0:Int32),(0:Int32),(0:Int32),(0:Int32),(0:Int32),(0:Int32),(0:Int32),(0:Int32),(0:Int32),(0:Int32),(0:Int32),(0:Int32),(0:Int32)]:LX),b)
else
(Bn7 f).bind fun g=>
some (g,0)
def Ais(a b:UInt64):Option (UInt64×UInt64):=
some ((Ad (Ad (Au (Bi a (GI.toZ (32:UInt64)).toNat) (Bi b (GI.toZ (32:UInt64)).toNat)) (Bi (Ad (Au (Bi a (GI.toZ (32:UInt64)).toNat) (Dc b 4294967295)) (Bi (Au (Dc a 4294967295) (Dc b 4294967295)) (GI.toZ (32:UInt64)).toNat)) (GI.toZ (32:UInt64)).toNat)) (Bi (Ad (Dc (Ad (Au (Bi a (GI.toZ (32:UInt64)).toNat) (Dc b 4294967295)) (Bi (Au (Dc a 4294967295) (Dc b 4294967295)) (GI.toZ (32:UInt64)).toNat)) 4294967295) (Au (Dc a 4294967295) (Bi b (GI.toZ (32:UInt64)).toNat))) (GI.toZ (32:UInt64)).toNat)),(Au a b))
def Aga(a b:UInt64):Option (UInt64×UInt64):=
(Ais a b).bind fun(f,g)=>
some (f,g)
def Nc(a:LI):Option (LI):=
some a
def Hv:=Nc
def Fz(j10:LI→Option (LI))(bk8:Int→LI→Option (LI))(b:Int)(a:LI):Option (LI):=
if(Bn b (Ac a))then
(
(vwI (Ac a) b (Ac a)).bind fun _=>
(vwI (Ac a) 0 b).bind fun _=>
bk8 (Ad b (Aku ((Ac a)-b) (Anw a 0 (b-(0:Int))).length)) (Tt a b ((Ac a)-b) (Anw a 0 (b-(0:Int)))))
else
j10 a
def Dw:Nat→Int→LI→Option (LI)
|0,_,_=>none
|q+1,b,a=>Fz Hv (Dw q) b a
def On:=Dw FUEL
def Ox(j8:Int→LI→Option (LI))(f:LI)(g:UInt64):Option (LI):=
(mkI (Af g:Int) (0:Int)).bind fun k=>
(Hu (geq (Af g:Int) (Af g:Int))).bind fun _=>
j8 (Aku (Ac k) f.length) (Bk4 k f)
def Oq:=Ox On
def Oy(j7:LI→UInt64→Option (LI))(f:LI)(h:Int):Option (LI):=
(Aga (Af (Ac f):UInt64) (Af h:UInt64)).bind fun(m,g)=>
if((Fi m 0)||(Fi g 9223372036854775807))then
none
else
j7 f g
def Oi:=Oy Oq
def Oz(j6:LI→Int→Option (LI))(f:LI)(h:Int):Option (LI):=
if(Bn h 0)then
none
else
j6 f h
def Mx:=Oz Oi
def Anz(f:LI):Option (LI):=
some f
def Wx:=Anz
def Fo(j16:LI→Option (LI))(bk14:Int→LI→Option (LI))(a:List LI)(g:Int)(f:LI):Option (LI):=
if(Bn g (Ac a))then
(getI a g).bind fun o=>
(Ek f o).bind fun p=>
bk14 (Ad g 1) p
else
j16 f
def Dm(a:List LI):Nat→Int→LI→Option (LI)
|0,_,_=>none
|q+1,g,f=>Fo Wx (Dm a q) a g f
def Ni a:=Dm a FUEL
def Ng(j14:(List LI)→Int→LI→Option (LI))(a:List LI)(k:LI):Option (LI):=
j14 a 0 k
def Hy:=Ng Ni
def Nh(j13:(List LI)→LI→Option (LI))(b:Int)(a:List LI):Option (LI):=
if(Fi (Aj b (Aj (0:Int) (0:Int))) 0)then
(vwI 0 0 0).bind fun _=>
(mkI (Aj b (Aj (0:Int) (0:Int))) (0:Int)).bind fun u=>
(Ek ([]:LI) u).bind fun m=>
(vwI (Ac m) 0 0).bind fun _=>
j13 a (Anw m 0 ((0:Int)-(0:Int)))
else
j13 a ([]:LI)
def Nj:=Nh Hy
def Nd(j12:Int→(List LI)→Option (LI))(a:List LI)(b:Int):Option (LI):=
if(Bn b 0)then
none
else
j12 b a
def Nq:=Nd Nj
def Fy(j11:(List LI)→Int→Option (LI))(bk9:Int→Int→Option (LI))(a:List LI)(b h:Int):Option (LI):=
if(Bn h (Ac a))then
(getI a h).bind fun n=>
if(Bn (Ad b (Ac n)) 0)then
none
else
bk9 (Ad b (Ac n)) (Ad h 1)
else
j11 a b
def Dz(a:List LI):Nat→Int→Int→Option (LI)
|0,_,_=>none
|q+1,b,h=>Fy Nq (Dz a q) a b h
def Ot a:=Dz a FUEL
def Om(j9:(List LI)→Int→Int→Option (LI))(a:List LI):Option (LI):=
j9 a 0 0
def Mr:=Om Ot
def Alh(a b:LI):Option (LI):=
(Mr ([a,b]:List LI)).bind fun f=>
some f
def Wd(a b:Int):Option (LI×Int):=
(Gw a b).bind fun(f,g)=>
if(Ay g 0)then
some (([]:LI),g)
else
(Re a).bind fun(h,n)=>
(Mx ([h]:LI) (Aj f 1)).bind fun k=>
(Alh k ([(Aj b (Au (Aj f 1) h))]:LI)).bind fun m=>
some (m,0)
def Age(a f:Int)(b:LX):Option Int:=
(Ff a f).bind fun g=>
if(Ay g 0)then
some g
else
(Vn f b).bind fun h=>
if(Ay h 0)then
some h
else
if(geq (Ac b) 0)then
some 2
else
(Hu (Ay a 0)).bind fun _=>
if(Ay (Fc (Ac b) a) 0)then
some 2
else
some 0
def Aqw(a:Int)(b:LX):Option Int:=
if((Bn a 1)||(Fi a 6))then
some 2
else
if(Fi (Ac b) 4000)then
some 4
else
(Hu (Ay a 0)).bind fun _=>
if(Ay (Fc (Ac b) a) 0)then
some 2
else
some 0
def Cv(a:LX):Option (LX):=
(
(Ek ([]:LX) a).bind fun b=>
some b)
abbrev Hq:=Option (LX×Int)
def Brf(f:LX):Hq:=
some (f,0)
def Bfz:=Brf
def Aww(bk12:Int→LX→Hq)(b a:Int)(k:LX):Hq:=
bk12 (Ad a b) k
def An3 bk12:=Aww bk12
def Axp(j20:Int→LX→Hq)(b a:Int)(g:LX):Hq:=
if(Fi (Aj ((Ad a b)-a) 1) 0)then
(Hu (decide (0≤(Aj ((Ad a b)-a) 1)∧(Aj ((Ad a b)-a) 1)<((Ad a b)-a)))).bind fun _=>
Option.bind (Hu (decide (0≤(Aj (Aj ((Ad a b)-a) 1) 1)∧(Aj (Aj ((Ad a b)-a) 1) 1)<((Ad a b)-a)))) fun _=>
(getI g (a+(Aj ((Ad a b)-a) 1))).bind fun m=>
(getI g (a+(Aj (Aj ((Ad a b)-a) 1) 1))).bind fun n=>
(Hu (decide (0≤(Aj ((Ad a b)-a) 1)∧(Aj ((Ad a b)-a) 1)<((Ad a b)-a)))).bind fun _=>
(Jj g (a+(Aj ((Ad a b)-a) 1)) (Aj m (Bt n 2))).bind fun o=>
j20 a o
else
j20 a g
def Axc bk12 b:=Axp (An3 bk12 b) b
def Aow(j19:Int→LX→Hq)(bk17:Int→LX→Hq)(b a h:Int)(g:LX):Hq:=
if(Bn h (Aj ((Ad a b)-a) 1))then
(Hu (decide (0≤(Ad h 1)∧(Ad h 1)<((Ad a b)-a)))).bind fun _=>
(Hu (decide (0≤h∧h<((Ad a b)-a)))).bind fun _=>
(getI g (a+(Ad h 1))).bind fun m=>
(getI g (a+h)).bind fun n=>
(Hu (decide (0≤h∧h<((Ad a b)-a)))).bind fun _=>
(Jj g (a+h) (Aj m n)).bind fun o=>
bk17 (Ad h 1) o
else
j19 a g
def Aat(bk12:Int→LX→Hq)(b a:Int):Nat→Int→LX→Hq
|0,_,_=>none
|q+1,h,g=>Aow (Axc bk12 b) (Aat bk12 b a q) b a h g
def Bga bk12 b a:=Aat bk12 b a FUEL
def Awi(j17:Int→Int→LX→Hq)(j22:LX→Hq)(b a:Int)(f:LX):Hq:=
if(Bn a (Ac f))then
(vwI (Ac f) a (Ad a b)).bind fun _=>
j17 a 0 f
else
j22 f
def Aag(b:Int):Nat→Int→LX→Hq
|0,_,_=>none
|q+1,a,f=>Awi (Bga (Aag b q) b) Bfz b a f
def Awn b:=Aag b FUEL
def Bai(j12:Int→Int→LX→Hq)(b:Int)(p:LX):Hq:=
(Aqw b p).bind fun u=>
if(Ay u 0)then
some (([]:LX),u)
else
(Cv p).bind fun v=>
j12 b 0 v
def Bg0:=Bai Awn
abbrev Ba7:=Option (Int×LX×LX×Int)
def Btd(a:Int)(b:LX)(f:Bool):Ba7:=
if f then
some (10,b,(List.replicate 16 (0:Int32)),0)
else
if(geq a 16)then
some (9,b,(List.replicate 16 (0:Int32)),0)
else
some (0,(List.replicate 16 (0:Int32)),(List.replicate 16 (0:Int32)),2)
def Bfr:=Btd
def Bf2(j2:Int→LX→Bool→Ba7)(a:Int)(b:LX):Ba7:=
if(geq a 8)then
j2 a b (geq a 8)
else
j2 a b (geq a 24)
def Bdc:=Bf2 Bfr
def Bev(a:Int)(f:LX):Option (Int×Int32×Int×LX×LX×Int):=
(Bdc a f).bind fun(g,h,k,b)=>
if(Ay b 0)then
some (0,0,0,(List.replicate 16 (0:Int32)),(List.replicate 16 (0:Int32)),b)
else
some (a,0,g,h,k,0)
def Vx(a:Int)(k:Int32)(b:Int)(f m:LX):Option Int:=
(Bdc a f).bind fun(g,n,o,h)=>
if((Ay h 0)||(Ay g b))then
some 8
else
some 0
def Axr(a:Int):Option (Int×Int):=
if(geq a 8)then
some (4,0)
else
if(geq a 16)then
if(geq a 16)then
some (5,0)
else
some (0,2)
else
if(geq a 24)then
some (5,0)
else
some (0,2)
def Aod(a:Int)(b:Int32):Option Int32:=
(Hu (Jz a 0)).bind fun _=>
(Hu (Jz a 0)).bind fun _=>
some (Af (Bon (Aj (Cp (Af b:Int) (GI.toZ a).toNat) (Af b:Int)) (GI.toZ a).toNat):Int32)
def Vh(b:Int)(f:Int32):Option (Int32×Int):=
(Axr b).bind fun(g,a)=>
if(Ay a 0)then
some (0,a)
else
(Aod g f).bind fun h=>
some (h,0)
def Af3(a:Int)(b f:LX):Option Int:=
if((Ay a 9)&&(Ay a 10))then
some 8
else
some 0
abbrev Rp:=Option (Int32×Int)
def Azw(g:Int32)(a:Int)(b f:LX):Rp:=
(Hu (Jz a 0)).bind fun _=>
some ((Bi g (GI.toZ a).toNat),0)
def Aqf:=Azw
def Agi(j6:Int32→Int→LX→LX→Rp)(bk4:Int32→Int→Rp)(b:LX)(a:Int)(f:LX)(g:Int32)(h:Int):Rp:=
if(Bn h 16)then
(getI b h).bind fun m=>
(getI f h).bind fun _=>
(getI f h).bind fun n=>
bk4 (Ad g (Au m n)) (Ad h 1)
else
j6 g a b f
def Tg(b:LX)(a:Int)(f:LX):Nat→Int32→Int→Rp
|0,_,_=>none
|q+1,g,h=>Agi Aqf (Tg b a f q) b a f g h
def Ap7 b a f:=Tg b a f FUEL
def Ap5(j4:LX→Int→LX→Int32→Int→Rp)(a:Int)(b f:LX):Rp:=
(Af3 a b f).bind fun k=>
if(Ay k 0)then
some (0,k)
else
(Hu (Jz (Aj a 1) 0)).bind fun _=>
j4 b a f (Cp (1:Int32) (GI.toZ (Aj a 1)).toNat) 0
def All:=Ap5 Ap7
def Are(a:Int):Option Int32:=
if(geq a 0)then
some 4
else
if(Bn a 4)then
some 2
else
some 1
abbrev Rb:=Option (Int×LX×LX×Int)
def Blg(g:Int)(b f:LX):Rb:=
some (g,b,f,0)
def Azs:=Blg
def Agf(j6:Int→LX→LX→Rb)(bk4:Int→LX→Rb)(h:Int32)(f:LX)(g a:Int)(b:LX):Rb:=
if(Bn a 16)then
(getI f a).bind fun m=>
if(geq m 0)then
bk4 (Ad a 1) b
else
if((Bn m 0)==(Bn h 0))then
(getI b a).bind fun _=>
(getI b a).bind fun o=>
(Are a).bind fun p=>
(getI b a).bind fun _=>
(Jj b a (Ad o p)).bind fun u=>
bk4 (Ad a 1) u
else
(getI b a).bind fun _=>
(getI b a).bind fun v=>
(Are a).bind fun w=>
(getI b a).bind fun _=>
(Jj b a (Aj v w)).bind fun y=>
bk4 (Ad a 1) y
else
j6 g b f
def Tj(h:Int32)(f:LX)(g:Int):Nat→Int→LX→Rb
|0,_,_=>none
|q+1,a,b=>Agf Azs (Tj h f g q) h f g a b
def Azr h f g:=Tj h f g FUEL
def Apk(j4:Int32→LX→Int→Int→LX→Rb)(g:Int)(k f:LX)(h:Int32):Rb:=
(Af3 g k f).bind fun n=>
if(Ay n 0)then
some (0,(List.replicate 16 (0:Int32)),(List.replicate 16 (0:Int32)),n)
else
if(geq h 0)then
some (g,k,f,0)
else
j4 h f g 0 k
def Atd:=Apk Azr
abbrev Axw:=Option (Int×LX×LX×Int)
def Bcj(g:Int32)(b:Int)(f a:LX):Axw:=
(getI (Tt a 1 ((16:Int)-(1:Int)) (Anw a 0 ((16:Int)-(0:Int)))) 0).bind fun _=>
(Jj (Tt a 1 ((16:Int)-(1:Int)) (Anw a 0 ((16:Int)-(0:Int)))) 0 g).bind fun k=>
some (b,f,k,0)
def As3:=Bcj
def Aj3(j2:Int32→Int→LX→LX→Axw)(b:Int)(f a:LX)(g:Int32):Axw:=
(Af3 b f a).bind fun h=>
if(Ay h 0)then
some (0,(List.replicate 16 (0:Int32)),(List.replicate 16 (0:Int32)),h)
else
(
(vwI 16 1 16).bind fun _=>
(vwI 16 0 16).bind fun _=>
j2 g b f a)
def Ax8:=Aj3 As3
def Amk(a:Int)(b f:LX)(g h:Int32):Option (Int×LX×LX):=
(Atd a b f h).bind fun(k,m,n,v)=>
(Ax8 k m n g).bind fun(o,p,u,w)=>
some (o,p,u)
def Ao3(b:Int)(f g:LX)(a:Int32):Option (Int32×Int×LX×LX×Int):=
(All b f g).bind fun(h,k)=>
if(Ay k 0)then
some (0,0,(List.replicate 16 (0:Int32)),(List.replicate 16 (0:Int32)),k)
else
(Amk b f g a (Aj a h)).bind fun(m,n,o)=>
some ((Aj a h),m,n,o,0)
def Ti(a:Int)(b:Int32)(f:Int)(g h:LX)(k:Int32):Option (Int32×Int×Int32×Int×LX×LX×Int):=
(Vx a b f g h).bind fun m=>
if(Ay m 0)then
some (0,0,0,0,(List.replicate 16 (0:Int32)),(List.replicate 16 (0:Int32)),m)
else
(Vh a b).bind fun(n,y)=>
(Ao3 f g h (Aj k n)).bind fun(o,p,u,v,w)=>
(
some (o,a,k,p,u,v,w))
def Ax6(a:Int32):Option UInt32:=
some (Sy (Cp (Af a:UInt32) (GI.toZ (1:UInt64)).toNat) (Af (Bi a (GI.toZ (31:UInt64)).toNat):UInt32))
abbrev Cj:=Option (LU×Int)
def Bal(k:LU):Cj:=
some (k,0)
def Am7:=Bal
def Ry(j12:LU→Cj)(bk10:Int→(List (Int×Int32×(Int×LX×LX×Unit)×Unit))→LU→Cj)(b:LX)(a f g:Int)(o:List (Int×Int32×(Int×LX×LX×Unit)×Unit))(k:LU):Cj:=
if(Bn g (Ac b))then
(getI b g).bind fun _=>
(getI b g).bind fun ac=>
(Hu (Ay a 0)).bind fun _=>
(getI o (Fc g a)).bind fun _=>
(getI o (Fc g a)).bind fun p=>
(Ti p.1 p.2.1 p.2.2.1.1 p.2.2.1.2.1 p.2.2.1.2.2.1 ac).bind fun(u,ad,ae,v,af,ag,w)=>
if(Ay w 0)then
some (([]:LU),w)
else
(Jj o (Fc g a) (ad,ae,(v,af,ag,()),())).bind fun ah=>
(Ax6 u).bind fun ai=>
(Ek k ([ai]:LU)).bind fun aj=>
bk10 (Ad g 1) ah aj
else
j12 k
def Iy(b:LX)(a f:Int):Nat→Int→(List (Int×Int32×(Int×LX×LX×Unit)×Unit))→LU→Cj
|0,_,_,_=>none
|q+1,g,o,k=>Ry Am7 (Iy b a f q) b a f g o k
def Alx b a f:=Iy b a f FUEL
def Aoo(j10:LX→Int→Int→Int→(List (Int×Int32×(Int×LX×LX×Unit)×Unit))→LU→Cj)(a f:Int)(b:LX)(h:List (Int×Int32×(Int×LX×LX×Unit)×Unit)):Cj:=
j10 b a f 0 h ([]:LU)
def Ac9:=Aoo Alx
def Ao6(j9:Int→Int→LX→(List (Int×Int32×(Int×LX×LX×Unit)×Unit))→Cj)(bk7:Int→(List (Int×Int32×(Int×LX×LX×Unit)×Unit))→Cj)(a f:Int)(m b:LX)(n:Int)(h:List (Int×Int32×(Int×LX×LX×Unit)×Unit)):Cj:=
if(Bn n 6)then
(Bev f m).bind fun(ak,al,u,am,an,v)=>
(getI h n).bind fun _=>
(Jj h n (ak,al,(u,am,an,()),())).bind fun ao=>
bk7 (Ad n 1) ao
else
j9 a f b h
def Ac5(a f:Int)(m b:LX):Nat→Int→(List (Int×Int32×(Int×LX×LX×Unit)×Unit))→Cj
|0,_,_=>none
|q+1,n,h=>Ao6 Ac9 (Ac5 a f m b q) a f m b n h
def Um a f m b:=Ac5 a f m b FUEL
def Ab0(j7:Int→Int→LX→LX→Int→(List (Int×Int32×(Int×LX×LX×Unit)×Unit))→Cj)(a f:Int)(m y:LX):Cj:=
(Age a f y).bind fun aa=>
if(Ay aa 0)then
some (([]:LU),aa)
else
(Bg0 a y).bind fun(b,ab)=>
if(Ay ab 0)then
some (([]:LU),ab)
else
j7 a f m b 0 (List.replicate 6 ((0:Int),(0:Int32),((0:Int),(List.replicate 16 (0:Int32)),(List.replicate 16 (0:Int32)),()),()))
def Abl:=Ab0 Um
def Bak:Option (Int×Int×UInt64×UInt64):=
some (10,10,16384,16384)
abbrev Iu:=Option ((List (Int×Int×UInt64×UInt64×Unit)))
def Bbf(a:List (Int×Int×UInt64×UInt64×Unit)):Iu:=
some a
def Aox:=Bbf
def Aoe(j6:(List (Int×Int×UInt64×UInt64×Unit))→Iu)(bk4:Int→(List (Int×Int×UInt64×UInt64×Unit))→Iu)(b:Int)(a:List (Int×Int×UInt64×UInt64×Unit)):Iu:=
if(Bn b 6)then
(Bak).bind fun(f,g,h,k)=>
(getI a b).bind fun _=>
(Jj a b (f,g,h,k,())).bind fun m=>
bk4 (Ad b 1) m
else
j6 a
def Adg:Nat→Int→(List (Int×Int×UInt64×UInt64×Unit))→Iu
|0,_,_=>none
|q+1,b,a=>Aoe Aox (Adg q) b a
def Abq:=Adg FUEL
def Abu(j4:Int→(List (Int×Int×UInt64×UInt64×Unit))→Iu):Iu:=
j4 0 (List.replicate 6 ((0:Int),(0:Int),(0:UInt64),(0:UInt64),()))
def Aa9:=Abu Abq
def Gy(b:LB)(a:Int):Option Int:=
if(((Bn a 0)||(Fi a 330000))||(Ay (Ac b) (Bon (Ad a 7) (GI.toZ (3:UInt64)).toNat)))then
some 8
else
if(Fi (Dc a 7) 0)then
(getI b (Aj (Ac b) 1)).bind fun f=>
(Hu (Jz (Dc a 7) 0)).bind fun _=>
if(Ay (Bi f (GI.toZ (Dc a 7)).toNat) 0)then
some 8
else
some 0
else
some 0
def Azx(a b:Int)(f g:UInt64):Option Int:=
if(!((geq (Dj (Ay7 a 0) 24) a)&&((geq (Dj (Ay7 b 0) 24) b)&&((geq (Dj f 68719476735) f)&&((geq (Dj g 68719476735) g)&&true)))))then
some 8
else
some 0
def Apy:=Azx
def Af6(j4:Int→Int→UInt64→UInt64→Option Int)(a b:Int)(f g:UInt64):Option Int:=
(
(
j4 a b f g))
def Ap1:=Af6 Apy
def Agg(j3:Int→Int→UInt64→UInt64→Option Int)(a b:Int)(f g:UInt64):Option Int:=
(
(
j3 a b f g))
def Ak9:=Agg Ap1
def Aft(a f:Int)(g h:UInt64)(b:UInt32):Option (Int×UInt32):=
(Hu (Jz a 0)).bind fun _=>
if(geq (Bi b (GI.toZ a).toNat) 0)then
some (0,b)
else
(Hu (Jz a 0)).bind fun _=>
some (1,(Aj b (Cp (1:UInt32) (GI.toZ a).toNat)))
def Dp(a:LB):Option (LB):=
(
(Ek ([]:LB) a).bind fun b=>
some b)
def Aro(a:LB)(b:Int):Option (LB×Int):=
(Dp a).bind fun f=>
some (f,b)
abbrev Cy:=Option (LB×Int×Int)
def Bcz(f:Int)(o:LB):Cy:=
some (o,f,0)
def At3:=Bcz
def Bc7(bk15:UInt64→Int→Int→LB→Cy)(b:UInt64)(a:Int)(m:UInt64)(h f:Int)(w:LB):Cy:=
(Hu (Jz (Dj h (Aj 8 (Dc f 7))) 0)).bind fun _=>
bk15 (Bi m (GI.toZ (Dj h (Aj 8 (Dc f 7)))).toNat) (Aj h (Dj h (Aj 8 (Dc f 7)))) (Ad f (Dj h (Aj 8 (Dc f 7)))) w
def Ase bk15:=Bc7 bk15
def Atq(j19:UInt64→Int→Int→LB→Cy)(b:UInt64)(a:Int)(m:UInt64)(h f:Int)(u:LB):Cy:=
(getI u (Aj (Ac u) 1)).bind fun _=>
(Hu (Jz (Dj h (Aj 8 (Dc f 7))) 0)).bind fun _=>
(Hu (Jz (Dc f 7) 0)).bind fun _=>
(getI u (Aj (Ac u) 1)).bind fun ad=>
(getI u (Aj (Ac u) 1)).bind fun _=>
Option.bind (Jj u (Aj (Ac u) 1) (gor ad (Cp (Af (Dc m (Aj (Cp (1:UInt64) (GI.toZ (Dj h (Aj 8 (Dc f 7)))).toNat) 1)):UInt8) (GI.toZ (Dc f 7)).toNat))) fun w=>
j19 m h f w
def Akb bk15 b a:=Atq (Ase bk15 b a) b a
def Aj7(j18:UInt64→Int→Int→LB→Cy)(j21:Int→LB→Cy)(b:UInt64)(a:Int)(m:UInt64)(h f:Int)(o:LB):Cy:=
if(Fi h 0)then
if(geq (Dc f 7) 0)then
(Ek o ([(0:UInt8)]:LB)).bind fun ab=>
j18 m h f ab
else
j18 m h f o
else
j21 f o
def Nu(b:UInt64)(a:Int):Nat→UInt64→Int→Int→LB→Cy
|0,_,_,_,_=>none
|q+1,m,h,f,o=>Aj7 (Akb (Nu b a q) b a) At3 b a m h f o
def Bct b a:=Nu b a FUEL
def Bo1(g:Int)(p:LB):Cy:=
some (p,g,0)
def Bci:=Bo1
def Bpn(bk22:UInt64→Int→Int→LB→Cy)(b:UInt64)(a:Int)(n:UInt64)(k g:Int)(y:LB):Cy:=
(Hu (Jz (Dj k (Aj 8 (Dc g 7))) 0)).bind fun _=>
bk22 (Bi n (GI.toZ (Dj k (Aj 8 (Dc g 7)))).toNat) (Aj k (Dj k (Aj 8 (Dc g 7)))) (Ad g (Dj k (Aj 8 (Dc g 7)))) y
def Bcl bk22:=Bpn bk22
def Bcp(j26:UInt64→Int→Int→LB→Cy)(b:UInt64)(a:Int)(n:UInt64)(k g:Int)(v:LB):Cy:=
(getI v (Aj (Ac v) 1)).bind fun _=>
(Hu (Jz (Dj k (Aj 8 (Dc g 7))) 0)).bind fun _=>
(Hu (Jz (Dc g 7) 0)).bind fun _=>
(getI v (Aj (Ac v) 1)).bind fun ae=>
(getI v (Aj (Ac v) 1)).bind fun _=>
Option.bind (Jj v (Aj (Ac v) 1) (gor ae (Cp (Af (Dc n (Aj (Cp (1:UInt64) (GI.toZ (Dj k (Aj 8 (Dc g 7)))).toNat) 1)):UInt8) (GI.toZ (Dc g 7)).toNat))) fun y=>
j26 n k g y
def Bcy bk22 b a:=Bcp (Bcl bk22 b a) b a
def Bcd(j25:UInt64→Int→Int→LB→Cy)(j28:Int→LB→Cy)(b:UInt64)(a:Int)(n:UInt64)(k g:Int)(p:LB):Cy:=
if(Fi k 0)then
if(geq (Dc g 7) 0)then
(Ek p ([(0:UInt8)]:LB)).bind fun w=>
j25 n k g w
else
j25 n k g p
else
j28 g p
def Ar9(b:UInt64)(a:Int):Nat→UInt64→Int→Int→LB→Cy
|0,_,_,_,_=>none
|q+1,n,k,g,p=>Bcd (Bcy (Ar9 b a q) b a) Bci b a n k g p
def Bde b a:=Ar9 b a FUEL
def Axs(j15:UInt64→Int→UInt64→Int→Int→LB→Cy)(j22:UInt64→Int→UInt64→Int→Int→LB→Cy)(ac:LB)(aa:Int)(b:UInt64)(a:Int):Cy:=
(Gy ac aa).bind fun af=>
if(Ay af 0)then
some (([]:LB),0,8)
else
if((Bn a 0)||(Fi a 64))then
some (([]:LB),0,2)
else
if(Bn a 64)then
(Hu (Jz a 0)).bind fun _=>
if(Ay (Bi b (GI.toZ a).toNat) 0)then
some (([]:LB),0,16)
else
if(Fi (Ad aa a) 330000)then
some (([]:LB),0,18)
else
(Aro ac aa).bind fun(ag,ah)=>
j15 b a b a ah ag
else
if(Fi (Ad aa a) 330000)then
some (([]:LB),0,18)
else
(Aro ac aa).bind fun(ab,ai)=>
j22 b a b a ai ab
def Alr:=Axs Bct Bde
def Wj(b:UInt32)(a:Int):Option Bool:=
(Hu (Jz a 0)).bind fun _=>
some (Jz (Bi b (GI.toZ a).toNat) 48)
def Atv(a:Int):Option (Int×Int):=
if((Bn a 0)||(Fi a 48))then
some (0,2)
else
some ((Dj (Ad a 1) 48),0)
def An9(b:LB)(f a:Int):Option (LB×Int×Int):=
(Gy b f).bind fun g=>
if(Ay g 0)then
some (([]:LB),0,g)
else
(Atv a).bind fun(k,h)=>
if(Ay h 0)then
some (([]:LB),0,h)
else
(Hu (Jz a 0)).bind fun _=>
(Alr b f (Aj (Cp (1:UInt64) (GI.toZ a).toNat) 1) k).bind fun(m,n,o)=>
some (m,n,o)
abbrev Ar2:=Option (LB×Int×Int)
def Api(b:LB)(f h:Int)(k:UInt32)(m:Int):Ar2:=
(An9 b f h).bind fun(p,u,n)=>
if(Ay n 0)then
some (([]:LB),0,n)
else
(Alr p u (Af k:UInt64) m).bind fun(v,w,y)=>
some (v,w,y)
def Agh:=Api
def Ap4(j2:LB→Int→Int→UInt32→Int→Ar2)(b:LB)(f:Int)(g:UInt32)(a:Int):Ar2:=
(Gy b f).bind fun o=>
if(Ay o 0)then
some (([]:LB),0,o)
else
if((Bn a 0)||(Fi a 24))then
some (([]:LB),0,2)
else
(Hu (Jz a 0)).bind fun _=>
(Hu (Jz a 0)).bind fun _=>
(Wj g a).bind fun aa=>
if aa then
j2 b f 48 g 32
else
j2 b f (Af (Bi g (GI.toZ a).toNat):Int) (Dc g (Aj (Cp (1:UInt32) (GI.toZ a).toNat) 1)) a
def Atu:=Ap4 Agh
abbrev Hb:=Option (LB×Int×Int×Int×UInt64×UInt64×Int)
def Ac2(k u n:Int)(a:UInt64)(b:UInt32)(o:UInt64)(m:LB):Hb:=
(
(
some (m,k,u,n,(Ad a (Aj (Af b:UInt64) (Bi a (GI.toZ (4:UInt64)).toNat))),o,0)))
def Ans:=Ac2
def Aqb(j10:Int→Int→Int→UInt64→UInt32→UInt64→LB→Hb)(b:UInt32)(k n:Int)(a o:UInt64)(m:LB)(u:Int):Hb:=
j10 k u n a b o m
def Ap3:=Aqb Ans
def Apv(j9:UInt32→Int→Int→UInt64→UInt64→LB→Int→Hb)(b:UInt32)(f:Int)(a:UInt64)(k:Int)(m:LB)(n:Int)(o:UInt64):Hb:=
if(Fi f 0)then
(Hu (Jz f 0)).bind fun _=>
if(Bn (Ad a (Aj (Af b:UInt64) (Bi a (GI.toZ (4:UInt64)).toNat))) (Cp (16:UInt64) (GI.toZ f).toNat))then
j9 b k n a o m (Aj f 1)
else
if(Bn f 24)then
(Hu (Jz f 0)).bind fun _=>
if(Fi (Ad a (Aj (Af b:UInt64) (Bi a (GI.toZ (4:UInt64)).toNat))) (Cp (32:UInt64) (GI.toZ f).toNat))then
j9 b k n a o m (Ad f 1)
else
j9 b k n a o m f
else
j9 b k n a o m f
else
if(Bn f 24)then
(Hu (Jz f 0)).bind fun _=>
if(Fi (Ad a (Aj (Af b:UInt64) (Bi a (GI.toZ (4:UInt64)).toNat))) (Cp (32:UInt64) (GI.toZ f).toNat))then
j9 b k n a o m (Ad f 1)
else
j9 b k n a o m f
else
j9 b k n a o m f
def Yf:=Apv Ap3
def Aqc(j8:UInt32→Int→UInt64→Int→LB→Int→UInt64→Hb)(b:UInt32)(f h:Int)(a g:UInt64)(y k:Int)(m:LB):Hb:=
if(Ay y 0)then
some (([]:LB),0,0,0,0,0,y)
else
(Aft f h a g b).bind fun(ag,p)=>
if(geq ag 1)then
if(Fi h 0)then
(Hu (Jz h 0)).bind fun _=>
if(Bn (Ad g (Aj (Af p:UInt64) (Bi g (GI.toZ (4:UInt64)).toNat))) (Cp (16:UInt64) (GI.toZ h).toNat))then
j8 b f a k m (Aj h 1) (Ad g (Aj (Af p:UInt64) (Bi g (GI.toZ (4:UInt64)).toNat)))
else
if(Bn h 24)then
(Hu (Jz h 0)).bind fun _=>
if(Fi (Ad g (Aj (Af p:UInt64) (Bi g (GI.toZ (4:UInt64)).toNat))) (Cp (32:UInt64) (GI.toZ h).toNat))then
j8 b f a k m (Ad h 1) (Ad g (Aj (Af p:UInt64) (Bi g (GI.toZ (4:UInt64)).toNat)))
else
j8 b f a k m h (Ad g (Aj (Af p:UInt64) (Bi g (GI.toZ (4:UInt64)).toNat)))
else
j8 b f a k m h (Ad g (Aj (Af p:UInt64) (Bi g (GI.toZ (4:UInt64)).toNat)))
else
if(Bn h 24)then
(Hu (Jz h 0)).bind fun _=>
if(Fi (Ad g (Aj (Af p:UInt64) (Bi g (GI.toZ (4:UInt64)).toNat))) (Cp (32:UInt64) (GI.toZ h).toNat))then
j8 b f a k m (Ad h 1) (Ad g (Aj (Af p:UInt64) (Bi g (GI.toZ (4:UInt64)).toNat)))
else
j8 b f a k m h (Ad g (Aj (Af p:UInt64) (Bi g (GI.toZ (4:UInt64)).toNat)))
else
j8 b f a k m h (Ad g (Aj (Af p:UInt64) (Bi g (GI.toZ (4:UInt64)).toNat)))
else
j8 b f a k m h g
def Af9:=Aqc Yf
def Apc(j7:UInt32→Int→Int→UInt64→UInt64→Int→Int→LB→Hb)(b:UInt32)(v:LB)(w f h:Int)(a g:UInt64):Hb:=
(Aft f h a g b).bind fun(ad,ae)=>
(Alr v w (Af ad:UInt64) 1).bind fun(aa,ab,ac)=>
if((geq ac 0)&&(geq ad 0))then
(Alr aa ab (Af ae:UInt64) f).bind fun(ah,ai,aj)=>
j7 b f h a g aj ai ah
else
if(geq ac 0)then
(Atu aa ab ae h).bind fun(ak,al,am)=>
j7 b f h a g am al ak
else
j7 b f h a g ac ab aa
def Apa:=Apc Af9
def Apf(j6:UInt32→LB→Int→Int→Int→UInt64→UInt64→Hb)(v:LB)(w f h:Int)(a g:UInt64)(b:UInt32):Hb:=
(Gy v w).bind fun an=>
if(Ay an 0)then
some (([]:LB),0,0,0,0,0,8)
else
(Ak9 f h a g).bind fun ao=>
if(Ay ao 0)then
some (([]:LB),0,0,0,0,0,8)
else
j6 b v w f h a g
def Asb:=Apf Apa
abbrev Bk:=Option (UInt32×Int)
def Axg(h:UInt32):Bk:=
some (h,0)
def Ak4:=Axg
def Ad3(j30:UInt32→Bk)(bk28:UInt32→Int→Bk)(a:LB)(b:LU)(h:UInt32)(m:Int):Bk:=
if(Bn m (Ac a))then
(getI a m).bind fun p=>
(getI b (GI.toZ (Sy (Af h:UInt8) p))).bind fun _=>
(getI b (GI.toZ (Sy (Af h:UInt8) p))).bind fun u=>
bk28 (Sy (Bi h (GI.toZ (8:UInt64)).toNat) u) (Ad m 1)
else
j30 h
def Qd(a:LB)(b:LU):Nat→UInt32→Int→Bk
|0,_,_=>none
|q+1,h,m=>Ad3 Ak4 (Qd a b q) a b h m
def Al5 a b:=Qd a b FUEL
def Amv(j28:LB→LU→UInt32→Int→Bk)(f:UInt32)(a:LB)(b:LU):Bk:=
j28 a b f 0
def Anj:=Amv Al5
def Akx(j27:UInt32→LB→LU→Bk)(f:UInt32)(a:LB)(b:LU):Bk:=
j27 f a b
def Acw:=Akx Anj
def Avj(bk16:Int→LU→Bk)(f:UInt32)(a:LB)(g:Int)(o:LU):Bk:=
bk16 (Ad g 1) o
def Anb bk16:=Avj bk16
def Am5(j24:Int→LU→Bk)(f:UInt32)(a:LB)(g:Int)(k:UInt32)(b:LU):Bk:=
(getI b g).bind fun _=>
(Jj b g k).bind fun o=>
j24 g o
def Ab9 bk16 f a:=Am5 (Anb bk16 f a) f a
def Adu(j23:Int→UInt32→LU→Bk)(bk21:UInt32→Int→Bk)(f:UInt32)(a:LB)(g:Int)(b:LU)(k:UInt32)(n:Int):Bk:=
if(Bn n 8)then
bk21 (Sy (Bi k (GI.toZ (1:UInt64)).toNat) (Au 3988292384 (Dc k 1))) (Ad n 1)
else
j23 g k b
def Qc(bk16:Int→LU→Bk)(f:UInt32)(a:LB)(g:Int)(b:LU):Nat→UInt32→Int→Bk
|0,_,_=>none
|q+1,k,n=>Adu (Ab9 bk16 f a) (Qc bk16 f a g b q) f a g b k n
def Aly bk16 f a g b:=Qc bk16 f a g b FUEL
def Abc(j21:Int→LU→UInt32→Int→Bk)(j26:UInt32→LB→LU→Bk)(f:UInt32)(a:LB)(g:Int)(b:LU):Bk:=
if(Bn g 256)then
j21 g b (Af g:UInt32) 0
else
j26 f a b
def Lz(f:UInt32)(a:LB):Nat→Int→LU→Bk
|0,_,_=>none
|q+1,g,b=>Abc (Aly (Lz f a q) f a) Acw f a g b
def Al7 f a:=Lz f a FUEL
def Apb(j16:UInt32→LB→Int→LU→Bk)(f:UInt32)(a:LB):Bk:=
if(Fi (Ac a) 100000)then
some (0,4)
else
j16 f a 0 (List.replicate 256 (0:UInt32))
def Asz:=Apb Al7
def Wh(b:LB):Option (UInt32×Int):=
(Asz 4294967295 b).bind fun(f,a)=>
if(Ay a 0)then
some (0,a)
else
some ((Bku f),0)
def Bgv(b:UInt64)(a:Int):Option Bool:=
if(geq a 8)then
some true
else
(Hu (Jz (Au 8 a) 0)).bind fun _=>
some (geq (Bi b (GI.toZ (Au 8 a)).toNat) 0)
abbrev Zn:=Option (LB×Int)
def Bgd(a:LB):Zn:=
some (a,0)
def Avs:=Bgd
def Aoz(j6:LB→Zn)(bk4:Int→LB→Zn)(f:UInt64)(g:LB)(b:Int)(a:LB):Zn:=
if(Bn b (Ac g))then
(Hu (Jz (Au 8 b) 0)).bind fun _=>
(getI a b).bind fun _=>
(Jj a b (Af (Bi f (GI.toZ (Au 8 b)).toNat):UInt8)).bind fun k=>
bk4 (Ad b 1) k
else
j6 a
def Aar(f:UInt64)(g:LB):Nat→Int→LB→Zn
|0,_,_=>none
|q+1,b,a=>Aoz Avs (Aar f g q) f g b a
def Axm f g:=Aar f g FUEL
def Av1(j4:UInt64→LB→Int→LB→Zn)(f:UInt64)(h:Int):Zn:=
if((Bn h 1)||(Fi h 8))then
some (([]:LB),2)
else
(Bgv f h).bind fun m=>
if(!m)then
some (([]:LB),16)
else
(mkI h (0:UInt8)).bind fun g=>
(Hu (geq h h)).bind fun _=>
j4 f g 0 g
def Ye:=Av1 Axm
def Aj8(f:LB):Option (LB):=
some f
def Uj:=Aj8
def Ej(j16:LB→Option (LB))(bk14:Int→LB→Option (LB))(a:List LB)(g:Int)(f:LB):Option (LB):=
if(Bn g (Ac a))then
(getI a g).bind fun o=>
(Ek f o).bind fun p=>
bk14 (Ad g 1) p
else
j16 f
def Db(a:List LB):Nat→Int→LB→Option (LB)
|0,_,_=>none
|q+1,g,f=>Ej Uj (Db a q) a g f
def Lq a:=Db a FUEL
def Li(j14:(List LB)→Int→LB→Option (LB))(a:List LB)(k:LB):Option (LB):=
j14 a 0 k
def Gt:=Li Lq
def Lf(j13:(List LB)→LB→Option (LB))(b:Int)(a:List LB):Option (LB):=
if(Fi (Aj b (Aj (0:Int) (0:Int))) 0)then
(vwI 0 0 0).bind fun _=>
(mkI (Aj b (Aj (0:Int) (0:Int))) (0:UInt8)).bind fun u=>
(Ek ([]:LB) u).bind fun m=>
(vwI (Ac m) 0 0).bind fun _=>
j13 a (Anw m 0 ((0:Int)-(0:Int)))
else
j13 a ([]:LB)
def Lg:=Lf Gt
def Le(j12:Int→(List LB)→Option (LB))(a:List LB)(b:Int):Option (LB):=
if(Bn b 0)then
none
else
j12 b a
def Lb:=Le Lg
def Ex(j11:(List LB)→Int→Option (LB))(bk9:Int→Int→Option (LB))(a:List LB)(b h:Int):Option (LB):=
if(Bn h (Ac a))then
(getI a h).bind fun n=>
if(Bn (Ad b (Ac n)) 0)then
none
else
bk9 (Ad b (Ac n)) (Ad h 1)
else
j11 a b
def Di(a:List LB):Nat→Int→Int→Option (LB)
|0,_,_=>none
|q+1,b,h=>Ex Lb (Di a q) a b h
def Md a:=Di a FUEL
def Ly(j9:(List LB)→Int→Int→Option (LB))(a:List LB):Option (LB):=
j9 a 0 0
def Jw:=Ly Md
abbrev Bc:=Option (LB×Int)
def Alj(u:Int)(p:LB):Bc:=
(Wh p).bind fun(af,ac)=>
if(Ay ac 0)then
some (([]:LB),ac)
else
(Ye (Af af:UInt64) 4).bind fun(m,h)=>
if(Ay h 0)then
some (([]:LB),h)
else
(Jw ([p,m]:List LB)).bind fun ag=>
some (ag,0)
def Zk:=Alj
def Anl(bk27:Int→(List (Int×Int×UInt64×UInt64×Unit))→Int→LB→Bc)(a:LU)(b f g:Int)(k:List (Int×Int×UInt64×UInt64×Unit))(n:Int)(v:LB):Bc:=
bk27 (Ad g 1) k n v
def Zj bk27:=Anl bk27
def Amx(bk44:Int→Int→LB→Bc)(h:Int)(a:LU)(g b f:Int)(k:List (Int×Int×UInt64×UInt64×Unit))(m:LB)(o n:Int)(aa:LB):Bc:=
bk44 (Ad o 1) (Ad n 1) aa
def Zx bk44:=Amx bk44
def Zo(j48:Int→Int→LB→Bc)(h:Int)(a:LU)(g b f:Int)(k:List (Int×Int×UInt64×UInt64×Unit))(m:LB)(o n:Int)(y:LB):Bc:=
(getI m (Bt o 8)).bind fun _=>
(getI m (Bt o 8)).bind fun ah=>
(Hu (Jz (Fc o 8) 0)).bind fun _=>
(getI y (Bt n 8)).bind fun _=>
(Hu (Jz (Fc n 8) 0)).bind fun _=>
(getI y (Bt n 8)).bind fun ai=>
(getI y (Bt n 8)).bind fun _=>
Option.bind (Jj y (Bt n 8) (gor ai (Cp (Dc (Bi ah (GI.toZ (Fc o 8)).toNat) 1) (GI.toZ (Fc n 8)).toNat))) fun aa=>
j48 o n aa
def Rz bk44 h a g b f k m:=Zo (Zx bk44 h a g b f k m) h a g b f k m
def Sa(j47:Int→Int→LB→Bc)(j50:Int→(List (Int×Int×UInt64×UInt64×Unit))→Int→LB→Bc)(a:LU)(b f h g:Int)(k:List (Int×Int×UInt64×UInt64×Unit))(m:LB)(o n:Int)(v:LB):Bc:=
if(Bn o h)then
if(geq (Fc n 8) 0)then
(Ek v ([(0:UInt8)]:LB)).bind fun aj=>
j47 o n aj
else
j47 o n v
else
j50 g k n v
def Es(bk27:Int→(List (Int×Int×UInt64×UInt64×Unit))→Int→LB→Bc)(a:LU)(b f h g:Int)(k:List (Int×Int×UInt64×UInt64×Unit))(m:LB):Nat→Int→Int→LB→Bc
|0,_,_,_=>none
|q+1,o,n,v=>Sa (Rz (Es bk27 a b f h g k m q) h a g b f k m) (Zj bk27 a b f) a b f h g k m o n v
def Akw bk27 a b f h g k m:=Es bk27 a b f h g k m FUEL
def Sd(j44:Int→Int→(List (Int×Int×UInt64×UInt64×Unit))→LB→Int→Int→LB→Bc)(j52:Int→LB→Bc)(a:LU)(b f g:Int)(w:List (Int×Int×UInt64×UInt64×Unit))(u:Int)(p:LB):Bc:=
if(Bn g (Ac a))then
(getI a g).bind fun _=>
(getI a g).bind fun ak=>
(Hu (Ay b 0)).bind fun _=>
(getI w (Fc g b)).bind fun _=>
(getI w (Fc g b)).bind fun ab=>
(Asb ([]:LB) 0 ab.1 ab.2.1 ab.2.2.1 ab.2.2.2.1 ak).bind fun(m,h,al,am,an,ao,ad)=>
if(Ay ad 0)then
some (([]:LB),ad)
else
(Hu (Ay b 0)).bind fun _=>
(getI w (Fc g b)).bind fun _=>
(Jj w (Fc g b) (al,am,an,ao,())).bind fun k=>
j44 h g k m 0 u p
else
j52 u p
def Gh(a:LU)(b f:Int):Nat→Int→(List (Int×Int×UInt64×UInt64×Unit))→Int→LB→Bc
|0,_,_,_,_=>none
|q+1,g,w,u,p=>Sd (Akw (Gh a b f q) a b f) Zk a b f g w u p
def Zp a b f:=Gh a b f FUEL
def Ada(j27:LU→Int→Int→Int→(List (Int×Int×UInt64×UInt64×Unit))→Int→LB→Bc)(b f:Int)(ap aq:LX):Bc:=
(Abl b f ap aq).bind fun(a,ae)=>
if(Ay ae 0)then
some (([]:LB),ae)
else
(Aa9).bind fun ar=>
j27 a b f 0 ar 0 ([]:LB)
def Qo:=Ada Zp
def Ou(a:Int)(b:LX):LI→Int→Option (List LX)
  |[],_=>some []
  |n::l,x=>Option.bind (Bo b x (Ad x (Au n a))) fun p=>Option.bind (Ou a b l (Ad x (Au n a))) fun ps=>some (p::ps)
def Ok(a f:Int)(t:LX):List LX→List LB→Option (List LB×Int)
  |[],o=>some (o,0)
  |x::xs,o=>Option.bind (Qo a f t x) fun y=>
    if(Ay y.2 0)=true then some ([],y.2)
    else Option.bind (Ek o [y.1]) fun o'=>Ok a f t xs o'
def Al4(a h:Int)(b:LX):Option (List LX):=
  Option.bind (Hu (Ay a 0)) fun _=>Option.bind (Wd h (Bt (Ac b) a)) fun l=>Option.bind (Hu (decide (Ac l.1≤17179869184))) fun _=>Ou a b l.1 0
def Agx(a f h:Int)(b:LX)(p:LB):Option (List LB×Int):=
  Option.bind (Dh a f h b) fun e=>
    if(Ay e 0)=true then some ([],e)
    else Option.bind (Aai p) fun t=>
      if(Ay t.2 0)=true then some ([],t.2)
      else Option.bind (Al4 a h b) fun xs=>Ok a f t.1 xs []
def Aq8(b f a g h:Int):Option Bool:=
some (((((((geq b 1)||(geq b 2))&&(Fi f 0))&&(gle f 6))&&(Fi g 0))&&(gle g 1048576))&&(Fi h 0))
def Ws:=Aq8
def Afl(j2:Int→Int→Int→Int→Int→Option Bool)(b f a g h:Int):Option Bool:=
if(geq a 8)then
if(geq a 8)then
j2 b f a g h
else
some false
else
if(geq a 16)then
if(geq a 16)then
j2 b f a g h
else
some false
else
if(geq a 24)then
j2 b f a g h
else
some false
def Ya:=Afl Ws
def Ahy(k a m f b:Int):Option Bool:=
(Hu (Ay a 0)).bind fun _=>
if(Fi b (Bt 4000 a))then
some false
else
(Gw f b).bind fun(g,h)=>
some ((geq h 0)&&(gle g 1000))
def Rn(a b f g h:Int):Option Int:=
(Ya a b f g h).bind fun k=>
if(!k)then
some 8
else
(Ahy a b f g h).bind fun m=>
if(!m)then
some 8
else
some 0
abbrev Mg:=Option (LB×Int)
def Auh(a:LB):Mg:=
(Wh a).bind fun(u,aa)=>
(Ye (Af u:UInt64) 4).bind fun(n,v)=>
(Ek a n).bind fun o=>
some (o,0)
def Yr:=Auh
def Yq(j6:LB→Mg)(bk4:Int→LB→Mg)(b f g h k m:Int)(a:LB):Mg:=
if(Bn m 5)then
(getI ([b,f,g,h,k]:LI) m).bind fun w=>
(getI ([(2:Int),(2:Int),(2:Int),(4:Int),(4:Int)]:LI) m).bind fun y=>
(Ye (Af w:UInt64) y).bind fun(n,v)=>
(Ek a n).bind fun o=>
bk4 (Ad m 1) o
else
j6 a
def Kn(b f g h k:Int):Nat→Int→LB→Mg
|0,_,_=>none
|q+1,m,a=>Yq Yr (Kn b f g h k q) b f g h k m a
def Air b f g h k:=Kn b f g h k FUEL
def Ajc(j4:Int→Int→Int→Int→Int→Int→LB→Mg)(b f g h k:Int):Mg:=
(Rn b f g h k).bind fun p=>
if(Ay p 0)then
some (([]:LB),p)
else
j4 b f g h k 0 ([(84:UInt8),(84:UInt8),(65:UInt8),(49:UInt8)]:LB)
def Aki:=Ajc Air
def Be5(a:LB):Option (UInt64×Int):=
if(Fi (Ac a) 64)then
some (0,2)
else
(Aqk a).bind fun(b,f)=>
some (b,0)
def Abt(b:LB):Option (LB×Int):=
(Be5 b).bind fun(f,a)=>
if(Ay a 0)then
some (([]:LB),a)
else
(Ye f 8).bind fun(g,h)=>
some (g,h)
def Bkd:Option Int:=
some 0
def Awc:=Bkd
def Ab7(j6:Option Int)(bk4:Int→Int→Option Int)(a:LI)(f b:Int):Option Int:=
if(Bn b (Ac a))then
(getI a b).bind fun g=>
if((Bn g 5)||(Fi g f))then
some 8
else
bk4 (Aj f g) (Ad b 1)
else
j6
def Pw(a:LI):Nat→Int→Int→Option Int
|0,_,_=>none
|q+1,f,b=>Ab7 Awc (Pw a q) a f b
def Aks a:=Pw a FUEL
def Aci(j4:LI→Int→Int→Option Int)(a:LI):Option Int:=
if((geq (Ac a) 0)||(Fi (Ac a) 1000))then
some 8
else
j4 a 100000 0
def Nw:=Aci Aks
abbrev Fw:=Option (LB×Int)
def Bgm(g:LB):Fw:=
some (g,0)
def At6:=Bgm
def Ai1(j14:LB→Fw)(b:LB):Fw:=
(Wh b).bind fun(m,u)=>
(Ye (Af m:UInt64) 4).bind fun(n,v)=>
(Ek b n).bind fun g=>
j14 g
def Ain:=Ai1 At6
def Auc(bk8:Int→LB→Fw)(a:LI)(f:Int)(h:LB):Fw:=
bk8 (Ad f 1) h
def Ai0 bk8:=Auc bk8
def Adz(j11:Int→LB→Fw)(j13:LB→Fw)(a:LI)(f:Int)(b:LB):Fw:=
if(Bn f (Ac a))then
(getI a f).bind fun o=>
(Ye (Af o:UInt64) 4).bind fun(p,w)=>
(Ek b p).bind fun h=>
j11 f h
else
j13 b
def Pr(a:LI):Nat→Int→LB→Fw
|0,_,_=>none
|q+1,f,b=>Adz (Ai0 (Pr a q) a) Ain a f b
def Axx a:=Pr a FUEL
def Alb(j8:LI→Int→LB→Fw)(a:LI):Fw:=
(Nw a).bind fun k=>
if(Ay k 0)then
some (([]:LB),k)
else
j8 a 0 ([]:LB)
def Aof:=Alb Axx
def Aps(a:LB):Option Int:=
some (Ac a)
def Bk9(a:LB):Option (LB):=
some a
def Axj:=Bk9
def Acs(j6:LB→Option (LB))(bk4:Int→LB→Option (LB))(b:List LB)(f:Int)(a:LB):Option (LB):=
if(Bn f (Ac b))then
(getI b f).bind fun g=>
(Ek a g).bind fun h=>
bk4 (Ad f 1) h
else
j6 a
def Pp(b:List LB):Nat→Int→LB→Option (LB)
|0,_,_=>none
|q+1,f,a=>Acs Axj (Pp b q) b f a
def Axa b:=Pp b FUEL
def Av9(j4:(List LB)→Int→LB→Option (LB))(b:List LB):Option (LB):=
j4 b 0 ([]:LB)
def Axb:=Av9 Axa
abbrev Dv:=Option (LB×Int)
def Aus(k:Int)(a:List LB)(b f n:LB):Dv:=
if(Ay k 0)then
some (([]:LB),k)
else
(Ek ([b,f,n]:List LB) a).bind fun m=>
(Axb m).bind fun ad=>
some (ad,0)
def Aja:=Aus
def Ajb(j14:Int→(List LB)→LB→LB→LB→Dv)(h:LI)(a:List LB)(b f:LB):Dv:=
(Aof h).bind fun(n,k)=>
j14 k a b f n
def So:=Ajb Aja
def Auf(bk9:Int→LI→Dv)(a:List LB)(b f:LB)(g:Int)(m:LI):Dv:=
bk9 (Ad g 1) m
def Ai7 bk9:=Auf bk9
def Acl(j11:Int→LI→Dv)(j13:LI→(List LB)→LB→LB→Dv)(a:List LB)(b f:LB)(g:Int)(h:LI):Dv:=
if(Bn g (Ac a))then
(getI a g).bind fun _=>
(getI a g).bind fun ae=>
(Aps ae).bind fun k=>
(getI h g).bind fun _=>
(Jj h g k).bind fun m=>
j11 g m
else
j13 h a b f
def Pv(a:List LB)(b f:LB):Nat→Int→LI→Dv
|0,_,_=>none
|q+1,g,h=>Acl (Ai7 (Pv a b f q) a b f) So a b f g h
def Awm a b f:=Pv a b f FUEL
def Ak2(j9:(List LB)→LB→LB→Int→LI→Dv)(a:List LB)(b f:LB):Dv:=
(mkI (Ac a) (0:Int)).bind fun af=>
(Hu (geq (Ac a) (Ac a))).bind fun _=>
j9 a b f 0 af
def Ace:=Ak2 Awm
def Alc(j8:(List LB)→LB→LB→Dv)(p u v:Int)(w:LX)(o:LB):Dv:=
(Aou p u v w o).bind fun(y,ag,ah,ai,aj,aa)=>
if(Ay aa 0)then
some (([]:LB),aa)
else
(Agx p u v w o).bind fun(a,ab)=>
if(Ay ab 0)then
some (([]:LB),ab)
else
(Aki y ag ah ai aj).bind fun(b,ac)=>
if(Ay ac 0)then
some (([]:LB),ac)
else
if(geq y 2)then
(Abt o).bind fun(ak,al)=>
j8 a b ak
else
j8 a b ([]:LB)
def Agp:=Alc Ace
def Ami:Option (LB×Bool):=
(Agp 1 8 1 ([(1:Int32),(2:Int32)]:LX) ([]:LB)).bind fun(a,b)=>
some (a,((geq b 0)&&(geq (Ac a) 46)))
def Fv(a b:LB):Option Bool:=
some (a==b)
def Ko(b a:LB):Option Bool:=
if(Jz (Ac b) (Ac a))then
(Bo b 0 (Ac a)).bind fun f=>
(Fv f a).bind fun g=>
some g
else
some false
abbrev Kf:=Option (Int×Int)
def Bd7(b:Int):Kf:=
some (b,0)
def Arf:=Bd7
def Wi(j6:Int→Kf)(bk4:Int→Int→Kf)(a:LB)(b f:Int):Kf:=
if(Bn f (Ac a))then
(getI a f).bind fun g=>
if(Fi g 127)then
some (0,12)
else
bk4 (gor (Cp b (GI.toZ (7:UInt64)).toNat) (Af g:Int)) (Ad f 1)
else
j6 b
def Lu(a:LB):Nat→Int→Int→Kf
|0,_,_=>none
|q+1,b,f=>Wi Arf (Lu a q) a b f
def Afi a:=Lu a FUEL
def Af0(j4:LB→Int→Int→Kf)(a:LB):Kf:=
if(Ay (Ac a) 4)then
some (0,2)
else
j4 a 0 0
def Af8:=Af0 Afi
abbrev He:=Option (Int×Int)
def Aul(a:LB)(b:UInt8)(h:Int):He:=
if(Fi h 4000)then
some (0,4)
else
if(Bn (Ac a) h)then
some (0,24)
else
if(geq b 16)then
(Bo a (Aj h 10) h).bind fun k=>
(Bo k 0 3).bind fun u=>
if(u !=([51,68,73]:LB))then
some (0,12)
else
(Bo k 3 (Ac k)).bind fun v=>
(Bo a 3 10).bind fun w=>
(Fv v w).bind fun y=>
if(!y)then
some (0,12)
else
some (h,0)
else
some (h,0)
def Yn:=Aul
def Aip(j8:LB→UInt8→Int→He)(a:LB)(g:Int)(b:UInt8):He:=
if(geq b 16)then
j8 a b (Ad (Ad g 10) 10)
else
j8 a b (Ad g 10)
def Yv:=Aip Yn
def Aij(j7:LB→Int→UInt8→He)(a:LB)(g:Int)(b:UInt8)(m:Bool):He:=
if m then
some (0,12)
else
j7 a g b
def Ai6:=Aij Yv
def Ai8(j6:LB→Int→UInt8→Bool→He)(a:LB)(f b:UInt8):He:=
(Bo a 6 10).bind fun aa=>
(Af8 aa).bind fun(g,ab)=>
if(Ay ab 0)then
if true then
j6 a g b true
else
if(geq b 0)then
j6 a g b (!((Jz f 2)&&(gle f 4)))
else
if(geq b 16)then
j6 a g b (!(geq f 4))
else
j6 a g b (!false)
else
(getI a 4).bind fun ac=>
if(Ay ac 0)then
j6 a g b true
else
if(geq b 0)then
j6 a g b (!((Jz f 2)&&(gle f 4)))
else
if(geq b 16)then
j6 a g b (!(geq f 4))
else
j6 a g b (!false)
def Aix:=Ai8 Ai6
def Yp(j5:LB→UInt8→UInt8→He)(a:LB):He:=
(Ko a ([(73:UInt8),(68:UInt8),(51:UInt8)]:LB)).bind fun n=>
if(!n)then
some (0,6)
else
if(Bn (Ac a) 10)then
some (0,24)
else
(getI a 3).bind fun f=>
(getI a 5).bind fun b=>
(
(
(
j5 a f b)))
def Akj:=Yp Aix
abbrev Zb:=Option (UInt64×Int)
def Brr(b:UInt64):Zb:=
some (b,0)
def Bgf:=Brr
def Aop(j6:UInt64→Zb)(bk4:UInt64→Int→Zb)(a:LB)(b:UInt64)(f:Int):Zb:=
if(Bn f (Ac a))then
(getI a f).bind fun g=>
(Hu (Jz (Au 8 f) 0)).bind fun _=>
bk4 (gor b (Cp (Af g:UInt64) (GI.toZ (Au 8 f)).toNat)) (Ad f 1)
else
j6 b
def Aah(a:LB):Nat→UInt64→Int→Zb
|0,_,_=>none
|q+1,b,f=>Aop Bgf (Aah a q) a b f
def Awu a:=Aah a FUEL
def Avy(j4:LB→UInt64→Int→Zb)(a:LB):Zb:=
if((Bn (Ac a) 1)||(Fi (Ac a) 8))then
some (0,2)
else
j4 a 0 0
def Awh:=Avy Awu
def Arl(f:LB)(a b:Int):Option (UInt64×Int):=
if(((Bn b 1)||(Fi b 8))||(Bn a 0))then
some (0,2)
else
if(Fi a (Aj (Ac f) b))then
some (0,24)
else
(Bo f a (Ad a b)).bind fun g=>
(Awh g).bind fun(h,k)=>
some (h,k)
def Bi6(g:LB):Option (LB):=
some g
def Ba1:=Bi6
def At1(j6:LB→Option (LB))(bk4:Int→LB→Option (LB))(a b:Int)(f:UInt64)(h:Int)(g:LB):Option (LB):=
if(Bn h (Ac ([(2000:UInt64),(Af (Ad a 32):UInt64),(Af b:UInt64),f,(0:UInt64),(0:UInt64)]:LQ)))then
(getI ([(2000:UInt64),(Af (Ad a 32):UInt64),(Af b:UInt64),f,(0:UInt64),(0:UInt64)]:LQ) h).bind fun _=>
(getI ([(2000:UInt64),(Af (Ad a 32):UInt64),(Af b:UInt64),f,(0:UInt64),(0:UInt64)]:LQ) h).bind fun k=>
(Ye k 4).bind fun(m,o)=>
(Ek g m).bind fun n=>
bk4 (Ad h 1) n
else
j6 g
def Zr(a b:Int)(f:UInt64):Nat→Int→LB→Option (LB)
|0,_,_=>none
|q+1,h,g=>At1 Ba1 (Zr a b f q) a b f h g
def Az9 a b f:=Zr a b f FUEL
def Ba3(j4:Int→Int→UInt64→Int→LB→Option (LB))(a b:Int)(f:UInt64):Option (LB):=
j4 a b f 0 ([(65:UInt8),(80:UInt8),(69:UInt8),(84:UInt8),(65:UInt8),(71:UInt8),(69:UInt8),(88:UInt8)]:LB)
def Ax4:=Ba3 Az9
def Akq(b:LB)(g:UInt64):Option (Int×Int×Bool):=
(Arl b 12 4).bind fun(a,m)=>
(Arl b 16 4).bind fun(f,n)=>
if(((Bn a 32)||(Fi a 3032))||(Fi f 1000))then
some (0,0,false)
else
(Ax4 (Aj (Af a:Int) 32) (Af f:Int) g).bind fun h=>
(Fv b h).bind fun k=>
some ((Aj (Af a:Int) 32),(Af f:Int),k)
def Ayh(a:LB):Option (Int×Int):=
(Ko a ([(65:UInt8),(80:UInt8),(69:UInt8),(84:UInt8),(65:UInt8),(71:UInt8),(69:UInt8),(88:UInt8)]:LB)).bind fun f=>
if(!f)then
some (0,6)
else
if(Bn (Ac a) 32)then
some (0,24)
else
(Bo a 0 32).bind fun g=>
(Akq g 2684354560).bind fun(b,h,k)=>
if(!k)then
some (0,12)
else
if(Bn (Ac a) (Ad b 64))then
some (0,24)
else
(Bo a (Aj (Ad b 64) 32) (Ad b 64)).bind fun m=>
(Ax4 b h 2147483648).bind fun n=>
(Fv m n).bind fun o=>
if(!o)then
some (0,12)
else
some ((Ad b 64),0)
def Vv(a:LB):Option (Int×Int):=
(Akj a).bind fun(f,b)=>
if(Ay b 6)then
some (f,b)
else
(Ayh a).bind fun(g,h)=>
some (g,h)
def Tc(b:List UInt8):Nat→Int→Option (Int×Int)
  |0,_=>none
  |q+1,x=>Option.bind (Bo b x (Ac b)) fun s=>Option.bind (Vv s) fun r=>
    if geq r.2 (6:Int)=true then some (x,0)
    else if(geq r.2 (0:Int)&&Fi (Ad x r.1) (4000:Int))=true then some (0,4)
    else if Ay r.2 (0:Int)=true then some (0,r.2)
    else Tc b q (Ad x r.1)
def Qw(b:List UInt8):Option (Int×Int):=Tc b FUEL 0
def Iq(b a:LB):Option Bool:=
if(Jz (Ac b) (Ac a))then
(Bo b 0 (Ac a)).bind fun f=>
some (f==a)
else
some false
def Ue(a b:LB):Option Bool:=
(Iq a b).bind fun f=>
some f
abbrev Oh:=Option (Int×Int×Int×Int×Int×Int)
def Axe(a:LI):Oh:=
(getI a 0).bind fun _=>
(getI a 0).bind fun h=>
(getI a 1).bind fun _=>
(getI a 1).bind fun k=>
(getI a 2).bind fun _=>
(getI a 2).bind fun m=>
(getI a 3).bind fun _=>
(getI a 3).bind fun n=>
(getI a 4).bind fun _=>
(getI a 4).bind fun o=>
(Ya h k m n o).bind fun p=>
if(!p)then
some (0,0,0,0,0,12)
else
(Ahy h k m n o).bind fun u=>
if(!u)then
some (0,0,0,0,0,4)
else
some (h,k,m,n,o,0)
def Ad1:=Axe
def Abb(j6:LI→Oh)(bk4:Int→Int→LI→Oh)(b:LB)(g f:Int)(a:LI):Oh:=
if(Bn f 5)then
(getI ([(2:Int),(2:Int),(2:Int),(4:Int),(4:Int)]:LI) f).bind fun h=>
(Arl b g h).bind fun(v,ae)=>
(getI a f).bind fun _=>
(Jj a f (Af v:Int)).bind fun w=>
bk4 (Ad g h) (Ad f 1) w
else
j6 a
def Mn(b:LB):Nat→Int→Int→LI→Oh
|0,_,_,_=>none
|q+1,g,f,a=>Abb Ad1 (Mn b q) b g f a
def Abr b:=Mn b FUEL
def Alz(j4:LB→Int→Int→LI→Oh)(b:LB):Oh:=
(Bo b 0 (Dj 4 (Ac b))).bind fun y=>
(Ue ([84,84,65,49]:LB) y).bind fun aa=>
if(!aa)then
some (0,0,0,0,0,12)
else
if(Bn (Ac b) 22)then
some (0,0,0,0,0,24)
else
(Arl b 18 4).bind fun(ab,af)=>
(Bo b 0 18).bind fun ac=>
(Wh ac).bind fun(ad,ag)=>
if(Ay (Af ad:UInt64) ab)then
some (0,0,0,0,0,22)
else
j4 b 4 0 (List.replicate 5 (0:Int))
def Aap:=Alz Abr
def Jh(g h k a b:Int):Option (LI×Int):=
(Rn g h k a b).bind fun f=>
if(Ay f 0)then
some (([]:LI),f)
else
(Wd a b).bind fun(m,n)=>
some (m,n)
def Qv(f:LB):Option (Int×Int×Int×Int×Int×Int×Int×Int×Int×Int×LI×Int):=
if(Fi (Ac f) 100000)then
some (0,0,0,0,0,0,0,0,0,0,([]:LI),4)
else
(Qw f).bind fun(a,n)=>
if(Ay n 0)then
some (0,0,0,0,0,0,0,0,0,0,([]:LI),n)
else
(Bo f a (Ac f)).bind fun u=>
(Aap u).bind fun(b,g,h,k,m,o)=>
if(Ay o 0)then
some (b,g,h,k,m,0,0,0,0,0,([]:LI),o)
else
(Jh b g h k m).bind fun(p,v)=>
if(geq b 2)then
some (b,g,h,k,m,a,(Ad a 22),(Ad (Ad a 22) 8),0,0,p,0)
else
some (b,g,h,k,m,a,(Ad a 22),(Ad a 22),0,0,p,0)
def Rg(a f:LB):Option (Bool×Int):=
(Abt f).bind fun(b,g)=>
if((Ay g 0)||(Ay (Ac a) (Ac b)))then
some (false,2)
else
(Fv a b).bind fun h=>
some (h,0)
abbrev Rq:=Option (LI×Int)
def Azc(a:LI):Rq:=
(Nw a).bind fun k=>
if(Ay k 0)then
some (([]:LI),12)
else
some (a,0)
def Agd:=Azc
def Agb(j6:LI→Rq)(bk4:Int→LI→Rq)(b:LB)(f:LI)(g:Int)(a:LI):Rq:=
if(Bn g (Ac f))then
(Arl b (Au 4 g) 4).bind fun(k,u)=>
(getI a g).bind fun _=>
(Jj a g (Af k:Int)).bind fun m=>
bk4 (Ad g 1) m
else
j6 a
def Tf(b:LB)(f:LI):Nat→Int→LI→Rq
|0,_,_=>none
|q+1,g,a=>Agb Agd (Tf b f q) b f g a
def Apt b f:=Tf b f FUEL
def Ap2(j4:LB→LI→Int→LI→Rq)(b:LB)(h:Int):Rq:=
if((Bn h 1)||(Fi h 1000))then
some (([]:LI),2)
else
if(Bn (Ac b) (Ad (Au 4 h) 4))then
some (([]:LI),24)
else
(Arl b (Au 4 h) 4).bind fun(n,v)=>
(Bo b 0 (Au 4 h)).bind fun o=>
(Wh o).bind fun(p,w)=>
if(Ay (Af p:UInt64) n)then
some (([]:LI),22)
else
(mkI h (0:Int)).bind fun f=>
(Hu (geq h h)).bind fun _=>
j4 b f 0 f
def Ze:=Ap2 Apt
def Ab4(a:LB):Option (LB×Int):=
if(Bn (Ac a) 5)then
some (([]:LB),24)
else
if(Fi (Ac a) 41254)then
some (([]:LB),4)
else
(Bo a 0 (Aj (Ac a) 4)).bind fun f=>
(Wh f).bind fun(g,b)=>
if(Ay b 0)then
some (([]:LB),b)
else
(Bo a (Aj (Ac a) 4) (Ac a)).bind fun h=>
(Awh h).bind fun(k,m)=>
if((Ay m 0)||(Ay k (Af g:UInt64)))then
some (([]:LB),22)
else
(Bo a 0 (Aj (Ac a) 4)).bind fun n=>
some (n,0)
def Bpb(a:LB):Option (LB×Int×Int):=
if(Fi (Ac a) 41250)then
some (([]:LB),0,4)
else
(Dp a).bind fun b=>
some (b,(Au 8 (Ac a)),0)
def Brg(g:UInt64):Option UInt64:=
some g
def Bfb:=Brg
def Av6(j6:UInt64→Option UInt64)(bk4:UInt64→Int→Option UInt64)(b f:Int)(h:LB)(k:Int)(g:UInt64)(a:Int):Option UInt64:=
if(Bn a f)then
(getI h (Bon (Ad b a) (GI.toZ (3:UInt64)).toNat)).bind fun m=>
(Hu (Jz (Dc (Ad b a) 7) 0)).bind fun _=>
(Hu (Jz (Dj (Aj f a) (Aj 8 (Dc (Ad b a) 7))) 0)).bind fun _=>
(Hu (Jz a 0)).bind fun _=>
bk4 (gor g (Cp (Af (Dc (Bi m (GI.toZ (Dc (Ad b a) 7)).toNat) (Aj (Cp (1:UInt8) (GI.toZ (Dj (Aj f a) (Aj 8 (Dc (Ad b a) 7)))).toNat) 1)):UInt64) (GI.toZ a).toNat)) (Ad a (Dj (Aj f a) (Aj 8 (Dc (Ad b a) 7))))
else
j6 g
def Ag3(b f:Int)(h:LB)(k:Int):Nat→UInt64→Int→Option UInt64
|0,_,_=>none
|q+1,g,a=>Av6 Bfb (Ag3 b f h k q) b f h k g a
def Bfx b f h k:=Ag3 b f h k FUEL
def Bf5(j4:Int→Int→LB→Int→UInt64→Int→Option UInt64)(h:LB)(k b f:Int):Option UInt64:=
j4 b f h k 0 0
def Bc6:=Bf5 Bfx
abbrev Eh:=Option (LB×Int×Int)
def Bca(o:Int)(p:LB):Eh:=
some (p,o,0)
def As9:=Bca
def Bbs(bk27:Int→Int→LB→Eh)(a:Int)(g:LB)(f b h:Int)(u:LB):Eh:=
bk27 (Ad b 64) h u
def Aka bk27:=Bbs bk27
def Bb3(bk44:UInt64→Int→Int→LB→Eh)(a b:Int)(g:LB)(f:Int)(k n:UInt64)(m h:Int)(w:LB):Eh:=
(Hu (Jz (Dj m (Aj 8 (Dc h 7))) 0)).bind fun _=>
bk44 (Bi n (GI.toZ (Dj m (Aj 8 (Dc h 7)))).toNat) (Aj m (Dj m (Aj 8 (Dc h 7)))) (Ad h (Dj m (Aj 8 (Dc h 7)))) w
def As0 bk44:=Bb3 bk44
def Atp(j48:UInt64→Int→Int→LB→Eh)(a b:Int)(g:LB)(f:Int)(k n:UInt64)(m h:Int)(v:LB):Eh:=
(getI v (Aj (Ac v) 1)).bind fun _=>
(Hu (Jz (Dj m (Aj 8 (Dc h 7))) 0)).bind fun _=>
(Hu (Jz (Dc h 7) 0)).bind fun _=>
(getI v (Aj (Ac v) 1)).bind fun aa=>
(getI v (Aj (Ac v) 1)).bind fun _=>
Option.bind (Jj v (Aj (Ac v) 1) (gor aa (Cp (Af (Dc n (Aj (Cp (1:UInt64) (GI.toZ (Dj m (Aj 8 (Dc h 7)))).toNat) 1)):UInt8) (GI.toZ (Dc h 7)).toNat))) fun w=>
j48 n m h w
def Aj9 bk44 a b g f k:=Atp (As0 bk44 a b g f k) a b g f k
def Ake(j47:UInt64→Int→Int→LB→Eh)(j50:Int→Int→LB→Eh)(a:Int)(g:LB)(f b:Int)(k n:UInt64)(m h:Int)(u:LB):Eh:=
if(Fi m 0)then
if(geq (Dc h 7) 0)then
(Ek u ([(0:UInt8)]:LB)).bind fun ab=>
j47 n m h ab
else
j47 n m h u
else
j50 b h u
def Of(bk27:Int→Int→LB→Eh)(a:Int)(g:LB)(f b:Int)(k:UInt64):Nat→UInt64→Int→Int→LB→Eh
|0,_,_,_,_=>none
|q+1,n,m,h,u=>Ake (Aj9 (Of bk27 a g f b k q) a b g f k) (Aka bk27 a g f) a g f b k n m h u
def As1 bk27 a g f b k:=Of bk27 a g f b k FUEL
def Att(j44:Int→UInt64→UInt64→Int→Int→LB→Eh)(j52:Int→LB→Eh)(a:Int)(g:LB)(f b o:Int)(p:LB):Eh:=
if(Bn b a)then
(Bc6 g f b (Dj 64 (Aj a b))).bind fun k=>
j44 b k k (Dj 64 (Aj a b)) o p
else
j52 o p
def Wm(a:Int)(g:LB)(f:Int):Nat→Int→Int→LB→Eh
|0,_,_,_=>none
|q+1,b,o,p=>Att (As1 (Wm a g f q) a g f) As9 a g f b o p
def Ar4 a g f:=Wm a g f FUEL
def Awf(j27:Int→LB→Int→Int→Int→LB→Eh)(g:LB)(f y a:Int):Eh:=
(Gy g f).bind fun ac=>
if(Ay ac 0)then
some (([]:LB),0,8)
else
if(((Bn y 0)||(Fi y a))||(Fi a f))then
some (([]:LB),0,2)
else
j27 a g f y 0 ([]:LB)
def Aw7:=Awf Ar4
def Adj(g:LB)(b f a:Int):Option (UInt64×Int):=
(Gy g b).bind fun h=>
if(Ay h 0)then
some (0,8)
else
if(((Bn a 0)||(Fi a 64))||(Bn f 0))then
some (0,2)
else
if(Fi f (Aj b a))then
some (0,24)
else
(Bc6 g b f a).bind fun k=>
some (k,0)
def Fm(a:UInt64):Option Int:=
if(geq a 0)then
some 64
else
(getI ([(0:UInt8),(1:UInt8),(56:UInt8),(2:UInt8),(57:UInt8),(49:UInt8),(28:UInt8),(3:UInt8),(61:UInt8),(58:UInt8),(42:UInt8),(50:UInt8),(38:UInt8),(29:UInt8),(17:UInt8),(4:UInt8),(62:UInt8),(47:UInt8),(59:UInt8),(36:UInt8),(45:UInt8),(43:UInt8),(51:UInt8),(22:UInt8),(53:UInt8),(39:UInt8),(33:UInt8),(30:UInt8),(24:UInt8),(18:UInt8),(12:UInt8),(5:UInt8),(63:UInt8),(55:UInt8),(48:UInt8),(27:UInt8),(60:UInt8),(41:UInt8),(37:UInt8),(16:UInt8),(46:UInt8),(35:UInt8),(44:UInt8),(21:UInt8),(52:UInt8),(32:UInt8),(23:UInt8),(11:UInt8),(54:UInt8),(26:UInt8),(40:UInt8),(15:UInt8),(34:UInt8),(20:UInt8),(31:UInt8),(10:UInt8),(25:UInt8),(14:UInt8),(19:UInt8),(9:UInt8),(13:UInt8),(8:UInt8),(7:UInt8),(6:UInt8)]:LB) (GI.toZ (Bi (Au (Dc a (Bce a)) 285870213051353865) (GI.toZ (58:UInt64)).toNat))).bind fun b=>
some (Af b:Int)
abbrev Gx:=Option (Int×Int×Int)
def Bkw:Gx:=
some (0,0,24)
def Aw2:=Bkw
def Azl(j10:Gx):Gx:=
j10
def Azv:=Azl Aw2
def Aqe(j9:Gx)(f a:Int):Gx:=
if(geq f 48)then
some (f,(Ad 0 (Ad a f)),0)
else
j9
def Ap9:=Aqe Azv
def Apg(j8:Int→Int→Gx)(f b a:Int):Gx:=
if(Bn f (Dj 48 (Aj b a)))then
some (f,(Ad (Ad (0:Int) (1:Int)) (Ad a f)),0)
else
j8 f a
def Apq:=Apg Ap9
def Apz(j7:Int→Int→Int→Gx)(h:Int)(k:UInt64)(a:Int)(g:LB)(b:Int):Gx:=
if(Ay h 0)then
some (0,0,h)
else
(Fm (Bku k)).bind fun f=>
j7 f b a
def Ap8:=Apz Apq
def Yg(j6:Int→UInt64→Int→LB→Int→Gx)(g:LB)(b a:Int):Gx:=
(Gy g b).bind fun m=>
if(Ay m 0)then
some (0,0,m)
else
if(Bn a 0)then
some (0,0,2)
else
if(Jz a b)then
some (0,0,24)
else
(
(
(Adj g b a (Dj 48 (Aj b a))).bind fun(k,h)=>
j6 h k a g b))
def Afg:=Yg Ap8
abbrev Awx:=Option (UInt32×Int×Int)
def Atw(a b f:Int)(g:LB)(h k:Int):Awx:=
(Adj g h b k).bind fun(m,n)=>
if(Ay n 0)then
some (0,0,n)
else
if(Bn f 48)then
(Hu (Jz a 0)).bind fun _=>
some ((gor (Cp (Af f:UInt32) (GI.toZ a).toNat) (Af m:UInt32)),(Ad b k),0)
else
(Wj (Af m:UInt32) a).bind fun u=>
if(!u)then
some (0,0,12)
else
some ((Af m:UInt32),(Ad b k),0)
def Akk:=Atw
def Atr(j2:Int→Int→Int→LB→Int→Int→Awx)(g:LB)(h v a:Int):Awx:=
(Gy g h).bind fun o=>
if(Ay o 0)then
some (0,0,o)
else
if((Bn a 0)||(Fi a 24))then
some (0,0,2)
else
(Afg g h v).bind fun(f,b,p)=>
if(Ay p 0)then
some (0,0,p)
else
if(geq f 48)then
j2 a b f g h 32
else
j2 a b f g h a
def Ax5:=Atr Akk
abbrev Jm:=Option (UInt32×Int×Int×Int×UInt64×UInt64×Int)
def Azb(f:UInt32)(k w m:Int)(a n:UInt64):Jm:=
some (f,k,w,m,(Ad a (Aj (Af f:UInt64) (Bi a (GI.toZ (4:UInt64)).toNat))),n,0)
def Ao9:=Azb
def Ar1(j10:UInt32→Int→Int→Int→UInt64→UInt64→Jm)(f:UInt32)(k m:Int)(a n:UInt64)(w:Int):Jm:=
j10 f k w m a n
def Ast:=Ar1 Ao9
def Ar0(j9:UInt32→Int→Int→UInt64→UInt64→Int→Jm)(f:UInt32)(k b:Int)(a:UInt64)(m:Int)(n:UInt64):Jm:=
if(Fi b 0)then
(Hu (Jz b 0)).bind fun _=>
if(Bn (Ad a (Aj (Af f:UInt64) (Bi a (GI.toZ (4:UInt64)).toNat))) (Cp (16:UInt64) (GI.toZ b).toNat))then
j9 f k m a n (Aj b 1)
else
if(Bn b 24)then
(Hu (Jz b 0)).bind fun _=>
if(Fi (Ad a (Aj (Af f:UInt64) (Bi a (GI.toZ (4:UInt64)).toNat))) (Cp (32:UInt64) (GI.toZ b).toNat))then
j9 f k m a n (Ad b 1)
else
j9 f k m a n b
else
j9 f k m a n b
else
if(Bn b 24)then
(Hu (Jz b 0)).bind fun _=>
if(Fi (Ad a (Aj (Af f:UInt64) (Bi a (GI.toZ (4:UInt64)).toNat))) (Cp (32:UInt64) (GI.toZ b).toNat))then
j9 f k m a n (Ad b 1)
else
j9 f k m a n b
else
j9 f k m a n b
def Adc:=Ar0 Ast
def Ata(j8:UInt32→Int→Int→UInt64→Int→UInt64→Jm)(b h:Int)(a g:UInt64)(f:UInt32)(k:Int):Jm:=
(Aft b h a g f).bind fun(ad,o)=>
if(geq ad 1)then
if(Fi h 0)then
(Hu (Jz h 0)).bind fun _=>
if(Bn (Ad g (Aj (Af o:UInt64) (Bi g (GI.toZ (4:UInt64)).toNat))) (Cp (16:UInt64) (GI.toZ h).toNat))then
j8 f k b a (Aj h 1) (Ad g (Aj (Af o:UInt64) (Bi g (GI.toZ (4:UInt64)).toNat)))
else
if(Bn h 24)then
(Hu (Jz h 0)).bind fun _=>
if(Fi (Ad g (Aj (Af o:UInt64) (Bi g (GI.toZ (4:UInt64)).toNat))) (Cp (32:UInt64) (GI.toZ h).toNat))then
j8 f k b a (Ad h 1) (Ad g (Aj (Af o:UInt64) (Bi g (GI.toZ (4:UInt64)).toNat)))
else
j8 f k b a h (Ad g (Aj (Af o:UInt64) (Bi g (GI.toZ (4:UInt64)).toNat)))
else
j8 f k b a h (Ad g (Aj (Af o:UInt64) (Bi g (GI.toZ (4:UInt64)).toNat)))
else
if(Bn h 24)then
(Hu (Jz h 0)).bind fun _=>
if(Fi (Ad g (Aj (Af o:UInt64) (Bi g (GI.toZ (4:UInt64)).toNat))) (Cp (32:UInt64) (GI.toZ h).toNat))then
j8 f k b a (Ad h 1) (Ad g (Aj (Af o:UInt64) (Bi g (GI.toZ (4:UInt64)).toNat)))
else
j8 f k b a h (Ad g (Aj (Af o:UInt64) (Bi g (GI.toZ (4:UInt64)).toNat)))
else
j8 f k b a h (Ad g (Aj (Af o:UInt64) (Bi g (GI.toZ (4:UInt64)).toNat)))
else
j8 f k b a h g
def Akf:=Ata Adc
def Asu(j7:Int→Int→UInt64→UInt64→UInt32→Int→Jm)(p:Int)(u:LB)(v b h:Int)(a g:UInt64):Jm:=
(Adj u v p 1).bind fun(ae,aa)=>
if(Ay aa 0)then
some (0,0,0,0,0,0,aa)
else
if(geq ae 0)then
(Adj u v (Ad p 1) b).bind fun(af,ab)=>
if(Ay ab 0)then
some (0,0,0,0,0,0,ab)
else
j7 b h a g (Af af:UInt32) (Ad (Ad p 1) b)
else
(Ax5 u v (Ad p 1) h).bind fun(y,ag,ac)=>
if(Ay ac 0)then
some (0,0,0,0,0,0,ac)
else
(Hu (Jz b 0)).bind fun _=>
if(Bn (Ad y (Cp (1:UInt32) (GI.toZ b).toNat)) y)then
some (0,0,0,0,0,0,12)
else
j7 b h a g (Ad y (Cp (1:UInt32) (GI.toZ b).toNat)) ag
def Ar6:=Asu Akf
def Atx(j6:Int→LB→Int→Int→Int→UInt64→UInt64→Jm)(u:LB)(v p b h:Int)(a g:UInt64):Jm:=
(Gy u v).bind fun ah=>
if(Ay ah 0)then
some (0,0,0,0,0,0,8)
else
(Ak9 b h a g).bind fun ai=>
if(Ay ai 0)then
some (0,0,0,0,0,0,8)
else
j6 p u v b h a g
def Afn:=Atx Ar6
abbrev Bj:=Option (LU×Int×Int)
def Baw(k:Int)(m:LU):Bj:=
some (m,k,0)
def Amp:=Baw
def Ang(bk16:Int→Int→(List (Int×Int×UInt64×UInt64×Unit))→LU→Bj)(a f:Int)(g:LB)(b k v:Int)(w:UInt32)(h:Int)(ag:List (Int×Int×UInt64×UInt64×Unit))(m:LU):Bj:=
(Ek m ([w]:LU)).bind fun ak=>
bk16 (Ad k v) (Ad h 1) ag ak
def Zt bk16:=Ang bk16
def Qz(j22:Int→Int→UInt32→Int→(List (Int×Int×UInt64×UInt64×Unit))→LU→Bj)(a f:Int)(g:LB)(b k h y:Int)(w:UInt32)(v:Int)(n:List (Int×Int×UInt64×UInt64×Unit))(m:LU)(aa ab:Int)(ac ad:UInt64):Bj:=
if(Ay y 0)then
some (([]:LU),0,y)
else
(Hu (Ay a 0)).bind fun _=>
(getI n (Fc h a)).bind fun _=>
(Jj n (Fc h a) (aa,ab,ac,ad,())).bind fun ag=>
j22 k v w h ag m
def Rl bk16 a f g b:=Qz (Zt bk16 a f g b) a f g b
def Rw(j21:Int→Int→Int→UInt32→Int→(List (Int×Int×UInt64×UInt64×Unit))→LU→Int→Int→UInt64→UInt64→Bj)(j24:Int→LU→Bj)(a f:Int)(g:LB)(b k h:Int)(n:List (Int×Int×UInt64×UInt64×Unit))(m:LU):Bj:=
if(Bn h (Au f a))then
(Aw7 g b k (Dj (Ad k 81) b)).bind fun(ah,ae,af)=>
if(Ay af 0)then
some (([]:LU),0,af)
else
(Hu (Ay a 0)).bind fun _=>
(getI n (Fc h a)).bind fun _=>
(
(
(getI n (Fc h a)).bind fun p=>
(
(Afn ah ae 0 p.1 p.2.1 p.2.2.1 p.2.2.2.1).bind fun(w,v,aa,ab,ac,ad,y)=>
j21 k h y w v n m aa ab ac ad)))
else
j24 k m
def Mi(a f:Int)(g:LB)(b:Int):Nat→Int→Int→(List (Int×Int×UInt64×UInt64×Unit))→LU→Bj
|0,_,_,_,_=>none
|q+1,k,h,n,m=>Rw (Rl (Mi a f g b q) a f g b) Amp a f g b k h n m
def Ano a f g b:=Mi a f g b FUEL
def Ame(j16:Int→Int→LB→Int→Int→Int→(List (Int×Int×UInt64×UInt64×Unit))→LU→Bj)(a f:Int)(g:LB)(b:Int)(o:List (Int×Int×UInt64×UInt64×Unit)):Bj:=
j16 a f g b 0 0 o ([]:LU)
def Zh:=Ame Ano
def Alv(j15:Int→Int→LB→Int→(List (Int×Int×UInt64×UInt64×Unit))→Bj)(bk13:Int→(List (Int×Int×UInt64×UInt64×Unit))→Bj)(a f:Int)(g:LB)(b u:Int)(o:List (Int×Int×UInt64×UInt64×Unit)):Bj:=
if(Bn u 6)then
(Bak).bind fun(al,ae,af,am)=>
(getI o u).bind fun _=>
(Jj o u (al,ae,af,am,())).bind fun an=>
bk13 (Ad u 1) an
else
j15 a f g b o
def Zu(a f:Int)(g:LB)(b:Int):Nat→Int→(List (Int×Int×UInt64×UInt64×Unit))→Bj
|0,_,_=>none
|q+1,u,o=>Alv Zh (Zu a f g b q) a f g b u o
def Ri a f g b:=Zu a f g b FUEL
def Acb(j13:Int→Int→LB→Int→Int→(List (Int×Int×UInt64×UInt64×Unit))→Bj)(a f:Int)(g:LB)(b:Int):Bj:=
j13 a f g b 0 (List.replicate 6 ((0:Int),(0:Int),(0:UInt64),(0:UInt64),()))
def Ab2:=Acb Ri
def Wu(a:UInt32):Option Int32:=
some (Sy (Af (Bi a (GI.toZ (1:UInt64)).toNat):Int32) (Bce (Af (Dc a 1):Int32)))
def Axu(b:Int)(f g:LX)(a:Int32):Option (Int32×Int×LX×LX×Int):=
(All b f g).bind fun(h,k)=>
if(Ay k 0)then
some (0,0,(List.replicate 16 (0:Int32)),(List.replicate 16 (0:Int32)),k)
else
(Amk b f g (Ad a h) a).bind fun(m,n,o)=>
some ((Ad a h),m,n,o,0)
def Km(a:Int)(b:Int32)(f:Int)(g h:LX)(o:Int32):Option (Int32×Int×Int32×Int×LX×LX×Int):=
(Vx a b f g h).bind fun k=>
if(Ay k 0)then
some (0,0,0,0,(List.replicate 16 (0:Int32)),(List.replicate 16 (0:Int32)),k)
else
(Vh a b).bind fun(m,y)=>
(Axu f g h o).bind fun(n,p,u,v,w)=>
(
some ((Ad n m),a,(Ad n m),p,u,v,w))
abbrev Ft:=Option (LX×Int)
def Bo5(f:LX):Ft:=
some (f,0)
def Bc0:=Bo5
def Bb6(bk12:Int→LX→Ft)(b a:Int)(h:LX):Ft:=
bk12 (Ad a b) h
def Aso bk12:=Bb6 bk12
def Akh(j20:Int→LX→Ft)(bk18:Int→LX→Ft)(b a g:Int)(h:LX):Ft:=
if(Jz g 0)then
(Hu (decide (0≤(Ad g 1)∧(Ad g 1)<((Ad a b)-a)))).bind fun _=>
(Hu (decide (0≤g∧g<((Ad a b)-a)))).bind fun _=>
(getI h (a+(Ad g 1))).bind fun o=>
(getI h (a+g)).bind fun p=>
(Hu (decide (0≤g∧g<((Ad a b)-a)))).bind fun _=>
(Jj h (a+g) (Aj o p)).bind fun u=>
bk18 (Aj g 1) u
else
j20 a h
def Ww(bk12:Int→LX→Ft)(b a:Int):Nat→Int→LX→Ft
|0,_,_=>none
|q+1,g,h=>Akh (Aso bk12 b) (Ww bk12 b a q) b a g h
def Asl bk12 b a:=Ww bk12 b a FUEL
def Ati(j18:Int→Int→LX→Ft)(b a:Int)(k:LX):Ft:=
j18 a (Aj (Aj ((Ad a b)-a) 1) 1) k
def Aj6 bk12 b:=Ati (Asl bk12 b) b
def At2(j17:Int→LX→Ft)(j22:LX→Ft)(b a:Int)(f:LX):Ft:=
if(Bn a (Ac f))then
(vwI (Ac f) a (Ad a b)).bind fun _=>
if(Fi (Aj ((Ad a b)-a) 1) 0)then
(Hu (decide (0≤(Aj ((Ad a b)-a) 1)∧(Aj ((Ad a b)-a) 1)<((Ad a b)-a)))).bind fun _=>
Option.bind (Hu (decide (0≤(Aj (Aj ((Ad a b)-a) 1) 1)∧(Aj (Aj ((Ad a b)-a) 1) 1)<((Ad a b)-a)))) fun _=>
(getI f (a+(Aj ((Ad a b)-a) 1))).bind fun v=>
(getI f (a+(Aj (Aj ((Ad a b)-a) 1) 1))).bind fun w=>
(Hu (decide (0≤(Aj ((Ad a b)-a) 1)∧(Aj ((Ad a b)-a) 1)<((Ad a b)-a)))).bind fun _=>
(Jj f (a+(Aj ((Ad a b)-a) 1)) (Ad v (Bt w 2))).bind fun y=>
j17 a y
else
j17 a f
else
j22 f
def Rm(b:Int):Nat→Int→LX→Ft
|0,_,_=>none
|q+1,a,f=>At2 (Aj6 (Rm b q) b) Bc0 b a f
def Asy b:=Rm b FUEL
def Awe(j12:Int→Int→LX→Ft)(b:Int)(m:LX):Ft:=
(Aqw b m).bind fun n=>
if(Ay n 0)then
some (([]:LX),n)
else
(Cv m).bind fun aa=>
j12 b 0 aa
def Bbv:=Awe Asy
abbrev Bq:=Option (LX×Int)
def Ajx(a b:Int)(k:LX):Bq:=
(Bbv a k).bind fun(ah,af)=>
if(Ay af 0)then
some (([]:LX),af)
else
(Vn b ah).bind fun ae=>
if(Ay ae 0)then
some (([]:LX),ae)
else
some (ah,0)
def Ku:=Ajx
def Aj0(bk13:Int→(List (Int×Int32×(Int×LX×LX×Unit)×Unit))→LX→Bq)(a:Int)(f:LU)(b g:Int)(w:Int32)(u:Int)(h:List (Int×Int32×(Int×LX×LX×Unit)×Unit))(k:LX)(y:Int)(v:Int32)(aa:Int)(ab ac:LX):Bq:=
if(Ay u 0)then
some (([]:LX),u)
else
(Jj h (Fc g a) (y,v,(aa,ab,ac,()),())).bind fun ai=>
(Ek k ([w]:LX)).bind fun aj=>
bk13 (Ad g 1) ai aj
def Wz bk13:=Aj0 bk13
def Kz(j16:Int→Int32→Int→(List (Int×Int32×(Int×LX×LX×Unit)×Unit))→LX→Int→Int32→Int→LX→LX→Bq)(j18:Int→Int→LX→Bq)(f:LU)(a b g:Int)(h:List (Int×Int32×(Int×LX×LX×Unit)×Unit))(k:LX):Bq:=
if(Bn g (Ac f))then
(getI f g).bind fun ag=>
(Hu (Ay a 0)).bind fun _=>
(getI h (Fc g a)).bind fun _=>
(
(getI h (Fc g a)).bind fun m=>
(
(Wu ag).bind fun ae=>
(
(Km m.1 m.2.1 m.2.2.1.1 m.2.2.1.2.1 m.2.2.1.2.2.1 ae).bind fun(w,y,v,aa,ab,ac,u)=>
j16 g w u h k y v aa ab ac)))
else
j18 a b k
def Hp(f:LU)(a b:Int):Nat→Int→(List (Int×Int32×(Int×LX×LX×Unit)×Unit))→LX→Bq
|0,_,_,_=>none
|q+1,g,h,k=>Kz (Wz (Hp f a b q) a f b) Ku f a b g h k
def Ajo f a b:=Hp f a b FUEL
def Ajy(j13:LU→Int→Int→Int→(List (Int×Int32×(Int×LX×LX×Unit)×Unit))→LX→Bq)(f:LU)(a b:Int)(n:List (Int×Int32×(Int×LX×LX×Unit)×Unit)):Bq:=
j13 f a b 0 n ([]:LX)
def Xt:=Ajy Ajo
def Ajv(j12:LU→Int→Int→(List (Int×Int32×(Int×LX×LX×Unit)×Unit))→Bq)(bk10:Int→(List (Int×Int32×(Int×LX×LX×Unit)×Unit))→Bq)(f:LU)(a b:Int)(o:LX)(p:Int)(n:List (Int×Int32×(Int×LX×LX×Unit)×Unit)):Bq:=
if(Bn p 6)then
(Bev b o).bind fun(ak,af,ae,al,am,v)=>
(getI n p).bind fun _=>
(Jj n p (ak,af,(ae,al,am,()),())).bind fun an=>
bk10 (Ad p 1) an
else
j12 f a b n
def Xh(f:LU)(a b:Int)(o:LX):Nat→Int→(List (Int×Int32×(Int×LX×LX×Unit)×Unit))→Bq
|0,_,_=>none
|q+1,p,n=>Ajv Xt (Xh f a b o q) f a b o p n
def Pd f a b o:=Xh f a b o FUEL
def Zm(j10:LU→Int→Int→LX→Int→(List (Int×Int32×(Int×LX×LX×Unit)×Unit))→Bq)(a b:Int)(o:LX)(f:LU):Bq:=
j10 f a b o 0 (List.replicate 6 ((0:Int),(0:Int32),((0:Int),(List.replicate 16 (0:Int32)),(List.replicate 16 (0:Int32)),()),()))
def Sj:=Zm Pd
def deframe_Decode(a h:Int)(u:LX)(f:Int)(v:LB):Option (LX×Int):=
(Ff a h).bind fun k=>
if(Ay k 0)then
some (([]:LX),k)
else
if(Bn f 1)then
some (([]:LX),2)
else
(Hu (Ay a 0)).bind fun _=>
if(Fi f (Bt 4000 a))then
some (([]:LX),2)
else
(Ab4 v).bind fun(w,m)=>
if(Ay m 0)then
some (([]:LX),m)
else
(Bpb w).bind fun(n,b,o)=>
if(Ay o 0)then
some (([]:LX),o)
else
(Ab2 a f n b).bind fun(y,g,p)=>
if(Ay p 0)then
some (([]:LX),p)
else
if(Jz (Aj b g) 8)then
some (([]:LX),12)
else
(Adj n b g (Aj b g)).bind fun(aa,ab)=>
if((Ay ab 0)||(Ay aa 0))then
some (([]:LX),12)
else
(Sj a h u y).bind fun(ac,ad)=>
some (ac,ad)
abbrev Bac:=Option (Int×Int)
def Bfi(a:LB):Bac:=
(Bo a (Aj (Ac a) 32) (Ac a)).bind fun g=>
(Akq g 0).bind fun(f,y,h)=>
if h then
if(Bn (Aj (Ac a) 32) f)then
some (0,24)
else
some ((Ad f 32),0)
else
(Bo a (Aj (Ac a) 32) (Ac a)).bind fun k=>
(Akq k 2147483648).bind fun(b,m,n)=>
if(!n)then
some (0,12)
else
if(Bn (Ac a) (Ad b 64))then
some (0,24)
else
(Bo a (Aj (Ac a) (Ad b 64)) (Ad (Aj (Ac a) (Ad b 64)) 32)).bind fun o=>
(Ax4 b m 2684354560).bind fun p=>
(Fv o p).bind fun u=>
if(!u)then
some (0,12)
else
some ((Ad b 64),0)
def Avx:=Bfi
def Avi(j2:LB→Bac)(a:LB):Bac:=
if(Bn (Aj (Ac a) 32) 0)then
some (0,6)
else
(Bo a (Aj (Ac a) 32) (Ac a)).bind fun v=>
(Ko v ([(65:UInt8),(80:UInt8),(69:UInt8),(84:UInt8),(65:UInt8),(71:UInt8),(69:UInt8),(88:UInt8)]:LB)).bind fun w=>
if(!w)then
some (0,6)
else
j2 a
def Bbx:=Avi Avx
abbrev Ey:=Option (Int×Int)
def Bdt(a:Int):Ey:=
some (a,0)
def Arh:=Bdt
def Ary(bk8:Int→LB→Ey)(a:Int)(g:LB):Ey:=
bk8 (Ad a 1) g
def Afo bk8:=Ary bk8
def Afy(j12:Int→LB→Ey)(a f:Int)(b:LB):Ey:=
if(geq f 0)then
some (0,38)
else
(Bo b 0 (Aj (Ac b) f)).bind fun g=>
j12 a g
def Afw bk8:=Afy (Afo bk8)
def Aik(j11:Int→Int→LB→Ey)(j14:Int→Ey)(a:Int)(b:LB):Ey:=
if(Fi (Ac b) 0)then
(Bbx b).bind fun(f,k)=>
j11 a f b
else
j14 a
def Sf:Nat→Int→LB→Ey
|0,_,_=>none
|q+1,a,b=>Aik (Afw (Sf q)) Arh a b
def Aue:=Sf FUEL
def Ajj(j8:Int→LB→Ey)(h:LB):Ey:=
if(Fi (Ac h) 4000)then
some (0,38)
else
j8 0 h
def Aj5:=Ajj Aue
abbrev Bg:=Option (Int×Int×Int×LX×Int)
def Av4(a:LB)(aa b f h:Int)(ad:LX):Bg:=
(Bo a aa (Ac a)).bind fun aq=>
(Aj5 aq).bind fun(bb,ar)=>
if(Ay ar 0)then
some (0,0,0,([]:LX),38)
else
some (b,f,h,ad,0)
def Alu:=Av4
def Awj(bk21:Int→Int→LX→Bg)(a:LB)(w:LI)(m b f h o p n g y ab:Int)(ac:LX)(k:LI)(aa aj ak ae:Int)(am ad:LX):Bg:=
if(Ay ak 0)then
some (0,0,0,([]:LX),ak)
else
(Ek ad am).bind fun au=>
bk21 (Ad aa aj) (Ad ae 1) au
def Al2 bk21:=Awj bk21
def Abg(j24:Int→Int→Int→Int→LX→LX→Bg)(j26:LB→Int→Int→Int→Int→LX→Bg)(a:LB)(w:LI)(m b f h o p n g y ab:Int)(ac:LX)(k:LI)(aa ae:Int)(ad:LX):Bg:=
if(Bn ae (Ac w))then
(getI w ae).bind fun _=>
(getI w ae).bind fun aj=>
if(Bn (Ac a) (Ad aa aj))then
some (0,0,0,([]:LX),24)
else
(getI k ae).bind fun _=>
(Bo a aa (Ad aa aj)).bind fun av=>
(getI k ae).bind fun aw=>
(deframe_Decode b f ac aw av).bind fun(am,ak)=>
j24 aa aj ak ae am ad
else
j26 a aa b f h ad
def Qm(a:LB)(w:LI)(m b f h o p n g y ab:Int)(ac:LX)(k:LI):Nat→Int→Int→LX→Bg
|0,_,_,_=>none
|q+1,aa,ae,ad=>Abg (Al2 (Qm a w m b f h o p n g y ab ac k q) a w m b f h o p n g y ab ac k) Alu a w m b f h o p n g y ab ac k aa ae ad
def Aw3 a w m b f h o p n g y ab ac k:=Qm a w m b f h o p n g y ab ac k FUEL
def Adw(j21:LB→LI→Int→Int→Int→Int→Int→Int→Int→Int→Int→Int→LX→LI→Int→Int→LX→Bg)(a u:LB)(m b f h o p n g:Int)(k:LI)(an y ab:Int)(w:LI):Bg:=
if(Ay an 0)then
some (0,0,0,([]:LX),an)
else
(Aai u).bind fun(ac,bc)=>
j21 a w m b f h o p n g y ab ac k y 0 ([]:LX)
def Mj:=Adw Aw3
def Ana(j20:LB→LB→Int→Int→Int→Int→Int→Int→Int→Int→LI→Int→Int→Int→LI→Bg)(a u:LB)(v:LI)(m b f h o p n g af:Int)(k:LI):Bg:=
j20 a u m b f h o p n g k 0 (Ad (Ad g (Au 4 (Ac v))) 4) af v
def Abi:=Ana Mj
def Abn(j19:LB→LB→LI→Int→Int→Int→Int→Int→Int→Int→Int→Int→LI→Bg)(bk17:Int→Int→Bg)(v:LI)(a u:LB)(m b f h o p n g:Int)(k:LI)(ag af:Int):Bg:=
if(Bn ag (Ac v))then
(getI v ag).bind fun _=>
(getI v ag).bind fun ax=>
bk17 (Ad ag 1) (Ad af ax)
else
j19 a u v m b f h o p n g af k
def Qs(v:LI)(a u:LB)(m b f h o p n g:Int)(k:LI):Nat→Int→Int→Bg
|0,_,_=>none
|q+1,ag,af=>Abn Abi (Qs v a u m b f h o p n g k q) v a u m b f h o p n g k ag af
def Alg v a u m b f h o p n g k:=Qs v a u m b f h o p n g k FUEL
def Ade(j20:LB→LB→Int→Int→Int→Int→Int→Int→Int→Int→LI→Int→Int→Int→LI→Bg)(j17:LI→LB→LB→Int→Int→Int→Int→Int→Int→Int→Int→LI→Int→Int→Bg)(al:Int)(a u:LB)(m b f h o p n g ah ai:Int)(v k:LI):Bg:=
if(Ay al 0)then
j20 a u m b f h o p n g k al ah ai ([]:LI)
else
j17 v a u m b f h o p n g k 0 (Ad (Ad g (Au 4 (Ac v))) 4)
def Abz:=Ade Mj Alg
def Amj(j20:LB→LB→Int→Int→Int→Int→Int→Int→Int→Int→LI→Int→Int→Int→LI→Bg)(j16:Int→LB→LB→Int→Int→Int→Int→Int→Int→Int→Int→Int→Int→LI→LI→Bg)(a u:LB)(m b f h o p n g ah ai:Int)(k:LI):Bg:=
if(Bn (Ac a) g)then
j20 a u m b f h o p n g k 24 ah ai ([]:LI)
else
(Bo a g (Ac a)).bind fun ay=>
(Ze ay (Ac k)).bind fun(v,al)=>
j16 al a u m b f h o p n g ah ai v k
def Vy:=Amj Mj Abz
def Ab6(j15:LB→LB→Int→Int→Int→Int→Int→Int→Int→Int→Int→Int→LI→Bg)(a u:LB)(m b f h o p n g ah ai:Int)(k:LI)(ao:Int):Bg:=
if(Ay ao 0)then
some (0,0,0,([]:LX),ao)
else
j15 a u m b f h o p n g ah ai k
def Px:=Ab6 Vy
def Apo(j14:LB→LB→Int→Int→Int→Int→Int→Int→Int→Int→Int→Int→LI→Int→Bg)(a u:LB):Bg:=
if(Fi (Ac u) 64)then
some (0,0,0,([]:LX),2)
else
(Qv a).bind fun(m,b,f,h,o,p,n,g,ah,ai,k,ap)=>
if(Ay ap 0)then
some (0,0,0,([]:LX),ap)
else
if((u==([]:LB)) !=(geq m 1))then
j14 a u m b f h o p n g ah ai k 26
else
if(geq m 1)then
j14 a u m b f h o p n g ah ai k 0
else
if(Bn (Ac a) g)then
j14 a u m b f h o p n g ah ai k 24
else
(Bo a n g).bind fun az=>
(Rg az u).bind fun(ba,bd)=>
if(!ba)then
j14 a u m b f h o p n g ah ai k 26
else
j14 a u m b f h o p n g ah ai k 0
def Ki:=Apo Px
def Gq(a b:LB):Option Int:=
(Ki a b).bind fun(g,h,k,m,f)=>
some f
abbrev Cw:=Option (Int×Int×Int×Int×Int×Int)
def Aug(a:LB)(k m n o p f g b aa y:Int)(h:LI):Cw:=
if(Bn (Ac a) y)then
some (0,0,0,0,0,24)
else
some (f,g,b,aa,y,0)
def Ai9:=Aug
def Aiu(j12:LB→Int→Int→Int→Int→Int→Int→Int→Int→Int→Int→LI→Cw)(a:LB)(k m n o p f g b:Int)(h:LI)(ae aa y:Int):Cw:=
if(Ay ae 0)then
some (0,0,0,0,0,ae)
else
j12 a k m n o p f g b aa y h
def Sm:=Aiu Ai9
def Aih(j11:LB→Int→Int→Int→Int→Int→Int→Int→Int→LI→Int→Int→Int→Cw)(a:LB)(u:LI)(k m n o p f g b v:Int)(h:LI):Cw:=
j11 a k m n o p f g b h 0 (Ad (Ad b (Au 4 (Ac u))) 4) v
def Yy:=Aih Sm
def Acg(j10:LB→LI→Int→Int→Int→Int→Int→Int→Int→Int→Int→LI→Cw)(bk8:Int→Int→Cw)(u:LI)(a:LB)(k m n o p f g b:Int)(h:LI)(w v:Int):Cw:=
if(Bn w (Ac u))then
(getI u w).bind fun _=>
(getI u w).bind fun ag=>
bk8 (Ad w 1) (Ad v ag)
else
j10 a u k m n o p f g b v h
def Po(u:LI)(a:LB)(k m n o p f g b:Int)(h:LI):Nat→Int→Int→Cw
|0,_,_=>none
|q+1,w,v=>Acg Yy (Po u a k m n o p f g b h q) u a k m n o p f g b h w v
def Anr u a k m n o p f g b h:=Po u a k m n o p f g b h FUEL
def Am9(j11:LB→Int→Int→Int→Int→Int→Int→Int→Int→LI→Int→Int→Int→Cw)(j8:LI→LB→Int→Int→Int→Int→Int→Int→Int→Int→LI→Int→Int→Cw)(ab:Int)(a:LB)(k m n o p f g b ac ad:Int)(u h:LI):Cw:=
if(Ay ab 0)then
j11 a k m n o p f g b h ab ac ad
else
j8 u a k m n o p f g b h 0 (Ad (Ad b (Au 4 (Ac u))) 4)
def Alp:=Am9 Sm Anr
def Ak8(j11:LB→Int→Int→Int→Int→Int→Int→Int→Int→LI→Int→Int→Int→Cw)(j7:Int→LB→Int→Int→Int→Int→Int→Int→Int→Int→Int→Int→LI→LI→Cw)(a:LB):Cw:=
(Qv a).bind fun(k,m,n,o,p,f,g,b,ac,ad,h,af)=>
if(Ay af 0)then
some (0,0,0,0,0,af)
else
if(Bn (Ac a) b)then
j11 a k m n o p f g b h 24 ac ad
else
(Bo a b (Ac a)).bind fun ah=>
(Ze ah (Ac h)).bind fun(u,ab)=>
j7 ab a k m n o p f g b ac ad u h
def Aoh:=Ak8 Sm Alp
abbrev Ap6:=Option (Int×Int×Int×Int×Int×Int×LI×Int)
def Axf(a:LB)(b f g h k n:Int):Ap6:=
(Jh b f g h k).bind fun(ab,p)=>
if(Ay p 0)then
some (0,0,0,0,0,0,([]:LI),p)
else
(Bo a n (Ac a)).bind fun ac=>
(Ze ac (Ac ab)).bind fun(u,v)=>
if(Ay v 0)then
some (0,0,0,0,0,0,([]:LI),v)
else
some (b,f,g,h,k,(Ad (Ad n (Au 4 (Ac u))) 4),u,0)
def Ha:=Axf
def Fx(j2:LB→Int→Int→Int→Int→Int→Int→Ap6)(a o:LB):Ap6:=
if(Fi (Ac o) 64)then
some (0,0,0,0,0,0,([]:LI),2)
else
if(Fi (Ac a) 100000)then
some (0,0,0,0,0,0,([]:LI),4)
else
(Qw a).bind fun(m,w)=>
if(Ay w 0)then
some (0,0,0,0,0,0,([]:LI),w)
else
(Bo a m (Ac a)).bind fun ad=>
(Aap ad).bind fun(b,f,g,h,k,y)=>
if(Ay y 0)then
some (0,0,0,0,0,0,([]:LI),y)
else
if((o==([]:LB)) !=(geq b 1))then
some (0,0,0,0,0,0,([]:LI),26)
else
if(o !=([]:LB))then
if(Bn (Ac a) (Ad (Ad m 22) 8))then
some (0,0,0,0,0,0,([]:LI),24)
else
(Bo a (Ad m 22) (Ad (Ad m 22) 8)).bind fun ae=>
(Rg ae o).bind fun(af,aa)=>
if(Ay aa 0)then
some (0,0,0,0,0,0,([]:LI),aa)
else
if(!af)then
some (0,0,0,0,0,0,([]:LI),26)
else
j2 a b f g h k (Ad (Ad m 22) 8)
else
j2 a b f g h k (Ad m 22)
def seekto_Open:=Fx Ha
abbrev Oj:=Option (Int×Int)
def Axt(k f a b g h:Int):Oj:=
some ((Bt (Au (Au k a) b) 8),0)
def Amb:=Axt
def Abp(j6:Int→Int→Int→Int→Int→Int→Oj)(bk4:Int→Int→Oj)(n f a b g h:Int)(m:LI)(k o:Int):Oj:=
if(Bn o n)then
(getI m o).bind fun _=>
(getI m o).bind fun p=>
bk4 (Ad k p) (Ad o 1)
else
j6 k f a b g h
def Qg(n f a b g h:Int)(m:LI):Nat→Int→Int→Oj
|0,_,_=>none
|q+1,k,o=>Abp Amb (Qg n f a b g h m q) n f a b g h m k o
def Axk n f a b g h m:=Qg n f a b g h m FUEL
def Ak3(j4:Int→Int→Int→Int→Int→Int→LI→Int→Int→Oj)(f a b g h n:Int):Oj:=
(Jh f a b g h).bind fun(m,u)=>
if((Ay u 0)||(Fi n (Ac m)))then
some (0,8)
else
j4 n f a b g h m 0 0
def Agw:=Ak3 Axk
abbrev Mf:=Option (Int×UInt8×Int×Int×Int)
def Bgi:Mf:=
some (0,6,0,0,0)
def At7:=Bgi
def Yw(j6:Mf)(bk4:Int→Int→Mf)(a:Int)(b:LI)(g h k m n o p f:Int):Mf:=
if(Bn f (Ac b))then
(getI b f).bind fun _=>
(getI b f).bind fun v=>
if(Bn a (Ad p v))then
(Agw g h k m n f).bind fun(ad,ae)=>
some (0,5,f,ad,ae)
else
bk4 (Ad p v) (Ad f 1)
else
j6
def Nr(a:Int)(b:LI)(g h k m n o:Int):Nat→Int→Int→Mf
|0,_,_=>none
|q+1,p,f=>Yw At7 (Nr a b g h k m n o q) a b g h k m n o p f
def Aup a b g h k m n o:=Nr a b g h k m n o FUEL
def Aim(j4:Int→LI→Int→Int→Int→Int→Int→Int→Int→Int→Mf)(u w:LB)(a:Int):Mf:=
(Gq u w).bind fun y=>
if(Ay y 0)then
some (0,0,0,0,y)
else
if((Bn a 0)||(Jz a (Ac u)))then
some (0,0,0,0,2)
else
(Aoh u).bind fun(af,ag,ah,aa,ai,ab)=>
if(Ay ab 0)then
some (0,0,0,0,ab)
else
(seekto_Open u w).bind fun(g,h,k,m,n,o,b,ac)=>
if(Ay ac 0)then
some (0,0,0,0,ac)
else
if(Bn a af)then
some (0,1,0,0,0)
else
if(Bn a ag)then
some (0,2,0,0,0)
else
if(Bn a ah)then
some (0,3,0,0,0)
else
if(Bn a aa)then
some (0,4,0,0,0)
else
j4 a b g h k m n o aa 0
def Ld:=Aim Aup
def Oe(a:LB):Option (LB):=
(
(Ek ([]:LB) a).bind fun b=>
some b)
def Bfy(f:LB)(a:Int)(g:UInt8):Option (LB×Int):=
if(((Bn a 0)||(Jz a (Ac f)))||(geq g 0))then
some (([]:LB),2)
else
(Oe f).bind fun b=>
(getI b a).bind fun _=>
(getI b a).bind fun h=>
(getI b a).bind fun _=>
(Jj b a (Sy h g)).bind fun k=>
some (k,0)
def Fj(a n:LB)(b:Int):Option UInt8:=
if(Fi (Ac a) 100000)then
some 0
else
(Qw a).bind fun(f,g)=>
if(Ay g 0)then
some 1
else
(Bo a f (Ac a)).bind fun h=>
(Aap h).bind fun(k,o,p,u,v,m)=>
if(Ay m 0)then
some 2
else
if(geq b 26)then
if(geq b 26)then
some 3
else
some 4
else
if((geq k 2)&&(Bn (Aj (Ac a) f) 30))then
some 3
else
some 4
abbrev Gd:=Option (LI×Int)
def Bco(f:LI):Gd:=
some (f,0)
def Aom:=Bco
def Aqt(bk6:Int→Int→LI→Gd)(a:LI)(b g h:Int)(k:LI):Gd:=
bk6 (Ad b 1) (Ad g h) k
def Afd bk6:=Aqt bk6
def Wn(j8:Int→Int→Int→LI→Gd)(j10:LI→Gd)(a:LI)(b g:Int)(f:LI):Gd:=
if(Bn b (Ac a))then
(getI a b).bind fun h=>
(Ek f ([(Ad g h)]:LI)).bind fun k=>
j8 b g h k
else
j10 f
def Lr(a:LI):Nat→Int→Int→LI→Gd
|0,_,_,_=>none
|q+1,b,g,f=>Wn (Afd (Lr a q) a) Aom a b g f
def Aq9 a:=Lr a FUEL
def Afh(j6:LI→Int→Int→LI→Gd)(a:LI):Gd:=
(Nw a).bind fun m=>
if(Ay m 0)then
some (([]:LI),m)
else
j6 a 0 0 ([(0:Int)]:LI)
def Agj:=Afh Aq9
abbrev Cn:=Option (LB×Int)
def Bgo(g:LB):Cn:=
some (g,0)
def Auk:=Bgo
def Aur(bk16:Int→LB→Cn)(b:Int)(a:LX)(f:Int)(h:LB):Cn:=
bk16 (Ad f 1) h
def Ajh bk16:=Aur bk16
def Yu(j28:Int→LB→Cn)(bk26:Int→LB→Cn)(b:Int)(a:LX)(k:Int32)(f m:Int)(h:LB):Cn:=
if(Bn m (Bt b 8))then
(Hu (Jz (Au 8 m) 0)).bind fun _=>
(Ek h ([(Af (Bi k (GI.toZ (Au 8 m)).toNat):UInt8)]:LB)).bind fun p=>
bk26 (Ad m 1) p
else
j28 f h
def Ht(bk16:Int→LB→Cn)(b:Int)(a:LX)(k:Int32)(f:Int):Nat→Int→LB→Cn
|0,_,_=>none
|q+1,m,h=>Yu (Ajh bk16 b a) (Ht bk16 b a k f q) b a k f m h
def Ait bk16 b a k f:=Ht bk16 b a k f FUEL
def Aii(j26:Int32→Int→Int→LB→Cn)(b:Int)(a:LX)(f:Int)(g:LB)(k:Int32):Cn:=
j26 k f 0 g
def Kk bk16 b a:=Aii (Ait bk16 b a) b a
def Yt(j25:Int→LB→Int32→Cn)(j30:LB→Cn)(b:Int)(a:LX)(f:Int)(g:LB):Cn:=
if(Bn f (Ac a))then
(getI a f).bind fun n=>
if(geq b 8)then
j25 f g (Ad n 128)
else
j25 f g n
else
j30 g
def Fg(b:Int)(a:LX):Nat→Int→LB→Cn
|0,_,_=>none
|q+1,f,g=>Yt (Kk (Fg b a q) b a) Auk b a f g
def At8 b a:=Fg b a FUEL
def Alw(j16:Int→LX→Int→LB→Cn)(b:Int)(a:LX):Cn:=
(Vn b a).bind fun o=>
if(Ay o 0)then
some (([]:LB),o)
else
j16 b a 0 ([]:LB)
def width_Bytes:=Alw At8
abbrev Dt:=Option (LB×Int)
def Bgl(a ac:Int):Dt:=
if(Ay ac 0)then
some (([]:LB),ac)
else
if((Bn a 0)||(Jz a 0))then
some (([]:LB),2)
else
none
def Aum:=Bgl
def Ben(ad:Int)(ae:LB):Dt:=
some (ae,ad)
def Afc:=Ben
def Aje(j10:Int→LB→Dt)(w a h b:Int)(aa:LX)(n o p k:Int)(m:LB)(u:LX)(v f g:LI):Dt:=
if(Ay w 0)then
j10 w ([]:LB)
else
(width_Bytes b aa).bind fun(ak,al)=>
j10 al ak
def Aiv:=Aje Afc
def Ajg(j10:Int→LB→Dt)(j9:Int→Int→Int→Int→LX→Int→Int→Int→Int→LB→LX→LI→LI→LI→Dt)(a k ab y:Int)(m:LB)(h b:Int)(u:LX)(n o p:Int)(g v f:LI):Dt:=
if(Fi (Ad k y) (Ac m))then
j10 24 ([]:LB)
else
(getI g a).bind fun _=>
(Bo m (Ad k ab) (Ad k y)).bind fun am=>
(getI g a).bind fun an=>
(deframe_Decode h b u an am).bind fun(aa,w)=>
j9 w a h b aa n o p k m u v f g
def Aiw:=Ajg Afc Aiv
def Ai2(j8:Int→Int→Int→Int→LB→Int→Int→LX→Int→Int→Int→LI→LI→LI→Dt)(a:Int)(g:LI)(n h b o p k:Int)(m:LB)(u:LX)(v f:LI):Dt:=
if(Ay (0:Int) (0:Int))then
some (([]:LB),0)
else
if((Bn a 0)||(Jz a (Ac g)))then
some (([]:LB),2)
else
(getI f a).bind fun _=>
(getI f (Ad a 1)).bind fun _=>
(getI f a).bind fun ab=>
(getI f (Ad a 1)).bind fun y=>
j8 a k ab y m h b u n o p g v f
def Sr:=Ai2 Aiw
def Ai4(j6:Int→Int→Dt)(j7:Int→LI→Int→Int→Int→Int→Int→Int→LB→LX→LI→LI→Dt)(m af:LB)(a:Int):Dt:=
(seekto_Open m af).bind fun(n,h,b,o,p,k,v,ag)=>
if(Ay ag 0)then
j6 a ag
else
(Jh n h b o p).bind fun(g,ah)=>
if(Ay ah 0)then
j6 a ah
else
(Agj v).bind fun(f,ai)=>
if(Ay ai 0)then
j6 a ai
else
(Aai af).bind fun(u,aj)=>
if(Ay aj 0)then
j6 a aj
else
(getI f (Ac g)).bind fun _=>
(getI f (Ac g)).bind fun ao=>
j7 a g n h b o p k m u v f
def Abf:=Ai4 Aum Sr
abbrev Jg:=Option (Int×UInt8×Int×Int×Int)
def Akt(b f g h k m n:Int)(a:LI)(w:Int)(y:UInt8)(aa:Int):Jg:=
(Agw f g h k m w).bind fun(ac,ad)=>
some (b,y,aa,ac,ad)
def Ac6:=Akt
def Acx(j8:Int→Int→Int→Int→Int→Int→Int→LI→Int→UInt8→Int→Jg)(bk6:Int→Jg)(p o:LB)(a:LI)(b:Int)(u:UInt8)(f g h k m n v:Int):Jg:=
if(Bn v (Ac a))then
if(geq b 0)then
j8 b f g h k m n a (Ac a) u 0
else
(Abf p o v).bind fun(ag,ae)=>
if(Ay ae 0)then
j8 b f g h k m n a v 5 v
else
bk6 (Ad v 1)
else
j8 b f g h k m n a (Ac a) u 0
def Qa(p o:LB)(a:LI)(b:Int)(u:UInt8)(f g h k m n:Int):Nat→Int→Jg
|0,_=>none
|q+1,v=>Acx Ac6 (Qa p o a b u f g h k m n q) p o a b u f g h k m n v
def Avq p o a b u f g h k m n:=Qa p o a b u f g h k m n FUEL
def Am3(j6:LB→LB→LI→Int→UInt8→Int→Int→Int→Int→Int→Int→Int→Jg)(p o:LB)(b f g h k m n:Int)(a:LI)(u:UInt8):Jg:=
j6 p o a b u f g h k m n 0
def Amo:=Am3 Avq
def Ado(j5:LB→LB→Int→Int→Int→Int→Int→Int→Int→LI→UInt8→Jg)(p o:LB):Jg:=
if(Fi (Ac o) 64)then
some (0,0,0,0,2)
else
(Gq p o).bind fun b=>
(seekto_Open p o).bind fun(f,g,h,k,m,n,a,ab)=>
if(Ay ab 0)then
(Fj p o ab).bind fun af=>
some (b,af,0,0,0)
else
if(Ay b 0)then
j5 p o b f g h k m n a 6
else
j5 p o b f g h k m n a 0
def Og:=Ado Amo
def Eb(a:LB)(b k:Int)(f:UInt8)(g h m:Int):Option Bool:=
(Ld a ([]:LB) b).bind fun(n,o,p,u,v)=>
(Bfy a b 64).bind fun(w,y)=>
(Og w ([]:LB)).bind fun(aa,ab,ac,ad,ae)=>
if((((Ay v 0)||(Ay y 0))||(Ay ae 0))||(!((geq n k)&&((geq o f)&&((geq p g)&&((geq u h)&&true))))))then
some false
else
some ((geq aa m)&&((geq ab f)&&((geq ac g)&&((geq ad h)&&true))))
def Rf:Option Bool:=
(Ami).bind fun(a,b)=>
if b then
(Eb a 5 0 2 0 0 22).bind fun f=>
if f then
(Eb a 25 0 4 0 0 22).bind fun g=>
if g then
(Eb a 41 0 5 1 1 22).bind fun h=>
some h
else
some false
else
if false then
(Eb a 41 0 5 1 1 22).bind fun k=>
some k
else
some false
else
if false then
(Eb a 25 0 4 0 0 22).bind fun m=>
if m then
(Eb a 41 0 5 1 1 22).bind fun n=>
some n
else
some false
else
if false then
(Eb a 41 0 5 1 1 22).bind fun o=>
some o
else
some false
def Gj(a b f:Int)(g:LX):Option (Int×Int):=
some (a,b)
def Hm(a:Int):Option Int:=
if(geq a 8)then
some 128
else
if(geq a 16)then
some 32768
else
if(geq a 24)then
some 8388608
else
some 0
def Cc(a b:Int):Option Int:=
if((Bn a 1)||(Fi a 6))then
some 2
else
(Hm b).bind fun f=>
if(geq f 0)then
some 2
else
some 0
def Auv:Option Int:=
some 0
def Ae4:=Auv
def Bv(j6:Option Int)(bk4:Int→Option Int)(a:LX)(b f:Int):Option Int:=
if(Bn f (Ac a))then
(getI a f).bind fun g=>
if(Bn (Af g:Int) (Bce b))then
some 16
else
(getI a f).bind fun h=>
if(Jz (Af h:Int) b)then
some 16
else
bk4 (Ad f 1)
else
j6
def Ao(a:LX)(b:Int):Nat→Int→Option Int
|0,_=>none
|q+1,f=>Bv Ae4 (Ao a b q) a b f
def Aej a b:=Ao a b FUEL
def Cm(j4:LX→Int→Int→Option Int)(k:Int)(a:LX):Option Int:=
(Hm k).bind fun b=>
if(geq b 0)then
some 2
else
if(Fi (Ac a) 4000)then
some 4
else
j4 a b 0
def cadenzaref18_Check:=Cm Aej
def Bp(b f:Int)(a:LX):Option Int:=
(Cc b f).bind fun g=>
if(Ay g 0)then
some 2
else
(cadenzaref18_Check f a).bind fun h=>
if(Ay h 0)then
(cadenzaref18_Check f a).bind fun k=>
some k
else
if(Bn (Ac a) 1)then
some 2
else
(Hu (Ay b 0)).bind fun _=>
if(Fi (Fc (Ac a) b) 0)then
some 2
else
some 0
def Ck(a f b:Int):Option Int:=
(Cc a f).bind fun g=>
if((Ay g 0)||(Bn b 1))then
some 2
else
(Hu (Ay a 0)).bind fun _=>
if(Fi b (Bt 4000 a))then
some 2
else
some 0
def Ny(a:Int):Option (Int×Int):=
if((Bn a 1)||(Fi a 1048576))then
some (0,2)
else
if(geq (Bt (Au a 256) 245) 0)then
some (1,0)
else
some ((Bt (Au a 256) 245),0)
abbrev Gi:=Option (LI×Int)
def Ajm(a:LI):Gi:=
if(Fi (Ac a) 1000)then
some (([]:LI),4)
else
some (a,0)
def Xl:=Ajm
def Pb(j6:LI→Gi)(bk4:Int→LI→Gi)(b f:Int)(a:LI):Gi:=
if(Fi f 0)then
(Ek a ([(Dj f b)]:LI)).bind fun h=>
bk4 (Aj f (Dj f b)) h
else
j6 a
def Ho(b:Int):Nat→Int→LI→Gi
|0,_,_=>none
|q+1,f,a=>Pb Xl (Ho b q) b f a
def Xi b:=Ho b FUEL
def Pn(j4:Int→Int→LI→Gi)(k g:Int):Gi:=
(Ny k).bind fun(b,m)=>
if(((Ay m 0)||(Bn g 1))||(Fi g 4000))then
some (([]:LI),2)
else
j4 b g ([]:LI)
def Wp:=Pn Xi
def Is(a b:Int):Option (Int×Int):=
(Wp a b).bind fun(f,g)=>
some ((Ac f),g)
def Ads(f g a:Int)(h:LX)(b:Int):Option Bool:=
(Gj f g a h).bind fun(k,m)=>
(Ck k m b).bind fun n=>
if(Ay n 0)then
some false
else
(Is a b).bind fun(p,o)=>
some (geq o 0)
def Cf(a f g:Int)(b:LX):Option Int:=
(Gj a f g b).bind fun(h,k)=>
(Bp h k b).bind fun m=>
if(Ay m 0)then
some 8
else
(Hu (Ay a 0)).bind fun _=>
(Ads a f g b (Bt (Ac b) a)).bind fun n=>
if(!n)then
some 8
else
some 0
abbrev Hk:=Option (LB×Int)
def Wq(h:Bool)(f:LB):Hk:=
if(!h)then
some (([]:LB),2)
else
some (f,0)
def Aqi:=Wq
def At9(bk6:Int→Bool→LB→Hk)(a:Int)(g:UInt32)(b:Int)(k:Bool)(m:LB):Hk:=
bk6 (Ad b 1) k m
def Yz bk6:=At9 bk6
def Yo(j8:Int→Bool→LB→Hk)(j10:Bool→LB→Hk)(a:Int)(g:UInt32)(b:Int)(h:Bool)(f:LB):Hk:=
if(Bn b 32)then
(Hu (Jz b 0)).bind fun _=>
if(geq (Dc (Bi g (GI.toZ b).toNat) 1) 1)then
if(Bn (Ad a b) (Au 8 (Ac f)))then
(getI f (Bt (Ad a b) 8)).bind fun _=>
(Hu (Jz (Fc (Ad a b) 8) 0)).bind fun _=>
(getI f (Bt (Ad a b) 8)).bind fun o=>
(getI f (Bt (Ad a b) 8)).bind fun _=>
(Jj f (Bt (Ad a b) 8) (Sy o (Cp (1:UInt8) (GI.toZ (Fc (Ad a b) 8)).toNat))).bind fun p=>
j8 b true p
else
j8 b h f
else
j8 b h f
else
j10 h f
def Kh(a:Int)(g:UInt32):Nat→Int→Bool→LB→Hk
|0,_,_,_=>none
|q+1,b,h,f=>Yo (Yz (Kh a g q) a g) Aqi a g b h f
def Aio a g:=Kh a g FUEL
def Ajf(j6:Int→UInt32→Int→Bool→LB→Hk)(n:LB)(a:Int)(g:UInt32):Hk:=
if((Bn a 0)||(Jz a (Au 8 (Ac n))))then
some (([]:LB),2)
else
(Oe n).bind fun u=>
j6 a g 0 false u
def Akc:=Ajf Aio
def Sp(a:Bool)(v:Int)(n:UInt8)(o p u:Int)(w:UInt8)(y aa:Int):Option Bool:=
if(geq n 2)then
if a then
some ((geq u 22)||(geq u 12))
else
some false
else
if(geq n 3)then
some (a&&(geq u 26))
else
if(a&&(geq u 22))then
some ((geq n 4)||(geq n 5))
else
some false
def Gc:=Sp
def Ge(j14:Bool→Int→UInt8→Int→Int→Int→UInt8→Int→Int→Option Bool)(f:LB)(a:Bool)(b:LB)(v:Int)(n:UInt8)(o p:Int):Option Bool:=
(Og b f).bind fun(u,w,y,aa,ad)=>
(
(
(
(
if((((Ay ad 0)||(Ay w n))||(Ay y o))||(Ay aa p))then
some false
else
(Gq b f).bind fun ae=>
if(Ay u ae)then
some false
else
j14 a v n o p u w y aa))))
def Ga:=Ge Gc
def Ks(j13:LB→Bool→LB→Int→UInt8→Int→Int→Option Bool)(f:LB)(a:Bool)(k m:Int)(g b:LB):Option Bool:=
if(((Ay (Ac b) (Ac g))||(Bn k 0))||(Fi (Aj m k) 4))then
some false
else
(Ld g f k).bind fun(v,n,o,p,ak)=>
(Ld g f m).bind fun(al,am,an,ao,ap)=>
if((Ay ak 0)||(Ay ap 0))then
some false
else
if(!((geq v al)&&((geq n am)&&((geq o an)&&((geq p ao)&&true)))))then
some a
else
(Bo b 0 (Dj 3 (Ac b))).bind fun aq=>
if(aq==([73,68,51]:LB))then
some a
else
j13 f a b v n o p
def Ds:=Ks Ga
def Sn(bk8:Int→Int→Int→Option Bool)(f:LB)(a:Bool)(g b:LB)(k m h:Int)(ab ac:UInt8):Option Bool:=
if(Ay ab ac)then
if(Bn k 0)then
bk8 h h (Ad h 1)
else
bk8 k h (Ad h 1)
else
bk8 k m (Ad h 1)
def Ke bk8:=Sn bk8
def Gs(j10:Int→Int→Int→UInt8→UInt8→Option Bool)(j12:LB→Bool→Int→Int→LB→LB→Option Bool)(f:LB)(a:Bool)(g b:LB)(k m h:Int):Option Bool:=
if((Bn h (Ac g))&&(Bn h (Ac b)))then
(getI g h).bind fun _=>
(getI b h).bind fun _=>
(getI g h).bind fun ab=>
(getI b h).bind fun ac=>
j10 k m h ab ac
else
j12 f a k m g b
def Da(f:LB)(a:Bool)(g b:LB):Nat→Int→Int→Int→Option Bool
|0,_,_,_=>none
|q+1,k,m,h=>Gs (Ke (Da f a g b q) f a g b) Ds f a g b k m h
def Lk f a g b:=Da f a g b FUEL
def Lh(j8:LB→Bool→LB→LB→Int→Int→Int→Option Bool)(ag ah ai:Int)(af:LX)(f:LB)(ar:Int)(au:UInt32):Option Bool:=
(Rf).bind fun a=>
(Cf ag ah ai af).bind fun av=>
if((((Ay av 0)||(Fi (Ac af) 400))||(Fi (Ac f) 64))||(!a))then
some a
else
(Agp ag ah ai af f).bind fun(g,aw)=>
if(Ay aw 0)then
some false
else
(Akc g ar au).bind fun(b,aj)=>
if(Ay aj 0)then
some (a&&(geq aj 2))
else
j8 f a g b (-1:Int) (-1:Int) 0
def Je:=Lh Lk
def Avn(a:LI):Option (LI):=
(
(Ek ([]:LI) a).bind fun b=>
some b)
def Bom(a b:LB)(f g h k m:Int)(n:LI)(o:Int)(p:LB)(u:Bool)(v:Int):Option (LB×LB×Int×Int×Int×Int×Int×LI×Int×LB×Bool×Int):=
(Oe b).bind fun w=>
(Oe p).bind fun y=>
(Avn n).bind fun aa=>
some (a,w,f,g,h,k,m,aa,o,y,u,v)
def Apu(a:Int):Option (Bool×Int):=
some (false,a)
def Bdi(bi:Bool):Option Int:=
if(!bi)then
some 8
else
some 0
def Adb:=Bdi
def An7(j22:Bool→Option Int)(bl:Bool)(bm:Int):Option Int:=
j22 ((bl==true)&&((geq bm 0)&&true))
def Adq:=An7 Adb
def Aon(j25:Bool→Int→Option Int)(g a:LB)(k p o u v b:Int)(m:Bool)(n:Int)(f:LI)(h:LB)(bg:Int):Option Int:=
(Jh k p o u v).bind fun(dp,bh)=>
if(Ay bh 0)then
(Apu bh).bind fun(an,bn)=>
j25 an bn
else
(Bo a bg (Ac a)).bind fun dq=>
(Ze dq (Ac dp)).bind fun(dr,aa)=>
if(geq aa 24)then
j25 true 0
else
if(Ay aa 0)then
(Apu aa).bind fun(ds,ab)=>
j25 ds ab
else
(Bo a (Ad (Ad bg (Au 4 (Ac dr))) 4) (Ac a)).bind fun fc=>
j25 false 0
def An6:=Aon Adq
def Xv(f g b a h:Int):Option Bool:=
if((((geq f 1)||(geq f 2))&&(Jz g 1))&&(gle g 6))then
some ((((((geq b 8)||(geq b 16))||(geq b 24))&&(Jz a 1))&&(gle a 1048576))&&(Jz h 1))
else
some (((false&&(Jz a 1))&&(gle a 1048576))&&(Jz h 1))
def Uf(a:Int):Option Int:=
some (Ay7 1 (Bt (Au 256 a) 245))
def Mu(a:LI):Option (LI):=
some a
def Mv:=Mu
def Ia(j6:LI→Option (LI))(bk4:Int→LI→Option (LI))(b f:Int)(a:LI):Option (LI):=
if(Fi f 0)then
(Uf b).bind fun g=>
(Ek a ([(Dj f g)]:LI)).bind fun h=>
(Uf b).bind fun k=>
bk4 (Aj f k) h
else
j6 a
def Eg(b:Int):Nat→Int→LI→Option (LI)
|0,_,_=>none
|q+1,f,a=>Ia Mv (Eg b q) b f a
def Ae9 b:=Eg b FUEL
def Ae5(j4:Int→Int→LI→Option (LI))(b m:Int):Option (LI):=
j4 b m ([]:LI)
def Cz:=Ae5 Ae9
def Abk(h a k f b:Int):Option Bool:=
(
(Hu (Ay a 0)).bind fun _=>
(
if(Fi b (Bt 4000 a))then
some true
else
(Cz f b).bind fun g=>
some (Fi (Ac g) 1000)))
def Alm(a f g h k:Int)(b:LB):Option Int:=
if((b==([]:LB)) !=(geq a 1))then
some 26
else
some 0
def Acm(b:Int):Option Int:=
if(Fi b 100000)then
some 8
else
some 0
def Ac4:=Acm
def Aeh(bk6:Int→Int→Option Int)(a:LI)(b f:Int):Option Int:=
(getI a f).bind fun g=>
bk6 (Ad b g) (Ad f 1)
def Aec bk6:=Aeh bk6
def Ua(j8:Int→Int→Option Int)(j10:Int→Option Int)(a:LI)(b f:Int):Option Int:=
if(Bn f (Ac a))then
(getI a f).bind fun h=>
if(Bn h 5)then
some 8
else
(getI a f).bind fun k=>
if(Fi k 100000)then
some 8
else
j8 b f
else
j10 b
def Ic(a:LI):Nat→Int→Int→Option Int
|0,_,_=>none
|q+1,b,f=>Ua (Aec (Ic a q) a) Ac4 a b f
def Aew a:=Ic a FUEL
def Tv(j6:LI→Int→Int→Option Int)(a:LI):Option Int:=
if((Bn (Ac a) 1)||(Fi (Ac a) 1000))then
some 8
else
j6 a 0 0
def Iw:=Tv Aew
def Nz(g h k a b:Int):Option (LI):=
(Cz a b).bind fun f=>
some f
def Bax(f a b g h:Int):Option (Int×Int):=
some (a,b)
abbrev Ew:=Option (Int×Int)
def Auz(a:Int):Ew:=
some (a,0)
def Ava:=Auz
def Tz(j6:Int→Ew)(bk4:Int→Int→Ew)(b:LB)(a f:Int):Ew:=
if(Bn f 4)then
(getI b f).bind fun g=>
if(Jz g 128)then
some (0,12)
else
(getI b f).bind fun h=>
bk4 (Ad (Au 128 a) (Af h:Int)) (Ad f 1)
else
j6 a
def Ip(b:LB):Nat→Int→Int→Ew
|0,_,_=>none
|q+1,a,f=>Tz Ava (Ip b q) b a f
def Ae0 b:=Ip b FUEL
def Ae7(j4:LB→Int→Int→Ew)(b:LB):Ew:=
if(Ay (Ac b) 4)then
some (0,2)
else
j4 b 0 0
def Zg:=Ae7 Ae0
abbrev Fu:=Option (Int×Int)
def Aig(a:LB)(g:Int):Fu:=
if(Fi g 4000)then
some (0,4)
else
if(Bn (Ac a) g)then
some (0,24)
else
(getI a 5).bind fun h=>
if(geq h 16)then
(Bo a (Aj g 10) g).bind fun k=>
(Bo a 3 10).bind fun m=>
(Ek ([51,68,73]:LB) m).bind fun n=>
if(k !=n)then
some (0,12)
else
some (g,0)
else
some (g,0)
def Vj:=Aig
def Ahi(j6:LB→Int→Fu)(a:LB)(b:Int):Fu:=
(getI a 5).bind fun o=>
if(geq o 16)then
j6 a (Ad (Ad 10 b) 10)
else
j6 a (Ad 10 b)
def Vp:=Ahi Vj
def Ahx(j5:LB→Int→Fu)(a:LB):Fu:=
if(Bn (Ac a) 10)then
some (0,24)
else
(Bo a 6 10).bind fun p=>
(Zg p).bind fun(b,f)=>
(getI a 3).bind fun u=>
if(Bn u 2)then
if true then
if true then
if(true||(Ay f 0))then
some (0,12)
else
j5 a b
else
(getI a 5).bind fun v=>
if(Ay v 0)then
(getI a 5).bind fun w=>
if(Ay w 16)then
if(true||(Ay f 0))then
some (0,12)
else
j5 a b
else
(getI a 3).bind fun y=>
if((Ay y 4)||(Ay f 0))then
some (0,12)
else
j5 a b
else
if(false||(Ay f 0))then
some (0,12)
else
j5 a b
else
(getI a 4).bind fun aa=>
if(Ay aa 0)then
if(true||(Ay f 0))then
some (0,12)
else
j5 a b
else
(getI a 5).bind fun ab=>
if(Ay ab 0)then
(getI a 5).bind fun ac=>
if(Ay ac 16)then
if(true||(Ay f 0))then
some (0,12)
else
j5 a b
else
(getI a 3).bind fun ad=>
if((Ay ad 4)||(Ay f 0))then
some (0,12)
else
j5 a b
else
if(false||(Ay f 0))then
some (0,12)
else
j5 a b
else
(getI a 3).bind fun ae=>
if(Fi ae 4)then
if true then
if(true||(Ay f 0))then
some (0,12)
else
j5 a b
else
(getI a 5).bind fun af=>
if(Ay af 0)then
(getI a 5).bind fun ag=>
if(Ay ag 16)then
if(true||(Ay f 0))then
some (0,12)
else
j5 a b
else
(getI a 3).bind fun ah=>
if((Ay ah 4)||(Ay f 0))then
some (0,12)
else
j5 a b
else
if(false||(Ay f 0))then
some (0,12)
else
j5 a b
else
(getI a 4).bind fun ai=>
if(Ay ai 0)then
if(true||(Ay f 0))then
some (0,12)
else
j5 a b
else
(getI a 5).bind fun aj=>
if(Ay aj 0)then
(getI a 5).bind fun ak=>
if(Ay ak 16)then
if(true||(Ay f 0))then
some (0,12)
else
j5 a b
else
(getI a 3).bind fun al=>
if((Ay al 4)||(Ay f 0))then
some (0,12)
else
j5 a b
else
if(false||(Ay f 0))then
some (0,12)
else
j5 a b
def Aic:=Ahx Vp
def Ahu(j4:LB→Fu)(a:LB):Fu:=
if(Bn (Ac a) 3)then
some (0,6)
else
(Bo a 0 3).bind fun am=>
if(am !=([73,68,51]:LB))then
some (0,6)
else
j4 a
def Adk:=Ahu Aic
def Anq(a:UInt64):Option UInt64:=
some a
def Ani:=Anq
def Zl(j6:UInt64→Option UInt64)(bk4:UInt64→Int→Option UInt64)(b:LB)(a:UInt64)(f:Int):Option UInt64:=
if(Jz f 0)then
(getI b f).bind fun g=>
bk4 (Ad (Au 256 a) (Af g:UInt64)) (Aj f 1)
else
j6 a
def Ml(b:LB):Nat→UInt64→Int→Option UInt64
|0,_,_=>none
|q+1,a,f=>Zl Ani (Ml b q) b a f
def Ams b:=Ml b FUEL
def Amy(j4:LB→UInt64→Int→Option UInt64)(b:LB):Option UInt64:=
j4 b 0 (Aj (Ac b) 1)
def Cs:=Amy Ams
def Uk(b:LB):Option (Int×Int×Bool):=
(Bo b 12 16).bind fun g=>
(Cs g).bind fun a=>
(Bo b 16 20).bind fun h=>
(Cs h).bind fun f=>
if(((Bn a 32)||(Fi a 3032))||(Fi f 1000))then
some (0,0,false)
else
some ((Aj (Af a:Int) 32),(Af f:Int),true)
def Aa5(a:LB):Option (LB):=
some a
def Aam:=Aa5
def Pz(j6:LB→Option (LB))(bk4:UInt64→Int→LB→Option (LB))(b:Int)(f:UInt64)(g:Int)(a:LB):Option (LB):=
if(Bn g b)then
(Ek a ([(Af (Aa7 f 256):UInt8)]:LB)).bind fun h=>
bk4 (Bt f 256) (Ad g 1) h
else
j6 a
def Gm(b:Int):Nat→UInt64→Int→LB→Option (LB)
|0,_,_,_=>none
|q+1,f,g,a=>Pz Aam (Gm b q) b f g a
def Aao b:=Gm b FUEL
def Aaw(j4:Int→UInt64→Int→LB→Option (LB))(k:UInt64)(b:Int):Option (LB):=
j4 b k 0 ([]:LB)
def Dk:=Aaw Aao
def Qp(a b:Int)(f:UInt64):Option (LB):=
(Dk 2000 4).bind fun g=>
(Ek ([(65:UInt8),(80:UInt8),(69:UInt8),(84:UInt8),(65:UInt8),(71:UInt8),(69:UInt8),(88:UInt8)]:LB) g).bind fun h=>
(Dk (Af (Ad a 32):UInt64) 4).bind fun k=>
(Ek h k).bind fun m=>
(Dk (Af b:UInt64) 4).bind fun n=>
(Ek m n).bind fun o=>
(Dk f 4).bind fun p=>
(Ek o p).bind fun u=>
(mkI (8:Int) (0:UInt8)).bind fun v=>
(Ek u v).bind fun w=>
some w
def Ug(a b:Int):Option (LB):=
(Qp a b 2684354560).bind fun f=>
some f
def Kb(a b:Int)(f:Bool):Option (LB):=
if f then
(Qp a b 2147483648).bind fun g=>
some g
else
(Qp a b 0).bind fun h=>
some h
abbrev Js:=Option (Int×Int)
def Aen(a:LB)(b f:Int):Js:=
if(Bn (Ac a) (Ad 64 b))then
some (0,24)
else
(Bo a (Aj (Ad 64 b) 32) (Ad 64 b)).bind fun g=>
(Kb b f true).bind fun h=>
if(g !=h)then
some (0,12)
else
some ((Ad 64 b),0)
def Ae8:=Aen
def Aeo(j4:LB→Int→Int→Js)(a:LB):Js:=
if(Bn (Ac a) 32)then
some (0,24)
else
(Bo a 0 32).bind fun k=>
(Uk k).bind fun(b,f,m)=>
if(!m)then
some (0,12)
else
(Bo a 0 32).bind fun n=>
(Ug b f).bind fun o=>
if(n !=o)then
some (0,12)
else
j4 a b f
def Aey:=Aeo Ae8
def Ae2(j3:LB→Js)(a:LB):Js:=
if(Bn (Ac a) 8)then
some (0,6)
else
(Bo a 0 8).bind fun p=>
if(p !=([65,80,69,84,65,71,69,88]:LB))then
some (0,6)
else
j3 a
def Zw:=Ae2 Aey
abbrev Ev:=Option (LI×Int)
def Aex(bk6:Int→LI→Ev)(a:LB)(b:Int)(f:LI)(g h:Int):Ev:=
if(geq h 6)then
some (f,0)
else
if(Ay h 0)then
some (([]:LI),h)
else
if(Fi (Ad b g) 4000)then
some (([]:LI),4)
else
(Ek f ([g]:LI)).bind fun m=>
bk6 (Ad b g) m
def Ms bk6:=Aex bk6
def To(j9:Int→LI→Int→Int→Ev)(a:LB)(b:Int)(f:LI):Ev:=
(Bo a b (Ac a)).bind fun n=>
(Adk n).bind fun(o,k)=>
if(geq k 6)then
(Bo a b (Ac a)).bind fun p=>
(Zw p).bind fun(u,v)=>
j9 b f u v
else
j9 b f o k
def Mt(a:LB):Nat→Int→LI→Ev
|0,_,_=>none
|q+1,b,f=>To (Ms (Mt a q) a) a b f
def Avf a:=Mt a FUEL
def Au1(j6:LB→Int→LI→Ev)(a:LB):Ev:=
j6 a 0 ([]:LI)
def Ak1:=Au1 Avf
abbrev Fa:=Option (Int×Int)
def Aek(a b:Int):Fa:=
some (b,a)
def Ae1:=Aek
def Ts(j6:Int→Int→Fa)(bk4:Int→Int→Fa)(a:Int)(f:LI)(b g:Int):Fa:=
if(Bn g (Ac f))then
(getI f g).bind fun _=>
(getI f g).bind fun h=>
bk4 (Ad b h) (Ad g 1)
else
j6 a b
def Ih(a:Int)(f:LI):Nat→Int→Int→Fa
|0,_,_=>none
|q+1,b,g=>Ts Ae1 (Ih a f q) a f b g
def Uc a f:=Ih a f FUEL
def Afa(j4:Int→LI→Int→Int→Fa)(k:LB):Fa:=
(Ak1 k).bind fun(f,a)=>
j4 a f 0 0
def Ja:=Afa Uc
def Pf(a b:LB):Option Bool:=
if(Bn (Ac a) (Ac b))then
(Bo b 0 (Ac a)).bind fun f=>
some (a==f)
else
some false
def Ah0(a:UInt32)(b:Bool):Option UInt32:=
if b then
some (Sy (Bt a 2) 3988292384)
else
some (Bt a 2)
def Aib:=Ah0
def Agu(j2:UInt32→Bool→Option UInt32)(a:UInt32)(f:Int):Option UInt32:=
if(geq f 1)then
j2 a (!(geq (Aa7 a 2) 1))
else
j2 a (geq (Aa7 a 2) 1)
def Ac8:=Agu Aib
def Ahm(a:UInt32):Option UInt32:=
some a
def Ag9:=Ahm
def Wb(j6:UInt32→Option UInt32)(bk4:UInt32→UInt8→Int→Option UInt32)(a:UInt32)(b:UInt8)(f:Int):Option UInt32:=
if(Bn f 8)then
(Ac8 a (Af (Aa7 b 2):Int)).bind fun g=>
bk4 g (Bt b 2) (Ad f 1)
else
j6 a
def Jr:Nat→UInt32→UInt8→Int→Option UInt32
|0,_,_,_=>none
|q+1,a,b,f=>Wb Ag9 (Jr q) a b f
def Awo:=Jr FUEL
def Awq(j4:UInt32→UInt8→Int→Option UInt32)(h:UInt32)(k:UInt8):Option UInt32:=
j4 h k 0
def Aok:=Awq Awo
def Ab5(a:UInt32):Option UInt32:=
some a
def Ady:=Ab5
def Ro(j6:UInt32→Option UInt32)(bk4:UInt32→Int→Option UInt32)(b:LB)(a:UInt32)(f:Int):Option UInt32:=
if(Bn f (Ac b))then
(getI b f).bind fun g=>
(Aok a g).bind fun h=>
bk4 h (Ad f 1)
else
j6 a
def Hf(b:LB):Nat→UInt32→Int→Option UInt32
|0,_,_=>none
|q+1,a,f=>Ro Ady (Hf b q) b a f
def Abj b:=Hf b FUEL
def Abh(j4:LB→UInt32→Int→Option UInt32)(k:UInt32)(b:LB):Option UInt32:=
j4 b k 0
def Ajn:=Abh Abj
def Sg(a:LB):Option UInt32:=
(Ajn 4294967295 a).bind fun b=>
some (Aj 4294967295 b)
abbrev Fs:=Option (Int×Int×Int×Int×Int×Int)
def Ahe(k h g f b:UInt64):Fs:=
(Xv (Af k:Int) (Af h:Int) (Af g:Int) (Af f:Int) (Af b:Int)).bind fun v=>
if(!v)then
some (0,0,0,0,0,12)
else
(Abk (Af k:Int) (Af h:Int) (Af g:Int) (Af f:Int) (Af b:Int)).bind fun w=>
if w then
some (0,0,0,0,0,4)
else
some ((Af k:Int),(Af h:Int),(Af g:Int),(Af f:Int),(Af b:Int),0)
def Agn:=Ahe
def Ahf(j6:UInt64→UInt64→UInt64→UInt64→UInt64→Fs)(a:LB):Fs:=
(Bo a 4 6).bind fun u=>
(Bo a 6 8).bind fun p=>
(Bo a 8 10).bind fun o=>
(Bo a 10 14).bind fun n=>
(Bo a 14 18).bind fun m=>
(
(Cs u).bind fun k=>
(
(Cs p).bind fun h=>
(
(Cs o).bind fun g=>
(
(Cs n).bind fun f=>
(
(Cs m).bind fun b=>
(
j6 k h g f b))))))
def Ahj:=Ahf Agn
def Aha(j5:LB→Fs)(a:LB):Fs:=
if(Bn (Ac a) 22)then
some (0,0,0,0,0,24)
else
(Bo a 18 22).bind fun y=>
(Bo a 0 18).bind fun aa=>
(Cs y).bind fun ab=>
(Sg aa).bind fun ac=>
if(Ay ab (Af ac:UInt64))then
some (0,0,0,0,0,22)
else
j5 a
def Ahk:=Aha Ahj
def Ah7(j4:LB→Fs)(a:LB):Fs:=
(Bo a 0 (Dj 4 (Ac a))).bind fun ad=>
(Bo ([84,84,65,49]:LB) 0 (Dj 4 (Ac a))).bind fun ae=>
if(ad !=ae)then
some (0,0,0,0,0,12)
else
j4 a
def Ka:=Ah7 Ahk
abbrev Qy:=Option (Int×Int×Int×Int×Int×Int×Int)
def Aaa(b:Int)(a:LB):Qy:=
(Ka a).bind fun(k,m,n,o,p,h)=>
if(geq h 24)then
some (0,0,0,0,0,0,(-1:Int))
else
some ((Ad b 22),k,m,n,o,p,h)
def Aa0:=Aaa
def Aa4(j2:Int→LB→Qy)(f:LB):Qy:=
(Ja f).bind fun(b,g)=>
if(geq g 24)then
some (0,0,0,0,0,0,(-1:Int))
else
if(Ay g 0)then
some (0,0,0,0,0,0,g)
else
(Bo f b (Ac f)).bind fun a=>
(Pf a ([73,68,51]:LB)).bind fun u=>
if u then
some (0,0,0,0,0,0,(-1:Int))
else
(Pf a ([65,80,69,84,65,71,69,88]:LB)).bind fun v=>
if v then
some (0,0,0,0,0,0,(-1:Int))
else
j2 b a
def Vo:=Aa4 Aa0
def Agm(a:UInt64)(b:Bool):Option UInt64:=
if b then
some (Sy (Au a 2) 4823603603198064275)
else
some (Au a 2)
def Vg:=Agm
def Ag7(j2:UInt64→Bool→Option UInt64)(a:UInt64)(f:Int):Option UInt64:=
if(geq f 1)then
j2 a (!(Jz a 9223372036854775808))
else
j2 a (Jz a 9223372036854775808)
def Acq:=Ag7 Vg
def Ag1(a:UInt64):Option UInt64:=
some a
def Ah8:=Ag1
def Ut(j6:UInt64→Option UInt64)(bk4:UInt64→Int→Option UInt64)(b:UInt8)(a:UInt64)(f:Int):Option UInt64:=
if(Fi f 0)then
(Hu (Ay f 0)).bind fun _=>
(Acq a (Fc (Bt (Af b:Int) f) 2)).bind fun g=>
bk4 g (Bt f 2)
else
j6 a
def Jl(b:UInt8):Nat→UInt64→Int→Option UInt64
|0,_,_=>none
|q+1,a,f=>Ut Ah8 (Jl b q) b a f
def Axi b:=Jl b FUEL
def Avp(j4:UInt8→UInt64→Int→Option UInt64)(h:UInt64)(b:UInt8):Option UInt64:=
j4 b h 128
def Aot:=Avp Axi
def Ac0(a:UInt64):Option UInt64:=
some a
def Ad4:=Ac0
def Rv(j6:UInt64→Option UInt64)(bk4:UInt64→Int→Option UInt64)(b:LB)(a:UInt64)(f:Int):Option UInt64:=
if(Bn f (Ac b))then
(getI b f).bind fun g=>
(Aot a g).bind fun h=>
bk4 h (Ad f 1)
else
j6 a
def Hc(b:LB):Nat→UInt64→Int→Option UInt64
|0,_,_=>none
|q+1,a,f=>Rv Ad4 (Hc b q) b a f
def Ar3 b:=Hc b FUEL
def As4(j4:LB→UInt64→Int→Option UInt64)(k:UInt64)(b:LB):Option UInt64:=
j4 b k 0
def Xf:=As4 Ar3
def Aov(a:LB):Option UInt64:=
(Xf 0 a).bind fun b=>
some b
def Jo(a:LB):Option (LB):=
(Aov a).bind fun b=>
(Dk b 8).bind fun f=>
some f
abbrev Df:=Option (LI×Int)
def Ag5(f:LI):Df:=
(Iw f).bind fun h=>
if(Ay h 0)then
some (([]:LI),12)
else
some (f,0)
def Ur:=Ag5
def Vr(j8:LI→Df)(bk6:Int→LI→Df)(b:LB)(a g:Int)(f:LI):Df:=
if(Bn g a)then
(Bo b (Au 4 g) (Ad (Au 4 g) 4)).bind fun k=>
(Cs k).bind fun m=>
(Ek f ([(Af m:Int)]:LI)).bind fun n=>
bk6 (Ad g 1) n
else
j8 f
def Jk(b:LB)(a:Int):Nat→Int→LI→Df
|0,_,_=>none
|q+1,g,f=>Vr Ur (Jk b a q) b a g f
def Ah3 b a:=Jk b a FUEL
def Ags(j6:LB→Int→Int→LI→Df)(b:LB)(a:Int):Df:=
j6 b a 0 ([]:LI)
def Ahc:=Ags Ah3
def Ah9(j5:LB→Int→Df)(b:LB)(a:Int):Df:=
if((Bn a 1)||(Fi a 1000))then
some (([]:LI),2)
else
if(Bn (Ac b) (Ad (Au 4 a) 4))then
some (([]:LI),24)
else
(Bo b (Au 4 a) (Ad (Au 4 a) 4)).bind fun o=>
(Bo b 0 (Au 4 a)).bind fun p=>
(Cs o).bind fun u=>
(Sg p).bind fun v=>
if(Ay u (Af v:UInt64))then
some (([]:LI),22)
else
j5 b a
def Nv:=Ah9 Ahc
abbrev Ij:=Option (Int×LI×Int)
def Aca(b g:Int)(h:LI):Ij:=
if(geq g 24)then
some (0,([]:LI),(-1:Int))
else
some ((Ad (Ad b (Au 4 (Ac h))) 4),h,g)
def Adm:=Aca
def Ad8(j4:Int→Int→LI→Ij)(a:LB)(f k m n o b:Int):Ij:=
(Bo a b (Ac a)).bind fun p=>
(Nz f k m n o).bind fun u=>
(Nv p (Ac u)).bind fun(h,g)=>
j4 b g h
def La:=Ad8 Adm
def Acj(j3:LB→Int→Int→Int→Int→Int→Int→Ij)(a:LB)(f k m n o:Int)(v:LB):Ij:=
if(geq f 2)then
if(Bn (Ac a) 8)then
some (0,([]:LI),(-1:Int))
else
(Bo a 0 8).bind fun w=>
(Jo v).bind fun y=>
if(w !=y)then
some (0,([]:LI),26)
else
j3 a f k m n o 8
else
j3 a f k m n o 0
def Aj2:=Acj La
def Aoj(b:UInt64)(a:LB):Option (UInt64×Int):=
if(Fi (Ac a) 100000)then
some (0,4)
else
(Xf b a).bind fun f=>
some (f,0)
def Arp(a:LB):Option (UInt64×Int):=
(Aoj 0 a).bind fun(b,f)=>
some (b,f)
def Ay0(a:LX):Option (LX):=
some a
def Ay1:=Ay0
def Ak0(bk6:UInt64→Int→LX→Option (LX))(b:UInt64)(f:Int)(a:LX)(g:Int32):Option (LX):=
(getI a f).bind fun _=>
(Jj a f g).bind fun h=>
bk6 (Bt b 256) (Ad f 1) h
def Zf bk6:=Ak0 bk6
def Za(j8:UInt64→Int→LX→Int32→Option (LX))(j10:LX→Option (LX))(b:UInt64)(f:Int)(a:LX):Option (LX):=
if(Bn f 8)then
if(Fi (Af (Aa7 b 256):Int32) 127)then
j8 b f a (Aj (Af (Aa7 b 256):Int32) 256)
else
j8 b f a (Af (Aa7 b 256):Int32)
else
j10 a
def It:Nat→UInt64→Int→LX→Option (LX)
|0,_,_,_=>none
|q+1,b,f,a=>Za (Zf (It q)) Ay1 b f a
def Bap:=It FUEL
def Baj(j6:UInt64→Int→LX→Option (LX))(k:UInt64):Option (LX):=
j6 k 0 (List.replicate 16 (0:Int32))
def At5:=Baj Bap
def Jy(a:LB):Option (LX×Int):=
if(Fi (Ac a) 64)then
some (([(0:Int32),(0:Int32),(0:Int32),(0:Int32),(0:Int32),(0:Int32),(0:Int32),(0:Int32),(0:Int32),(0:Int32),(0:Int32),(0:Int32),(0:Int32),(0:Int32),(0:Int32),(0:Int32)]:LX),2)
else
(Arp a).bind fun(b,g)=>
(At5 b).bind fun f=>
some (f,0)
def Xy(b:LB):Option (LB):=
(Sg b).bind fun a=>
(Ek ([]:LB) b).bind fun f=>
(Ek f ([(Af a:UInt8),(Af (Bi a (GI.toZ (8:UInt64)).toNat):UInt8),(Af (Bi a (GI.toZ (16:UInt64)).toNat):UInt8),(Af (Bi a (GI.toZ (24:UInt64)).toNat):UInt8)]:LB)).bind fun g=>
some g
def Pk(a:LB):Option Int:=
if(Bn (Ac a) 5)then
some 24
else
if(Fi (Ac a) 41254)then
some 4
else
(Bo a 0 (Aj (Ac a) 4)).bind fun b=>
(Xy b).bind fun f=>
if(f !=a)then
some 22
else
some 0
def Ma:Option (Int×Int×UInt64×UInt64):=
some (10,10,16384,16384)
def Au2(a:UInt64):Option UInt64:=
some a
def Au9:=Au2
def Tw(j6:UInt64→Option UInt64)(bk4:UInt64→Int→Option UInt64)(b:Int)(a:UInt64)(f:Int):Option UInt64:=
if(Bn f b)then
bk4 (Au a 2) (Ad f 1)
else
j6 a
def Ig(b:Int):Nat→UInt64→Int→Option UInt64
|0,_,_=>none
|q+1,a,f=>Tw Au9 (Ig b q) b a f
def Au8 b:=Ig b FUEL
def Au3(j4:Int→UInt64→Int→Option UInt64)(b:Int):Option UInt64:=
j4 b 1 0
def Et:=Au3 Au8
def Afs(a g:Int)(h k:UInt64)(b:UInt32):Option Bool:=
(Et a).bind fun f=>
some (Bn (Af b:UInt64) f)
def Ad5(a g:Int)(h k:UInt64)(b:UInt32):Option UInt32:=
(Et a).bind fun f=>
some (Af (Aj (Af b:UInt64) f):UInt32)
abbrev Xr:=Option (Int×UInt64)
def Ahr(b:Int)(a f:UInt64):Xr:=
if(Bn b 24)then
(Et (Ad b 5)).bind fun g=>
if(Fi (Aj (Ad a f) (Bt a 16)) g)then
some ((Ad b 1),(Aj (Ad a f) (Bt a 16)))
else
some (b,(Aj (Ad a f) (Bt a 16)))
else
some (b,(Aj (Ad a f) (Bt a 16)))
def We:=Ahr
def Ahw(j2:Int→UInt64→UInt64→Xr)(b:Int)(a f:UInt64):Xr:=
if(Fi b 0)then
(Et (Ad b 4)).bind fun h=>
if(Bn (Aj (Ad a f) (Bt a 16)) h)then
some ((Aj b 1),(Aj (Ad a f) (Bt a 16)))
else
j2 b a f
else
j2 b a f
def Un:=Ahw We
abbrev Tq:=Option (Int×Int×UInt64×UInt64)
def Abv(h:UInt32)(f a:Int)(g b:UInt64)(o:Int)(p:UInt64):Tq:=
(Un f g (Af h:UInt64)).bind fun(aa,ab)=>
some (aa,o,ab,p)
def Rc:=Abv
def Acv(j2:UInt32→Int→Int→UInt64→UInt64→Int→UInt64→Tq)(f a:Int)(g b:UInt64)(h:UInt32):Tq:=
(Afs f a g b h).bind fun u=>
if(!u)then
(
(
(Ad5 f a g b h).bind fun k=>
(Un a b (Af k:UInt64)).bind fun(m,n)=>
j2 h f a g b m n))
else
j2 h f a g b a b
def Xc:=Acv Rc
abbrev Ee:=Option (Int×Int×UInt64×UInt64)
def Ate(a b:Int)(f g:UInt64):Ee:=
some (a,b,f,g)
def Asj:=Ate
def Acf(j6:Int→Int→UInt64→UInt64→Ee)(bk4:Int→Int→Int→UInt64→UInt64→Ee)(h:Int)(k:LU)(m a b:Int)(f g:UInt64):Ee:=
if(Bn m (Ac k))then
(getI k m).bind fun n=>
(Xc a b f g n).bind fun(o,p,u,v)=>
bk4 (Ad m h) o p u v
else
j6 a b f g
def Lm(h:Int)(k:LU):Nat→Int→Int→Int→UInt64→UInt64→Ee
|0,_,_,_,_,_=>none
|q+1,m,a,b,f,g=>Acf Asj (Lm h k q) h k m a b f g
def As8 h k:=Lm h k FUEL
def Ab8(j4:Int→LU→Int→Int→Int→UInt64→UInt64→Ee)(h:Int)(k:LU):Ee:=
(Ma).bind fun(w,y,aa,ab)=>
(Hu (Ay h 0)).bind fun _=>
j4 h k (Fc (Ac k) h) w y aa ab
def Pm:=Ab8 As8
def Al1(a:Int):Option Int:=
some (Fc a 2)
def Alk:=Al1
def Zd(j6:Int→Option Int)(bk4:Int→Int→Option Int)(b a f:Int):Option Int:=
if(Bn f (Fc b 8))then
bk4 (Bt a 2) (Ad f 1)
else
j6 a
def Mk(b:Int):Nat→Int→Int→Option Int
|0,_,_=>none
|q+1,a,f=>Zd Alk (Mk b q) b a f
def Amh b:=Mk b FUEL
def Amw(j4:Int→Int→Int→Option Int)(g:LB)(k b:Int):Option Int:=
(getI g (Bt b 8)).bind fun h=>
j4 b (Af h:Int) 0
def Kg:=Amw Amh
abbrev Dq:=Option (LB×Int)
def Ajz(b g a:Int)(f:LB):Dq:=
(getI f (Bt a 8)).bind fun _=>
(getI f (Bt a 8)).bind fun m=>
(getI f (Bt a 8)).bind fun _=>
(Jj f (Bt a 8) (Ad m (Af (Au b g):UInt8))).bind fun n=>
some (n,(Ad a 1))
def Xx:=Ajz
def Xq(j8:Int→Int→Int→LB→Dq)(bk6:Int→Int→Dq)(b a:Int)(f:LB)(g h:Int):Dq:=
if(Bn h (Fc a 8))then
bk6 (Au g 2) (Ad h 1)
else
j8 b g a f
def Ky(b a:Int)(f:LB):Nat→Int→Int→Dq
|0,_,_=>none
|q+1,g,h=>Xq Xx (Ky b a f q) b a f g h
def Ajq b a f:=Ky b a f FUEL
def Aju(j6:Int→Int→LB→Int→Int→Dq)(b a:Int)(f:LB):Dq:=
j6 b a f 1 0
def Xd:=Aju Ajq
def Ajs(j5:Int→Int→LB→Dq)(k:LB)(a b:Int):Dq:=
if(geq (Fc a 8) 0)then
(Ek k ([(0:UInt8)]:LB)).bind fun o=>
j5 b a o
else
j5 b a k
def Wk:=Ajs Xd
abbrev Dr:=Option (LB×Int)
def Arx(a:Int)(b:LB):Dr:=
some (b,a)
def Aqv:=Arx
def Qq(j6:Int→LB→Dr)(bk4:Int→Int→LB→Dr)(f:Int)(g:LB)(h k a:Int)(b:LB):Dr:=
if(Bn k f)then
(Kg g h k).bind fun m=>
(Wk b a m).bind fun(n,o)=>
bk4 (Ad k 1) o n
else
j6 a b
def Gk(f:Int)(g:LB)(h:Int):Nat→Int→Int→LB→Dr
|0,_,_,_=>none
|q+1,k,a,b=>Qq Aqv (Gk f g h q) f g h k a b
def Ara f g h:=Gk f g h FUEL
def Aqu(j4:Int→LB→Int→Int→Int→LB→Dr)(g:LB)(h p f:Int):Dr:=
j4 f g h p 0 ([]:LB)
def Aho:=Aqu Ara
def Ave(a:UInt64):Option UInt64:=
some a
def Au0:=Ave
def Ub(j6:UInt64→Option UInt64)(bk4:UInt64→Int→Option UInt64)(b:Int)(f:LB)(g:Int)(a:UInt64)(h:Int):Option UInt64:=
if(Jz h 0)then
(Kg f g (Ad b h)).bind fun k=>
bk4 (Ad (Au 2 a) (Af k:UInt64)) (Aj h 1)
else
j6 a
def If(b:Int)(f:LB)(g:Int):Nat→UInt64→Int→Option UInt64
|0,_,_=>none
|q+1,a,h=>Ub Au0 (If b f g q) b f g a h
def Aer b f g:=If b f g FUEL
def Aed(j4:Int→LB→Int→UInt64→Int→Option UInt64)(f:LB)(g b m:Int):Option UInt64:=
j4 b f g 0 (Aj m 1)
def Ra:=Aed Aer
abbrev Gf:=Option (Int×Int)
def Ajp(b a:Int)(g:LB)(f:Int):Gf:=
if(geq a 48)then
some (a,(Ad b a))
else
if(Jz (Ad b a) f)then
some ((-1:Int),0)
else
some (a,(Ad (Ad b a) 1))
def Wy:=Ajp
def Xe(j6:Int→Int→LB→Int→Gf)(bk4:Int→Gf)(b:Int)(g:LB)(f a:Int):Gf:=
if((Bn (Ad b a) f)&&(Bn a 48))then
(Kg g f (Ad b a)).bind fun h=>
if(geq h 1)then
bk4 (Ad a 1)
else
j6 b a g f
else
j6 b a g f
def Kx(b:Int)(g:LB)(f:Int):Nat→Int→Gf
|0,_=>none
|q+1,a=>Xe Wy (Kx b g f q) b g f a
def Ay4 b g f:=Kx b g f FUEL
def Ay6(j4:Int→LB→Int→Int→Gf)(g:LB)(f b:Int):Gf:=
j4 b g f 0
def Aqz:=Ay6 Ay4
def Ad9(b:UInt32)(f:Int):Option Int:=
(Et f).bind fun a=>
(Hu (Ay a 0)).bind fun _=>
some (Af (Dj 48 (Bt (Af b:UInt64) a)):Int)
abbrev Zc:=Option (UInt32×Int×Int)
def Xb(g a b:Int)(h:LB)(f k:Int):Zc:=
if((Bn a 0)||(Bn (Aj f b) k))then
some (0,0,24)
else
(Ra h f b k).bind fun m=>
if(Bn a 48)then
(Et g).bind fun o=>
some ((Af (Ad (Au (Af a:UInt64) o) m):UInt32),(Ad b k),0)
else
(Ad9 (Af m:UInt32) g).bind fun p=>
if(Bn p a)then
some (0,0,12)
else
some ((Af m:UInt32),(Ad b k),0)
def Xo:=Xb
def Ajl(j2:Int→Int→Int→LB→Int→Int→Zc)(h:LB)(f n g:Int):Zc:=
if(Jz n f)then
some (0,0,24)
else
(Aqz h f n).bind fun(a,b)=>
if(geq a 48)then
j2 g a b h f 32
else
j2 g a b h f g
def Afv:=Ajl Xo
def Af2(g:LB)(b a f n:Int)(v w:UInt64):Option (UInt32×Int×Int):=
if(Jz a b)then
some (0,0,24)
else
(Kg g b a).bind fun o=>
if(geq o 0)then
if(Bn (Aj (Aj b a) 1) f)then
some (0,0,24)
else
(Ra g b (Ad a 1) f).bind fun p=>
some ((Af p:UInt32),(Ad (Ad a 1) f),0)
else
(Afv g b (Ad a 1) n).bind fun(h,u,k)=>
if(Ay k 0)then
some (0,0,k)
else
(Et f).bind fun m=>
if(Fi (Ad (Af h:UInt64) m) 4294967295)then
some (0,0,12)
else
some ((Af (Ad (Af h:UInt64) m):UInt32),u,0)
abbrev Bd:=Option (LU×Int)
def Avd(b:LU):Bd:=
some (b,0)
def Au6:=Avd
def Ud(j18:LU→Bd)(bk16:Int→Bd)(a:LB)(b:LU)(m:Int):Bd:=
if(Bn m (Au 8 (Ac a)))then
(Kg a (Au 8 (Ac a)) m).bind fun n=>
if(Ay n 0)then
some (b,12)
else
bk16 (Ad m 1)
else
j18 b
def Io(a:LB)(b:LU):Nat→Int→Bd
|0,_=>none
|q+1,m=>Ud Au6 (Io a b q) a b m
def Aet a b:=Io a b FUEL
def Aev(j16:LB→LU→Int→Bd)(f:Int)(a:LB)(b:LU):Bd:=
if(Fi (Aj (Au 8 (Ac a)) f) 7)then
some (b,12)
else
j16 a b f
def Tr:=Aev Aet
def Ael(bk10:Int→Int→LU→Bd)(g h:Int)(a:LB)(f k:Int)(b:LU)(o p:Int)(u v:UInt64):Bd:=
(Aho a (Au 8 (Ac a)) f (Dj (Ad f 81) (Au 8 (Ac a)))).bind fun(y,aa)=>
(Af2 y aa 0 o p u v).bind fun(ab,ac,w)=>
if(Ay w 0)then
some (b,w)
else
(Ek b ([ab]:LU)).bind fun ad=>
bk10 (Ad f ac) (Ad k 1) ad
def Il bk10:=Ael bk10
def Afb(j13:Int→Int→LU→Int→Int→UInt64→UInt64→Bd)(j15:Int→LB→LU→Bd)(g h:Int)(a:LB)(f k:Int)(b:LU):Bd:=
if(Bn k (Au h g))then
(Ma).bind fun(n,ae,af,ag)=>
if(Jz k g)then
(Pm g b).bind fun(ah,ai,aj,ak)=>
j13 f k b ah ai aj ak
else
j13 f k b n ae af ag
else
j15 f a b
def Ec(g h:Int)(a:LB):Nat→Int→Int→LU→Bd
|0,_,_,_=>none
|q+1,f,k,b=>Afb (Il (Ec g h a q) g h a) Tr g h a f k b
def Avb g h a:=Ec g h a FUEL
def Aia(j10:Int→Int→LB→Int→Int→LU→Bd)(g h:Int)(a:LB):Bd:=
j10 g h a 0 0 ([]:LU)
def Adv:=Aia Avb
def Bao(a:Int):Option (Int×Int):=
if(geq a 8)then
some (4,0)
else
if((geq a 16)||(geq a 24))then
some (5,0)
else
some (0,2)
def Bd0(a:Int)(b:LX):Option (Int×LX×LX×Int):=
(Bao a).bind fun(g,f)=>
if(Ay f 0)then
some (0,(List.replicate 16 (0:Int32)),(List.replicate 16 (0:Int32)),2)
else
if(geq a 16)then
some (9,b,(List.replicate 16 (0:Int32)),0)
else
some (10,b,(List.replicate 16 (0:Int32)),0)
def Art(a:Int)(b:LX):Option (Int×Int32×Int×LX×LX×Int):=
(Bd0 a b).bind fun(f,g,h,k)=>
if(Ay k 0)then
some (0,0,0,(List.replicate 16 (0:Int32)),(List.replicate 16 (0:Int32)),2)
else
some (a,0,f,g,h,0)
def Adn(a:UInt32):Option Int32:=
if(geq (Aa7 a 2) 0)then
some (Af (Bt a 2):Int32)
else
some (Af (Bt (Bce (Ad (Af a:Int) 1)) 2):Int32)
def Ca(a:Int):Option Int32:=
some (Af (Af (Af a:UInt64):UInt32):Int32)
def Ajk(a:Int):Option Int32:=
some (Af a:Int32)
def Ajw:=Ajk
def Xw(j6:Int→Option Int32)(bk4:Int→Int→Option Int32)(h:Int)(f g:LX)(a b:Int):Option Int32:=
if(Bn b 16)then
(getI f b).bind fun _=>
(getI g b).bind fun _=>
(getI f b).bind fun k=>
(getI g b).bind fun m=>
(Ca (Au (Af k:Int) (Af m:Int))).bind fun n=>
(Ca (Ad a (Af n:Int))).bind fun o=>
bk4 (Af o:Int) (Ad b 1)
else
j6 a
def Kv(h:Int)(f g:LX):Nat→Int→Int→Option Int32
|0,_,_=>none
|q+1,a,b=>Xw Ajw (Kv h f g q) h f g a b
def Ayv h f g:=Kv h f g FUEL
def Ayw(j4:Int→LX→LX→Int→Int→Option Int32)(h:Int)(f g:LX):Option Int32:=
j4 h f g 0 0
def Aqs:=Ayw Ayv
def Agz(b:Int)(f g:LX)(a:Int):Option Int32:=
(Aqs b f g).bind fun k=>
(Ca (Ad (Af k:Int) (Bt a 2))).bind fun h=>
(Hu (Ay a 0)).bind fun _=>
(Hu (Ay a 0)).bind fun _=>
if(Bn (Fc (Af h:Int) a) 0)then
some (Af (Aj (Bt (Af h:Int) a) 1):Int32)
else
some (Af (Bt (Af h:Int) a):Int32)
def Wc:=Agz
def Ahh(j2:Int→LX→LX→Int→Option Int32)(b:Int)(f g:LX):Option Int32:=
if(geq b 9)then
j2 b f g 512
else
j2 b f g 1024
def Ad2:=Ahh Wc
def Acr(a:Int):Option Int32:=
if(geq a 0)then
some 4
else
if(gle a 3)then
some 2
else
some 1
def Uh(a:Int32):Option Int32:=
if(Bn a 0)then
some (-1:Int32)
else
if(Fi a 0)then
some 1
else
some 0
abbrev Dn:=Option (Int×LX×LX)
def Arj(g:Int)(b a:LX):Dn:=
some (g,b,a)
def Arq:=Arj
def Qk(j6:Int→LX→LX→Dn)(bk4:Int→LX→Dn)(h:Int32)(g:Int)(a:LX)(f:Int)(b:LX):Dn:=
if(Bn f 16)then
(getI b f).bind fun _=>
(getI a f).bind fun _=>
(getI b f).bind fun k=>
(getI a f).bind fun m=>
(Acr f).bind fun n=>
(Uh m).bind fun o=>
(Uh h).bind fun p=>
(getI b f).bind fun _=>
(Jj b f (Ad k (Au (Au n o) p))).bind fun u=>
bk4 (Ad f 1) u
else
j6 g b a
def Gn(h:Int32)(g:Int)(a:LX):Nat→Int→LX→Dn
|0,_,_=>none
|q+1,f,b=>Qk Arq (Gn h g a q) h g a f b
def Ard h g a:=Gn h g a FUEL
def Aq7(j4:Int32→Int→LX→Int→LX→Dn)(g:Int)(v a:LX)(h:Int32):Dn:=
j4 h g a 0 v
def Agt:=Aq7 Ard
abbrev Ed:=Option (Int×LX×LX)
def Ac3(b:Int32)(f:Int)(g a:LX):Ed:=
(getI a 0).bind fun _=>
(Jj a 0 b).bind fun k=>
some (f,g,k)
def Ad6:=Ac3
def Rk(j6:Int32→Int→LX→LX→Ed)(bk4:Int→LX→Ed)(b:Int32)(f:Int)(g:LX)(h:Int)(a:LX):Ed:=
if(Fi h 0)then
(getI a (Aj h 1)).bind fun _=>
(getI a (Aj h 1)).bind fun m=>
(getI a h).bind fun _=>
(Jj a h m).bind fun n=>
bk4 (Aj h 1) n
else
j6 b f g a
def Hi(b:Int32)(f:Int)(g:LX):Nat→Int→LX→Ed
|0,_,_=>none
|q+1,h,a=>Rk Ad6 (Hi b f g q) b f g h a
def Ar5 b f g:=Hi b f g FUEL
def Atl(j4:Int32→Int→LX→Int→LX→Ed)(f:Int)(g o:LX)(b:Int32):Ed:=
j4 b f g 15 o
def Ajr:=Atl Ar5
def Vi(a:Int)(b f:LX)(g:Int32):Option (Int32×Int×LX×LX):=
(Ad2 a b f).bind fun k=>
(Ca (Ad (Af g:Int) (Af k:Int))).bind fun h=>
(Agt a b f g).bind fun(m,n,o)=>
(Ajr m n o h).bind fun(p,u,v)=>
some (h,p,u,v)
def Acp(b:Int32)(a:Int):Option Int32:=
(Hu (Ay a 0)).bind fun _=>
(Hu (Ay a 0)).bind fun _=>
if(Bn (Fc (Au (Aj a 1) (Af b:Int)) a) 0)then
some (Af (Aj (Bt (Au (Aj a 1) (Af b:Int)) a) 1):Int32)
else
some (Af (Bt (Au (Aj a 1) (Af b:Int)) a):Int32)
def Rt:=Acp
def Adp(j2:Int32→Int→Option Int32)(f:Int)(b:Int32):Option Int32:=
if(geq f 5)then
j2 b 32
else
j2 b 16
def Pe:=Adp Rt
def Xj(b:Int)(a:Int32)(h:Int)(k m:LX):Option Int:=
if(geq b 8)then
(Pe 4 a).bind fun f=>
some (Af f:Int)
else
(Pe 5 a).bind fun g=>
some (Af g:Int)
def Va(a:Int)(k:Int32)(b:Int)(f g:LX)(m:Int32):Option (Int32×Int×Int32×Int×LX×LX):=
(Vi b f g m).bind fun(n,o,p,u)=>
(Xj a k b f g).bind fun v=>
(Ca (Ad (Af n:Int) v)).bind fun h=>
some (h,a,h,o,p,u)
def Ru(a:Int)(b:LX):Option Int:=
if((Bn a 1)||(Fi a 6))then
some 2
else
if(Fi (Ac b) 4000)then
some 4
else
(Hu (Ay a 0)).bind fun _=>
if(Fi (Fc (Ac b) a) 0)then
some 2
else
some 0
def Aq2(b:LX):Option (LX):=
some b
def Aqn:=Aq2
def Qi(j8:LX→Option (LX))(bk6:Int→LX→Option (LX))(a:LX)(f:Int)(b:LX):Option (LX):=
if(Jz f 0)then
(getI b (Ad f 1)).bind fun _=>
(getI a f).bind fun m=>
(getI b (Ad f 1)).bind fun n=>
(Ca (Aj (Af n:Int) (Af m:Int))).bind fun o=>
(getI b f).bind fun _=>
(Jj b f o).bind fun p=>
bk6 (Aj f 1) p
else
j8 b
def Gl(a:LX):Nat→Int→LX→Option (LX)
|0,_,_=>none
|q+1,f,b=>Qi Aqn (Gl a q) a f b
def Arv a:=Gl a FUEL
def Aay(j6:LX→Int→LX→Option (LX))(a g:LX):Option (LX):=
j6 a (Aj (Ac a) 2) g
def Qf:=Aay Arv
def Aa2(j5:LX→LX→Option (LX))(a:LX):Option (LX):=
(mkI (Ac a) (0:Int32)).bind fun k=>
(Hu (geq (Ac a) (Ac a))).bind fun _=>
(getI a (Aj (Ac a) 1)).bind fun u=>
(getI k (Aj (Ac a) 1)).bind fun _=>
(Jj k (Aj (Ac a) 1) u).bind fun h=>
if(Fi (Ac a) 1)then
(getI a (Aj (Ac a) 1)).bind fun v=>
(getI a (Aj (Ac a) 2)).bind fun w=>
(Ca (Ad (Af v:Int) (Bt (Af w:Int) 2))).bind fun y=>
(getI h (Aj (Ac a) 1)).bind fun _=>
(Jj h (Aj (Ac a) 1) y).bind fun aa=>
j5 a aa
else
j5 a h
def Uy:=Aa2 Qf
abbrev Fp:=Option (LX×Int)
def Axn(f:LX):Fp:=
some (f,0)
def Axh:=Axn
def Ag8(j6:LX→Fp)(bk4:Int→LX→Fp)(a:Int)(b:LX)(g:Int)(f:LX):Fp:=
if(Bn g (Ac b))then
(Bo b g (Ad g a)).bind fun h=>
(Uy h).bind fun k=>
(Ek f k).bind fun m=>
bk4 (Ad g a) m
else
j6 f
def Oa(a:Int)(b:LX):Nat→Int→LX→Fp
|0,_,_=>none
|q+1,g,f=>Ag8 Axh (Oa a b q) a b g f
def Aw0 a b:=Oa a b FUEL
def Ahg(j4:Int→LX→Int→LX→Fp)(a:Int)(b:LX):Fp:=
(Ru a b).bind fun n=>
if(Ay n 0)then
(Ru a b).bind fun o=>
some (([]:LX),o)
else
j4 a b 0 ([]:LX)
def Abd:=Ahg Aw0
def Aau(a f:Int)(w:LX):Option (LX):=
(Abd a w).bind fun(aj,ai)=>
some aj
def Qb:=Aau
def Aaz(bk18:Int→LX→Option (LX))(b:LU)(a f:Int)(g:LX)(h:Int)(m:LX):Option (LX):=
bk18 (Ad h 1) m
def Zz bk18:=Aaz bk18
def Aab(bk26:Int→LX→Int→Int32→Int→LX→LX→Option (LX))(b:LU)(h a f:Int)(g:LX)(k:Int)(af:LX)(y:Int)(aa:Int32)(ab:Int)(ac ad:LX):Option (LX):=
bk26 (Ad k a) af y aa ab ac ad
def Aaj bk26:=Aab bk26
def Aax(j30:Int→LX→Int→Int32→Int→LX→LX→Option (LX))(b:LU)(h a f:Int)(g:LX)(k:Int)(ae:Int32)(m:LX)(n:Int)(o:Int32)(p:Int)(u v:LX)(y:Int)(aa:Int32)(ab:Int)(ac ad:LX):Option (LX):=
(getI m k).bind fun _=>
(Jj m k ae).bind fun af=>
j30 k af y aa ab ac ad
def Aae bk26 b h a f g:=Aax (Aaj bk26 b h a f g) b h a f g
def Aa6(j29:Int→Int32→LX→Int→Int32→Int→LX→LX→Int→Int32→Int→LX→LX→Option (LX))(j32:Int→LX→Option (LX))(b:LU)(a f:Int)(g:LX)(h k:Int)(m:LX)(n:Int)(o:Int32)(p:Int)(u v:LX):Option (LX):=
if(Bn k (Ac b))then
(getI b k).bind fun ah=>
(
(Adn ah).bind fun ag=>
(
(Va n o p u v ag).bind fun(ae,y,aa,ab,ac,ad)=>
j29 k ae m n o p u v y aa ab ac ad))
else
j32 h m
def Kc(bk18:Int→LX→Option (LX))(b:LU)(a f:Int)(g:LX)(h:Int):Nat→Int→LX→Int→Int32→Int→LX→LX→Option (LX)
|0,_,_,_,_,_,_,_=>none
|q+1,k,m,n,o,p,u,v=>Aa6 (Aae (Kc bk18 b a f g h q) b h a f g) (Zz bk18 b a f g) b a f g h k m n o p u v
def Aaf bk18 b a f g h:=Kc bk18 b a f g h FUEL
def Qr(j26:Int→Int→LX→Int→Int32→Int→LX→LX→Option (LX))(j34:Int→Int→LX→Option (LX))(b:LU)(a f:Int)(g:LX)(h:Int)(w:LX):Option (LX):=
if(Bn h a)then
(Art f g).bind fun(ak,ai,al,am,an,aq)=>
j26 h h w ak ai al am an
else
j34 a f w
def En(b:LU)(a f:Int)(g:LX):Nat→Int→LX→Option (LX)
|0,_,_=>none
|q+1,h,w=>Qr (Aaf (En b a f g q) b a f g) Qb b a f g h w
def Aan b a f g:=En b a f g FUEL
def Adh(j18:LU→Int→Int→LX→Int→LX→Option (LX))(a f:Int)(g:LX)(b:LU):Option (LX):=
(mkI (Ac b) (0:Int32)).bind fun ao=>
(Hu (geq (Ac b) (Ac b))).bind fun _=>
j18 b a f g 0 ao
def Ph:=Adh Aan
def Pg(g f:Int)(a:LX):Option (LX×Int):=
(cadenzaref18_Check f a).bind fun b=>
if(Ay b 0)then
some (([]:LX),b)
else
some (a,0)
abbrev Tx:=Option (LX×Int)
def Lo(f a b:Int)(g:LX)(h:LU):Tx:=
if(Ay f 0)then
some (([]:LX),f)
else
(
(
(Ph a b g h).bind fun m=>
(Pg a b m).bind fun(n,o)=>
some (n,o)))
def Lc:=Lo
def Lj(j2:Int→Int→Int→LX→LU→Tx)(a b:Int)(g:LX)(p:Int)(k:LB):Tx:=
(Ck a b p).bind fun y=>
if(Ay y 0)then
some (([]:LX),2)
else
(Pk k).bind fun aa=>
if(Ay aa 0)then
(Pk k).bind fun ab=>
some (([]:LX),ab)
else
(Bo k 0 (Aj (Ac k) 4)).bind fun ac=>
(Adv a p ac).bind fun(h,f)=>
j2 f a b g h
def cadenzaref21_Decode:=Lj Lc
def Xs(a b:Int):Option (LB):=
if(geq a 24)then
(Ek ([(Af (Fc b 256):UInt8),(Af (Fc (Bt b 256) 256):UInt8)]:LB) ([(Af (Bt b 65536):UInt8)]:LB)).bind fun g=>
some g
else
some ([(Af (Fc b 256):UInt8),(Af (Fc (Bt b 256) 256):UInt8)]:LB)
def Kw:=Xs
def Aj1(j2:Int→Int→Option (LB))(a:Int)(f:Int32):Option (LB):=
if(geq a 8)then
some ([(Af (Ad (Af f:Int) 128):UInt8)]:LB)
else
if(Bn (Af f:Int) 0)then
(Hm a).bind fun h=>
j2 a (Ad (Af f:Int) (Au 2 h))
else
j2 a (Af f:Int)
def Aff:=Aj1 Kw
abbrev Eu:=Option (LB×Int)
def Avc(b:LB):Eu:=
some (b,0)
def Au7:=Avc
def Tn(j6:LB→Eu)(bk4:Int→LB→Eu)(f:Int)(a:LX)(g:Int)(b:LB):Eu:=
if(Bn g (Ac a))then
(getI a g).bind fun h=>
(Aff f h).bind fun k=>
(Ek b k).bind fun m=>
bk4 (Ad g 1) m
else
j6 b
def Ik(f:Int)(a:LX):Nat→Int→LB→Eu
|0,_,_=>none
|q+1,g,b=>Tn Au7 (Ik f a q) f a g b
def Auw f a:=Ik f a FUEL
def Aei(j4:Int→LX→Int→LB→Eu)(f:Int)(a:LX):Eu:=
(cadenzaref18_Check f a).bind fun n=>
if(Ay n 0)then
(cadenzaref18_Check f a).bind fun o=>
some (([]:LB),o)
else
j4 f a 0 ([]:LB)
def Rr:=Aei Auw
abbrev Ty:=Option (LB×Int)
def Ato(o:LX)(f:Int)(p g:LB)(h k a m n:Int)(u:LI)(b:Int)(v:LB)(w:Bool)(y:Int):Ty:=
if(Ay f 0)then
some (([]:LB),f)
else
(Rr a o).bind fun(ac,ai)=>
some (ac,0)
def Asd:=Ato
def Atz(j2:LX→Int→LB→LB→Int→Int→Int→Int→Int→LI→Int→LB→Bool→Int→Ty)(p g:LB)(h k a m n:Int)(u:LI)(b:Int)(v:LB)(w:Bool)(y:Int):Ty:=
(getI u b).bind fun aa=>
if(Bn (Ac g) aa)then
some (([]:LB),(-1:Int))
else
(Jy p).bind fun(ad,aj)=>
(Bo g 0 aa).bind fun ae=>
(Bax h k a m n).bind fun(af,ag)=>
(Nz h k a m n).bind fun ab=>
(getI ab b).bind fun _=>
(getI ab b).bind fun ah=>
(cadenzaref21_Decode af ag ad ah ae).bind fun(o,f)=>
j2 o f p g h k a m n u b v w y
def Ayz:=Atz Asd
abbrev Kt:=Option (LB×LB×Int×Int×Int×Int×Int×LI×Int×LB×Bool×Int×Int)
def Ah1(g a:LB)(m o p u v:Int)(b:LI)(f:Int)(n:LB)(h:Bool)(k:Int):Kt:=
if(geq (Ac b) 0)then
(Aj2 a m o p u v g).bind fun(ag,ak,w)=>
if(Ay w 0)then
some (g,a,m,o,p,u,v,b,f,n,h,k,w)
else
(Bo a ag (Ac a)).bind fun al=>
some (g,al,m,o,p,u,v,ak,f,n,h,k,0)
else
if(geq f (Ac b))then
if(Fi (Ac a) 4000)then
some (g,a,m,o,p,u,v,b,f,n,h,k,38)
else
some (g,a,m,o,p,u,v,b,f,n,h,k,(-1:Int))
else
(Ayz g a m o p u v b f n h k).bind fun(am,y)=>
if(Ay y 0)then
some (g,a,m,o,p,u,v,b,f,n,h,k,y)
else
(Ek ([]:LB) n).bind fun an=>
(Ek an am).bind fun ah=>
(
(
(
(getI b f).bind fun ad=>
(
(Bo a ad (Ac a)).bind fun ae=>
some (g,ae,m,o,p,u,v,b,(Ad f 1),ah,h,k,0)))))
def Ahn:=Ah1
def Ah5(g af:LB)(aa w ab ac y:Int)(b:LI)(f:Int)(n:LB)(h:Bool)(k:Int):Kt:=
(Alm aa w ab ac y g).bind fun aw=>
some (g,af,aa,w,ab,ac,y,b,f,n,h,k,aw)
def Aie:=Ah5
def Oc(j3:LB→LB→Int→Int→Int→Int→Int→LI→Int→LB→Bool→Int→Kt)(j4:LB→LB→Int→Int→Int→Int→Int→LI→Int→LB→Bool→Int→Kt)(g a:LB)(m o p u v:Int)(b:LI)(f:Int)(n:LB)(h:Bool)(k:Int):Kt:=
if(geq m 0)then
(Vo a).bind fun(ag,aa,w,ab,ac,y,ai)=>
if(Ay ai 0)then
some (g,a,m,o,p,u,v,b,f,n,h,k,ai)
else
(
(Bo a ag (Ac a)).bind fun af=>
(
j3 g af aa w ab ac y b f n h k))
else
j4 g a m o p u v b f n h k
def cadenzaref37_take:=Oc Aie Ahn
abbrev Xk:=Option (LB×LB×Int×Int×Int×Int×Int×LI×Int×LB×Bool×Int)
def Ah4(f:LB)(g h k m n:Int)(o:LI)(p:Int)(u:Bool)(v:Int)(a b:LB):Xk:=
(Ek ([]:LI) o).bind fun af=>
some (f,a,g,h,k,m,n,af,p,b,u,v)
def Ago:=Ah4
def Ag0(j2:LB→Int→Int→Int→Int→Int→LI→Int→Bool→Int→LB→LB→Xk)(f w:LB)(g h k m n:Int)(o:LI)(p:Int)(y:LB)(u:Bool)(v:Int):Xk:=
(
(
(
(Ek ([]:LB) w).bind fun a=>
(
(Ek ([]:LB) y).bind fun b=>
j2 f g h k m n o p u v a b))))
def Acu:=Ag0 Ago
def Bn3(b g:LB)(h k m n o:Int)(p:LI)(u:Int)(f:LB)(v:Bool)(w a:Int):Option (LB×LB×Int×Int×Int×Int×Int×LI×Int×LB×Bool×Int×Int):=
some (b,([]:LB),0,0,0,0,0,([]:LI),0,f,false,a,a)
abbrev Lw:=Option (LB×LB×Int×Int×Int×Int×Int×LI×Int×LB×Bool×Int×Int)
def Bd5(bk37:LB→Int→Int→Int→Int→Int→Int→LI→LB→Lw)(a:LB)(b:Bool)(f:Int)(ar:LB)(au av aw ax ay az:Int)(bh:Bool)(be:Int)(ba:LI)(bb:LB):Lw:=
if bh then
(Bom a ar au av aw ax ay ba az bb b f).bind fun(fh,fi,fj,bc,bi,ai,fk,fl,fm,fn,fo,aj)=>
some (fh,fi,fj,bc,bi,ai,fk,fl,fm,fn,fo,aj,0)
else
if(Ay be 0)then
(Bn3 a ar au av aw ax ay ba az bb b f be).bind fun(fp,fq,fs,ft,fu,fv,fw,fx,fy,fz,ga,gb,gc)=>
some (fp,fq,fs,ft,fu,fv,fw,fx,fy,fz,ga,gb,gc)
else
bk37 ar au av aw ax ay az ba bb
def Wr bk37:=Bd5 bk37
def Beo(j71:LB→Int→Int→Int→Int→Int→Int→Bool→Int→LI→LB→Lw)(a:LB)(b:Bool)(f m p o u v h:Int)(n:LB)(bs:Bool)(bt:Int)(bu:LB)(bv:LI):Lw:=
j71 bu m p o u v h bs bt bv n
def Bea bk37 a b f:=Beo (Wr bk37 a b f) a b f
def Bdw(j71:LB→Int→Int→Int→Int→Int→Int→Bool→Int→LI→LB→Lw)(a:LB)(b:Bool)(f m p o u v:Int)(k:LI)(bx:Bool)(bz:Int)(da:LB)(db:Int)(dc:LB):Lw:=
j71 da m p o u v db bx bz k dc
def Bdm bk37 a b f:=Bdw (Wr bk37 a b f) a b f
def Aos(a m:LB)(n o p u v:Int)(w:LI)(y:Int)(b:LB)(aa:Bool)(ab:Int):Option (LB×LB×Int×Int×Int×Int×Int×LI×Int×LB×Bool×Int):=
(
(
(Ek ([]:LB) b).bind fun f=>
some (a,([]:LB),0,0,0,0,0,([]:LI),0,f,false,0)))
def Xg(b f:LB)(g h k m n:Int)(o:LI)(p:Int)(u:LB)(v:Bool)(w a:Int):Option (LB×LB×Int×Int×Int×Int×Int×LI×Int×LB×Bool×Int×Int):=
(Aos b f g h k m n o p u v w).bind fun(y,aa,ab,ac,ad,ae,af,ag,ah,ai,aj,ak)=>
some (y,aa,ab,ac,ad,ae,af,ag,ah,ai,aj,a,a)
abbrev Xp:=Option (LB×LB×Int×Int×Int×Int×Int×LI×Int×LB×Bool×Int×Int)
def Od(bk3:LB→LB→Int→Int→Int→Int→Int→LI→Int→LB→Bool→Int→Xp)(a b:LB)(f g h k m:Int)(n:LI)(o:Int)(p:LB)(u:Bool)(v:Int):Xp:=
(cadenzaref37_take a b f g h k m n o p u v).bind fun(bb,bc,bd,be,bf,bg,bh,bi,bj,bk,bl,bm,w)=>
if(geq w (-1:Int))then
(Acu a b f g h k m n o p u v).bind fun(bn,bp,bq,br,bs,bt,bu,bv,bw,bx,bz,da)=>
some (bn,bp,bq,br,bs,bt,bu,bv,bw,bx,bz,da,0)
else
if(Ay w 0)then
(Xg a b f g h k m n o p u v w).bind fun(db,dc,dd,de,df,dg,dh,di,dj,dk,dl,dm,dn)=>
some (db,dc,dd,de,df,dg,dh,di,dj,dk,dl,dm,dn)
else
bk3 bb bc bd be bf bg bh bi bj bk bl bm
def Jn:Nat→LB→LB→Int→Int→Int→Int→Int→LI→Int→LB→Bool→Int→Xp
|0,_,_,_,_,_,_,_,_,_,_,_,_=>none
|q+1,a,b,f,g,h,k,m,n,o,p,u,v=>Od (Jn q) a b f g h k m n o p u v
abbrev Fq:=Option (Int×Int)
def Uv(a:LB)(f g:Int)(b h:LB)(k:Int):Fq:=
if(Bn (Ac a) k)then
some (0,24)
else
if(b==h)then
(Bo a (Aj (Ac a) k) (Ad (Aj (Ac a) k) 32)).bind fun o=>
(Ug f g).bind fun p=>
if(o !=p)then
some (0,12)
else
some (k,0)
else
some (k,0)
def Vw:=Uv
def Vm(j6:LB→Int→Int→LB→LB→Int→Fq)(a:LB)(f g:Int)(b h:LB):Fq:=
if(b==h)then
j6 a f g b h (Ad (Ad 32 f) 32)
else
j6 a f g b h (Ad 32 f)
def Us:=Vm Vw
def Agy(j5:LB→Int→Int→LB→LB→Fq)(a:LB):Fq:=
(Bo a (Aj (Ac a) 32) (Ac a)).bind fun b=>
(Uk b).bind fun(f,g,n)=>
if(!n)then
some (0,12)
else
(Kb f g true).bind fun h=>
(
if(!(b==h))then
(Kb f g false).bind fun m=>
if(b !=m)then
some (0,12)
else
j5 a f g b h
else
j5 a f g b h)
def Ah6:=Agy Us
def Ahv(j4:LB→Fq)(a:LB):Fq:=
if(Bn (Ac a) 32)then
some (0,6)
else
(Bo a (Aj (Ac a) 32) (Ad (Aj (Ac a) 32) 8)).bind fun u=>
if(u !=([65,80,69,84,65,71,69,88]:LB))then
some (0,6)
else
j4 a
def Abo:=Ahv Ah6
abbrev Ei:=Option (Int×Int)
def Asa(a:Int):Ei:=
some (a,0)
def Ath:=Asa
def Ad0(j6:Int→Ei)(bk4:LB→Int→Ei)(b:LB)(a:Int):Ei:=
if(Fi (Ac b) 0)then
(Abo b).bind fun(g,h)=>
if(Ay h 0)then
some (0,38)
else
(Bo b 0 (Aj (Ac b) g)).bind fun k=>
bk4 k (Ad a 1)
else
j6 a
def Ln:Nat→LB→Int→Ei
|0,_,_=>none
|q+1,b,a=>Ad0 Ath (Ln q) b a
def Asv:=Ln FUEL
def Adi(j4:LB→Int→Ei)(f:LB):Ei:=
if(Fi (Ac f) 4000)then
some (0,38)
else
j4 f 0
def Pj:=Adi Asv
def Hr(p a:LB)(g u v w y:Int)(b:LI)(h:Int)(aa:LB)(ab:Bool)(ac:Int):Option Int:=
if(geq g 0)then
(Ja a).bind fun(k,f)=>
if(Ay f 0)then
some f
else
(Bo a k (Ac a)).bind fun m=>
(Ka m).bind fun(ad,ae,af,ag,ah,n)=>
some n
else
if((geq (Ac b) 0)||(Bn h (Ac b)))then
some 24
else
(Pj a).bind fun(ai,o)=>
if(Ay o 0)then
some 38
else
some 0
abbrev Ii:=Option (Int×Int×Int×Int×Int×Int×LI×Int)
def Adx(m n b h k f g:Int)(o:LI):Ii:=
if(Ay n 0)then
some (0,0,0,0,0,0,([]:LI),n)
else
some (b,h,k,f,g,(Ad (Ad m (Au 4 (Ac o))) 4),o,0)
def Ac7:=Adx
def Aco(j4:Int→Int→Int→Int→Int→Int→Int→LI→Ii)(a:LB)(b h k f g m:Int):Ii:=
(Bo a m (Ac a)).bind fun y=>
(Cz f g).bind fun aa=>
(Nv y (Ac aa)).bind fun(o,n)=>
j4 m n b h k f g o
def Lp:=Aco Ac7
def Rs(j3:LB→Int→Int→Int→Int→Int→Int→Ii)(a u:LB):Ii:=
if(Fi (Ac a) 100000)then
some (0,0,0,0,0,0,([]:LI),4)
else
(Ja a).bind fun(p,v)=>
if(Ay v 0)then
some (0,0,0,0,0,0,([]:LI),v)
else
(Bo a p (Ac a)).bind fun ab=>
(Ka ab).bind fun(b,h,k,f,g,w)=>
if(Ay w 0)then
some (0,0,0,0,0,0,([]:LI),w)
else
if((u==([]:LB)) !=(geq b 1))then
some (0,0,0,0,0,0,([]:LI),26)
else
if(geq b 2)then
if(Bn (Aj (Ac a) (Ad p 22)) 8)then
some (0,0,0,0,0,0,([]:LI),24)
else
(Bo a (Ad p 22) (Ad (Ad p 22) 8)).bind fun ac=>
(Jo u).bind fun ad=>
if(ac !=ad)then
some (0,0,0,0,0,0,([]:LI),26)
else
j3 a b h k f g (Ad (Ad p 22) 8)
else
j3 a b h k f g (Ad p 22)
def cadenzaref40_Opened:=Rs Lp
def Avg(a:Int):Option Int:=
some a
def Auy:=Avg
def Tu(j6:Int→Option Int)(bk4:Int→Int→Option Int)(b h k m n o f:Int)(g:LI)(a p:Int):Option Int:=
if(Bn p b)then
(getI g p).bind fun u=>
bk4 (Ad a u) (Ad p 1)
else
j6 a
def Hz(b h k m n o f:Int)(g:LI):Nat→Int→Int→Option Int
|0,_,_=>none
|q+1,a,p=>Tu Auy (Hz b h k m n o f g q) b h k m n o f g a p
def Au5 b h k m n o f g:=Hz b h k m n o f g FUEL
def Au4(j4:Int→Int→Int→Int→Int→Int→Int→LI→Int→Int→Option Int)(h k m n o f:Int)(g:LI)(b:Int):Option Int:=
j4 b h k m n o f g f 0
def Ala:=Au4 Au5
abbrev Zv:=Option (LB×Int)
def Xn(p:LX)(m n g b h k o:Int)(a:LI):Zv:=
if(Ay m 0)then
some (([]:LB),m)
else
(Rr b p).bind fun(af,ai)=>
some (af,0)
def Xz:=Xn
def Xm(j2:LX→Int→Int→Int→Int→Int→Int→Int→LI→Zv)(v y:LB)(n g b h k o:Int)(a:LI)(f:Int):Zv:=
(Ala n g b h k o a f).bind fun u=>
(getI a f).bind fun aa=>
if(Bn (Aj (Ac v) u) aa)then
some (([]:LB),24)
else
(Jy y).bind fun(ab,ag)=>
(getI a f).bind fun ac=>
(Bo v u (Ad u ac)).bind fun ad=>
(
(Cz h k).bind fun w=>
(getI w f).bind fun _=>
(getI w f).bind fun ae=>
(cadenzaref21_Decode g b ab ae ad).bind fun(p,m)=>
j2 p m n g b h k o a)
def cadenzaref40_Got:=Xm Xz
def Cx(a:LB):Option (Int×Int×Int×Int×Int×Int×Int):=
if(Fi (Ac a) 100000)then
some (0,0,0,0,0,0,4)
else
(Ja a).bind fun(b,f)=>
if(Ay f 0)then
some (0,0,0,0,0,0,f)
else
(Bo a b (Ac a)).bind fun g=>
(Ka g).bind fun(h,k,m,n,o,p)=>
some (b,h,k,m,n,o,p)
def Ajt(f:LB)(a g m n o p:Int)(b:LB):Option (Int×Int):=
if((b==([]:LB)) !=(geq g 1))then
some (0,26)
else
if(b==([]:LB))then
some (a,0)
else
if(Bn (Ac f) (Ad a 8))then
some (0,24)
else
(Bo f a (Ad a 8)).bind fun h=>
(Jo b).bind fun k=>
if(h !=k)then
some (0,26)
else
some ((Ad a 8),0)
def Mp(a:LB)(b o p u f g:Int):Option (LI×Int):=
(Bo a b (Ac a)).bind fun h=>
(Cz f g).bind fun k=>
(Nv h (Ac k)).bind fun(m,n)=>
some (m,n)
abbrev Dg:=Option (Int×Int×Int×LX×Int)
def Aez(a:LB)(n b f g:Int)(v:LX):Dg:=
(Bo a n (Ac a)).bind fun af=>
(Pj af).bind fun(ao,ag)=>
if(Ay ag 0)then
some (0,0,0,([]:LX),38)
else
some (b,f,g,v,0)
def Ae6:=Aez
def Ae3(bk7:Int→Int→LX→Dg)(a:LB)(o b f g k:Int)(h p:LI)(u:LX)(n m:Int)(y:LX)(w:Int)(v:LX):Dg:=
if(Ay w 0)then
some (0,0,0,([]:LX),w)
else
(Ek v y).bind fun ah=>
(getI h m).bind fun _=>
(getI h m).bind fun ai=>
bk7 (Ad n ai) (Ad m 1) ah
def Aes bk7:=Ae3 bk7
def Ux(j10:Int→Int→LX→Int→LX→Dg)(j12:LB→Int→Int→Int→Int→LX→Dg)(a:LB)(o b f g k:Int)(h p:LI)(u:LX)(n m:Int)(v:LX):Dg:=
if(Bn m (Ac h))then
(getI h m).bind fun _=>
(getI h m).bind fun aj=>
if(Bn (Aj (Ac a) n) aj)then
some (0,0,0,([]:LX),24)
else
(getI p m).bind fun _=>
(getI h m).bind fun _=>
(getI p m).bind fun ak=>
(getI h m).bind fun al=>
(Bo a n (Ad n al)).bind fun am=>
(cadenzaref21_Decode b f u ak am).bind fun(y,w)=>
j10 n m y w v
else
j12 a n b f g v
def Jp(a:LB)(o b f g k:Int)(h p:LI)(u:LX):Nat→Int→Int→LX→Dg
|0,_,_,_=>none
|q+1,n,m,v=>Ux (Aes (Jp a o b f g k h p u q) a o b f g k h p u) Ae6 a o b f g k h p u n m v
def Ag2 a o b f g k h p u:=Jp a o b f g k h p u FUEL
def Ahd(j7:LB→Int→Int→Int→Int→Int→LI→LI→LX→Int→Int→LX→Dg)(a aa:LB):Dg:=
if(Fi (Ac aa) 64)then
some (0,0,0,([]:LX),2)
else
(Cx a).bind fun(an,o,b,f,g,k,ab)=>
if(Ay ab 0)then
some (0,0,0,([]:LX),ab)
else
(Ajt a (Ad an 22) o b f g k aa).bind fun(ac,ad)=>
if(Ay ad 0)then
some (0,0,0,([]:LX),ad)
else
(Mp a ac o b f g k).bind fun(h,ae)=>
if(Ay ae 0)then
some (0,0,0,([]:LX),ae)
else
(Cz g k).bind fun p=>
(Jy aa).bind fun(u,ap)=>
j7 a o b f g k h p u (Ad ac (Ad (Au 4 (Ac h)) 4)) 0 ([]:LX)
def Hl:=Ahd Ag2
abbrev Ct:=Option (Int×Int×Int×Int×Int×Int)
def Aem(b:LB)(a f:Int)(g:LI)(h:Int):Ct:=
if(Bn (Ac b) h)then
some (0,0,0,0,0,24)
else
some (a,(Ad a 22),f,(Ad (Ad f (Au 4 (Ac g))) 4),h,0)
def Tp:=Aem
def Tl(j8:LB→Int→Int→LI→Int→Ct)(bk6:Int→Int→Ct)(b:LB)(a f:Int)(g:LI)(k h:Int):Ct:=
if(Bn k (Ac g))then
(getI g k).bind fun _=>
(getI g k).bind fun y=>
bk6 (Ad k 1) (Ad h y)
else
j8 b a f g h
def Im(b:LB)(a f:Int)(g:LI):Nat→Int→Int→Ct
|0,_,_=>none
|q+1,k,h=>Tl Tp (Im b a f g q) b a f g k h
def Aeu b a f g:=Im b a f g FUEL
def Aeq(j6:LB→Int→Int→LI→Int→Int→Ct)(b:LB)(m n o p u a f:Int):Ct:=
if(Bn (Ac b) f)then
some (0,0,0,0,0,24)
else
(Mp b f m n o p u).bind fun(g,v)=>
if(Ay v 0)then
some (0,0,0,0,0,v)
else
j6 b a f g 0 (Ad (Ad f (Au 4 (Ac g))) 4)
def Ie:=Aeq Aeu
def Aee(j5:LB→Int→Int→Int→Int→Int→Int→Int→Ct)(b:LB):Ct:=
(Cx b).bind fun(a,m,n,o,p,u,w)=>
if(Ay w 0)then
some (0,0,0,0,0,w)
else
if(geq m 2)then
j5 b m n o p u a (Ad (Ad a 22) 8)
else
j5 b m n o p u a (Ad a 22)
def Amc:=Aee Ie
end Go.Pl
