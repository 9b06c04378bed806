/- A part of the proof of a statement of this seat (see the text that ends in Proof): SrPure. No conditions of its own. -/
import Derived.Test.YtkkcakakemjdeaaGreatDoorSrBA
set_option linter.unusedVariables false
namespace Go.Pl
open Go Go.Lv
abbrev LB:=List UInt8
abbrev LI:=List Int
abbrev LX:=List Int32
abbrev LU:=List UInt32
abbrev LQ:=List UInt64
def Auf(a b f:Int)(g:LX):Option (Int×Int):=
some (a,b)
abbrev Aj6:=Option (Int32×Int32×Int)
def Bcd(a:Int)(b:Bool):Aj6:=
if b then
(Gj (Ja (Ah a 1) 0)).bind fun _=>
some ((Awk (Cr (1:Int32) (GI.toZ (Ah a 1)).toNat)),(Ah (Cr (1:Int32) (GI.toZ (Ah a 1)).toNat) 1),0)
else
some (0,0,2)
def Ara:=Bcd
def Aqy(j2:Int→Bool→Aj6)(a:Int):Aj6:=
if(geq a 8)then
j2 a (geq a 8)
else
if(geq a 16)then
j2 a (geq a 16)
else
j2 a (geq a 24)
def Ad1:=Aqy Ara
def Oc(a b:Int):Option Int:=
(Ad1 b).bind fun(g,h,f)=>
if(((Bb f 0)||(Bt a 1))||(El a 6))then
some 2
else
some 0
def Rt(a:Int):Option (Int×Int):=
if((Bt a 1)||(El a 1048576))then
some (0,2)
else
some ((As4 1 (Bq (Ax 256 a) 245)),0)
def Lf(g b:Int):Option (Int×Int):=
(Rt g).bind fun(a,f)=>
if(Bb f 0)then
some (0,f)
else
if((Bt b 1)||(El b 4000))then
some (0,2)
else
(Gj (Bb a 0)).bind fun _=>
if(El (Bq (Ah (Ad b a) 1) a) 1000)then
some (0,4)
else
some ((Bq (Ah (Ad b a) 1) a),0)
def Bf7(a g f:Int)(h:LX)(b:Int):Option Int:=
(Auf a g f h).bind fun(k,m)=>
(Oc k m).bind fun n=>
if((Bb n 0)||(Bt b 1))then
some 8
else
(Gj (Bb a 0)).bind fun _=>
if(El b (Bq 4000 a))then
some 8
else
(Lf f b).bind fun(p,o)=>
if(Bb o 0)then
some 8
else
some 0
def Bey:Option Int:=
some 0
def Aqb:=Bey
def Xk(j6:Option Int)(bk4:Int→Option Int)(b f:Int32)(a:LX)(g:Int):Option Int:=
if(Bt g (Ac a))then
(getI a g).bind fun h=>
if((Bt h b)||(El h f))then
some 16
else
bk4 (Ad g 1)
else
j6
def Mb(b f:Int32)(a:LX):Nat→Int→Option Int
|0,_=>none
|q+1,g=>Xk Aqb (Mb b f a q) b f a g
def Arm b f a:=Mb b f a Am
def Agf(j4:Int32→Int32→LX→Int→Option Int)(m:Int)(a:LX):Option Int:=
(Ad1 m).bind fun(b,f,k)=>
if(Bb k 0)then
some k
else
if(El (Ac a) 4000)then
some 4
else
j4 b f a 0
def Ql:=Agf Arm
def Abr(a f h:Int)(b:LX):Option Int:=
if(Bt a 1)then
some 8
else
(Gj (Bb a 0)).bind fun _=>
if(Bb (Fa (Ac b) a) 0)then
some 8
else
(Gj (Bb a 0)).bind fun _=>
(Bf7 a f h b (Bq (Ac b) a)).bind fun g=>
if(Bb g 0)then
some g
else
(Ql f b).bind fun k=>
if(Bb k 0)then
some 8
else
some 0
abbrev Ajk:=Option (Int×Int×Int×Int×Int×Int)
def Bb8(h:LB)(a b f:Int)(g:LX):Ajk:=
if(h !=([]:LB))then
some (2,a,b,f,(Bq (Ac g) a),0)
else
some (1,a,b,f,(Bq (Ac g) a),0)
def Aqz:=Bb8
def Ahq(j2:LB→Int→Int→Int→LX→Ajk)(a b f:Int)(g:LX)(h:LB):Ajk:=
(Abr a b f g).bind fun k=>
if(Bb k 0)then
some (0,0,0,0,0,k)
else
if(El (Ac h) 64)then
some (0,0,0,0,0,2)
else
(Gj (Bb a 0)).bind fun _=>
(
j2 h a b f g)
def Aze:=Ahq Aqz
abbrev Bf:=Option (UInt64×Int)
def Aqm(h:UInt64):Bf:=
some (h,0)
def Aie:=Aqm
def Agh(j30:UInt64→Bf)(h b:UInt64)(a:LB)(f:LQ):Bf:=
j30 h
def Aia:=Agh Aie
def Xl(j29:UInt64→UInt64→LB→LQ→Bf)(bk27:UInt64→Int→Bf)(a:LB)(b:UInt64)(f:LQ)(h:UInt64)(m:Int):Bf:=
if(Bt m (Ac a))then
(getI a m).bind fun p=>
Option.bind (getI f (GI.toZ (Ru (Ae (Bk h (GI.toZ (56:UInt64)).toNat):UInt8) p))) fun _=>
Option.bind (getI f (GI.toZ (Ru (Ae (Bk h (GI.toZ (56:UInt64)).toNat):UInt8) p))) fun u=>
bk27 (Ru (Cr h (GI.toZ (8:UInt64)).toNat) u) (Ad m 1)
else
j29 h b a f
def Mo(a:LB)(b:UInt64)(f:LQ):Nat→UInt64→Int→Bf
|0,_,_=>none
|q+1,h,m=>Xl Aia (Mo a b f q) a b f h m
def Ahz a b f:=Mo a b f Am
def Ahf(j27:LB→UInt64→LQ→UInt64→Int→Bf)(b:UInt64)(a:LB)(f:LQ):Bf:=
j27 a b f b 0
def Zc:=Ahf Ahz
def Aqa(bk16:Int→LQ→Bf)(b:UInt64)(a:LB)(g:Int)(o:LQ):Bf:=
bk16 (Ad g 1) o
def Agz bk16:=Aqa bk16
def Ah3(j24:Int→LQ→Bf)(b:UInt64)(a:LB)(g:Int)(k:UInt64)(f:LQ):Bf:=
(getI f g).bind fun _=>
(Ic f g k).bind fun o=>
j24 g o
def Zm bk16 b a:=Ah3 (Agz bk16 b a) b a
def Zq(j23:Int→UInt64→LQ→Bf)(bk21:UInt64→Int→Bf)(b:UInt64)(a:LB)(g:Int)(f:LQ)(k:UInt64)(n:Int):Bf:=
if(Bt n 8)then
bk21 (Ru (Cr k (GI.toZ (1:UInt64)).toNat) (Ax 4823603603198064275 (Bk k (GI.toZ (63:UInt64)).toNat))) (Ad n 1)
else
j23 g k f
def Mc(bk16:Int→LQ→Bf)(b:UInt64)(a:LB)(g:Int)(f:LQ):Nat→UInt64→Int→Bf
|0,_,_=>none
|q+1,k,n=>Zq (Zm bk16 b a) (Mc bk16 b a g f q) b a g f k n
def Ahl bk16 b a g f:=Mc bk16 b a g f Am
def Xt(j21:Int→LQ→UInt64→Int→Bf)(j26:UInt64→LB→LQ→Bf)(b:UInt64)(a:LB)(g:Int)(f:LQ):Bf:=
if(Bt g 256)then
j21 g f (Cr (Ae g:UInt64) (GI.toZ (56:UInt64)).toNat) 0
else
j26 b a f
def Jh(b:UInt64)(a:LB):Nat→Int→LQ→Bf
|0,_,_=>none
|q+1,g,f=>Xt (Ahl (Jh b a q) b a) Zc b a g f
def Ahn b a:=Jh b a Am
def Aj0(j16:UInt64→LB→Int→LQ→Bf)(b:UInt64)(a:LB):Bf:=
if(El (Ac a) 100000)then
some (0,4)
else
j16 b a 0 (List.replicate 256 (0:UInt64))
def Am3:=Aj0 Ahn
def Ak1(a:LB):Option (UInt64×Int):=
(Am3 0 a).bind fun(b,f)=>
some (b,f)
def Bn8(a:LX):Option (LX):=
some a
def Bb0:=Bn8
def Alr(j6:LX→Option (LX))(bk4:Int→LX→Option (LX))(f:UInt64)(b:Int)(a:LX):Option (LX):=
if(Bt b 8)then
(Gj (Ja (Ax 8 b) 0)).bind fun _=>
(getI a b).bind fun _=>
(Ic a b (Ae (Ae (Bk f (GI.toZ (Ax 8 b)).toNat):Int8):Int32)).bind fun g=>
bk4 (Ad b 1) g
else
j6 a
def Aa9(f:UInt64):Nat→Int→LX→Option (LX)
|0,_,_=>none
|q+1,b,a=>Alr Bb0 (Aa9 f q) f b a
def Bee f:=Aa9 f Am
def Bcw(j4:UInt64→Int→LX→Option (LX))(f:UInt64):Option (LX):=
j4 f 0 (List.replicate 16 (0:Int32))
def Bhe:=Bcw Bee
def Rw(a:LB):Option (LX×Int):=
if(El (Ac a) 64)then
some (([(0:Int32),(0:Int32),(0:Int32),(0:Int32),(0:Int32),(0:Int32),(0:Int32),(0:Int32),(0:Int32),(0:Int32),(0:Int32),(0:Int32),(0:Int32),(0:Int32),(0:Int32),(0:Int32)]:LX),2)
else
(Ak1 a).bind fun(f,b)=>
if(Bb b 0)then
some (([(0:Int32),(0:Int32),(0:Int32),(0:Int32),(0:Int32),(0:Int32),(0:Int32),(0:Int32),(0:Int32),(0:Int32),(0:Int32),(0:Int32),(0:Int32),(0:Int32),(0:Int32),(0:Int32)]:LX),b)
else
(Bhe f).bind fun g=>
some (g,0)
def Aeq(a b:UInt64):Option (UInt64×UInt64):=
some ((Ad (Ad (Ax (Bk a (GI.toZ (32:UInt64)).toNat) (Bk b (GI.toZ (32:UInt64)).toNat)) (Bk (Ad (Ax (Bk a (GI.toZ (32:UInt64)).toNat) (Cx b 4294967295)) (Bk (Ax (Cx a 4294967295) (Cx b 4294967295)) (GI.toZ (32:UInt64)).toNat)) (GI.toZ (32:UInt64)).toNat)) (Bk (Ad (Cx (Ad (Ax (Bk a (GI.toZ (32:UInt64)).toNat) (Cx b 4294967295)) (Bk (Ax (Cx a 4294967295) (Cx b 4294967295)) (GI.toZ (32:UInt64)).toNat)) 4294967295) (Ax (Cx a 4294967295) (Bk b (GI.toZ (32:UInt64)).toNat))) (GI.toZ (32:UInt64)).toNat)),(Ax a b))
def Ab2(a b:UInt64):Option (UInt64×UInt64):=
(Aeq a b).bind fun(f,g)=>
some (f,g)
def Ko(a:LI):Option (LI):=
some a
def Gn:=Ko
def Eu(j10:LI→Option (LI))(bk8:Int→LI→Option (LI))(b:Int)(a:LI):Option (LI):=
if(Bt b (Ac a))then
(
(vwI (Ac a) b (Ac a)).bind fun _=>
(vwI (Ac a) 0 b).bind fun _=>
bk8 (Ad b (Ah0 ((Ac a)-b) (Aj9 a 0 (b-(0:Int))).length)) (Oh a b ((Ac a)-b) (Aj9 a 0 (b-(0:Int)))))
else
j10 a
def Dd:Nat→Int→LI→Option (LI)
|0,_,_=>none
|q+1,b,a=>Eu Gn (Dd q) b a
def Ln:=Dd Am
def Lc(j8:Int→LI→Option (LI))(f:LI)(g:UInt64):Option (LI):=
(mkI (Ae g:Int) (0:Int)).bind fun k=>
(Gj (geq (Ae g:Int) (Ae g:Int))).bind fun _=>
j8 (Ah0 (Ac k) f.length) (Beu k f)
def Lk:=Lc Ln
def Le(j7:LI→UInt64→Option (LI))(f:LI)(h:Int):Option (LI):=
(Ab2 (Ae (Ac f):UInt64) (Ae h:UInt64)).bind fun(m,g)=>
if((El m 0)||(El g 9223372036854775807))then
none
else
j7 f g
def Ll:=Le Lk
def Lb(j6:LI→Int→Option (LI))(f:LI)(h:Int):Option (LI):=
if(Bt h 0)then
none
else
j6 f h
def Jz:=Lb Ll
def Aii(f:LI):Option (LI):=
some f
def Sk:=Aii
def Ek(j16:LI→Option (LI))(bk14:Int→LI→Option (LI))(a:List LI)(g:Int)(f:LI):Option (LI):=
if(Bt g (Ac a))then
(getI a g).bind fun o=>
(Ew f o).bind fun p=>
bk14 (Ad g 1) p
else
j16 f
def Cu(a:List LI):Nat→Int→LI→Option (LI)
|0,_,_=>none
|q+1,g,f=>Ek Sk (Cu a q) a g f
def Kl a:=Cu a Am
def Kk(j14:(List LI)→Int→LI→Option (LI))(a:List LI)(k:LI):Option (LI):=
j14 a 0 k
def Gl:=Kk Kl
def Ki(j13:(List LI)→LI→Option (LI))(b:Int)(a:List LI):Option (LI):=
if(El (Ah b (Ah (0:Int) (0:Int))) 0)then
(vwI 0 0 0).bind fun _=>
(mkI (Ah b (Ah (0:Int) (0:Int))) (0:Int)).bind fun u=>
(Ew ([]:LI) u).bind fun m=>
(vwI (Ac m) 0 0).bind fun _=>
j13 a (Aj9 m 0 ((0:Int)-(0:Int)))
else
j13 a ([]:LI)
def Km:=Ki Gl
def Kf(j12:Int→(List LI)→Option (LI))(a:List LI)(b:Int):Option (LI):=
if(Bt b 0)then
none
else
j12 b a
def Kj:=Kf Km
def Ev(j11:(List LI)→Int→Option (LI))(bk9:Int→Int→Option (LI))(a:List LI)(b h:Int):Option (LI):=
if(Bt h (Ac a))then
(getI a h).bind fun n=>
if(Bt (Ad b (Ac n)) 0)then
none
else
bk9 (Ad b (Ac n)) (Ad h 1)
else
j11 a b
def Dg(a:List LI):Nat→Int→Int→Option (LI)
|0,_,_=>none
|q+1,b,h=>Ev Kj (Dg a q) a b h
def Lh a:=Dg a Am
def Ld(j9:(List LI)→Int→Int→Option (LI))(a:List LI):Option (LI):=
j9 a 0 0
def Jv:=Ld Lh
def Aif(a b:LI):Option (LI):=
(Jv ([a,b]:List LI)).bind fun f=>
some f
def Qm(a b:Int):Option (LI×Int):=
(Lf a b).bind fun(f,g)=>
if(Bb g 0)then
some (([]:LI),g)
else
(Rt a).bind fun(h,n)=>
(Jz ([h]:LI) (Ah f 1)).bind fun k=>
(Aif k ([(Ah b (Ax (Ah f 1) h))]:LI)).bind fun m=>
some (m,0)
def At4(a f:Int)(b:LX):Option Int:=
(Oc a f).bind fun g=>
if(Bb g 0)then
some g
else
(Ql f b).bind fun h=>
if(Bb h 0)then
some h
else
if(geq (Ac b) 0)then
some 2
else
(Gj (Bb a 0)).bind fun _=>
if(Bb (Fa (Ac b) a) 0)then
some 2
else
some 0
def Ak8(a:Int)(b:LX):Option Int:=
if((Bt a 1)||(El a 6))then
some 2
else
if(El (Ac b) 4000)then
some 4
else
(Gj (Bb a 0)).bind fun _=>
if(Bb (Fa (Ac b) a) 0)then
some 2
else
some 0
def Da(a:LX):Option (LX):=
(
(Ew ([]:LX) a).bind fun b=>
some b)
abbrev Gf:=Option (LX×Int)
def Bju(f:LX):Gf:=
some (f,0)
def Ayy:=Bju
def Bld(bk12:Int→LX→Gf)(b a:Int)(k:LX):Gf:=
bk12 (Ad a b) k
def Ay9 bk12:=Bld bk12
def Ayu(j20:Int→LX→Gf)(b a:Int)(g:LX):Gf:=
if(El (Ah ((Ad a b)-a) 1) 0)then
(Gj (decide (0≤(Ah ((Ad a b)-a) 1)∧(Ah ((Ad a b)-a) 1)<((Ad a b)-a)))).bind fun _=>
Option.bind (Gj (decide (0≤(Ah (Ah ((Ad a b)-a) 1) 1)∧(Ah (Ah ((Ad a b)-a) 1) 1)<((Ad a b)-a)))) fun _=>
(getI g (a+(Ah ((Ad a b)-a) 1))).bind fun m=>
(getI g (a+(Ah (Ah ((Ad a b)-a) 1) 1))).bind fun n=>
(Gj (decide (0≤(Ah ((Ad a b)-a) 1)∧(Ah ((Ad a b)-a) 1)<((Ad a b)-a)))).bind fun _=>
(Ic g (a+(Ah ((Ad a b)-a) 1)) (Ah m (Bq n 2))).bind fun o=>
j20 a o
else
j20 a g
def Azb bk12 b:=Ayu (Ay9 bk12 b) b
def Azc(j19:Int→LX→Gf)(bk17:Int→LX→Gf)(b a h:Int)(g:LX):Gf:=
if(Bt h (Ah ((Ad a b)-a) 1))then
(Gj (decide (0≤(Ad h 1)∧(Ad h 1)<((Ad a b)-a)))).bind fun _=>
(Gj (decide (0≤h∧h<((Ad a b)-a)))).bind fun _=>
(getI g (a+(Ad h 1))).bind fun m=>
(getI g (a+h)).bind fun n=>
(Gj (decide (0≤h∧h<((Ad a b)-a)))).bind fun _=>
(Ic g (a+h) (Ah m n)).bind fun o=>
bk17 (Ad h 1) o
else
j19 a g
def Apo(bk12:Int→LX→Gf)(b a:Int):Nat→Int→LX→Gf
|0,_,_=>none
|q+1,h,g=>Azc (Azb bk12 b) (Apo bk12 b a q) b a h g
def Ay0 bk12 b a:=Apo bk12 b a Am
def Az2(j17:Int→Int→LX→Gf)(j22:LX→Gf)(b a:Int)(f:LX):Gf:=
if(Bt a (Ac f))then
(vwI (Ac f) a (Ad a b)).bind fun _=>
j17 a 0 f
else
j22 f
def Ap8(b:Int):Nat→Int→LX→Gf
|0,_,_=>none
|q+1,a,f=>Az2 (Ay0 (Ap8 b q) b) Ayy b a f
def Azp b:=Ap8 b Am
def Bd7(j12:Int→Int→LX→Gf)(b:Int)(p:LX):Gf:=
(Ak8 b p).bind fun u=>
if(Bb u 0)then
some (([]:LX),u)
else
(Da p).bind fun v=>
j12 b 0 v
def Bp3:=Bd7 Azp
abbrev Auq:=Option (Int×LX×LX×Int)
def Bjn(a:Int)(b:LX)(f:Bool):Auq:=
if f then
some (10,b,(List.replicate 16 (0:Int32)),0)
else
if(geq a 16)then
some (9,b,(List.replicate 16 (0:Int32)),0)
else
some (0,(List.replicate 16 (0:Int32)),(List.replicate 16 (0:Int32)),2)
def Azs:=Bjn
def Az0(j2:Int→LX→Bool→Auq)(a:Int)(b:LX):Auq:=
if(geq a 8)then
j2 a b (geq a 8)
else
j2 a b (geq a 24)
def Avn:=Az0 Azs
def Ax4(a:Int)(f:LX):Option (Int×Int32×Int×LX×LX×Int):=
(Avn a f).bind fun(g,h,k,b)=>
if(Bb b 0)then
some (0,0,0,(List.replicate 16 (0:Int32)),(List.replicate 16 (0:Int32)),b)
else
some (a,0,g,h,k,0)
def Rb(a:Int)(k:Int32)(b:Int)(f m:LX):Option Int:=
(Avn a f).bind fun(g,n,o,h)=>
if((Bb h 0)||(Bb g b))then
some 8
else
some 0
def Apq(a:Int):Option (Int×Int):=
if(geq a 8)then
some (4,0)
else
if(geq a 16)then
if(geq a 16)then
some (5,0)
else
some (0,2)
else
if(geq a 24)then
some (5,0)
else
some (0,2)
def Ai7(a:Int)(b:Int32):Option Int32:=
(Gj (Ja a 0)).bind fun _=>
(Gj (Ja a 0)).bind fun _=>
some (Ae (Bg6 (Ah (Cr (Ae b:Int) (GI.toZ a).toNat) (Ae b:Int)) (GI.toZ a).toNat):Int32)
def Rj(b:Int)(f:Int32):Option (Int32×Int):=
(Apq b).bind fun(g,a)=>
if(Bb a 0)then
some (0,a)
else
(Ai7 g f).bind fun h=>
some (h,0)
def Abl(a:Int)(b f:LX):Option Int:=
if((Bb a 9)&&(Bb a 10))then
some 8
else
some 0
abbrev Ns:=Option (Int32×Int)
def Atj(g:Int32)(a:Int)(b f:LX):Ns:=
(Gj (Ja a 0)).bind fun _=>
some ((Bk g (GI.toZ a).toNat),0)
def Ajv:=Atj
def Ab3(j6:Int32→Int→LX→LX→Ns)(bk4:Int32→Int→Ns)(b:LX)(a:Int)(f:LX)(g:Int32)(h:Int):Ns:=
if(Bt h 16)then
(getI b h).bind fun m=>
(getI f h).bind fun _=>
(getI f h).bind fun n=>
bk4 (Ad g (Ax m n)) (Ad h 1)
else
j6 g a b f
def Oa(b:LX)(a:Int)(f:LX):Nat→Int32→Int→Ns
|0,_,_=>none
|q+1,g,h=>Ab3 Ajv (Oa b a f q) b a f g h
def Ajw b a f:=Oa b a f Am
def Ajl(j4:LX→Int→LX→Int32→Int→Ns)(a:Int)(b f:LX):Ns:=
(Abl a b f).bind fun k=>
if(Bb k 0)then
some (0,k)
else
(Gj (Ja (Ah a 1) 0)).bind fun _=>
j4 b a f (Cr (1:Int32) (GI.toZ (Ah a 1)).toNat) 0
def Ahm:=Ajl Ajw
def Ako(a:Int):Option Int32:=
if(geq a 0)then
some 4
else
if(Bt a 4)then
some 2
else
some 1
abbrev Nd:=Option (Int×LX×LX×Int)
def Be9(g:Int)(b f:LX):Nd:=
some (g,b,f,0)
def Atq:=Be9
def Ab9(j6:Int→LX→LX→Nd)(bk4:Int→LX→Nd)(h:Int32)(f:LX)(g a:Int)(b:LX):Nd:=
if(Bt a 16)then
(getI f a).bind fun m=>
if(geq m 0)then
bk4 (Ad a 1) b
else
if((Bt m 0)==(Bt h 0))then
(getI b a).bind fun _=>
(getI b a).bind fun o=>
(Ako a).bind fun p=>
(getI b a).bind fun _=>
(Ic b a (Ad o p)).bind fun u=>
bk4 (Ad a 1) u
else
(getI b a).bind fun _=>
(getI b a).bind fun v=>
(Ako a).bind fun w=>
(getI b a).bind fun _=>
(Ic b a (Ah v w)).bind fun y=>
bk4 (Ad a 1) y
else
j6 g b f
def Oe(h:Int32)(f:LX)(g:Int):Nat→Int→LX→Nd
|0,_,_=>none
|q+1,a,b=>Ab9 Atq (Oe h f g q) h f g a b
def Atr h f g:=Oe h f g Am
def Aj3(j4:Int32→LX→Int→Int→LX→Nd)(g:Int)(k f:LX)(h:Int32):Nd:=
(Abl g k f).bind fun n=>
if(Bb n 0)then
some (0,(List.replicate 16 (0:Int32)),(List.replicate 16 (0:Int32)),n)
else
if(geq h 0)then
some (g,k,f,0)
else
j4 h f g 0 k
def Am2:=Aj3 Atr
abbrev Ar5:=Option (Int×LX×LX×Int)
def Avq(g:Int32)(b:Int)(f a:LX):Ar5:=
(getI (Oh a 1 ((16:Int)-(1:Int)) (Aj9 a 0 ((16:Int)-(0:Int)))) 0).bind fun _=>
(Ic (Oh a 1 ((16:Int)-(1:Int)) (Aj9 a 0 ((16:Int)-(0:Int)))) 0 g).bind fun k=>
some (b,f,k,0)
def Ame:=Avq
def Afn(j2:Int32→Int→LX→LX→Ar5)(b:Int)(f a:LX)(g:Int32):Ar5:=
(Abl b f a).bind fun h=>
if(Bb h 0)then
some (0,(List.replicate 16 (0:Int32)),(List.replicate 16 (0:Int32)),h)
else
(
(vwI 16 1 16).bind fun _=>
(vwI 16 0 16).bind fun _=>
j2 g b f a)
def Asa:=Afn Ame
def Amx(a:Int)(b f:LX)(g h:Int32):Option (Int×LX×LX):=
(Am2 a b f h).bind fun(k,m,n,v)=>
(Asa k m n g).bind fun(o,p,u,w)=>
some (o,p,u)
def Ary(b:Int)(f g:LX)(a:Int32):Option (Int32×Int×LX×LX×Int):=
(Ahm b f g).bind fun(h,k)=>
if(Bb k 0)then
some (0,0,(List.replicate 16 (0:Int32)),(List.replicate 16 (0:Int32)),k)
else
(Amx b f g a (Ah a h)).bind fun(m,n,o)=>
some ((Ah a h),m,n,o,0)
def Ab7(a:Int)(b:Int32)(f:Int)(g h:LX)(k:Int32):Option (Int32×Int×Int32×Int×LX×LX×Int):=
(Rb a b f g h).bind fun m=>
if(Bb m 0)then
some (0,0,0,0,(List.replicate 16 (0:Int32)),(List.replicate 16 (0:Int32)),m)
else
(Rj a b).bind fun(n,y)=>
(Ary f g h (Ah k n)).bind fun(o,p,u,v,w)=>
(
some (o,a,k,p,u,v,w))
def Bfw(a:Int32):Option UInt32:=
some (Ru (Cr (Ae a:UInt32) (GI.toZ (1:UInt64)).toNat) (Ae (Bk a (GI.toZ (31:UInt64)).toNat):UInt32))
abbrev By:=Option (LU×Int)
def Aut(k:LU):By:=
some (k,0)
def Ahp:=Aut
def Ahx(j12:LU→By)(bk10:Int→(List (Int×Int32×(Int×LX×LX×Unit)×Unit))→LU→By)(b:LX)(a f g:Int)(o:List (Int×Int32×(Int×LX×LX×Unit)×Unit))(k:LU):By:=
if(Bt g (Ac b))then
(getI b g).bind fun _=>
(getI b g).bind fun ac=>
(Gj (Bb a 0)).bind fun _=>
(getI o (Fa g a)).bind fun _=>
(getI o (Fa g a)).bind fun p=>
(Ab7 p.1 p.2.1 p.2.2.1.1 p.2.2.1.2.1 p.2.2.1.2.2.1 ac).bind fun(u,ad,ae,v,af,ag,w)=>
if(Bb w 0)then
some (([]:LU),w)
else
(Ic o (Fa g a) (ad,ae,(v,af,ag,()),())).bind fun ah=>
(Bfw u).bind fun ai=>
(Ew k ([ai]:LU)).bind fun aj=>
bk10 (Ad g 1) ah aj
else
j12 k
def Vf(b:LX)(a f:Int):Nat→Int→(List (Int×Int32×(Int×LX×LX×Unit)×Unit))→LU→By
|0,_,_,_=>none
|q+1,g,o,k=>Ahx Ahp (Vf b a f q) b a f g o k
def Ah6 b a f:=Vf b a f Am
def Ai3(j10:LX→Int→Int→Int→(List (Int×Int32×(Int×LX×LX×Unit)×Unit))→LU→By)(a f:Int)(b:LX)(h:List (Int×Int32×(Int×LX×LX×Unit)×Unit)):By:=
j10 b a f 0 h ([]:LU)
def Ais:=Ai3 Ah6
def Ai5(j9:Int→Int→LX→(List (Int×Int32×(Int×LX×LX×Unit)×Unit))→By)(bk7:Int→(List (Int×Int32×(Int×LX×LX×Unit)×Unit))→By)(a f:Int)(m b:LX)(n:Int)(h:List (Int×Int32×(Int×LX×LX×Unit)×Unit)):By:=
if(Bt n 6)then
(Ax4 f m).bind fun(ak,al,u,am,an,v)=>
(getI h n).bind fun _=>
(Ic h n (ak,al,(u,am,an,()),())).bind fun ao=>
bk7 (Ad n 1) ao
else
j9 a f b h
def Zb(a f:Int)(m b:LX):Nat→Int→(List (Int×Int32×(Int×LX×LX×Unit)×Unit))→By
|0,_,_=>none
|q+1,n,h=>Ai5 Ais (Zb a f m b q) a f m b n h
def Aiu a f m b:=Zb a f m b Am
def Ai9(j7:Int→Int→LX→LX→Int→(List (Int×Int32×(Int×LX×LX×Unit)×Unit))→By)(a f:Int)(m y:LX):By:=
(At4 a f y).bind fun aa=>
if(Bb aa 0)then
some (([]:LU),aa)
else
(Bp3 a y).bind fun(b,ab)=>
if(Bb ab 0)then
some (([]:LU),ab)
else
j7 a f m b 0 (List.replicate 6 ((0:Int),(0:Int32),((0:Int),(List.replicate 16 (0:Int32)),(List.replicate 16 (0:Int32)),()),()))
def Aqr:=Ai9 Aiu
def Aui:Option (Int×Int×UInt64×UInt64):=
some (10,10,16384,16384)
abbrev He:=Option ((List (Int×Int×UInt64×UInt64×Unit)))
def Aw2(a:List (Int×Int×UInt64×UInt64×Unit)):He:=
some a
def Ajc:=Aw2
def Aiz(j6:(List (Int×Int×UInt64×UInt64×Unit))→He)(bk4:Int→(List (Int×Int×UInt64×UInt64×Unit))→He)(b:Int)(a:List (Int×Int×UInt64×UInt64×Unit)):He:=
if(Bt b 6)then
(Aui).bind fun(f,g,h,k)=>
(getI a b).bind fun _=>
(Ic a b (f,g,h,k,())).bind fun m=>
bk4 (Ad b 1) m
else
j6 a
def Xg:Nat→Int→(List (Int×Int×UInt64×UInt64×Unit))→He
|0,_,_=>none
|q+1,b,a=>Aiz Ajc (Xg q) b a
def Ail:=Xg Am
def Ajf(j4:Int→(List (Int×Int×UInt64×UInt64×Unit))→He):He:=
j4 0 (List.replicate 6 ((0:Int),(0:Int),(0:UInt64),(0:UInt64),()))
def Arx:=Ajf Ail
def Hk(b:LB)(a:Int):Option Int:=
if(((Bt a 0)||(El a 330000))||(Bb (Ac b) (Bg6 (Ad a 7) (GI.toZ (3:UInt64)).toNat)))then
some 8
else
if(El (Cx a 7) 0)then
(getI b (Ah (Ac b) 1)).bind fun f=>
(Gj (Ja (Cx a 7) 0)).bind fun _=>
if(Bb (Bk f (GI.toZ (Cx a 7)).toNat) 0)then
some 8
else
some 0
else
some 0
def Atz(a b:Int)(f g:UInt64):Option Int:=
if(!((geq (Db (As4 a 0) 24) a)&&((geq (Db (As4 b 0) 24) b)&&((geq (Db f 68719476735) f)&&((geq (Db g 68719476735) g)&&true)))))then
some 8
else
some 0
def Aj8:=Atz
def Ace(j4:Int→Int→UInt64→UInt64→Option Int)(a b:Int)(f g:UInt64):Option Int:=
(
(
j4 a b f g))
def Ake:=Ace Aj8
def Acd(j3:Int→Int→UInt64→UInt64→Option Int)(a b:Int)(f g:UInt64):Option Int:=
(
(
j3 a b f g))
def Ah5:=Acd Ake
def Abg(a f:Int)(g h:UInt64)(b:UInt32):Option (Int×UInt32):=
(Gj (Ja a 0)).bind fun _=>
if(geq (Bk b (GI.toZ a).toNat) 0)then
some (0,b)
else
(Gj (Ja a 0)).bind fun _=>
some (1,(Ah b (Cr (1:UInt32) (GI.toZ a).toNat)))
def Eh(a:LB):Option (LB):=
(
(Ew ([]:LB) a).bind fun b=>
some b)
def Axd(a:LB)(b:Int):Option (LB×Int):=
(Eh a).bind fun f=>
some (f,b)
abbrev Cj:=Option (LB×Int×Int)
def Bio(f:Int)(o:LB):Cj:=
some (o,f,0)
def Avh:=Bio
def Bhd(bk15:UInt64→Int→Int→LB→Cj)(b:UInt64)(a:Int)(m:UInt64)(h f:Int)(w:LB):Cj:=
(Gj (Ja (Db h (Ah 8 (Cx f 7))) 0)).bind fun _=>
bk15 (Bk m (GI.toZ (Db h (Ah 8 (Cx f 7)))).toNat) (Ah h (Db h (Ah 8 (Cx f 7)))) (Ad f (Db h (Ah 8 (Cx f 7)))) w
def Aw0 bk15:=Bhd bk15
def Aww(j19:UInt64→Int→Int→LB→Cj)(b:UInt64)(a:Int)(m:UInt64)(h f:Int)(u:LB):Cj:=
(getI u (Ah (Ac u) 1)).bind fun _=>
(Gj (Ja (Db h (Ah 8 (Cx f 7))) 0)).bind fun _=>
(Gj (Ja (Cx f 7) 0)).bind fun _=>
(getI u (Ah (Ac u) 1)).bind fun ad=>
(getI u (Ah (Ac u) 1)).bind fun _=>
Option.bind (Ic u (Ah (Ac u) 1) (gor ad (Cr (Ae (Cx m (Ah (Cr (1:UInt64) (GI.toZ (Db h (Ah 8 (Cx f 7)))).toNat) 1)):UInt8) (GI.toZ (Cx f 7)).toNat))) fun w=>
j19 m h f w
def Avz bk15 b a:=Aww (Aw0 bk15 b a) b a
def Axa(j18:UInt64→Int→Int→LB→Cj)(j21:Int→LB→Cj)(b:UInt64)(a:Int)(m:UInt64)(h f:Int)(o:LB):Cj:=
if(El h 0)then
if(geq (Cx f 7) 0)then
(Ew o ([(0:UInt8)]:LB)).bind fun ab=>
j18 m h f ab
else
j18 m h f o
else
j21 f o
def Als(b:UInt64)(a:Int):Nat→UInt64→Int→Int→LB→Cj
|0,_,_,_,_=>none
|q+1,m,h,f,o=>Axa (Avz (Als b a q) b a) Avh b a m h f o
def Aw4 b a:=Als b a Am
def Bhu(g:Int)(p:LB):Cj:=
some (p,g,0)
def Avo:=Bhu
def Biv(bk22:UInt64→Int→Int→LB→Cj)(b:UInt64)(a:Int)(n:UInt64)(k g:Int)(y:LB):Cj:=
(Gj (Ja (Db k (Ah 8 (Cx g 7))) 0)).bind fun _=>
bk22 (Bk n (GI.toZ (Db k (Ah 8 (Cx g 7)))).toNat) (Ah k (Db k (Ah 8 (Cx g 7)))) (Ad g (Db k (Ah 8 (Cx g 7)))) y
def Avj bk22:=Biv bk22
def Av6(j26:UInt64→Int→Int→LB→Cj)(b:UInt64)(a:Int)(n:UInt64)(k g:Int)(v:LB):Cj:=
(getI v (Ah (Ac v) 1)).bind fun _=>
(Gj (Ja (Db k (Ah 8 (Cx g 7))) 0)).bind fun _=>
(Gj (Ja (Cx g 7) 0)).bind fun _=>
(getI v (Ah (Ac v) 1)).bind fun ae=>
(getI v (Ah (Ac v) 1)).bind fun _=>
Option.bind (Ic v (Ah (Ac v) 1) (gor ae (Cr (Ae (Cx n (Ah (Cr (1:UInt64) (GI.toZ (Db k (Ah 8 (Cx g 7)))).toNat) 1)):UInt8) (GI.toZ (Cx g 7)).toNat))) fun y=>
j26 n k g y
def Aw6 bk22 b a:=Av6 (Avj bk22 b a) b a
def Aw8(j25:UInt64→Int→Int→LB→Cj)(j28:Int→LB→Cj)(b:UInt64)(a:Int)(n:UInt64)(k g:Int)(p:LB):Cj:=
if(El k 0)then
if(geq (Cx g 7) 0)then
(Ew p ([(0:UInt8)]:LB)).bind fun w=>
j25 n k g w
else
j25 n k g p
else
j28 g p
def Am0(b:UInt64)(a:Int):Nat→UInt64→Int→Int→LB→Cj
|0,_,_,_,_=>none
|q+1,n,k,g,p=>Aw8 (Aw6 (Am0 b a q) b a) Avo b a n k g p
def Awb b a:=Am0 b a Am
def Azl(j15:UInt64→Int→UInt64→Int→Int→LB→Cj)(j22:UInt64→Int→UInt64→Int→Int→LB→Cj)(ac:LB)(aa:Int)(b:UInt64)(a:Int):Cj:=
(Hk ac aa).bind fun af=>
if(Bb af 0)then
some (([]:LB),0,8)
else
if((Bt a 0)||(El a 64))then
some (([]:LB),0,2)
else
if(Bt a 64)then
(Gj (Ja a 0)).bind fun _=>
if(Bb (Bk b (GI.toZ a).toNat) 0)then
some (([]:LB),0,16)
else
if(El (Ad aa a) 330000)then
some (([]:LB),0,18)
else
(Axd ac aa).bind fun(ag,ah)=>
j15 b a b a ah ag
else
if(El (Ad aa a) 330000)then
some (([]:LB),0,18)
else
(Axd ac aa).bind fun(ab,ai)=>
j22 b a b a ai ab
def Ap5:=Azl Aw4 Awb
def Afo(b:UInt32)(a:Int):Option Bool:=
(Gj (Ja a 0)).bind fun _=>
some (Ja (Bk b (GI.toZ a).toNat) 48)
def Avx(a:Int):Option (Int×Int):=
if((Bt a 0)||(El a 48))then
some (0,2)
else
some ((Db (Ad a 1) 48),0)
def Azt(b:LB)(f a:Int):Option (LB×Int×Int):=
(Hk b f).bind fun g=>
if(Bb g 0)then
some (([]:LB),0,g)
else
(Avx a).bind fun(k,h)=>
if(Bb h 0)then
some (([]:LB),0,h)
else
(Gj (Ja a 0)).bind fun _=>
(Ap5 b f (Ah (Cr (1:UInt64) (GI.toZ a).toNat) 1) k).bind fun(m,n,o)=>
some (m,n,o)
abbrev Alz:=Option (LB×Int×Int)
def Be6(b:LB)(f h:Int)(k:UInt32)(m:Int):Alz:=
(Azt b f h).bind fun(p,u,n)=>
if(Bb n 0)then
some (([]:LB),0,n)
else
(Ap5 p u (Ae k:UInt64) m).bind fun(v,w,y)=>
some (v,w,y)
def At5:=Be6
def At6(j2:LB→Int→Int→UInt32→Int→Alz)(b:LB)(f:Int)(g:UInt32)(a:Int):Alz:=
(Hk b f).bind fun o=>
if(Bb o 0)then
some (([]:LB),0,o)
else
if((Bt a 0)||(El a 24))then
some (([]:LB),0,2)
else
(Gj (Ja a 0)).bind fun _=>
(Gj (Ja a 0)).bind fun _=>
(Afo g a).bind fun aa=>
if aa then
j2 b f 48 g 32
else
j2 b f (Ae (Bk g (GI.toZ a).toNat):Int) (Cx g (Ah (Cr (1:UInt32) (GI.toZ a).toNat) 1)) a
def Bbg:=At6 At5
abbrev Fw:=Option (LB×Int×Int×Int×UInt64×UInt64×Int)
def Ahy(k u n:Int)(a:UInt64)(b:UInt32)(o:UInt64)(m:LB):Fw:=
(
(
some (m,k,u,n,(Ad a (Ah (Ae b:UInt64) (Bk a (GI.toZ (4:UInt64)).toNat))),o,0)))
def Aqs:=Ahy
def Ath(j10:Int→Int→Int→UInt64→UInt32→UInt64→LB→Fw)(b:UInt32)(k n:Int)(a o:UInt64)(m:LB)(u:Int):Fw:=
j10 k u n a b o m
def Atx:=Ath Aqs
def Ata(j9:UInt32→Int→Int→UInt64→UInt64→LB→Int→Fw)(b:UInt32)(f:Int)(a:UInt64)(k:Int)(m:LB)(n:Int)(o:UInt64):Fw:=
if(El f 0)then
(Gj (Ja f 0)).bind fun _=>
if(Bt (Ad a (Ah (Ae b:UInt64) (Bk a (GI.toZ (4:UInt64)).toNat))) (Cr (16:UInt64) (GI.toZ f).toNat))then
j9 b k n a o m (Ah f 1)
else
if(Bt f 24)then
(Gj (Ja f 0)).bind fun _=>
if(El (Ad a (Ah (Ae b:UInt64) (Bk a (GI.toZ (4:UInt64)).toNat))) (Cr (32:UInt64) (GI.toZ f).toNat))then
j9 b k n a o m (Ad f 1)
else
j9 b k n a o m f
else
j9 b k n a o m f
else
if(Bt f 24)then
(Gj (Ja f 0)).bind fun _=>
if(El (Ad a (Ah (Ae b:UInt64) (Bk a (GI.toZ (4:UInt64)).toNat))) (Cr (32:UInt64) (GI.toZ f).toNat))then
j9 b k n a o m (Ad f 1)
else
j9 b k n a o m f
else
j9 b k n a o m f
def Ati:=Ata Atx
def Atk(j8:UInt32→Int→UInt64→Int→LB→Int→UInt64→Fw)(b:UInt32)(f h:Int)(a g:UInt64)(y k:Int)(m:LB):Fw:=
if(Bb y 0)then
some (([]:LB),0,0,0,0,0,y)
else
(Abg f h a g b).bind fun(ag,p)=>
if(geq ag 1)then
if(El h 0)then
(Gj (Ja h 0)).bind fun _=>
if(Bt (Ad g (Ah (Ae p:UInt64) (Bk g (GI.toZ (4:UInt64)).toNat))) (Cr (16:UInt64) (GI.toZ h).toNat))then
j8 b f a k m (Ah h 1) (Ad g (Ah (Ae p:UInt64) (Bk g (GI.toZ (4:UInt64)).toNat)))
else
if(Bt h 24)then
(Gj (Ja h 0)).bind fun _=>
if(El (Ad g (Ah (Ae p:UInt64) (Bk g (GI.toZ (4:UInt64)).toNat))) (Cr (32:UInt64) (GI.toZ h).toNat))then
j8 b f a k m (Ad h 1) (Ad g (Ah (Ae p:UInt64) (Bk g (GI.toZ (4:UInt64)).toNat)))
else
j8 b f a k m h (Ad g (Ah (Ae p:UInt64) (Bk g (GI.toZ (4:UInt64)).toNat)))
else
j8 b f a k m h (Ad g (Ah (Ae p:UInt64) (Bk g (GI.toZ (4:UInt64)).toNat)))
else
if(Bt h 24)then
(Gj (Ja h 0)).bind fun _=>
if(El (Ad g (Ah (Ae p:UInt64) (Bk g (GI.toZ (4:UInt64)).toNat))) (Cr (32:UInt64) (GI.toZ h).toNat))then
j8 b f a k m (Ad h 1) (Ad g (Ah (Ae p:UInt64) (Bk g (GI.toZ (4:UInt64)).toNat)))
else
j8 b f a k m h (Ad g (Ah (Ae p:UInt64) (Bk g (GI.toZ (4:UInt64)).toNat)))
else
j8 b f a k m h (Ad g (Ah (Ae p:UInt64) (Bk g (GI.toZ (4:UInt64)).toNat)))
else
j8 b f a k m h g
def At2:=Atk Ati
def Atn(j7:UInt32→Int→Int→UInt64→UInt64→Int→Int→LB→Fw)(b:UInt32)(v:LB)(w f h:Int)(a g:UInt64):Fw:=
(Abg f h a g b).bind fun(ad,ae)=>
(Ap5 v w (Ae ad:UInt64) 1).bind fun(aa,ab,ac)=>
if((geq ac 0)&&(geq ad 0))then
(Ap5 aa ab (Ae ae:UInt64) f).bind fun(ah,ai,aj)=>
j7 b f h a g aj ai ah
else
if(geq ac 0)then
(Bbg aa ab ae h).bind fun(ak,al,am)=>
j7 b f h a g am al ak
else
j7 b f h a g ac ab aa
def Atb:=Atn At2
def At1(j6:UInt32→LB→Int→Int→Int→UInt64→UInt64→Fw)(v:LB)(w f h:Int)(a g:UInt64)(b:UInt32):Fw:=
(Hk v w).bind fun an=>
if(Bb an 0)then
some (([]:LB),0,0,0,0,0,8)
else
(Ah5 f h a g).bind fun ao=>
if(Bb ao 0)then
some (([]:LB),0,0,0,0,0,8)
else
j6 b v w f h a g
def Bc5:=At1 Atb
abbrev Bg:=Option (UInt32×Int)
def Aqc(h:UInt32):Bg:=
some (h,0)
def Aht:=Aqc
def Zd(j30:UInt32→Bg)(bk28:UInt32→Int→Bg)(a:LB)(b:LU)(h:UInt32)(m:Int):Bg:=
if(Bt m (Ac a))then
(getI a m).bind fun p=>
(getI b (GI.toZ (Ru (Ae h:UInt8) p))).bind fun _=>
(getI b (GI.toZ (Ru (Ae h:UInt8) p))).bind fun u=>
bk28 (Ru (Bk h (GI.toZ (8:UInt64)).toNat) u) (Ad m 1)
else
j30 h
def Lu(a:LB)(b:LU):Nat→UInt32→Int→Bg
|0,_,_=>none
|q+1,h,m=>Zd Aht (Lu a b q) a b h m
def Agr a b:=Lu a b Am
def Ah1(j28:LB→LU→UInt32→Int→Bg)(f:UInt32)(a:LB)(b:LU):Bg:=
j28 a b f 0
def Ag1:=Ah1 Agr
def Agj(j27:UInt32→LB→LU→Bg)(f:UInt32)(a:LB)(b:LU):Bg:=
j27 f a b
def Yn:=Agj Ag1
def Ard(bk16:Int→LU→Bg)(f:UInt32)(a:LB)(g:Int)(o:LU):Bg:=
bk16 (Ad g 1) o
def Af5 bk16:=Ard bk16
def Agu(j24:Int→LU→Bg)(f:UInt32)(a:LB)(g:Int)(k:UInt32)(b:LU):Bg:=
(getI b g).bind fun _=>
(Ic b g k).bind fun o=>
j24 g o
def Zx bk16 f a:=Agu (Af5 bk16 f a) f a
def Xf(j23:Int→UInt32→LU→Bg)(bk21:UInt32→Int→Bg)(f:UInt32)(a:LB)(g:Int)(b:LU)(k:UInt32)(n:Int):Bg:=
if(Bt n 8)then
bk21 (Ru (Bk k (GI.toZ (1:UInt64)).toNat) (Ax 3988292384 (Cx k 1))) (Ad n 1)
else
j23 g k b
def Mn(bk16:Int→LU→Bg)(f:UInt32)(a:LB)(g:Int)(b:LU):Nat→UInt32→Int→Bg
|0,_,_=>none
|q+1,k,n=>Xf (Zx bk16 f a) (Mn bk16 f a g b q) f a g b k n
def Ahs bk16 f a g b:=Mn bk16 f a g b Am
def Ym(j21:Int→LU→UInt32→Int→Bg)(j26:UInt32→LB→LU→Bg)(f:UInt32)(a:LB)(g:Int)(b:LU):Bg:=
if(Bt g 256)then
j21 g b (Ae g:UInt32) 0
else
j26 f a b
def Ju(f:UInt32)(a:LB):Nat→Int→LU→Bg
|0,_,_=>none
|q+1,g,b=>Ym (Ahs (Ju f a q) f a) Yn f a g b
def Ahb f a:=Ju f a Am
def Aka(j16:UInt32→LB→Int→LU→Bg)(f:UInt32)(a:LB):Bg:=
if(El (Ac a) 100000)then
some (0,4)
else
j16 f a 0 (List.replicate 256 (0:UInt32))
def Alu:=Aka Ahb
def Rz(b:LB):Option (UInt32×Int):=
(Alu 4294967295 b).bind fun(f,a)=>
if(Bb a 0)then
some (0,a)
else
some ((Bdk f),0)
def Bap(b:UInt64)(a:Int):Option Bool:=
if(geq a 8)then
some true
else
(Gj (Ja (Ax 8 a) 0)).bind fun _=>
some (geq (Bk b (GI.toZ (Ax 8 a)).toNat) 0)
abbrev Vj:=Option (LB×Int)
def Azj(a:LB):Vj:=
some (a,0)
def Aqf:=Azj
def Aix(j6:LB→Vj)(bk4:Int→LB→Vj)(f:UInt64)(g:LB)(b:Int)(a:LB):Vj:=
if(Bt b (Ac g))then
(Gj (Ja (Ax 8 b) 0)).bind fun _=>
(getI a b).bind fun _=>
(Ic a b (Ae (Bk f (GI.toZ (Ax 8 b)).toNat):UInt8)).bind fun k=>
bk4 (Ad b 1) k
else
j6 a
def Ws(f:UInt64)(g:LB):Nat→Int→LB→Vj
|0,_,_=>none
|q+1,b,a=>Aix Aqf (Ws f g q) f g b a
def Apv f g:=Ws f g Am
def Aqx(j4:UInt64→LB→Int→LB→Vj)(f:UInt64)(h:Int):Vj:=
if((Bt h 1)||(El h 8))then
some (([]:LB),2)
else
(Bap f h).bind fun m=>
if(!m)then
some (([]:LB),16)
else
(mkI h (0:UInt8)).bind fun g=>
(Gj (geq h h)).bind fun _=>
j4 f g 0 g
def Uf:=Aqx Apv
def Aff(f:LB):Option (LB):=
some f
def Pz:=Aff
def Pr(j16:LB→Option (LB))(bk14:Int→LB→Option (LB))(a:List LB)(g:Int)(f:LB):Option (LB):=
if(Bt g (Ac a))then
(getI a g).bind fun o=>
(Ew f o).bind fun p=>
bk14 (Ad g 1) p
else
j16 f
def Is(a:List LB):Nat→Int→LB→Option (LB)
|0,_,_=>none
|q+1,g,f=>Pr Pz (Is a q) a g f
def Pu a:=Is a Am
def Pk(j14:(List LB)→Int→LB→Option (LB))(a:List LB)(k:LB):Option (LB):=
j14 a 0 k
def Pw:=Pk Pu
def Pp(j13:(List LB)→LB→Option (LB))(b:Int)(a:List LB):Option (LB):=
if(El (Ah b (Ah (0:Int) (0:Int))) 0)then
(vwI 0 0 0).bind fun _=>
(mkI (Ah b (Ah (0:Int) (0:Int))) (0:UInt8)).bind fun u=>
(Ew ([]:LB) u).bind fun m=>
(vwI (Ac m) 0 0).bind fun _=>
j13 a (Aj9 m 0 ((0:Int)-(0:Int)))
else
j13 a ([]:LB)
def Pv:=Pp Pw
def Pm(j12:Int→(List LB)→Option (LB))(a:List LB)(b:Int):Option (LB):=
if(Bt b 0)then
none
else
j12 b a
def Pn:=Pm Pv
def Rk(j11:(List LB)→Int→Option (LB))(bk9:Int→Int→Option (LB))(a:List LB)(b h:Int):Option (LB):=
if(Bt h (Ac a))then
(getI a h).bind fun n=>
if(Bt (Ad b (Ac n)) 0)then
none
else
bk9 (Ad b (Ac n)) (Ad h 1)
else
j11 a b
def Jo(a:List LB):Nat→Int→Int→Option (LB)
|0,_,_=>none
|q+1,b,h=>Rk Pn (Jo a q) a b h
def Qc a:=Jo a Am
def Qo(j9:(List LB)→Int→Int→Option (LB))(a:List LB):Option (LB):=
j9 a 0 0
def Vu:=Qo Qc
abbrev Az:=Option (LB×Int)
def Au5(u:Int)(p:LB):Az:=
(Rz p).bind fun(af,ac)=>
if(Bb ac 0)then
some (([]:LB),ac)
else
(Uf (Ae af:UInt64) 4).bind fun(m,h)=>
if(Bb h 0)then
some (([]:LB),h)
else
(Vu ([p,m]:List LB)).bind fun ag=>
some (ag,0)
def Agv:=Au5
def Auj(bk27:Int→(List (Int×Int×UInt64×UInt64×Unit))→Int→LB→Az)(a:LU)(b f g:Int)(k:List (Int×Int×UInt64×UInt64×Unit))(n:Int)(v:LB):Az:=
bk27 (Ad g 1) k n v
def Agy bk27:=Auj bk27
def Aup(bk44:Int→Int→LB→Az)(h:Int)(a:LU)(g b f:Int)(k:List (Int×Int×UInt64×UInt64×Unit))(m:LB)(o n:Int)(aa:LB):Az:=
bk44 (Ad o 1) (Ad n 1) aa
def Ah2 bk44:=Aup bk44
def Ag5(j48:Int→Int→LB→Az)(h:Int)(a:LU)(g b f:Int)(k:List (Int×Int×UInt64×UInt64×Unit))(m:LB)(o n:Int)(y:LB):Az:=
(getI m (Bq o 8)).bind fun _=>
(getI m (Bq o 8)).bind fun ah=>
(Gj (Ja (Fa o 8) 0)).bind fun _=>
(getI y (Bq n 8)).bind fun _=>
(Gj (Ja (Fa n 8) 0)).bind fun _=>
(getI y (Bq n 8)).bind fun ai=>
(getI y (Bq n 8)).bind fun _=>
Option.bind (Ic y (Bq n 8) (gor ai (Cr (Cx (Bk ah (GI.toZ (Fa o 8)).toNat) 1) (GI.toZ (Fa n 8)).toNat))) fun aa=>
j48 o n aa
def Aih bk44 h a g b f k m:=Ag5 (Ah2 bk44 h a g b f k m) h a g b f k m
def Aic(j47:Int→Int→LB→Az)(j50:Int→(List (Int×Int×UInt64×UInt64×Unit))→Int→LB→Az)(a:LU)(b f h g:Int)(k:List (Int×Int×UInt64×UInt64×Unit))(m:LB)(o n:Int)(v:LB):Az:=
if(Bt o h)then
if(geq (Fa n 8) 0)then
(Ew v ([(0:UInt8)]:LB)).bind fun aj=>
j47 o n aj
else
j47 o n v
else
j50 g k n v
def Vq(bk27:Int→(List (Int×Int×UInt64×UInt64×Unit))→Int→LB→Az)(a:LU)(b f h g:Int)(k:List (Int×Int×UInt64×UInt64×Unit))(m:LB):Nat→Int→Int→LB→Az
|0,_,_,_=>none
|q+1,o,n,v=>Aic (Aih (Vq bk27 a b f h g k m q) h a g b f k m) (Agy bk27 a b f) a b f h g k m o n v
def Af9 bk27 a b f h g k m:=Vq bk27 a b f h g k m Am
def Af3(j44:Int→Int→(List (Int×Int×UInt64×UInt64×Unit))→LB→Int→Int→LB→Az)(j52:Int→LB→Az)(a:LU)(b f g:Int)(w:List (Int×Int×UInt64×UInt64×Unit))(u:Int)(p:LB):Az:=
if(Bt g (Ac a))then
(getI a g).bind fun _=>
(getI a g).bind fun ak=>
(Gj (Bb b 0)).bind fun _=>
(getI w (Fa g b)).bind fun _=>
(getI w (Fa g b)).bind fun ab=>
(Bc5 ([]:LB) 0 ab.1 ab.2.1 ab.2.2.1 ab.2.2.2.1 ak).bind fun(m,h,al,am,an,ao,ad)=>
if(Bb ad 0)then
some (([]:LB),ad)
else
(Gj (Bb b 0)).bind fun _=>
(getI w (Fa g b)).bind fun _=>
(Ic w (Fa g b) (al,am,an,ao,())).bind fun k=>
j44 h g k m 0 u p
else
j52 u p
def Vo(a:LU)(b f:Int):Nat→Int→(List (Int×Int×UInt64×UInt64×Unit))→Int→LB→Az
|0,_,_,_,_=>none
|q+1,g,w,u,p=>Af3 (Af9 (Vo a b f q) a b f) Agv a b f g w u p
def Ags a b f:=Vo a b f Am
def Ai6(j27:LU→Int→Int→Int→(List (Int×Int×UInt64×UInt64×Unit))→Int→LB→Az)(b f:Int)(ap aq:LX):Az:=
(Aqr b f ap aq).bind fun(a,ae)=>
if(Bb ae 0)then
some (([]:LB),ae)
else
(Arx).bind fun ar=>
j27 a b f 0 ar 0 ([]:LB)
def Zs:=Ai6 Ags
def Rn(a:Int)(b:LX):LI→Int→Option (List LX)
  |[],_=>some []
  |n::l,x=>Option.bind (Bo b x (Ad x (Ax n a))) fun p=>Option.bind (Rn a b l (Ad x (Ax n a))) fun ps=>some (p::ps)
def Ab8(a f:Int)(t:LX):List LX→List LB→Option (List LB×Int)
  |[],o=>some (o,0)
  |x::xs,o=>Option.bind (Zs a f t x) fun y=>
    if(Bb y.2 0)=true then some ([],y.2)
    else Option.bind (Ew o [y.1]) fun o'=>Ab8 a f t xs o'
def Aq8(a h:Int)(b:LX):Option (List LX):=
  Option.bind (Gj (Bb a 0)) fun _=>Option.bind (Qm h (Bq (Ac b) a)) fun l=>Option.bind (Gj (decide (Ac l.1≤17179869184))) fun _=>Rn a b l.1 0
def Arr(a f h:Int)(b:LX)(p:LB):Option (List LB×Int):=
  Option.bind (Abr a f h b) fun e=>
    if(Bb e 0)=true then some ([],e)
    else Option.bind (Rw p) fun t=>
      if(Bb t.2 0)=true then some ([],t.2)
      else Option.bind (Aq8 a h b) fun xs=>Ab8 a f t.1 xs []
def Akz(b f a g h:Int):Option Bool:=
some (((((((geq b 1)||(geq b 2))&&(El f 0))&&(gle f 6))&&(El g 0))&&(gle g 1048576))&&(El h 0))
def Sf:=Akz
def Abh(j2:Int→Int→Int→Int→Int→Option Bool)(b f a g h:Int):Option Bool:=
if(geq a 8)then
if(geq a 8)then
j2 b f a g h
else
some false
else
if(geq a 16)then
if(geq a 16)then
j2 b f a g h
else
some false
else
if(geq a 24)then
j2 b f a g h
else
some false
def Ue:=Abh Sf
def Adl(k a m f b:Int):Option Bool:=
(Gj (Bb a 0)).bind fun _=>
if(El b (Bq 4000 a))then
some false
else
(Lf f b).bind fun(g,h)=>
some ((geq h 0)&&(gle g 1000))
def Xx(a b f g h:Int):Option Int:=
(Ue a b f g h).bind fun k=>
if(!k)then
some 8
else
(Adl a b f g h).bind fun m=>
if(!m)then
some 8
else
some 0
abbrev Jf:=Option (LB×Int)
def Baa(a:LB):Jf:=
(Rz a).bind fun(u,aa)=>
(Uf (Ae u:UInt64) 4).bind fun(n,v)=>
(Ew a n).bind fun o=>
some (o,0)
def An3:=Baa
def Aoh(j6:LB→Jf)(bk4:Int→LB→Jf)(b f g h k m:Int)(a:LB):Jf:=
if(Bt m 5)then
(getI ([b,f,g,h,k]:LI) m).bind fun w=>
(getI ([(2:Int),(2:Int),(2:Int),(4:Int),(4:Int)]:LI) m).bind fun y=>
(Uf (Ae w:UInt64) y).bind fun(n,v)=>
(Ew a n).bind fun o=>
bk4 (Ad m 1) o
else
j6 a
def Aee(b f g h k:Int):Nat→Int→LB→Jf
|0,_,_=>none
|q+1,m,a=>Aoh An3 (Aee b f g h k q) b f g h k m a
def Aog b f g h k:=Aee b f g h k Am
def Anq(j4:Int→Int→Int→Int→Int→Int→LB→Jf)(b f g h k:Int):Jf:=
(Xx b f g h k).bind fun p=>
if(Bb p 0)then
some (([]:LB),p)
else
j4 b f g h k 0 ([(84:UInt8),(84:UInt8),(65:UInt8),(49:UInt8)]:LB)
def Av3:=Anq Aog
def Ayc(a:LB):Option (UInt64×Int):=
if(El (Ac a) 64)then
some (0,2)
else
(Ak1 a).bind fun(b,f)=>
some (b,0)
def Wy(b:LB):Option (LB×Int):=
(Ayc b).bind fun(f,a)=>
if(Bb a 0)then
some (([]:LB),a)
else
(Uf f 8).bind fun(g,h)=>
some (g,h)
def Bdc:Option Int:=
some 0
def Ark:=Bdc
def Yb(j6:Option Int)(bk4:Int→Int→Option Int)(a:LI)(f b:Int):Option Int:=
if(Bt b (Ac a))then
(getI a b).bind fun g=>
if((Bt g 5)||(El g f))then
some 8
else
bk4 (Ah f g) (Ad b 1)
else
j6
def Mm(a:LI):Nat→Int→Int→Option Int
|0,_,_=>none
|q+1,f,b=>Yb Ark (Mm a q) a f b
def Af6 a:=Mm a Am
def Xp(j4:LI→Int→Int→Option Int)(a:LI):Option Int:=
if((geq (Ac a) 0)||(El (Ac a) 1000))then
some 8
else
j4 a 100000 0
def Ky:=Xp Af6
abbrev Ex:=Option (LB×Int)
def Bag(g:LB):Ex:=
some (g,0)
def Aoj:=Bag
def An0(j14:LB→Ex)(b:LB):Ex:=
(Rz b).bind fun(m,u)=>
(Uf (Ae m:UInt64) 4).bind fun(n,v)=>
(Ew b n).bind fun g=>
j14 g
def Ant:=An0 Aoj
def Az7(bk8:Int→LB→Ex)(a:LI)(f:Int)(h:LB):Ex:=
bk8 (Ad f 1) h
def Aoe bk8:=Az7 bk8
def Arb(j11:Int→LB→Ex)(j13:LB→Ex)(a:LI)(f:Int)(b:LB):Ex:=
if(Bt f (Ac a))then
(getI a f).bind fun o=>
(Uf (Ae o:UInt64) 4).bind fun(p,w)=>
(Ew b p).bind fun h=>
j11 f h
else
j13 b
def Aho(a:LI):Nat→Int→LB→Ex
|0,_,_=>none
|q+1,f,b=>Arb (Aoe (Aho a q) a) Ant a f b
def Aqh a:=Aho a Am
def Aqj(j8:LI→Int→LB→Ex)(a:LI):Ex:=
(Ky a).bind fun k=>
if(Bb k 0)then
some (([]:LB),k)
else
j8 a 0 ([]:LB)
def Ayv:=Aqj Aqh
def Atl(a:LB):Option Int:=
some (Ac a)
def Bdv(a:LB):Option (LB):=
some a
def Aq6:=Bdv
def Ar2(j6:LB→Option (LB))(bk4:Int→LB→Option (LB))(b:List LB)(f:Int)(a:LB):Option (LB):=
if(Bt f (Ac b))then
(getI b f).bind fun g=>
(Ew a g).bind fun h=>
bk4 (Ad f 1) h
else
j6 a
def Ah9(b:List LB):Nat→Int→LB→Option (LB)
|0,_,_=>none
|q+1,f,a=>Ar2 Aq6 (Ah9 b q) b f a
def Are b:=Ah9 b Am
def Arj(j4:(List LB)→Int→LB→Option (LB))(b:List LB):Option (LB):=
j4 b 0 ([]:LB)
def Ay5:=Arj Are
abbrev Dc:=Option (LB×Int)
def Bae(k:Int)(a:List LB)(b f n:LB):Dc:=
if(Bb k 0)then
some (([]:LB),k)
else
(Ew ([b,f,n]:List LB) a).bind fun m=>
(Ay5 m).bind fun ad=>
some (ad,0)
def Aop:=Bae
def Anu(j14:Int→(List LB)→LB→LB→LB→Dc)(h:LI)(a:List LB)(b f:LB):Dc:=
(Ayv h).bind fun(n,k)=>
j14 k a b f n
def Aoc:=Anu Aop
def Bab(bk9:Int→LI→Dc)(a:List LB)(b f:LB)(g:Int)(m:LI):Dc:=
bk9 (Ad g 1) m
def An9 bk9:=Bab bk9
def Aq1(j11:Int→LI→Dc)(j13:LI→(List LB)→LB→LB→Dc)(a:List LB)(b f:LB)(g:Int)(h:LI):Dc:=
if(Bt g (Ac a))then
(getI a g).bind fun _=>
(getI a g).bind fun ae=>
(Atl ae).bind fun k=>
(getI h g).bind fun _=>
(Ic h g k).bind fun m=>
j11 g m
else
j13 h a b f
def Aig(a:List LB)(b f:LB):Nat→Int→LI→Dc
|0,_,_=>none
|q+1,g,h=>Aq1 (An9 (Aig a b f q) a b f) Aoc a b f g h
def Aqw a b f:=Aig a b f Am
def Ap0(j9:(List LB)→LB→LB→Int→LI→Dc)(a:List LB)(b f:LB):Dc:=
(mkI (Ac a) (0:Int)).bind fun af=>
(Gj (geq (Ac a) (Ac a))).bind fun _=>
j9 a b f 0 af
def Aqk:=Ap0 Aqw
def Ap2(j8:(List LB)→LB→LB→Dc)(p u v:Int)(w:LX)(o:LB):Dc:=
(Aze p u v w o).bind fun(y,ag,ah,ai,aj,aa)=>
if(Bb aa 0)then
some (([]:LB),aa)
else
(Arr p u v w o).bind fun(a,ab)=>
if(Bb ab 0)then
some (([]:LB),ab)
else
(Av3 y ag ah ai aj).bind fun(b,ac)=>
if(Bb ac 0)then
some (([]:LB),ac)
else
if(geq y 2)then
(Wy o).bind fun(ak,al)=>
j8 a b ak
else
j8 a b ([]:LB)
def Azx:=Ap2 Aqk
def Ag9:Option (LB×Bool):=
(Azx 1 8 1 ([(1:Int32),(2:Int32)]:LX) ([]:LB)).bind fun(a,b)=>
some (a,((geq b 0)&&(geq (Ac a) 46)))
def Fj(a b:LB):Option Bool:=
some (a==b)
def Ib(b a:LB):Option Bool:=
if(Ja (Ac b) (Ac a))then
(Bo b 0 (Ac a)).bind fun f=>
(Fj f a).bind fun g=>
some g
else
some false
abbrev Hz:=Option (Int×Int)
def Ax7(b:Int):Hz:=
some (b,0)
def Ak0:=Ax7
def Rr(j6:Int→Hz)(bk4:Int→Int→Hz)(a:LB)(b f:Int):Hz:=
if(Bt f (Ac a))then
(getI a f).bind fun g=>
if(El g 127)then
some (0,12)
else
bk4 (gor (Cr b (GI.toZ (7:UInt64)).toNat) (Ae g:Int)) (Ad f 1)
else
j6 b
def Jc(a:LB):Nat→Int→Int→Hz
|0,_,_=>none
|q+1,b,f=>Rr Ak0 (Jc a q) a b f
def Abe a:=Jc a Am
def Aba(j4:LB→Int→Int→Hz)(a:LB):Hz:=
if(Bb (Ac a) 4)then
some (0,2)
else
j4 a 0 0
def Ab4:=Aba Abe
abbrev Fq:=Option (Int×Int)
def An6(a:LB)(b:UInt8)(h:Int):Fq:=
if(El h 4000)then
some (0,4)
else
if(Bt (Ac a) h)then
some (0,24)
else
if(geq b 16)then
(Bo a (Ah h 10) h).bind fun k=>
(Bo k 0 3).bind fun u=>
if(u !=([51,68,73]:LB))then
some (0,12)
else
(Bo k 3 (Ac k)).bind fun v=>
(Bo a 3 10).bind fun w=>
(Fj v w).bind fun y=>
if(!y)then
some (0,12)
else
some (h,0)
else
some (h,0)
def Uj:=An6
def Aei(j8:LB→UInt8→Int→Fq)(a:LB)(g:Int)(b:UInt8):Fq:=
if(geq b 16)then
j8 a b (Ad (Ad g 10) 10)
else
j8 a b (Ad g 10)
def Uk:=Aei Uj
def Aeb(j7:LB→Int→UInt8→Fq)(a:LB)(g:Int)(b:UInt8)(m:Bool):Fq:=
if m then
some (0,12)
else
j7 a g b
def Aer:=Aeb Uk
def Ad4(j6:LB→Int→UInt8→Bool→Fq)(a:LB)(f b:UInt8):Fq:=
(Bo a 6 10).bind fun aa=>
(Ab4 aa).bind fun(g,ab)=>
if(Bb ab 0)then
if true then
j6 a g b true
else
if(geq b 0)then
j6 a g b (!((Ja f 2)&&(gle f 4)))
else
if(geq b 16)then
j6 a g b (!(geq f 4))
else
j6 a g b (!false)
else
(getI a 4).bind fun ac=>
if(Bb ac 0)then
j6 a g b true
else
if(geq b 0)then
j6 a g b (!((Ja f 2)&&(gle f 4)))
else
if(geq b 16)then
j6 a g b (!(geq f 4))
else
j6 a g b (!false)
def Ad7:=Ad4 Aer
def Ui(j5:LB→UInt8→UInt8→Fq)(a:LB):Fq:=
(Ib a ([(73:UInt8),(68:UInt8),(51:UInt8)]:LB)).bind fun n=>
if(!n)then
some (0,6)
else
if(Bt (Ac a) 10)then
some (0,24)
else
(getI a 3).bind fun f=>
(getI a 5).bind fun b=>
(
(
(
j5 a f b)))
def Afk:=Ui Ad7
abbrev Uz:=Option (UInt64×Int)
def Blb(b:UInt64):Uz:=
some (b,0)
def Azk:=Blb
def Ajg(j6:UInt64→Uz)(bk4:UInt64→Int→Uz)(a:LB)(b:UInt64)(f:Int):Uz:=
if(Bt f (Ac a))then
(getI a f).bind fun g=>
(Gj (Ja (Ax 8 f) 0)).bind fun _=>
bk4 (gor b (Cr (Ae g:UInt64) (GI.toZ (Ax 8 f)).toNat)) (Ad f 1)
else
j6 b
def Wr(a:LB):Nat→UInt64→Int→Uz
|0,_,_=>none
|q+1,b,f=>Ajg Azk (Wr a q) a b f
def Apy a:=Wr a Am
def Apu(j4:LB→UInt64→Int→Uz)(a:LB):Uz:=
if((Bt (Ac a) 1)||(El (Ac a) 8))then
some (0,2)
else
j4 a 0 0
def Arl:=Apu Apy
def Ali(f:LB)(a b:Int):Option (UInt64×Int):=
if(((Bt b 1)||(El b 8))||(Bt a 0))then
some (0,2)
else
if(El a (Ah (Ac f) b))then
some (0,24)
else
(Bo f a (Ad a b)).bind fun g=>
(Arl g).bind fun(h,k)=>
some (h,k)
def Bcp(g:LB):Option (LB):=
some g
def Au1:=Bcp
def Anf(j6:LB→Option (LB))(bk4:Int→LB→Option (LB))(a b:Int)(f:UInt64)(h:Int)(g:LB):Option (LB):=
if(Bt h (Ac ([(2000:UInt64),(Ae (Ad a 32):UInt64),(Ae b:UInt64),f,(0:UInt64),(0:UInt64)]:LQ)))then
(getI ([(2000:UInt64),(Ae (Ad a 32):UInt64),(Ae b:UInt64),f,(0:UInt64),(0:UInt64)]:LQ) h).bind fun _=>
(getI ([(2000:UInt64),(Ae (Ad a 32):UInt64),(Ae b:UInt64),f,(0:UInt64),(0:UInt64)]:LQ) h).bind fun k=>
(Uf k 4).bind fun(m,o)=>
(Ew g m).bind fun n=>
bk4 (Ad h 1) n
else
j6 g
def Uq(a b:Int)(f:UInt64):Nat→Int→LB→Option (LB)
|0,_,_=>none
|q+1,h,g=>Anf Au1 (Uq a b f q) a b f h g
def Au0 a b f:=Uq a b f Am
def Avc(j4:Int→Int→UInt64→Int→LB→Option (LB))(a b:Int)(f:UInt64):Option (LB):=
j4 a b f 0 ([(65:UInt8),(80:UInt8),(69:UInt8),(84:UInt8),(65:UInt8),(71:UInt8),(69:UInt8),(88:UInt8)]:LB)
def Asl:=Avc Au0
def Afy(b:LB)(g:UInt64):Option (Int×Int×Bool):=
(Ali b 12 4).bind fun(a,m)=>
(Ali b 16 4).bind fun(f,n)=>
if(((Bt a 32)||(El a 3032))||(El f 1000))then
some (0,0,false)
else
(Asl (Ah (Ae a:Int) 32) (Ae f:Int) g).bind fun h=>
(Fj b h).bind fun k=>
some ((Ah (Ae a:Int) 32),(Ae f:Int),k)
def Asi(a:LB):Option (Int×Int):=
(Ib a ([(65:UInt8),(80:UInt8),(69:UInt8),(84:UInt8),(65:UInt8),(71:UInt8),(69:UInt8),(88:UInt8)]:LB)).bind fun f=>
if(!f)then
some (0,6)
else
if(Bt (Ac a) 32)then
some (0,24)
else
(Bo a 0 32).bind fun g=>
(Afy g 2684354560).bind fun(b,h,k)=>
if(!k)then
some (0,12)
else
if(Bt (Ac a) (Ad b 64))then
some (0,24)
else
(Bo a (Ah (Ad b 64) 32) (Ad b 64)).bind fun m=>
(Asl b h 2147483648).bind fun n=>
(Fj m n).bind fun o=>
if(!o)then
some (0,12)
else
some ((Ad b 64),0)
def Qw(a:LB):Option (Int×Int):=
(Afk a).bind fun(f,b)=>
if(Bb b 6)then
some (f,b)
else
(Asi a).bind fun(g,h)=>
some (g,h)
def Nz(b:List UInt8):Nat→Int→Option (Int×Int)
  |0,_=>none
  |q+1,x=>Option.bind (Bo b x (Ac b)) fun s=>Option.bind (Qw s) fun r=>
    if geq r.2 (6:Int)=true then some (x,0)
    else if(geq r.2 (0:Int)&&El (Ad x r.1) (4000:Int))=true then some (0,4)
    else if Bb r.2 (0:Int)=true then some (0,r.2)
    else Nz b q (Ad x r.1)
def Qk(b:List UInt8):Option (Int×Int):=Nz b Am 0
def Hg(b a:LB):Option Bool:=
if(Ja (Ac b) (Ac a))then
(Bo b 0 (Ac a)).bind fun f=>
some (f==a)
else
some false
def Pf(a b:LB):Option Bool:=
(Hg a b).bind fun f=>
some f
abbrev Lg:=Option (Int×Int×Int×Int×Int×Int)
def Aqu(a:LI):Lg:=
(getI a 0).bind fun _=>
(getI a 0).bind fun h=>
(getI a 1).bind fun _=>
(getI a 1).bind fun k=>
(getI a 2).bind fun _=>
(getI a 2).bind fun m=>
(getI a 3).bind fun _=>
(getI a 3).bind fun n=>
(getI a 4).bind fun _=>
(getI a 4).bind fun o=>
(Ue h k m n o).bind fun p=>
if(!p)then
some (0,0,0,0,0,12)
else
(Adl h k m n o).bind fun u=>
if(!u)then
some (0,0,0,0,0,4)
else
some (h,k,m,n,o,0)
def Zj:=Aqu
def Zo(j6:LI→Lg)(bk4:Int→Int→LI→Lg)(b:LB)(g f:Int)(a:LI):Lg:=
if(Bt f 5)then
(getI ([(2:Int),(2:Int),(2:Int),(4:Int),(4:Int)]:LI) f).bind fun h=>
(Ali b g h).bind fun(v,ae)=>
(getI a f).bind fun _=>
(Ic a f (Ae v:Int)).bind fun w=>
bk4 (Ad g h) (Ad f 1) w
else
j6 a
def Jr(b:LB):Nat→Int→Int→LI→Lg
|0,_,_,_=>none
|q+1,g,f,a=>Zo Zj (Jr b q) b g f a
def Zh b:=Jr b Am
def Ag8(j4:LB→Int→Int→LI→Lg)(b:LB):Lg:=
(Bo b 0 (Db 4 (Ac b))).bind fun y=>
(Pf ([84,84,65,49]:LB) y).bind fun aa=>
if(!aa)then
some (0,0,0,0,0,12)
else
if(Bt (Ac b) 22)then
some (0,0,0,0,0,24)
else
(Ali b 18 4).bind fun(ab,af)=>
(Bo b 0 18).bind fun ac=>
(Rz ac).bind fun(ad,ag)=>
if(Bb (Ae ad:UInt64) ab)then
some (0,0,0,0,0,22)
else
j4 b 4 0 (List.replicate 5 (0:Int))
def Adx:=Ag8 Zh
def Sd(a f:LB):Option (Bool×Int):=
(Wy f).bind fun(b,g)=>
if((Bb g 0)||(Bb (Ac a) (Ac b)))then
some (false,2)
else
(Fj a b).bind fun h=>
some (h,0)
def Lj(g h k a b:Int):Option (LI×Int):=
(Xx g h k a b).bind fun f=>
if(Bb f 0)then
some (([]:LI),f)
else
(Qm a b).bind fun(m,n)=>
some (m,n)
abbrev Mv:=Option (LI×Int)
def Att(a:LI):Mv:=
(Ky a).bind fun k=>
if(Bb k 0)then
some (([]:LI),12)
else
some (a,0)
def Acf:=Att
def Ab5(j6:LI→Mv)(bk4:Int→LI→Mv)(b:LB)(f:LI)(g:Int)(a:LI):Mv:=
if(Bt g (Ac f))then
(Ali b (Ax 4 g) 4).bind fun(k,u)=>
(getI a g).bind fun _=>
(Ic a g (Ae k:Int)).bind fun m=>
bk4 (Ad g 1) m
else
j6 a
def Ny(b:LB)(f:LI):Nat→Int→LI→Mv
|0,_,_=>none
|q+1,g,a=>Ab5 Acf (Ny b f q) b f g a
def Ajj b f:=Ny b f Am
def Ajn(j4:LB→LI→Int→LI→Mv)(b:LB)(h:Int):Mv:=
if((Bt h 1)||(El h 1000))then
some (([]:LI),2)
else
if(Bt (Ac b) (Ad (Ax 4 h) 4))then
some (([]:LI),24)
else
(Ali b (Ax 4 h) 4).bind fun(n,v)=>
(Bo b 0 (Ax 4 h)).bind fun o=>
(Rz o).bind fun(p,w)=>
if(Bb (Ae p:UInt64) n)then
some (([]:LI),22)
else
(mkI h (0:Int)).bind fun f=>
(Gj (geq h h)).bind fun _=>
j4 b f 0 f
def Agt:=Ajn Ajj
abbrev Aj4:=Option (Int×Int×Int×Int×Int×Int×LI×Int)
def Aqq(a:LB)(b f g h k n:Int):Aj4:=
(Lj b f g h k).bind fun(ab,p)=>
if(Bb p 0)then
some (0,0,0,0,0,0,([]:LI),p)
else
(Bo a n (Ac a)).bind fun ac=>
(Agt ac (Ac ab)).bind fun(u,v)=>
if(Bb v 0)then
some (0,0,0,0,0,0,([]:LI),v)
else
some (b,f,g,h,k,(Ad (Ad n (Ax 4 (Ac u))) 4),u,0)
def Lw:=Aqq
def Qv(j2:LB→Int→Int→Int→Int→Int→Int→Aj4)(a o:LB):Aj4:=
if(El (Ac o) 64)then
some (0,0,0,0,0,0,([]:LI),2)
else
if(El (Ac a) 100000)then
some (0,0,0,0,0,0,([]:LI),4)
else
(Qk a).bind fun(m,w)=>
if(Bb w 0)then
some (0,0,0,0,0,0,([]:LI),w)
else
(Bo a m (Ac a)).bind fun ad=>
(Adx ad).bind fun(b,f,g,h,k,y)=>
if(Bb y 0)then
some (0,0,0,0,0,0,([]:LI),y)
else
if((o==([]:LB)) !=(geq b 1))then
some (0,0,0,0,0,0,([]:LI),26)
else
if(o !=([]:LB))then
if(Bt (Ac a) (Ad (Ad m 22) 8))then
some (0,0,0,0,0,0,([]:LI),24)
else
(Bo a (Ad m 22) (Ad (Ad m 22) 8)).bind fun ae=>
(Sd ae o).bind fun(af,aa)=>
if(Bb aa 0)then
some (0,0,0,0,0,0,([]:LI),aa)
else
if(!af)then
some (0,0,0,0,0,0,([]:LI),26)
else
j2 a b f g h k (Ad (Ad m 22) 8)
else
j2 a b f g h k (Ad m 22)
def seekto_Open:=Qv Lw
abbrev Ey:=Option (LI×Int)
def Awu(f:LI):Ey:=
some (f,0)
def Aim:=Awu
def Ale(bk6:Int→Int→LI→Ey)(a:LI)(b g h:Int)(k:LI):Ey:=
bk6 (Ad b 1) (Ad g h) k
def Abv bk6:=Ale bk6
def Rq(j8:Int→Int→Int→LI→Ey)(j10:LI→Ey)(a:LI)(b g:Int)(f:LI):Ey:=
if(Bt b (Ac a))then
(getI a b).bind fun h=>
(Ew f ([(Ad g h)]:LI)).bind fun k=>
j8 b g h k
else
j10 f
def Jd(a:LI):Nat→Int→Int→LI→Ey
|0,_,_,_=>none
|q+1,b,g,f=>Rq (Abv (Jd a q) a) Aim a b g f
def Ak7 a:=Jd a Am
def Abc(j6:LI→Int→Int→LI→Ey)(a:LI):Ey:=
(Ky a).bind fun m=>
if(Bb m 0)then
some (([]:LI),m)
else
j6 a 0 0 ([(0:Int)]:LI)
def Tv:=Abc Ak7
def Xy(a:LB):Option (LB×Int):=
if(Bt (Ac a) 5)then
some (([]:LB),24)
else
if(El (Ac a) 41254)then
some (([]:LB),4)
else
(Bo a 0 (Ah (Ac a) 4)).bind fun f=>
(Rz f).bind fun(g,b)=>
if(Bb b 0)then
some (([]:LB),b)
else
(Bo a (Ah (Ac a) 4) (Ac a)).bind fun h=>
(Arl h).bind fun(k,m)=>
if((Bb m 0)||(Bb k (Ae g:UInt64)))then
some (([]:LB),22)
else
(Bo a 0 (Ah (Ac a) 4)).bind fun n=>
some (n,0)
def Bhm(a:LB):Option (LB×Int×Int):=
if(El (Ac a) 41250)then
some (([]:LB),0,4)
else
(Eh a).bind fun b=>
some (b,(Ax 8 (Ac a)),0)
def Bj6(g:UInt64):Option UInt64:=
some g
def Azi:=Bj6
def Arw(j6:UInt64→Option UInt64)(bk4:UInt64→Int→Option UInt64)(b f:Int)(h:LB)(k:Int)(g:UInt64)(a:Int):Option UInt64:=
if(Bt a f)then
(getI h (Bg6 (Ad b a) (GI.toZ (3:UInt64)).toNat)).bind fun m=>
(Gj (Ja (Cx (Ad b a) 7) 0)).bind fun _=>
(Gj (Ja (Db (Ah f a) (Ah 8 (Cx (Ad b a) 7))) 0)).bind fun _=>
(Gj (Ja a 0)).bind fun _=>
bk4 (gor g (Cr (Ae (Cx (Bk m (GI.toZ (Cx (Ad b a) 7)).toNat) (Ah (Cr (1:UInt8) (GI.toZ (Db (Ah f a) (Ah 8 (Cx (Ad b a) 7)))).toNat) 1)):UInt64) (GI.toZ a).toNat)) (Ad a (Db (Ah f a) (Ah 8 (Cx (Ad b a) 7))))
else
j6 g
def Adj(b f:Int)(h:LB)(k:Int):Nat→UInt64→Int→Option UInt64
|0,_,_=>none
|q+1,g,a=>Arw Azi (Adj b f h k q) b f h k g a
def Azf b f h k:=Adj b f h k Am
def Azo(j4:Int→Int→LB→Int→UInt64→Int→Option UInt64)(h:LB)(k b f:Int):Option UInt64:=
j4 b f h k 0 0
def Av1:=Azo Azf
abbrev Dk:=Option (LB×Int×Int)
def Aws(o:Int)(p:LB):Dk:=
some (p,o,0)
def Ane:=Aws
def Avf(bk27:Int→Int→LB→Dk)(a:Int)(g:LB)(f b h:Int)(u:LB):Dk:=
bk27 (Ad b 64) h u
def Afr bk27:=Avf bk27
def Avm(bk44:UInt64→Int→Int→LB→Dk)(a b:Int)(g:LB)(f:Int)(k n:UInt64)(m h:Int)(w:LB):Dk:=
(Gj (Ja (Db m (Ah 8 (Cx h 7))) 0)).bind fun _=>
bk44 (Bk n (GI.toZ (Db m (Ah 8 (Cx h 7)))).toNat) (Ah m (Db m (Ah 8 (Cx h 7)))) (Ad h (Db m (Ah 8 (Cx h 7)))) w
def Al8 bk44:=Avm bk44
def Alx(j48:UInt64→Int→Int→LB→Dk)(a b:Int)(g:LB)(f:Int)(k n:UInt64)(m h:Int)(v:LB):Dk:=
(getI v (Ah (Ac v) 1)).bind fun _=>
(Gj (Ja (Db m (Ah 8 (Cx h 7))) 0)).bind fun _=>
(Gj (Ja (Cx h 7) 0)).bind fun _=>
(getI v (Ah (Ac v) 1)).bind fun aa=>
(getI v (Ah (Ac v) 1)).bind fun _=>
Option.bind (Ic v (Ah (Ac v) 1) (gor aa (Cr (Ae (Cx n (Ah (Cr (1:UInt64) (GI.toZ (Db m (Ah 8 (Cx h 7)))).toNat) 1)):UInt8) (GI.toZ (Cx h 7)).toNat))) fun w=>
j48 n m h w
def Afq bk44 a b g f k:=Alx (Al8 bk44 a b g f k) a b g f k
def Afl(j47:UInt64→Int→Int→LB→Dk)(j50:Int→Int→LB→Dk)(a:Int)(g:LB)(f b:Int)(k n:UInt64)(m h:Int)(u:LB):Dk:=
if(El m 0)then
if(geq (Cx h 7) 0)then
(Ew u ([(0:UInt8)]:LB)).bind fun ab=>
j47 n m h ab
else
j47 n m h u
else
j50 b h u
def Kt(bk27:Int→Int→LB→Dk)(a:Int)(g:LB)(f b:Int)(k:UInt64):Nat→UInt64→Int→Int→LB→Dk
|0,_,_,_,_=>none
|q+1,n,m,h,u=>Afl (Afq (Kt bk27 a g f b k q) a b g f k) (Afr bk27 a g f) a g f b k n m h u
def Amv bk27 a g f b k:=Kt bk27 a g f b k Am
def Anj(j44:Int→UInt64→UInt64→Int→Int→LB→Dk)(j52:Int→LB→Dk)(a:Int)(g:LB)(f b o:Int)(p:LB):Dk:=
if(Bt b a)then
(Av1 g f b (Db 64 (Ah a b))).bind fun k=>
j44 b k k (Db 64 (Ah a b)) o p
else
j52 o p
def Rs(a:Int)(g:LB)(f:Int):Nat→Int→Int→LB→Dk
|0,_,_,_=>none
|q+1,b,o,p=>Anj (Amv (Rs a g f q) a g f) Ane a g f b o p
def Am1 a g f:=Rs a g f Am
def Apl(j27:Int→LB→Int→Int→Int→LB→Dk)(g:LB)(f y a:Int):Dk:=
(Hk g f).bind fun ac=>
if(Bb ac 0)then
some (([]:LB),0,8)
else
if(((Bt y 0)||(El y a))||(El a f))then
some (([]:LB),0,2)
else
j27 a g f y 0 ([]:LB)
def Aqi:=Apl Am1
def Yu(g:LB)(b f a:Int):Option (UInt64×Int):=
(Hk g b).bind fun h=>
if(Bb h 0)then
some (0,8)
else
if(((Bt a 0)||(El a 64))||(Bt f 0))then
some (0,2)
else
if(El f (Ah b a))then
some (0,24)
else
(Av1 g b f a).bind fun k=>
some (k,0)
def Ej(a:UInt64):Option Int:=
if(geq a 0)then
some 64
else
(getI ([(0:UInt8),(1:UInt8),(56:UInt8),(2:UInt8),(57:UInt8),(49:UInt8),(28:UInt8),(3:UInt8),(61:UInt8),(58:UInt8),(42:UInt8),(50:UInt8),(38:UInt8),(29:UInt8),(17:UInt8),(4:UInt8),(62:UInt8),(47:UInt8),(59:UInt8),(36:UInt8),(45:UInt8),(43:UInt8),(51:UInt8),(22:UInt8),(53:UInt8),(39:UInt8),(33:UInt8),(30:UInt8),(24:UInt8),(18:UInt8),(12:UInt8),(5:UInt8),(63:UInt8),(55:UInt8),(48:UInt8),(27:UInt8),(60:UInt8),(41:UInt8),(37:UInt8),(16:UInt8),(46:UInt8),(35:UInt8),(44:UInt8),(21:UInt8),(52:UInt8),(32:UInt8),(23:UInt8),(11:UInt8),(54:UInt8),(26:UInt8),(40:UInt8),(15:UInt8),(34:UInt8),(20:UInt8),(31:UInt8),(10:UInt8),(25:UInt8),(14:UInt8),(19:UInt8),(9:UInt8),(13:UInt8),(8:UInt8),(7:UInt8),(6:UInt8)]:LB) (GI.toZ (Bk (Ax (Cx a (Awk a)) 285870213051353865) (GI.toZ (58:UInt64)).toNat))).bind fun b=>
some (Ae b:Int)
abbrev Fp:=Option (Int×Int×Int)
def Bct:Fp:=
some (0,0,24)
def Aqg:=Bct
def Ats(j10:Fp):Fp:=
j10
def Atv:=Ats Aqg
def Akd(j9:Fp)(f a:Int):Fp:=
if(geq f 48)then
some (f,(Ad 0 (Ad a f)),0)
else
j9
def Aj1:=Akd Atv
def Akc(j8:Int→Int→Fp)(f b a:Int):Fp:=
if(Bt f (Db 48 (Ah b a)))then
some (f,(Ad (Ad (0:Int) (1:Int)) (Ad a f)),0)
else
j8 f a
def Ajo:=Akc Aj1
def Ajr(j7:Int→Int→Int→Fp)(h:Int)(k:UInt64)(a:Int)(g:LB)(b:Int):Fp:=
if(Bb h 0)then
some (0,0,h)
else
(Ej (Bdk k)).bind fun f=>
j7 f b a
def Ajp:=Ajr Ajo
def Ub(j6:Int→UInt64→Int→LB→Int→Fp)(g:LB)(b a:Int):Fp:=
(Hk g b).bind fun m=>
if(Bb m 0)then
some (0,0,m)
else
if(Bt a 0)then
some (0,0,2)
else
if(Ja a b)then
some (0,0,24)
else
(
(
(Yu g b a (Db 48 (Ah b a))).bind fun(k,h)=>
j6 h k a g b))
def Abq:=Ub Ajp
abbrev Aqe:=Option (UInt32×Int×Int)
def Al0(a b f:Int)(g:LB)(h k:Int):Aqe:=
(Yu g h b k).bind fun(m,n)=>
if(Bb n 0)then
some (0,0,n)
else
if(Bt f 48)then
(Gj (Ja a 0)).bind fun _=>
some ((gor (Cr (Ae f:UInt32) (GI.toZ a).toNat) (Ae m:UInt32)),(Ad b k),0)
else
(Afo (Ae m:UInt32) a).bind fun u=>
if(!u)then
some (0,0,12)
else
some ((Ae m:UInt32),(Ad b k),0)
def Afp:=Al0
def Ami(j2:Int→Int→Int→LB→Int→Int→Aqe)(g:LB)(h v a:Int):Aqe:=
(Hk g h).bind fun o=>
if(Bb o 0)then
some (0,0,o)
else
if((Bt a 0)||(El a 24))then
some (0,0,2)
else
(Abq g h v).bind fun(f,b,p)=>
if(Bb p 0)then
some (0,0,p)
else
if(geq f 48)then
j2 a b f g h 32
else
j2 a b f g h a
def Ar8:=Ami Afp
abbrev Ht:=Option (UInt32×Int×Int×Int×UInt64×UInt64×Int)
def Atp(f:UInt32)(k w m:Int)(a n:UInt64):Ht:=
some (f,k,w,m,(Ad a (Ah (Ae f:UInt64) (Bk a (GI.toZ (4:UInt64)).toNat))),n,0)
def Aj2:=Atp
def Ann(j10:UInt32→Int→Int→Int→UInt64→UInt64→Ht)(f:UInt32)(k m:Int)(a n:UInt64)(w:Int):Ht:=
j10 f k w m a n
def Amo:=Ann Aj2
def Amd(j9:UInt32→Int→Int→UInt64→UInt64→Int→Ht)(f:UInt32)(k b:Int)(a:UInt64)(m:Int)(n:UInt64):Ht:=
if(El b 0)then
(Gj (Ja b 0)).bind fun _=>
if(Bt (Ad a (Ah (Ae f:UInt64) (Bk a (GI.toZ (4:UInt64)).toNat))) (Cr (16:UInt64) (GI.toZ b).toNat))then
j9 f k m a n (Ah b 1)
else
if(Bt b 24)then
(Gj (Ja b 0)).bind fun _=>
if(El (Ad a (Ah (Ae f:UInt64) (Bk a (GI.toZ (4:UInt64)).toNat))) (Cr (32:UInt64) (GI.toZ b).toNat))then
j9 f k m a n (Ad b 1)
else
j9 f k m a n b
else
j9 f k m a n b
else
if(Bt b 24)then
(Gj (Ja b 0)).bind fun _=>
if(El (Ad a (Ah (Ae f:UInt64) (Bk a (GI.toZ (4:UInt64)).toNat))) (Cr (32:UInt64) (GI.toZ b).toNat))then
j9 f k m a n (Ad b 1)
else
j9 f k m a n b
else
j9 f k m a n b
def Zn:=Amd Amo
def Al7(j8:UInt32→Int→Int→UInt64→Int→UInt64→Ht)(b h:Int)(a g:UInt64)(f:UInt32)(k:Int):Ht:=
(Abg b h a g f).bind fun(ad,o)=>
if(geq ad 1)then
if(El h 0)then
(Gj (Ja h 0)).bind fun _=>
if(Bt (Ad g (Ah (Ae o:UInt64) (Bk g (GI.toZ (4:UInt64)).toNat))) (Cr (16:UInt64) (GI.toZ h).toNat))then
j8 f k b a (Ah h 1) (Ad g (Ah (Ae o:UInt64) (Bk g (GI.toZ (4:UInt64)).toNat)))
else
if(Bt h 24)then
(Gj (Ja h 0)).bind fun _=>
if(El (Ad g (Ah (Ae o:UInt64) (Bk g (GI.toZ (4:UInt64)).toNat))) (Cr (32:UInt64) (GI.toZ h).toNat))then
j8 f k b a (Ad h 1) (Ad g (Ah (Ae o:UInt64) (Bk g (GI.toZ (4:UInt64)).toNat)))
else
j8 f k b a h (Ad g (Ah (Ae o:UInt64) (Bk g (GI.toZ (4:UInt64)).toNat)))
else
j8 f k b a h (Ad g (Ah (Ae o:UInt64) (Bk g (GI.toZ (4:UInt64)).toNat)))
else
if(Bt h 24)then
(Gj (Ja h 0)).bind fun _=>
if(El (Ad g (Ah (Ae o:UInt64) (Bk g (GI.toZ (4:UInt64)).toNat))) (Cr (32:UInt64) (GI.toZ h).toNat))then
j8 f k b a (Ad h 1) (Ad g (Ah (Ae o:UInt64) (Bk g (GI.toZ (4:UInt64)).toNat)))
else
j8 f k b a h (Ad g (Ah (Ae o:UInt64) (Bk g (GI.toZ (4:UInt64)).toNat)))
else
j8 f k b a h (Ad g (Ah (Ae o:UInt64) (Bk g (GI.toZ (4:UInt64)).toNat)))
else
j8 f k b a h g
def Afm:=Al7 Zn
def Alv(j7:Int→Int→UInt64→UInt64→UInt32→Int→Ht)(p:Int)(u:LB)(v b h:Int)(a g:UInt64):Ht:=
(Yu u v p 1).bind fun(ae,aa)=>
if(Bb aa 0)then
some (0,0,0,0,0,0,aa)
else
if(geq ae 0)then
(Yu u v (Ad p 1) b).bind fun(af,ab)=>
if(Bb ab 0)then
some (0,0,0,0,0,0,ab)
else
j7 b h a g (Ae af:UInt32) (Ad (Ad p 1) b)
else
(Ar8 u v (Ad p 1) h).bind fun(y,ag,ac)=>
if(Bb ac 0)then
some (0,0,0,0,0,0,ac)
else
(Gj (Ja b 0)).bind fun _=>
if(Bt (Ad y (Cr (1:UInt32) (GI.toZ b).toNat)) y)then
some (0,0,0,0,0,0,12)
else
j7 b h a g (Ad y (Cr (1:UInt32) (GI.toZ b).toNat)) ag
def Ana:=Alv Afm
def Aml(j6:Int→LB→Int→Int→Int→UInt64→UInt64→Ht)(u:LB)(v p b h:Int)(a g:UInt64):Ht:=
(Hk u v).bind fun ah=>
if(Bb ah 0)then
some (0,0,0,0,0,0,8)
else
(Ah5 b h a g).bind fun ai=>
if(Bb ai 0)then
some (0,0,0,0,0,0,8)
else
j6 p u v b h a g
def Abp:=Aml Ana
abbrev Be:=Option (LU×Int×Int)
def Ava(k:Int)(m:LU):Be:=
some (m,k,0)
def Ago:=Ava
def Agp(bk16:Int→Int→(List (Int×Int×UInt64×UInt64×Unit))→LU→Be)(a f:Int)(g:LB)(b k v:Int)(w:UInt32)(h:Int)(ag:List (Int×Int×UInt64×UInt64×Unit))(m:LU):Be:=
(Ew m ([w]:LU)).bind fun ak=>
bk16 (Ad k v) (Ad h 1) ag ak
def Us bk16:=Agp bk16
def Nm(j22:Int→Int→UInt32→Int→(List (Int×Int×UInt64×UInt64×Unit))→LU→Be)(a f:Int)(g:LB)(b k h y:Int)(w:UInt32)(v:Int)(n:List (Int×Int×UInt64×UInt64×Unit))(m:LU)(aa ab:Int)(ac ad:UInt64):Be:=
if(Bb y 0)then
some (([]:LU),0,y)
else
(Gj (Bb a 0)).bind fun _=>
(getI n (Fa h a)).bind fun _=>
(Ic n (Fa h a) (aa,ab,ac,ad,())).bind fun ag=>
j22 k v w h ag m
def Np bk16 a f g b:=Nm (Us bk16 a f g b) a f g b
def Ms(j21:Int→Int→Int→UInt32→Int→(List (Int×Int×UInt64×UInt64×Unit))→LU→Int→Int→UInt64→UInt64→Be)(j24:Int→LU→Be)(a f:Int)(g:LB)(b k h:Int)(n:List (Int×Int×UInt64×UInt64×Unit))(m:LU):Be:=
if(Bt h (Ax f a))then
(Aqi g b k (Db (Ad k 81) b)).bind fun(ah,ae,af)=>
if(Bb af 0)then
some (([]:LU),0,af)
else
(Gj (Bb a 0)).bind fun _=>
(getI n (Fa h a)).bind fun _=>
(
(
(getI n (Fa h a)).bind fun p=>
(
(Abp ah ae 0 p.1 p.2.1 p.2.2.1 p.2.2.2.1).bind fun(w,v,aa,ab,ac,ad,y)=>
j21 k h y w v n m aa ab ac ad)))
else
j24 k m
def Jp(a f:Int)(g:LB)(b:Int):Nat→Int→Int→(List (Int×Int×UInt64×UInt64×Unit))→LU→Be
|0,_,_,_,_=>none
|q+1,k,h,n,m=>Ms (Np (Jp a f g b q) a f g b) Ago a f g b k h n m
def Agx a f g b:=Jp a f g b Am
def Af4(j16:Int→Int→LB→Int→Int→Int→(List (Int×Int×UInt64×UInt64×Unit))→LU→Be)(a f:Int)(g:LB)(b:Int)(o:List (Int×Int×UInt64×UInt64×Unit)):Be:=
j16 a f g b 0 0 o ([]:LU)
def Vl:=Af4 Agx
def Agw(j15:Int→Int→LB→Int→(List (Int×Int×UInt64×UInt64×Unit))→Be)(bk13:Int→(List (Int×Int×UInt64×UInt64×Unit))→Be)(a f:Int)(g:LB)(b u:Int)(o:List (Int×Int×UInt64×UInt64×Unit)):Be:=
if(Bt u 6)then
(Aui).bind fun(al,ae,af,am)=>
(getI o u).bind fun _=>
(Ic o u (al,ae,af,am,())).bind fun an=>
bk13 (Ad u 1) an
else
j15 a f g b o
def Uy(a f:Int)(g:LB)(b:Int):Nat→Int→(List (Int×Int×UInt64×UInt64×Unit))→Be
|0,_,_=>none
|q+1,u,o=>Agw Vl (Uy a f g b q) a f g b u o
def Nk a f g b:=Uy a f g b Am
def Zp(j13:Int→Int→LB→Int→Int→(List (Int×Int×UInt64×UInt64×Unit))→Be)(a f:Int)(g:LB)(b:Int):Be:=
j13 a f g b 0 (List.replicate 6 ((0:Int),(0:Int),(0:UInt64),(0:UInt64),()))
def Yc:=Zp Nk
def Se(a:UInt32):Option Int32:=
some (Ru (Ae (Bk a (GI.toZ (1:UInt64)).toNat):Int32) (Awk (Ae (Cx a 1):Int32)))
def Ar4(b:Int)(f g:LX)(a:Int32):Option (Int32×Int×LX×LX×Int):=
(Ahm b f g).bind fun(h,k)=>
if(Bb k 0)then
some (0,0,(List.replicate 16 (0:Int32)),(List.replicate 16 (0:Int32)),k)
else
(Amx b f g (Ad a h) a).bind fun(m,n,o)=>
some ((Ad a h),m,n,o,0)
def Ie(a:Int)(b:Int32)(f:Int)(g h:LX)(o:Int32):Option (Int32×Int×Int32×Int×LX×LX×Int):=
(Rb a b f g h).bind fun k=>
if(Bb k 0)then
some (0,0,0,0,(List.replicate 16 (0:Int32)),(List.replicate 16 (0:Int32)),k)
else
(Rj a b).bind fun(m,y)=>
(Ar4 f g h o).bind fun(n,p,u,v,w)=>
(
some ((Ad n m),a,(Ad n m),p,u,v,w))
abbrev Er:=Option (LX×Int)
def Bh9(f:LX):Er:=
some (f,0)
def Avi:=Bh9
def Awj(bk12:Int→LX→Er)(b a:Int)(h:LX):Er:=
bk12 (Ad a b) h
def Amq bk12:=Awj bk12
def Afi(j20:Int→LX→Er)(bk18:Int→LX→Er)(b a g:Int)(h:LX):Er:=
if(Ja g 0)then
(Gj (decide (0≤(Ad g 1)∧(Ad g 1)<((Ad a b)-a)))).bind fun _=>
(Gj (decide (0≤g∧g<((Ad a b)-a)))).bind fun _=>
(getI h (a+(Ad g 1))).bind fun o=>
(getI h (a+g)).bind fun p=>
(Gj (decide (0≤g∧g<((Ad a b)-a)))).bind fun _=>
(Ic h (a+g) (Ah o p)).bind fun u=>
bk18 (Ah g 1) u
else
j20 a h
def Rv(bk12:Int→LX→Er)(b a:Int):Nat→Int→LX→Er
|0,_,_=>none
|q+1,g,h=>Afi (Amq bk12 b) (Rv bk12 b a q) b a g h
def Al3 bk12 b a:=Rv bk12 b a Am
def Ama(j18:Int→Int→LX→Er)(b a:Int)(k:LX):Er:=
j18 a (Ah (Ah ((Ad a b)-a) 1) 1) k
def Afj bk12 b:=Ama (Al3 bk12 b) b
def Al4(j17:Int→LX→Er)(j22:LX→Er)(b a:Int)(f:LX):Er:=
if(Bt a (Ac f))then
(vwI (Ac f) a (Ad a b)).bind fun _=>
if(El (Ah ((Ad a b)-a) 1) 0)then
(Gj (decide (0≤(Ah ((Ad a b)-a) 1)∧(Ah ((Ad a b)-a) 1)<((Ad a b)-a)))).bind fun _=>
Option.bind (Gj (decide (0≤(Ah (Ah ((Ad a b)-a) 1) 1)∧(Ah (Ah ((Ad a b)-a) 1) 1)<((Ad a b)-a)))) fun _=>
(getI f (a+(Ah ((Ad a b)-a) 1))).bind fun v=>
(getI f (a+(Ah (Ah ((Ad a b)-a) 1) 1))).bind fun w=>
(Gj (decide (0≤(Ah ((Ad a b)-a) 1)∧(Ah ((Ad a b)-a) 1)<((Ad a b)-a)))).bind fun _=>
(Ic f (a+(Ah ((Ad a b)-a) 1)) (Ad v (Bq w 2))).bind fun y=>
j17 a y
else
j17 a f
else
j22 f
def Nj(b:Int):Nat→Int→LX→Er
|0,_,_=>none
|q+1,a,f=>Al4 (Afj (Nj b q) b) Avi b a f
def Anb b:=Nj b Am
def Ars(j12:Int→Int→LX→Er)(b:Int)(m:LX):Er:=
(Ak8 b m).bind fun n=>
if(Bb n 0)then
some (([]:LX),n)
else
(Da m).bind fun aa=>
j12 b 0 aa
def Avk:=Ars Anb
abbrev Bh:=Option (LX×Int)
def Aew(a b:Int)(k:LX):Bh:=
(Avk a k).bind fun(ah,af)=>
if(Bb af 0)then
some (([]:LX),af)
else
(Ql b ah).bind fun ae=>
if(Bb ae 0)then
some (([]:LX),ae)
else
some (ah,0)
def Io:=Aew
def Ae1(bk13:Int→(List (Int×Int32×(Int×LX×LX×Unit)×Unit))→LX→Bh)(a:Int)(f:LU)(b g:Int)(w:Int32)(u:Int)(h:List (Int×Int32×(Int×LX×LX×Unit)×Unit))(k:LX)(y:Int)(v:Int32)(aa:Int)(ab ac:LX):Bh:=
if(Bb u 0)then
some (([]:LX),u)
else
(Ic h (Fa g a) (y,v,(aa,ab,ac,()),())).bind fun ai=>
(Ew k ([w]:LX)).bind fun aj=>
bk13 (Ad g 1) ai aj
def To bk13:=Ae1 bk13
def Ij(j16:Int→Int32→Int→(List (Int×Int32×(Int×LX×LX×Unit)×Unit))→LX→Int→Int32→Int→LX→LX→Bh)(j18:Int→Int→LX→Bh)(f:LU)(a b g:Int)(h:List (Int×Int32×(Int×LX×LX×Unit)×Unit))(k:LX):Bh:=
if(Bt g (Ac f))then
(getI f g).bind fun ag=>
(Gj (Bb a 0)).bind fun _=>
(getI h (Fa g a)).bind fun _=>
(
(getI h (Fa g a)).bind fun m=>
(
(Se ag).bind fun ae=>
(
(Ie m.1 m.2.1 m.2.2.1.1 m.2.2.1.2.1 m.2.2.1.2.2.1 ae).bind fun(w,y,v,aa,ab,ac,u)=>
j16 g w u h k y v aa ab ac)))
else
j18 a b k
def Gd(f:LU)(a b:Int):Nat→Int→(List (Int×Int32×(Int×LX×LX×Unit)×Unit))→LX→Bh
|0,_,_,_=>none
|q+1,g,h,k=>Ij (To (Gd f a b q) a f b) Io f a b g h k
def Afc f a b:=Gd f a b Am
def Ae9(j13:LU→Int→Int→Int→(List (Int×Int32×(Int×LX×LX×Unit)×Unit))→LX→Bh)(f:LU)(a b:Int)(n:List (Int×Int32×(Int×LX×LX×Unit)×Unit)):Bh:=
j13 f a b 0 n ([]:LX)
def Tc:=Ae9 Afc
def Ae6(j12:LU→Int→Int→(List (Int×Int32×(Int×LX×LX×Unit)×Unit))→Bh)(bk10:Int→(List (Int×Int32×(Int×LX×LX×Unit)×Unit))→Bh)(f:LU)(a b:Int)(o:LX)(p:Int)(n:List (Int×Int32×(Int×LX×LX×Unit)×Unit)):Bh:=
if(Bt p 6)then
(Ax4 b o).bind fun(ak,af,ae,al,am,v)=>
(getI n p).bind fun _=>
(Ic n p (ak,af,(ae,al,am,()),())).bind fun an=>
bk10 (Ad p 1) an
else
j12 f a b n
def Tf(f:LU)(a b:Int)(o:LX):Nat→Int→(List (Int×Int32×(Int×LX×LX×Unit)×Unit))→Bh
|0,_,_=>none
|q+1,p,n=>Ae6 Tc (Tf f a b o q) f a b o p n
def Ls f a b o:=Tf f a b o Am
def Ur(j10:LU→Int→Int→LX→Int→(List (Int×Int32×(Int×LX×LX×Unit)×Unit))→Bh)(a b:Int)(o:LX)(f:LU):Bh:=
j10 f a b o 0 (List.replicate 6 ((0:Int),(0:Int32),((0:Int),(List.replicate 16 (0:Int32)),(List.replicate 16 (0:Int32)),()),()))
def Nu:=Ur Ls
def deframe_Decode(a h:Int)(u:LX)(f:Int)(v:LB):Option (LX×Int):=
(Oc a h).bind fun k=>
if(Bb k 0)then
some (([]:LX),k)
else
if(Bt f 1)then
some (([]:LX),2)
else
(Gj (Bb a 0)).bind fun _=>
if(El f (Bq 4000 a))then
some (([]:LX),2)
else
(Xy v).bind fun(w,m)=>
if(Bb m 0)then
some (([]:LX),m)
else
(Bhm w).bind fun(n,b,o)=>
if(Bb o 0)then
some (([]:LX),o)
else
(Yc a f n b).bind fun(y,g,p)=>
if(Bb p 0)then
some (([]:LX),p)
else
if(Ja (Ah b g) 8)then
some (([]:LX),12)
else
(Yu n b g (Ah b g)).bind fun(aa,ab)=>
if((Bb ab 0)||(Bb aa 0))then
some (([]:LX),12)
else
(Nu a h u y).bind fun(ac,ad)=>
some (ac,ad)
abbrev Cb:=Option (LB×Int)
def Baf(g:LB):Cb:=
some (g,0)
def Aon:=Baf
def Anp(bk16:Int→LB→Cb)(b:Int)(a:LX)(f:Int)(h:LB):Cb:=
bk16 (Ad f 1) h
def Aea bk16:=Anp bk16
def Uh(j28:Int→LB→Cb)(bk26:Int→LB→Cb)(b:Int)(a:LX)(k:Int32)(f m:Int)(h:LB):Cb:=
if(Bt m (Bq b 8))then
(Gj (Ja (Ax 8 m) 0)).bind fun _=>
(Ew h ([(Ae (Bk k (GI.toZ (Ax 8 m)).toNat):UInt8)]:LB)).bind fun p=>
bk26 (Ad m 1) p
else
j28 f h
def Gh(bk16:Int→LB→Cb)(b:Int)(a:LX)(k:Int32)(f:Int):Nat→Int→LB→Cb
|0,_,_=>none
|q+1,m,h=>Uh (Aea bk16 b a) (Gh bk16 b a k f q) b a k f m h
def Aef bk16 b a k f:=Gh bk16 b a k f Am
def Ad6(j26:Int32→Int→Int→LB→Cb)(b:Int)(a:LX)(f:Int)(g:LB)(k:Int32):Cb:=
j26 k f 0 g
def Ih bk16 b a:=Ad6 (Aef bk16 b a) b a
def Up(j25:Int→LB→Int32→Cb)(j30:LB→Cb)(b:Int)(a:LX)(f:Int)(g:LB):Cb:=
if(Bt f (Ac a))then
(getI a f).bind fun n=>
if(geq b 8)then
j25 f g (Ad n 128)
else
j25 f g n
else
j30 g
def Ee(b:Int)(a:LX):Nat→Int→LB→Cb
|0,_,_=>none
|q+1,f,g=>Up (Ih (Ee b a q) b a) Aon b a f g
def Aoo b a:=Ee b a Am
def Aha(j16:Int→LX→Int→LB→Cb)(b:Int)(a:LX):Cb:=
(Ql b a).bind fun o=>
if(Bb o 0)then
some (([]:LB),o)
else
j16 b a 0 ([]:LB)
def width_Bytes:=Aha Aoo
abbrev Cz:=Option (LB×Int)
def Az9(a ac:Int):Cz:=
if(Bb ac 0)then
some (([]:LB),ac)
else
if((Bt a 0)||(Ja a 0))then
some (([]:LB),2)
else
none
def An1:=Az9
def Ax3(ad:Int)(ae:LB):Cz:=
some (ae,ad)
def Abf:=Ax3
def Anz(j10:Int→LB→Cz)(w a h b:Int)(aa:LX)(n o p k:Int)(m:LB)(u:LX)(v f g:LI):Cz:=
if(Bb w 0)then
j10 w ([]:LB)
else
(width_Bytes b aa).bind fun(ak,al)=>
j10 al ak
def Ans:=Anz Abf
def An2(j10:Int→LB→Cz)(j9:Int→Int→Int→Int→LX→Int→Int→Int→Int→LB→LX→LI→LI→LI→Cz)(a k ab y:Int)(m:LB)(h b:Int)(u:LX)(n o p:Int)(g v f:LI):Cz:=
if(El (Ad k y) (Ac m))then
j10 24 ([]:LB)
else
(getI g a).bind fun _=>
(Bo m (Ad k ab) (Ad k y)).bind fun am=>
(getI g a).bind fun an=>
(deframe_Decode h b u an am).bind fun(aa,w)=>
j9 w a h b aa n o p k m u v f g
def Anv:=An2 Abf Ans
def Aom(j8:Int→Int→Int→Int→LB→Int→Int→LX→Int→Int→Int→LI→LI→LI→Cz)(a:Int)(g:LI)(n h b o p k:Int)(m:LB)(u:LX)(v f:LI):Cz:=
if(Bb (0:Int) (0:Int))then
some (([]:LB),0)
else
if((Bt a 0)||(Ja a (Ac g)))then
some (([]:LB),2)
else
(getI f a).bind fun _=>
(getI f (Ad a 1)).bind fun _=>
(getI f a).bind fun ab=>
(getI f (Ad a 1)).bind fun y=>
j8 a k ab y m h b u n o p g v f
def Aok:=Aom Anv
def Aoq(j6:Int→Int→Cz)(j7:Int→LI→Int→Int→Int→Int→Int→Int→LB→LX→LI→LI→Cz)(m af:LB)(a:Int):Cz:=
(seekto_Open m af).bind fun(n,h,b,o,p,k,v,ag)=>
if(Bb ag 0)then
j6 a ag
else
(Lj n h b o p).bind fun(g,ah)=>
if(Bb ah 0)then
j6 a ah
else
(Tv v).bind fun(f,ai)=>
if(Bb ai 0)then
j6 a ai
else
(Rw af).bind fun(u,aj)=>
if(Bb aj 0)then
j6 a aj
else
(getI f (Ac g)).bind fun _=>
(getI f (Ac g)).bind fun ao=>
j7 a g n h b o p k m u v f
def Ang:=Aoq An1 Aok
abbrev Au6:=Option (Int×Int)
def Ayz(a:LB):Au6:=
(Bo a (Ah (Ac a) 32) (Ac a)).bind fun g=>
(Afy g 0).bind fun(f,y,h)=>
if h then
if(Bt (Ah (Ac a) 32) f)then
some (0,24)
else
some ((Ad f 32),0)
else
(Bo a (Ah (Ac a) 32) (Ac a)).bind fun k=>
(Afy k 2147483648).bind fun(b,m,n)=>
if(!n)then
some (0,12)
else
if(Bt (Ac a) (Ad b 64))then
some (0,24)
else
(Bo a (Ah (Ac a) (Ad b 64)) (Ad (Ah (Ac a) (Ad b 64)) 32)).bind fun o=>
(Asl b m 2684354560).bind fun p=>
(Fj o p).bind fun u=>
if(!u)then
some (0,12)
else
some ((Ad b 64),0)
def Aq4:=Ayz
def Arv(j2:LB→Au6)(a:LB):Au6:=
if(Bt (Ah (Ac a) 32) 0)then
some (0,6)
else
(Bo a (Ah (Ac a) 32) (Ac a)).bind fun v=>
(Ib v ([(65:UInt8),(80:UInt8),(69:UInt8),(84:UInt8),(65:UInt8),(71:UInt8),(69:UInt8),(88:UInt8)]:LB)).bind fun w=>
if(!w)then
some (0,6)
else
j2 a
def Avr:=Arv Aq4
abbrev Dz:=Option (Int×Int)
def Axk(a:Int):Dz:=
some (a,0)
def Alj:=Axk
def Aku(bk8:Int→LB→Dz)(a:Int)(g:LB):Dz:=
bk8 (Ad a 1) g
def Abu bk8:=Aku bk8
def Abt(j12:Int→LB→Dz)(a f:Int)(b:LB):Dz:=
if(geq f 0)then
some (0,38)
else
(Bo b 0 (Ah (Ac b) f)).bind fun g=>
j12 a g
def Abm bk8:=Abt (Abu bk8)
def Aed(j11:Int→Int→LB→Dz)(j14:Int→Dz)(a:Int)(b:LB):Dz:=
if(El (Ac b) 0)then
(Avr b).bind fun(f,k)=>
j11 a f b
else
j14 a
def Nt:Nat→Int→LB→Dz
|0,_,_=>none
|q+1,a,b=>Aed (Abm (Nt q)) Alj a b
def Ano:=Nt Am
def Aeh(j8:Int→LB→Dz)(h:LB):Dz:=
if(El (Ac h) 4000)then
some (0,38)
else
j8 0 h
def Sa:=Aeh Ano
abbrev Au:=Option (LB×Int)
def Bac(a:LB):Au:=
(Bo a 0 (Ac a)).bind fun ap=>
(Sa ap).bind fun(ay,aj)=>
if(Bb aj 0)then
some (([]:LB),38)
else
some (([]:LB),0)
def Aol:=Bac
def An7(j21:LB→Au)(a:LB)(aa:Int):Au:=
if(Bt aa 0)then
none
else
j21 a
def Aof(a:LB)(aa:Int):Nat→Au
|0=>none
|q+1=>An7 Aol a aa
def Aor a aa:=Aof a aa Am
def Aeo(j19:LB→Int→Au)(a:LB)(aa ag:Int):Au:=
if(Bb ag 0)then
some (([]:LB),ag)
else
if((Bt aa 0)||(Ja aa 0))then
some (([]:LB),2)
else
j19 a aa
def Ael:=Aeo Aor
def An8(a:LB)(b m:Int)(y:LB):Au:=
(Bo a (Ad b m) (Ac a)).bind fun aq=>
(Sa aq).bind fun(aj,ar)=>
if(Bb ar 0)then
some (([]:LB),38)
else
some (y,0)
def Aet:=An8
def An5(bk22:Int→LB→Au)(a:LB)(f:LI)(b m n h g o p:Int)(u:LX)(v k:LI)(w:Int)(ad:LB):Au:=
bk22 (Ad w 1) ad
def Aek bk22:=An5 bk22
def Aen(j30:Int→LB→Au)(a:LB)(f:LI)(b m n h g o p:Int)(u:LX)(v k:LI)(w:Int)(y:LB)(ah:Int)(ai:LB):Au:=
if(Bb ah 0)then
some (([]:LB),ah)
else
(Ew y ai).bind fun ad=>
j30 w ad
def Nv bk22 a f b m n h g o p u v k:=Aen (Aek bk22 a f b m n h g o p u v k) a f b m n h g o p u v k
def Aep(j29:Int→LB→Int→LB→Au)(a:LB)(f:LI)(b m h g n o p:Int)(u:LX)(v k:LI)(ab w:Int)(ae:LX)(y:LB):Au:=
if(Bb ab 0)then
j29 w y ab ([]:LB)
else
(width_Bytes g ae).bind fun(au,av)=>
j29 w y av au
def Ad5 bk22 a f b m h g n o p u v k:=Aep (Nv bk22 a f b m n h g o p u v k) a f b m h g n o p u v k
def Aeu(j29:Int→LB→Int→LB→Au)(j28:Int→Int→LX→LB→Au)(b:Int)(a:LB)(f:LI)(m h g:Int)(u:LX)(n o p:Int)(v k:LI)(w af ac:Int)(y:LB):Au:=
if(El (Ad b ac) (Ac a))then
j29 w y 24 ([]:LB)
else
(getI f w).bind fun _=>
(Bo a (Ad b af) (Ad b ac)).bind fun aw=>
(getI f w).bind fun ax=>
(deframe_Decode h g u ax aw).bind fun(ae,ab)=>
j28 ab w ae y
def Ul bk22 b a f m h g u n o p v k:=Aeu (Nv bk22 a f b m n h g o p u v k) (Ad5 bk22 a f b m h g n o p u v k) b a f m h g u n o p v k
def Un(j27:Int→Int→Int→LB→Au)(j32:LB→Int→Int→LB→Au)(a:LB)(f:LI)(b m n h g o p:Int)(u:LX)(v k:LI)(w:Int)(y:LB):Au:=
if(Bt w (Ac f))then
(getI k w).bind fun _=>
(getI k (Ad w 1)).bind fun _=>
(getI k w).bind fun af=>
(getI k (Ad w 1)).bind fun ac=>
j27 w af ac y
else
j32 a b m y
def Kq(a:LB)(f:LI)(b m n h g o p:Int)(u:LX)(v k:LI):Nat→Int→LB→Au
|0,_,_=>none
|q+1,w,y=>Un (Ul (Kq a f b m n h g o p u v k q) b a f m h g u n o p v k) Aet a f b m n h g o p u v k w y
def Aoa a f b m n h g o p u v k:=Kq a f b m n h g o p u v k Am
def Aes(j22:LB→LI→Int→Int→Int→Int→Int→Int→Int→LX→LI→LI→Int→LB→Au)(a:LB)(aa:Int)(f:LI)(b m n h g o p:Int)(u:LX)(v k:LI):Au:=
if(Bb (0:Int) (0:Int))then
some (([]:LB),0)
else
if((Bt aa 0)||(Ja aa (Ac f)))then
some (([]:LB),2)
else
j22 a f b m n h g o p u v k aa ([]:LB)
def Aec:=Aes Aoa
def Xv(j17:LB→Int→Int→Au)(j18:LB→Int→LI→Int→Int→Int→Int→Int→Int→Int→LX→LI→LI→Au)(a ak:LB)(aa:Int):Au:=
(seekto_Open a ak).bind fun(n,h,g,o,p,b,v,al)=>
if(Bb al 0)then
j17 a aa al
else
(Lj n h g o p).bind fun(f,am)=>
if(Bb am 0)then
j17 a aa am
else
(Tv v).bind fun(k,an)=>
if(Bb an 0)then
j17 a aa an
else
(Rw ak).bind fun(u,ao)=>
if(Bb ao 0)then
j17 a aa ao
else
(getI k (Ac f)).bind fun _=>
(getI k (Ac f)).bind fun m=>
j18 a aa f b m n h g o p u v k
def Fk:=Xv Ael Aec
def Lm(f g a:Int):Option (Int×Int×Int):=
(Lf f g).bind fun(k,h)=>
if(Bb h 0)then
some (0,0,h)
else
if((Bt a 0)||(Ja a g))then
some (0,0,2)
else
(Rt f).bind fun(b,m)=>
(Gj (Bb b 0)).bind fun _=>
(Gj (Bb b 0)).bind fun _=>
some ((Bq a b),(Fa a b),0)
def Akf:Option Bool:=
some true
def Ts:=Akf
def Uc(j6:Option Bool)(bk4:Int→Option Bool)(a b:LI)(f:Int):Option Bool:=
if(Bt f (Ac a))then
(getI a f).bind fun g=>
(getI b f).bind fun h=>
if(Bb g h)then
some false
else
bk4 (Ad f 1)
else
j6
def Li(a b:LI):Nat→Int→Option Bool
|0,_=>none
|q+1,f=>Uc Ts (Li a b q) a b f
def Ug a b:=Li a b Am
def Ty(j4:LI→LI→Int→Option Bool)(a b:LI):Option Bool:=
if(Bb (Ac a) (Ac b))then
some false
else
j4 a b 0
def Aap:=Ty Ug
def Aow(m b f:Int)(a:LB)(p u v w g n:Int)(h k:LB)(o:LI)(aa:LB)(ab:Int):Option Bool:=
(getI a 45).bind fun _=>
(getI a 45).bind fun ak=>
(getI a 45).bind fun _=>
(Ic a 45 (Ru ak 1)).bind fun ac=>
(Ang ac ([]:LB) 0).bind fun(ad,ae)=>
(Fk ac ([]:LB) 0).bind fun(av,af)=>
if((geq m 0)&&(geq n 34))then
(Aap o ([(6:Int),(6:Int)]:LI)).bind fun al=>
some ((((((((((al&&(geq g 2))&&(geq b 0))&&(h==([130]:LB)))&&(geq f 0))&&(k==([130]:LB)))&&(geq ab 0))&&(aa==([130]:LB)))&&(geq ae 0))&&(ad==([129]:LB)))&&(geq af 22))
else
some ((((((((((false&&(geq g 2))&&(geq b 0))&&(h==([130]:LB)))&&(geq f 0))&&(k==([130]:LB)))&&(geq ab 0))&&(aa==([130]:LB)))&&(geq ae 0))&&(ad==([129]:LB)))&&(geq af 22))
def Aai:=Aow
def Aax(j2:Int→Int→Int→LB→Int→Int→Int→Int→Int→Int→LB→LB→LI→LB→Int→Option Bool):Option Bool:=
(Ag9).bind fun(a,am)=>
if(!am)then
some false
else
(seekto_Open a ([]:LB)).bind fun(p,u,v,w,g,n,o,m)=>
(Ang a ([]:LB) 1).bind fun(h,b)=>
(Fk a ([]:LB) 1).bind fun(k,f)=>
(seekto_Open a ([]:LB)).bind fun(aw,an,ao,ap,ag,ax,ay,ah)=>
if(Bb ah 0)then
j2 m b f a p u v w g n h k o ([]:LB) ah
else
if((Bt (1:Int) (0:Int))||(Ja 1 ag))then
j2 m b f a p u v w g n h k o ([]:LB) 2
else
(Lm ap ag 1).bind fun(aq,ar,ai)=>
if(Bb ai 0)then
j2 m b f a p u v w g n h k o ([]:LB) ai
else
(Fk a ([]:LB) aq).bind fun(y,aj)=>
if(Bb aj 0)then
j2 m b f a p u v w g n h k o ([]:LB) aj
else
(Gj (decide ((Ac y)≤(Ac y)∧(Ac y)≤Ac y))).bind fun _=>
(Bo y (Bq (Ax (Ax ar an) ao) 8) (Ac y)).bind fun au=>
j2 m b f a p u v w g n h k o au 0
def Nl:=Aax Aai
def Yp(a:LB):Option Bool:=
some (((El (Ac a) 5000)&&(Bt (Ac a) 12000))||(El (Ac a) 12100))
def Aq0(f:LB):Option (Int×Int×Int×Int×Int×Int×Int×Int×Int×Int×LI×Int):=
if(El (Ac f) 100000)then
some (0,0,0,0,0,0,0,0,0,0,([]:LI),4)
else
(Qk f).bind fun(a,n)=>
if(Bb n 0)then
some (0,0,0,0,0,0,0,0,0,0,([]:LI),n)
else
(Bo f a (Ac f)).bind fun u=>
(Adx u).bind fun(b,g,h,k,m,o)=>
if(Bb o 0)then
some (b,g,h,k,m,0,0,0,0,0,([]:LI),o)
else
(Lj b g h k m).bind fun(p,v)=>
if(geq b 2)then
some (b,g,h,k,m,a,(Ad a 22),(Ad (Ad a 22) 8),0,0,p,0)
else
some (b,g,h,k,m,a,(Ad a 22),(Ad a 22),0,0,p,0)
abbrev Bd:=Option (Int×Int×Int×LX×Int)
def Ap4(a:LB)(aa b f h:Int)(ad:LX):Bd:=
(Bo a aa (Ac a)).bind fun aq=>
(Sa aq).bind fun(bb,ar)=>
if(Bb ar 0)then
some (0,0,0,([]:LX),38)
else
some (b,f,h,ad,0)
def Ah4:=Ap4
def Arq(bk21:Int→Int→LX→Bd)(a:LB)(w:LI)(m b f h o p n g y ab:Int)(ac:LX)(k:LI)(aa aj ak ae:Int)(am ad:LX):Bd:=
if(Bb ak 0)then
some (0,0,0,([]:LX),ak)
else
(Ew ad am).bind fun au=>
bk21 (Ad aa aj) (Ad ae 1) au
def Agd bk21:=Arq bk21
def Za(j24:Int→Int→Int→Int→LX→LX→Bd)(j26:LB→Int→Int→Int→Int→LX→Bd)(a:LB)(w:LI)(m b f h o p n g y ab:Int)(ac:LX)(k:LI)(aa ae:Int)(ad:LX):Bd:=
if(Bt ae (Ac w))then
(getI w ae).bind fun _=>
(getI w ae).bind fun aj=>
if(Bt (Ac a) (Ad aa aj))then
some (0,0,0,([]:LX),24)
else
(getI k ae).bind fun _=>
(Bo a aa (Ad aa aj)).bind fun av=>
(getI k ae).bind fun aw=>
(deframe_Decode b f ac aw av).bind fun(am,ak)=>
j24 aa aj ak ae am ad
else
j26 a aa b f h ad
def Mq(a:LB)(w:LI)(m b f h o p n g y ab:Int)(ac:LX)(k:LI):Nat→Int→Int→LX→Bd
|0,_,_,_=>none
|q+1,aa,ae,ad=>Za (Agd (Mq a w m b f h o p n g y ab ac k q) a w m b f h o p n g y ab ac k) Ah4 a w m b f h o p n g y ab ac k aa ae ad
def Arp a w m b f h o p n g y ab ac k:=Mq a w m b f h o p n g y ab ac k Am
def Ya(j21:LB→LI→Int→Int→Int→Int→Int→Int→Int→Int→Int→Int→LX→LI→Int→Int→LX→Bd)(a u:LB)(m b f h o p n g:Int)(k:LI)(an y ab:Int)(w:LI):Bd:=
if(Bb an 0)then
some (0,0,0,([]:LX),an)
else
(Rw u).bind fun(ac,bc)=>
j21 a w m b f h o p n g y ab ac k y 0 ([]:LX)
def Js:=Ya Arp
def Ag2(j20:LB→LB→Int→Int→Int→Int→Int→Int→Int→Int→LI→Int→Int→Int→LI→Bd)(a u:LB)(v:LI)(m b f h o p n g af:Int)(k:LI):Bd:=
j20 a u m b f h o p n g k 0 (Ad (Ad g (Ax 4 (Ac v))) 4) af v
def Zg:=Ag2 Js
def Yi(j19:LB→LB→LI→Int→Int→Int→Int→Int→Int→Int→Int→Int→LI→Bd)(bk17:Int→Int→Bd)(v:LI)(a u:LB)(m b f h o p n g:Int)(k:LI)(ag af:Int):Bd:=
if(Bt ag (Ac v))then
(getI v ag).bind fun _=>
(getI v ag).bind fun ax=>
bk17 (Ad ag 1) (Ad af ax)
else
j19 a u v m b f h o p n g af k
def Mh(v:LI)(a u:LB)(m b f h o p n g:Int)(k:LI):Nat→Int→Int→Bd
|0,_,_=>none
|q+1,ag,af=>Yi Zg (Mh v a u m b f h o p n g k q) v a u m b f h o p n g k ag af
def Ahd v a u m b f h o p n g k:=Mh v a u m b f h o p n g k Am
def Zr(j20:LB→LB→Int→Int→Int→Int→Int→Int→Int→Int→LI→Int→Int→Int→LI→Bd)(j17:LI→LB→LB→Int→Int→Int→Int→Int→Int→Int→Int→LI→Int→Int→Bd)(al:Int)(a u:LB)(m b f h o p n g ah ai:Int)(v k:LI):Bd:=
if(Bb al 0)then
j20 a u m b f h o p n g k al ah ai ([]:LI)
else
j17 v a u m b f h o p n g k 0 (Ad (Ad g (Ax 4 (Ac v))) 4)
def Xc:=Zr Js Ahd
def Ag4(j20:LB→LB→Int→Int→Int→Int→Int→Int→Int→Int→LI→Int→Int→Int→LI→Bd)(j16:Int→LB→LB→Int→Int→Int→Int→Int→Int→Int→Int→Int→Int→LI→LI→Bd)(a u:LB)(m b f h o p n g ah ai:Int)(k:LI):Bd:=
if(Bt (Ac a) g)then
j20 a u m b f h o p n g k 24 ah ai ([]:LI)
else
(Bo a g (Ac a)).bind fun ay=>
(Agt ay (Ac k)).bind fun(v,al)=>
j16 al a u m b f h o p n g ah ai v k
def Qg:=Ag4 Js Xc
def Xa(j15:LB→LB→Int→Int→Int→Int→Int→Int→Int→Int→Int→Int→LI→Bd)(a u:LB)(m b f h o p n g ah ai:Int)(k:LI)(ao:Int):Bd:=
if(Bb ao 0)then
some (0,0,0,([]:LX),ao)
else
j15 a u m b f h o p n g ah ai k
def Lz:=Xa Qg
def Ajz(j14:LB→LB→Int→Int→Int→Int→Int→Int→Int→Int→Int→Int→LI→Int→Bd)(a u:LB):Bd:=
if(El (Ac u) 64)then
some (0,0,0,([]:LX),2)
else
(Aq0 a).bind fun(m,b,f,h,o,p,n,g,ah,ai,k,ap)=>
if(Bb ap 0)then
some (0,0,0,([]:LX),ap)
else
if((u==([]:LB)) !=(geq m 1))then
j14 a u m b f h o p n g ah ai k 26
else
if(geq m 1)then
j14 a u m b f h o p n g ah ai k 0
else
if(Bt (Ac a) g)then
j14 a u m b f h o p n g ah ai k 24
else
(Bo a n g).bind fun az=>
(Sd az u).bind fun(ba,bd)=>
if(!ba)then
j14 a u m b f h o p n g ah ai k 26
else
j14 a u m b f h o p n g ah ai k 0
def Nf:=Ajz Lz
def Sp(a b:Int):Option Int:=
some (Bq (Ax a b) 8)
def Kr(a:Int):Option Int:=
some (As4 1 (Bq (Ax 256 a) 245))
def Kb(a:LI):Option (LI):=
some a
def Gs:=Kb
def Et(j6:LI→Option (LI))(bk4:Int→LI→Option (LI))(b f:Int)(a:LI):Option (LI):=
if(El f 0)then
(Kr b).bind fun g=>
(Ew a ([(Db f g)]:LI)).bind fun h=>
(Kr b).bind fun k=>
bk4 (Ah f k) h
else
j6 a
def Cm(b:Int):Nat→Int→LI→Option (LI)
|0,_,_=>none
|q+1,f,a=>Et Gs (Cm b q) b f a
def Ot b:=Cm b Am
def Pe(j4:Int→Int→LI→Option (LI))(b m:Int):Option (LI):=
j4 b m ([]:LI)
def Cg:=Pe Ot
def Afv(f g:LB)(b:Int):Option (LB×Int):=
(seekto_Open f g).bind fun(aa,o,p,u,h,ab,ac,k)=>
if(Bb k 0)then
some (([]:LB),k)
else
if((Bt b 0)||(Ja b h))then
some (([]:LB),2)
else
(Lm u h b).bind fun(v,w,m)=>
if(Bb m 0)then
some (([]:LB),m)
else
(Fk f g v).bind fun(a,n)=>
if(Bb n 0)then
some (([]:LB),n)
else
(Gj (decide ((Ac a)≤(Ac a)∧(Ac a)≤Ac a))).bind fun _=>
(Bo a (Bq (Ax (Ax w o) p) 8) (Ac a)).bind fun y=>
some (y,0)
def Pj(g:Int)(h:Bool)(b:LX)(a n o:Int):Option Bool:=
(Lm o (Bq (Ac b) a) g).bind fun(aq,ar,af)=>
some (h&&(geq af 0))
def Iq:=Pj
def Jk(j10:Int→Bool→LX→Int→Int→Int→Option Bool)(k m:LB)(g:Int)(h:Bool)(f:LB)(p:Int)(b:LX)(a n o:Int):Option Bool:=
if((Bt g 0)||(Ja g (Bq (Ac b) a)))then
(Afv k m g).bind fun(au,ag)=>
some (h&&(geq ag 2))
else
(Afv k m g).bind fun(ah,ai)=>
if((Bb ai 0)||(El (Ax g p) (Ac f)))then
some false
else
(Bo f (Ax g p) (Ac f)).bind fun aj=>
if(ah !=aj)then
some false
else
j10 g h b a n o
def Ec:=Jk Iq
def Ft(j9:LB→LB→Int→Bool→LB→Int→LX→Int→Int→Int→Option Bool)(k m:LB)(u g:Int)(h:Bool)(p:Int)(b:LX)(a v n o:Int)(f:LB):Option Bool:=
(Fk k m u).bind fun(aa,ac)=>
(
if((Bb ac 0)||(El v (Ac f)))then
if(true||(geq (Ac aa) 0))then
some false
else
j9 k m g h f p b a n o
else
(Bo f v (Ac f)).bind fun ab=>
if((aa !=ab)||(geq (Ac aa) 0))then
some false
else
j9 k m g h f p b a n o)
def Fy:=Ft Ec
def Ga(j8:LB→LB→Int→Int→Bool→Int→LX→Int→Int→Int→Int→LB→Option Bool)(bk6:Int→Int→Option Bool)(k m:LB)(u g:Int)(h:Bool)(p:Int)(b:LX)(a n o:Int)(f:LB)(w:LI)(v y:Int):Option Bool:=
if((Bt y u)&&(Bt y (Ac w)))then
(getI w y).bind fun _=>
(getI w y).bind fun ak=>
bk6 (Ad v (Ax ak p)) (Ad y 1)
else
j8 k m u g h p b a v n o f
def Cq(k m:LB)(u g:Int)(h:Bool)(p:Int)(b:LX)(a n o:Int)(f:LB)(w:LI):Nat→Int→Int→Option Bool
|0,_,_=>none
|q+1,v,y=>Ga Fy (Cq k m u g h p b a n o f w q) k m u g h p b a n o f w v y
def Jt k m u g h p b a n o f w:=Cq k m u g h p b a n o f w Am
def Jj(j6:LB→LB→Int→Int→Bool→Int→LX→Int→Int→Int→LB→LI→Int→Int→Option Bool)(j9:LB→LB→Int→Bool→LB→Int→LX→Int→Int→Int→Option Bool)(k m:LB)(u g:Int):Option Bool:=
(Nl).bind fun h=>
(Yp k).bind fun al=>
if((al||(El (Ac m) 64))||(!h))then
some h
else
(Nf k m).bind fun(a,n,o,b,ad)=>
(Fk k m 0).bind fun(av,am)=>
if(Bb ad am)then
some false
else
if(Bb ad 0)then
some h
else
(width_Bytes n b).bind fun(f,an)=>
(seekto_Open k m).bind fun(aw,ax,ay,az,ba,bb,ae,ao)=>
if((((Bb an 0)||(Bb ao 0))||(Bt a 1))||(geq (Ac ae) 0))then
some false
else
(Sp a n).bind fun p=>
(Gj (Bb a 0)).bind fun _=>
if((Ja u 0)&&(Bt u (Ac ae)))then
(Cg o (Bq (Ac b) a)).bind fun w=>
j6 k m u g h p b a n o f w 0 0
else
j9 k m g h f p b a n o
def Hy:=Jj Jt Ec
def Sy(f g b a h:Int):Option Bool:=
if((((geq f 1)||(geq f 2))&&(Ja g 1))&&(gle g 6))then
some ((((((geq b 8)||(geq b 16))||(geq b 24))&&(Ja a 1))&&(gle a 1048576))&&(Ja h 1))
else
some (((false&&(Ja a 1))&&(gle a 1048576))&&(Ja h 1))
def Xs(h a k f b:Int):Option Bool:=
(
(Gj (Bb a 0)).bind fun _=>
(
if(El b (Bq 4000 a))then
some true
else
(Cg f b).bind fun g=>
some (El (Ac g) 1000)))
def Xu(b:Int):Option Int:=
if(El b 100000)then
some 8
else
some 0
def Zk:=Xu
def Aay(bk6:Int→Int→Option Int)(a:LI)(b f:Int):Option Int:=
(getI a f).bind fun g=>
bk6 (Ad b g) (Ad f 1)
def Aak bk6:=Aay bk6
def Ox(j8:Int→Int→Option Int)(j10:Int→Option Int)(a:LI)(b f:Int):Option Int:=
if(Bt f (Ac a))then
(getI a f).bind fun h=>
if(Bt h 5)then
some 8
else
(getI a f).bind fun k=>
if(El k 100000)then
some 8
else
j8 b f
else
j10 b
def Gx(a:LI):Nat→Int→Int→Option Int
|0,_,_=>none
|q+1,b,f=>Ox (Aak (Gx a q) a) Zk a b f
def Aae a:=Gx a Am
def Oq(j6:LI→Int→Int→Option Int)(a:LI):Option Int:=
if((Bt (Ac a) 1)||(El (Ac a) 1000))then
some 8
else
j6 a 0 0
def Hf:=Oq Aae
abbrev Dw:=Option (Int×Int)
def Ao4(a:Int):Dw:=
some (a,0)
def Apf:=Ao4
def Ou(j6:Int→Dw)(bk4:Int→Int→Dw)(b:LB)(a f:Int):Dw:=
if(Bt f 4)then
(getI b f).bind fun g=>
if(Ja g 128)then
some (0,12)
else
(getI b f).bind fun h=>
bk4 (Ad (Ax 128 a) (Ae h:Int)) (Ad f 1)
else
j6 a
def Hb(b:LB):Nat→Int→Int→Dw
|0,_,_=>none
|q+1,a,f=>Ou Apf (Hb b q) b a f
def Aao b:=Hb b Am
def Aat(j4:LB→Int→Int→Dw)(b:LB):Dw:=
if(Bb (Ac b) 4)then
some (0,2)
else
j4 b 0 0
def Vm:=Aat Aao
abbrev Em:=Option (Int×Int)
def Acr(a:LB)(g:Int):Em:=
if(El g 4000)then
some (0,4)
else
if(Bt (Ac a) g)then
some (0,24)
else
(getI a 5).bind fun h=>
if(geq h 16)then
(Bo a (Ah g 10) g).bind fun k=>
(Bo a 3 10).bind fun m=>
(Ew ([51,68,73]:LB) m).bind fun n=>
if(k !=n)then
some (0,12)
else
some (g,0)
else
some (g,0)
def Qs:=Acr
def Ada(j6:LB→Int→Em)(a:LB)(b:Int):Em:=
(getI a 5).bind fun o=>
if(geq o 16)then
j6 a (Ad (Ad 10 b) 10)
else
j6 a (Ad 10 b)
def Rf:=Ada Qs
def Ac2(j5:LB→Int→Em)(a:LB):Em:=
if(Bt (Ac a) 10)then
some (0,24)
else
(Bo a 6 10).bind fun p=>
(Vm p).bind fun(b,f)=>
(getI a 3).bind fun u=>
if(Bt u 2)then
if true then
if true then
if(true||(Bb f 0))then
some (0,12)
else
j5 a b
else
(getI a 5).bind fun v=>
if(Bb v 0)then
(getI a 5).bind fun w=>
if(Bb w 16)then
if(true||(Bb f 0))then
some (0,12)
else
j5 a b
else
(getI a 3).bind fun y=>
if((Bb y 4)||(Bb f 0))then
some (0,12)
else
j5 a b
else
if(false||(Bb f 0))then
some (0,12)
else
j5 a b
else
(getI a 4).bind fun aa=>
if(Bb aa 0)then
if(true||(Bb f 0))then
some (0,12)
else
j5 a b
else
(getI a 5).bind fun ab=>
if(Bb ab 0)then
(getI a 5).bind fun ac=>
if(Bb ac 16)then
if(true||(Bb f 0))then
some (0,12)
else
j5 a b
else
(getI a 3).bind fun ad=>
if((Bb ad 4)||(Bb f 0))then
some (0,12)
else
j5 a b
else
if(false||(Bb f 0))then
some (0,12)
else
j5 a b
else
(getI a 3).bind fun ae=>
if(El ae 4)then
if true then
if(true||(Bb f 0))then
some (0,12)
else
j5 a b
else
(getI a 5).bind fun af=>
if(Bb af 0)then
(getI a 5).bind fun ag=>
if(Bb ag 16)then
if(true||(Bb f 0))then
some (0,12)
else
j5 a b
else
(getI a 3).bind fun ah=>
if((Bb ah 4)||(Bb f 0))then
some (0,12)
else
j5 a b
else
if(false||(Bb f 0))then
some (0,12)
else
j5 a b
else
(getI a 4).bind fun ai=>
if(Bb ai 0)then
if(true||(Bb f 0))then
some (0,12)
else
j5 a b
else
(getI a 5).bind fun aj=>
if(Bb aj 0)then
(getI a 5).bind fun ak=>
if(Bb ak 16)then
if(true||(Bb f 0))then
some (0,12)
else
j5 a b
else
(getI a 3).bind fun al=>
if((Bb al 4)||(Bb f 0))then
some (0,12)
else
j5 a b
else
if(false||(Bb f 0))then
some (0,12)
else
j5 a b
def Adu:=Ac2 Rf
def Adm(j4:LB→Em)(a:LB):Em:=
if(Bt (Ac a) 3)then
some (0,6)
else
(Bo a 0 3).bind fun am=>
if(am !=([73,68,51]:LB))then
some (0,6)
else
j4 a
def Zy:=Adm Adu
def Aga(a:UInt64):Option UInt64:=
some a
def Ahj:=Aga
def Vk(j6:UInt64→Option UInt64)(bk4:UInt64→Int→Option UInt64)(b:LB)(a:UInt64)(f:Int):Option UInt64:=
if(Ja f 0)then
(getI b f).bind fun g=>
bk4 (Ad (Ax 256 a) (Ae g:UInt64)) (Ah f 1)
else
j6 a
def Je(b:LB):Nat→UInt64→Int→Option UInt64
|0,_,_=>none
|q+1,a,f=>Vk Ahj (Je b q) b a f
def Agc b:=Je b Am
def Ahg(j4:LB→UInt64→Int→Option UInt64)(b:LB):Option UInt64:=
j4 b 0 (Ah (Ac b) 1)
def Cd:=Ahg Agc
def Pq(b:LB):Option (Int×Int×Bool):=
(Bo b 12 16).bind fun g=>
(Cd g).bind fun a=>
(Bo b 16 20).bind fun h=>
(Cd h).bind fun f=>
if(((Bt a 32)||(El a 3032))||(El f 1000))then
some (0,0,false)
else
some ((Ah (Ae a:Int) 32),(Ae f:Int),true)
def Wl(a:LB):Option (LB):=
some a
def Wg:=Wl
def Mi(j6:LB→Option (LB))(bk4:UInt64→Int→LB→Option (LB))(b:Int)(f:UInt64)(g:Int)(a:LB):Option (LB):=
if(Bt g b)then
(Ew a ([(Ae (Wx f 256):UInt8)]:LB)).bind fun h=>
bk4 (Bq f 256) (Ad g 1) h
else
j6 a
def Ff(b:Int):Nat→UInt64→Int→LB→Option (LB)
|0,_,_,_=>none
|q+1,f,g,a=>Mi Wg (Ff b q) b f g a
def Wv b:=Ff b Am
def Wn(j4:Int→UInt64→Int→LB→Option (LB))(k:UInt64)(b:Int):Option (LB):=
j4 b k 0 ([]:LB)
def Ct:=Wn Wv
def Mj(a b:Int)(f:UInt64):Option (LB):=
(Ct 2000 4).bind fun g=>
(Ew ([(65:UInt8),(80:UInt8),(69:UInt8),(84:UInt8),(65:UInt8),(71:UInt8),(69:UInt8),(88:UInt8)]:LB) g).bind fun h=>
(Ct (Ae (Ad a 32):UInt64) 4).bind fun k=>
(Ew h k).bind fun m=>
(Ct (Ae b:UInt64) 4).bind fun n=>
(Ew m n).bind fun o=>
(Ct f 4).bind fun p=>
(Ew o p).bind fun u=>
(mkI (8:Int) (0:UInt8)).bind fun v=>
(Ew u v).bind fun w=>
some w
def Po(a b:Int):Option (LB):=
(Mj a b 2684354560).bind fun f=>
some f
def Hw(a b:Int)(f:Bool):Option (LB):=
if f then
(Mj a b 2147483648).bind fun g=>
some g
else
(Mj a b 0).bind fun h=>
some h
abbrev Hs:=Option (Int×Int)
def Aav(a:LB)(b f:Int):Hs:=
if(Bt (Ac a) (Ad 64 b))then
some (0,24)
else
(Bo a (Ah (Ad 64 b) 32) (Ad 64 b)).bind fun g=>
(Hw b f true).bind fun h=>
if(g !=h)then
some (0,12)
else
some ((Ad 64 b),0)
def Aas:=Aav
def Aad(j4:LB→Int→Int→Hs)(a:LB):Hs:=
if(Bt (Ac a) 32)then
some (0,24)
else
(Bo a 0 32).bind fun k=>
(Pq k).bind fun(b,f,m)=>
if(!m)then
some (0,12)
else
(Bo a 0 32).bind fun n=>
(Po b f).bind fun o=>
if(n !=o)then
some (0,12)
else
j4 a b f
def Aaq:=Aad Aas
def Aar(j3:LB→Hs)(a:LB):Hs:=
if(Bt (Ac a) 8)then
some (0,6)
else
(Bo a 0 8).bind fun p=>
if(p !=([65,80,69,84,65,71,69,88]:LB))then
some (0,6)
else
j3 a
def Vr:=Aar Aaq
abbrev Dy:=Option (LI×Int)
def Aau(bk6:Int→LI→Dy)(a:LB)(b:Int)(f:LI)(g h:Int):Dy:=
if(geq h 6)then
some (f,0)
else
if(Bb h 0)then
some (([]:LI),h)
else
if(El (Ad b g) 4000)then
some (([]:LI),4)
else
(Ew f ([g]:LI)).bind fun m=>
bk6 (Ad b g) m
def Ka bk6:=Aau bk6
def Og(j9:Int→LI→Int→Int→Dy)(a:LB)(b:Int)(f:LI):Dy:=
(Bo a b (Ac a)).bind fun n=>
(Zy n).bind fun(o,k)=>
if(geq k 6)then
(Bo a b (Ac a)).bind fun p=>
(Vr p).bind fun(u,v)=>
j9 b f u v
else
j9 b f o k
def Jy(a:LB):Nat→Int→LI→Dy
|0,_,_=>none
|q+1,b,f=>Og (Ka (Jy a q) a) a b f
def Aox a:=Jy a Am
def Aot(j6:LB→Int→LI→Dy)(a:LB):Dy:=
j6 a 0 ([]:LI)
def Af7:=Aot Aox
abbrev Eb:=Option (Int×Int)
def Aal(a b:Int):Eb:=
some (b,a)
def Aa1:=Aal
def Oz(j6:Int→Int→Eb)(bk4:Int→Int→Eb)(a:Int)(f:LI)(b g:Int):Eb:=
if(Bt g (Ac f))then
(getI f g).bind fun _=>
(getI f g).bind fun h=>
bk4 (Ad b h) (Ad g 1)
else
j6 a b
def Gz(a:Int)(f:LI):Nat→Int→Int→Eb
|0,_,_=>none
|q+1,b,g=>Oz Aa1 (Gz a f q) a f b g
def Pd a f:=Gz a f Am
def Aaw(j4:Int→LI→Int→Int→Eb)(k:LB):Eb:=
(Af7 k).bind fun(f,a)=>
j4 a f 0 0
def Na:=Aaw Pd
def Ade(a:UInt32)(b:Bool):Option UInt32:=
if b then
some (Ru (Bq a 2) 3988292384)
else
some (Bq a 2)
def Ac6:=Ade
def Acu(j2:UInt32→Bool→Option UInt32)(a:UInt32)(f:Int):Option UInt32:=
if(geq f 1)then
j2 a (!(geq (Wx a 2) 1))
else
j2 a (geq (Wx a 2) 1)
def Zt:=Acu Ac6
def Acm(a:UInt32):Option UInt32:=
some a
def Ac4:=Acm
def Qp(j6:UInt32→Option UInt32)(bk4:UInt32→UInt8→Int→Option UInt32)(a:UInt32)(b:UInt8)(f:Int):Option UInt32:=
if(Bt f 8)then
(Zt a (Ae (Wx b 2):Int)).bind fun g=>
bk4 g (Bq b 2) (Ad f 1)
else
j6 a
def Ho:Nat→UInt32→UInt8→Int→Option UInt32
|0,_,_,_=>none
|q+1,a,b,f=>Qp Ac4 (Ho q) a b f
def Aps:=Ho Am
def Arz(j4:UInt32→UInt8→Int→Option UInt32)(h:UInt32)(k:UInt8):Option UInt32:=
j4 h k 0
def Aiv:=Arz Aps
def Zw(a:UInt32):Option UInt32:=
some a
def Yf:=Zw
def Nc(j6:UInt32→Option UInt32)(bk4:UInt32→Int→Option UInt32)(b:LB)(a:UInt32)(f:Int):Option UInt32:=
if(Bt f (Ac b))then
(getI b f).bind fun g=>
(Aiv a g).bind fun h=>
bk4 h (Ad f 1)
else
j6 a
def Fv(b:LB):Nat→UInt32→Int→Option UInt32
|0,_,_=>none
|q+1,a,f=>Nc Yf (Fv b q) b a f
def Yk b:=Fv b Am
def Xd(j4:LB→UInt32→Int→Option UInt32)(k:UInt32)(b:LB):Option UInt32:=
j4 b k 0
def Ae4:=Xd Yk
def Nx(a:LB):Option UInt32:=
(Ae4 4294967295 a).bind fun b=>
some (Ah 4294967295 b)
abbrev Ep:=Option (Int×Int×Int×Int×Int×Int)
def Ad2(k h g f b:UInt64):Ep:=
(Sy (Ae k:Int) (Ae h:Int) (Ae g:Int) (Ae f:Int) (Ae b:Int)).bind fun v=>
if(!v)then
some (0,0,0,0,0,12)
else
(Xs (Ae k:Int) (Ae h:Int) (Ae g:Int) (Ae f:Int) (Ae b:Int)).bind fun w=>
if w then
some (0,0,0,0,0,4)
else
some ((Ae k:Int),(Ae h:Int),(Ae g:Int),(Ae f:Int),(Ae b:Int),0)
def Ack:=Ad2
def Acj(j6:UInt64→UInt64→UInt64→UInt64→UInt64→Ep)(a:LB):Ep:=
(Bo a 4 6).bind fun u=>
(Bo a 6 8).bind fun p=>
(Bo a 8 10).bind fun o=>
(Bo a 10 14).bind fun n=>
(Bo a 14 18).bind fun m=>
(
(Cd u).bind fun k=>
(
(Cd p).bind fun h=>
(
(Cd o).bind fun g=>
(
(Cd n).bind fun f=>
(
(Cd m).bind fun b=>
(
j6 k h g f b))))))
def Adk:=Acj Ack
def Ado(j5:LB→Ep)(a:LB):Ep:=
if(Bt (Ac a) 22)then
some (0,0,0,0,0,24)
else
(Bo a 18 22).bind fun y=>
(Bo a 0 18).bind fun aa=>
(Cd y).bind fun ab=>
(Nx aa).bind fun ac=>
if(Bb ab (Ae ac:UInt64))then
some (0,0,0,0,0,22)
else
j5 a
def Ac5:=Ado Adk
def Adc(j4:LB→Ep)(a:LB):Ep:=
(Bo a 0 (Db 4 (Ac a))).bind fun ad=>
(Bo ([84,84,65,49]:LB) 0 (Db 4 (Ac a))).bind fun ae=>
if(ad !=ae)then
some (0,0,0,0,0,12)
else
j4 a
def Ph:=Adc Ac5
def Acp(a:UInt64)(b:Bool):Option UInt64:=
if b then
some (Ru (Ax a 2) 4823603603198064275)
else
some (Ax a 2)
def Qr:=Acp
def Ad3(j2:UInt64→Bool→Option UInt64)(a:UInt64)(f:Int):Option UInt64:=
if(geq f 1)then
j2 a (!(Ja a 9223372036854775808))
else
j2 a (Ja a 9223372036854775808)
def Yh:=Ad3 Qr
def Ac8(a:UInt64):Option UInt64:=
some a
def Ady:=Ac8
def Ra(j6:UInt64→Option UInt64)(bk4:UInt64→Int→Option UInt64)(b:UInt8)(a:UInt64)(f:Int):Option UInt64:=
if(El f 0)then
(Gj (Bb f 0)).bind fun _=>
(Yh a (Fa (Bq (Ae b:Int) f) 2)).bind fun g=>
bk4 g (Bq f 2)
else
j6 a
def Hr(b:UInt8):Nat→UInt64→Int→Option UInt64
|0,_,_=>none
|q+1,a,f=>Ra Ady (Hr b q) b a f
def Art b:=Hr b Am
def Apt(j4:UInt8→UInt64→Int→Option UInt64)(h:UInt64)(b:UInt8):Option UInt64:=
j4 b h 128
def Ajb:=Apt Art
def Xh(a:UInt64):Option UInt64:=
some a
def Xi:=Xh
def Nb(j6:UInt64→Option UInt64)(bk4:UInt64→Int→Option UInt64)(b:LB)(a:UInt64)(f:Int):Option UInt64:=
if(Bt f (Ac b))then
(getI b f).bind fun g=>
(Ajb a g).bind fun h=>
bk4 h (Ad f 1)
else
j6 a
def Fu(b:LB):Nat→UInt64→Int→Option UInt64
|0,_,_=>none
|q+1,a,f=>Nb Xi (Fu b q) b a f
def Amu b:=Fu b Am
def Amr(j4:LB→UInt64→Int→Option UInt64)(k:UInt64)(b:LB):Option UInt64:=
j4 b k 0
def Tg:=Amr Amu
def Ajd(a:LB):Option UInt64:=
(Tg 0 a).bind fun b=>
some b
def Kv(a:LB):Option (LB):=
(Ajd a).bind fun b=>
(Ct b 8).bind fun f=>
some f
abbrev Cn:=Option (LI×Int)
def Ac7(f:LI):Cn:=
(Hf f).bind fun h=>
if(Bb h 0)then
some (([]:LI),12)
else
some (f,0)
def Qx:=Ac7
def Rg(j8:LI→Cn)(bk6:Int→LI→Cn)(b:LB)(a g:Int)(f:LI):Cn:=
if(Bt g a)then
(Bo b (Ax 4 g) (Ad (Ax 4 g) 4)).bind fun k=>
(Cd k).bind fun m=>
(Ew f ([(Ae m:Int)]:LI)).bind fun n=>
bk6 (Ad g 1) n
else
j8 f
def Hn(b:LB)(a:Int):Nat→Int→LI→Cn
|0,_,_=>none
|q+1,g,f=>Rg Qx (Hn b a q) b a g f
def Acy b a:=Hn b a Am
def Acv(j6:LB→Int→Int→LI→Cn)(b:LB)(a:Int):Cn:=
j6 b a 0 ([]:LI)
def Ads:=Acv Acy
def Acl(j5:LB→Int→Cn)(b:LB)(a:Int):Cn:=
if((Bt a 1)||(El a 1000))then
some (([]:LI),2)
else
if(Bt (Ac b) (Ad (Ax 4 a) 4))then
some (([]:LI),24)
else
(Bo b (Ax 4 a) (Ad (Ax 4 a) 4)).bind fun o=>
(Bo b 0 (Ax 4 a)).bind fun p=>
(Cd o).bind fun u=>
(Nx p).bind fun v=>
if(Bb u (Ae v:UInt64))then
some (([]:LI),22)
else
j5 b a
def Ps:=Acl Ads
def Ain(b:UInt64)(a:LB):Option (UInt64×Int):=
if(El (Ac a) 100000)then
some (0,4)
else
(Tg b a).bind fun f=>
some (f,0)
def Aln(a:LB):Option (UInt64×Int):=
(Ain 0 a).bind fun(b,f)=>
some (b,f)
def As6(a:LX):Option (LX):=
some a
def Asy:=As6
def Age(bk6:UInt64→Int→LX→Option (LX))(b:UInt64)(f:Int)(a:LX)(g:Int32):Option (LX):=
(getI a f).bind fun _=>
(Ic a f g).bind fun h=>
bk6 (Bq b 256) (Ad f 1) h
def Vg bk6:=Age bk6
def Ut(j8:UInt64→Int→LX→Int32→Option (LX))(j10:LX→Option (LX))(b:UInt64)(f:Int)(a:LX):Option (LX):=
if(Bt f 8)then
if(El (Ae (Wx b 256):Int32) 127)then
j8 b f a (Ah (Ae (Wx b 256):Int32) 256)
else
j8 b f a (Ae (Wx b 256):Int32)
else
j10 a
def Hl:Nat→UInt64→Int→LX→Option (LX)
|0,_,_,_=>none
|q+1,b,f,a=>Ut (Vg (Hl q)) Asy b f a
def Aux:=Hl Am
def Aus(j6:UInt64→Int→LX→Option (LX))(k:UInt64):Option (LX):=
j6 k 0 (List.replicate 16 (0:Int32))
def Anx:=Aus Aux
def La(a:LB):Option (LX×Int):=
if(El (Ac a) 64)then
some (([(0:Int32),(0:Int32),(0:Int32),(0:Int32),(0:Int32),(0:Int32),(0:Int32),(0:Int32),(0:Int32),(0:Int32),(0:Int32),(0:Int32),(0:Int32),(0:Int32),(0:Int32),(0:Int32)]:LX),2)
else
(Aln a).bind fun(b,g)=>
(Anx b).bind fun f=>
some (f,0)
def Qa(a:Int):Option Int:=
if(geq a 8)then
some 128
else
if(geq a 16)then
some 32768
else
if(geq a 24)then
some 8388608
else
some 0
def Ahv(a b:Int):Option Int:=
if((Bt a 1)||(El a 6))then
some 2
else
(Qa b).bind fun f=>
if(geq f 0)then
some 2
else
some 0
def Uv(a f b:Int):Option Int:=
(Ahv a f).bind fun g=>
if((Bb g 0)||(Bt b 1))then
some 2
else
(Gj (Bb a 0)).bind fun _=>
if(El b (Bq 4000 a))then
some 2
else
some 0
def Tr(b:LB):Option (LB):=
(Nx b).bind fun a=>
(Ew ([]:LB) b).bind fun f=>
(Ew f ([(Ae a:UInt8),(Ae (Bk a (GI.toZ (8:UInt64)).toNat):UInt8),(Ae (Bk a (GI.toZ (16:UInt64)).toNat):UInt8),(Ae (Bk a (GI.toZ (24:UInt64)).toNat):UInt8)]:LB)).bind fun g=>
some g
def Lq(a:LB):Option Int:=
if(Bt (Ac a) 5)then
some 24
else
if(El (Ac a) 41254)then
some 4
else
(Bo a 0 (Ah (Ac a) 4)).bind fun b=>
(Tr b).bind fun f=>
if(f !=a)then
some 22
else
some 0
def Ji:Option (Int×Int×UInt64×UInt64):=
some (10,10,16384,16384)
def Apg(a:UInt64):Option UInt64:=
some a
def Ao9:=Apg
def Pc(j6:UInt64→Option UInt64)(bk4:UInt64→Int→Option UInt64)(b:Int)(a:UInt64)(f:Int):Option UInt64:=
if(Bt f b)then
bk4 (Ax a 2) (Ad f 1)
else
j6 a
def Gw(b:Int):Nat→UInt64→Int→Option UInt64
|0,_,_=>none
|q+1,a,f=>Pc Ao9 (Gw b q) b a f
def Ao0 b:=Gw b Am
def Api(j4:Int→UInt64→Int→Option UInt64)(b:Int):Option UInt64:=
j4 b 1 0
def Dx:=Api Ao0
def Abo(a g:Int)(h k:UInt64)(b:UInt32):Option Bool:=
(Dx a).bind fun f=>
some (Bt (Ae b:UInt64) f)
def Ys(a g:Int)(h k:UInt64)(b:UInt32):Option UInt32:=
(Dx a).bind fun f=>
some (Ae (Ah (Ae b:UInt64) f):UInt32)
abbrev Ta:=Option (Int×UInt64)
def Ac0(b:Int)(a f:UInt64):Ta:=
if(Bt b 24)then
(Dx (Ad b 5)).bind fun g=>
if(El (Ah (Ad a f) (Bq a 16)) g)then
some ((Ad b 1),(Ah (Ad a f) (Bq a 16)))
else
some (b,(Ah (Ad a f) (Bq a 16)))
else
some (b,(Ah (Ad a f) (Bq a 16)))
def Rm:=Ac0
def Acz(j2:Int→UInt64→UInt64→Ta)(b:Int)(a f:UInt64):Ta:=
if(El b 0)then
(Dx (Ad b 4)).bind fun h=>
if(Bt (Ah (Ad a f) (Bq a 16)) h)then
some ((Ah b 1),(Ah (Ad a f) (Bq a 16)))
else
j2 b a f
else
j2 b a f
def Pg:=Acz Rm
abbrev Oy:=Option (Int×Int×UInt64×UInt64)
def Yv(h:UInt32)(f a:Int)(g b:UInt64)(o:Int)(p:UInt64):Oy:=
(Pg f g (Ae h:UInt64)).bind fun(aa,ab)=>
some (aa,o,ab,p)
def Mx:=Yv
def Xn(j2:UInt32→Int→Int→UInt64→UInt64→Int→UInt64→Oy)(f a:Int)(g b:UInt64)(h:UInt32):Oy:=
(Abo f a g b h).bind fun u=>
if(!u)then
(
(
(Ys f a g b h).bind fun k=>
(Pg a b (Ae k:UInt64)).bind fun(m,n)=>
j2 h f a g b m n))
else
j2 h f a g b a b
def Td:=Xn Mx
abbrev Dn:=Option (Int×Int×UInt64×UInt64)
def Alq(a b:Int)(f g:UInt64):Dn:=
some (a,b,f,g)
def Anl:=Alq
def Xe(j6:Int→Int→UInt64→UInt64→Dn)(bk4:Int→Int→Int→UInt64→UInt64→Dn)(h:Int)(k:LU)(m a b:Int)(f g:UInt64):Dn:=
if(Bt m (Ac k))then
(getI k m).bind fun n=>
(Td a b f g n).bind fun(o,p,u,v)=>
bk4 (Ad m h) o p u v
else
j6 a b f g
def It(h:Int)(k:LU):Nat→Int→Int→Int→UInt64→UInt64→Dn
|0,_,_,_,_,_=>none
|q+1,m,a,b,f,g=>Xe Anl (It h k q) h k m a b f g
def Al5 h k:=It h k Am
def Yy(j4:Int→LU→Int→Int→Int→UInt64→UInt64→Dn)(h:Int)(k:LU):Dn:=
(Ji).bind fun(w,y,aa,ab)=>
(Gj (Bb h 0)).bind fun _=>
j4 h k (Fa (Ac k) h) w y aa ab
def Lo:=Yy Al5
def Aid(a:Int):Option Int:=
some (Fa a 2)
def Agi:=Aid
def Va(j6:Int→Option Int)(bk4:Int→Int→Option Int)(b a f:Int):Option Int:=
if(Bt f (Fa b 8))then
bk4 (Bq a 2) (Ad f 1)
else
j6 a
def Jl(b:Int):Nat→Int→Int→Option Int
|0,_,_=>none
|q+1,a,f=>Va Agi (Jl b q) b a f
def Agq b:=Jl b Am
def Ahe(j4:Int→Int→Int→Option Int)(g:LB)(k b:Int):Option Int:=
(getI g (Bq b 8)).bind fun h=>
j4 b (Ae h:Int) 0
def If:=Ahe Agq
abbrev Cv:=Option (LB×Int)
def Afb(b g a:Int)(f:LB):Cv:=
(getI f (Bq a 8)).bind fun _=>
(getI f (Bq a 8)).bind fun m=>
(getI f (Bq a 8)).bind fun _=>
(Ic f (Bq a 8) (Ad m (Ae (Ax b g):UInt8))).bind fun n=>
some (n,(Ad a 1))
def Th:=Afb
def Sr(j8:Int→Int→Int→LB→Cv)(bk6:Int→Int→Cv)(b a:Int)(f:LB)(g h:Int):Cv:=
if(Bt h (Fa a 8))then
bk6 (Ax g 2) (Ad h 1)
else
j8 b g a f
def Ik(b a:Int)(f:LB):Nat→Int→Int→Cv
|0,_,_=>none
|q+1,g,h=>Sr Th (Ik b a f q) b a f g h
def Aex b a f:=Ik b a f Am
def Aez(j6:Int→Int→LB→Int→Int→Cv)(b a:Int)(f:LB):Cv:=
j6 b a f 1 0
def Tl:=Aez Aex
def Ae2(j5:Int→Int→LB→Cv)(k:LB)(a b:Int):Cv:=
if(geq (Fa a 8) 0)then
(Ew k ([(0:UInt8)]:LB)).bind fun o=>
j5 b a o
else
j5 b a k
def Ry:=Ae2 Tl
abbrev Cy:=Option (LB×Int)
def Aks(a:Int)(b:LB):Cy:=
some (b,a)
def Alm:=Aks
def Mf(j6:Int→LB→Cy)(bk4:Int→Int→LB→Cy)(f:Int)(g:LB)(h k a:Int)(b:LB):Cy:=
if(Bt k f)then
(If g h k).bind fun m=>
(Ry b a m).bind fun(n,o)=>
bk4 (Ad k 1) o n
else
j6 a b
def Fg(f:Int)(g:LB)(h:Int):Nat→Int→Int→LB→Cy
|0,_,_,_=>none
|q+1,k,a,b=>Mf Alm (Fg f g h q) f g h k a b
def Akt f g h:=Fg f g h Am
def Ak9(j4:Int→LB→Int→Int→Int→LB→Cy)(g:LB)(h p f:Int):Cy:=
j4 f g h p 0 ([]:LB)
def Adb:=Ak9 Akt
def Apc(a:UInt64):Option UInt64:=
some a
def Apd:=Apc
def Ok(j6:UInt64→Option UInt64)(bk4:UInt64→Int→Option UInt64)(b:Int)(f:LB)(g:Int)(a:UInt64)(h:Int):Option UInt64:=
if(Ja h 0)then
(If f g (Ad b h)).bind fun k=>
bk4 (Ad (Ax 2 a) (Ae k:UInt64)) (Ah h 1)
else
j6 a
def Gv(b:Int)(f:LB)(g:Int):Nat→UInt64→Int→Option UInt64
|0,_,_=>none
|q+1,a,h=>Ok Apd (Gv b f g q) b f g a h
def Aa4 b f g:=Gv b f g Am
def Aan(j4:Int→LB→Int→UInt64→Int→Option UInt64)(f:LB)(g b m:Int):Option UInt64:=
j4 b f g 0 (Ah m 1)
def Nq:=Aan Aa4
abbrev Fe:=Option (Int×Int)
def Afd(b a:Int)(g:LB)(f:Int):Fe:=
if(geq a 48)then
some (a,(Ad b a))
else
if(Ja (Ad b a) f)then
some ((-1:Int),0)
else
some (a,(Ad (Ad b a) 1))
def Tk:=Afd
def Tm(j6:Int→Int→LB→Int→Fe)(bk4:Int→Fe)(b:Int)(g:LB)(f a:Int):Fe:=
if((Bt (Ad b a) f)&&(Bt a 48))then
(If g f (Ad b a)).bind fun h=>
if(geq h 1)then
bk4 (Ad a 1)
else
j6 b a g f
else
j6 b a g f
def Im(b:Int)(g:LB)(f:Int):Nat→Int→Fe
|0,_=>none
|q+1,a=>Tm Tk (Im b g f q) b g f a
def Asz b g f:=Im b g f Am
def As9(j4:Int→LB→Int→Int→Fe)(g:LB)(f b:Int):Fe:=
j4 b g f 0
def Alh:=As9 Asz
def Zf(b:UInt32)(f:Int):Option Int:=
(Dx f).bind fun a=>
(Gj (Bb a 0)).bind fun _=>
some (Ae (Db 48 (Bq (Ae b:UInt64) a)):Int)
abbrev Uu:=Option (UInt32×Int×Int)
def So(g a b:Int)(h:LB)(f k:Int):Uu:=
if((Bt a 0)||(Bt (Ah f b) k))then
some (0,0,24)
else
(Nq h f b k).bind fun m=>
if(Bt a 48)then
(Dx g).bind fun o=>
some ((Ae (Ad (Ax (Ae a:UInt64) o) m):UInt32),(Ad b k),0)
else
(Zf (Ae m:UInt32) g).bind fun p=>
if(Bt p a)then
some (0,0,12)
else
some ((Ae m:UInt32),(Ad b k),0)
def Tq:=So
def Ae8(j2:Int→Int→Int→LB→Int→Int→Uu)(h:LB)(f n g:Int):Uu:=
if(Ja n f)then
some (0,0,24)
else
(Alh h f n).bind fun(a,b)=>
if(geq a 48)then
j2 g a b h f 32
else
j2 g a b h f g
def Abs:=Ae8 Tq
def Abb(g:LB)(b a f n:Int)(v w:UInt64):Option (UInt32×Int×Int):=
if(Ja a b)then
some (0,0,24)
else
(If g b a).bind fun o=>
if(geq o 0)then
if(Bt (Ah (Ah b a) 1) f)then
some (0,0,24)
else
(Nq g b (Ad a 1) f).bind fun p=>
some ((Ae p:UInt32),(Ad (Ad a 1) f),0)
else
(Abs g b (Ad a 1) n).bind fun(h,u,k)=>
if(Bb k 0)then
some (0,0,k)
else
(Dx f).bind fun m=>
if(El (Ad (Ae h:UInt64) m) 4294967295)then
some (0,0,12)
else
some ((Ae (Ad (Ae h:UInt64) m):UInt32),u,0)
abbrev Ay:=Option (LU×Int)
def Ao1(b:LU):Ay:=
some (b,0)
def Ao7:=Ao1
def Pb(j18:LU→Ay)(bk16:Int→Ay)(a:LB)(b:LU)(m:Int):Ay:=
if(Bt m (Ax 8 (Ac a)))then
(If a (Ax 8 (Ac a)) m).bind fun n=>
if(Bb n 0)then
some (b,12)
else
bk16 (Ad m 1)
else
j18 b
def Hc(a:LB)(b:LU):Nat→Int→Ay
|0,_=>none
|q+1,m=>Pb Ao7 (Hc a b q) a b m
def Aa3 a b:=Hc a b Am
def Aag(j16:LB→LU→Int→Ay)(f:Int)(a:LB)(b:LU):Ay:=
if(El (Ah (Ax 8 (Ac a)) f) 7)then
some (b,12)
else
j16 a b f
def Pa:=Aag Aa3
def Aa6(bk10:Int→Int→LU→Ay)(g h:Int)(a:LB)(f k:Int)(b:LU)(o p:Int)(u v:UInt64):Ay:=
(Adb a (Ax 8 (Ac a)) f (Db (Ad f 81) (Ax 8 (Ac a)))).bind fun(y,aa)=>
(Abb y aa 0 o p u v).bind fun(ab,ac,w)=>
if(Bb w 0)then
some (b,w)
else
(Ew b ([ab]:LU)).bind fun ad=>
bk10 (Ad f ac) (Ad k 1) ad
def Gu bk10:=Aa6 bk10
def Aa0(j13:Int→Int→LU→Int→Int→UInt64→UInt64→Ay)(j15:Int→LB→LU→Ay)(g h:Int)(a:LB)(f k:Int)(b:LU):Ay:=
if(Bt k (Ax h g))then
(Ji).bind fun(n,ae,af,ag)=>
if(Ja k g)then
(Lo g b).bind fun(ah,ai,aj,ak)=>
j13 f k b ah ai aj ak
else
j13 f k b n ae af ag
else
j15 f a b
def Dl(g h:Int)(a:LB):Nat→Int→Int→LU→Ay
|0,_,_,_=>none
|q+1,f,k,b=>Aa0 (Gu (Dl g h a q) g h a) Pa g h a f k b
def Aou g h a:=Dl g h a Am
def Acw(j10:Int→Int→LB→Int→Int→LU→Ay)(g h:Int)(a:LB):Ay:=
j10 g h a 0 0 ([]:LU)
def Yq:=Acw Aou
def Avd(a:Int):Option (Int×Int):=
if(geq a 8)then
some (4,0)
else
if((geq a 16)||(geq a 24))then
some (5,0)
else
some (0,2)
def Ayd(a:Int)(b:LX):Option (Int×LX×LX×Int):=
(Avd a).bind fun(g,f)=>
if(Bb f 0)then
some (0,(List.replicate 16 (0:Int32)),(List.replicate 16 (0:Int32)),2)
else
if(geq a 16)then
some (9,b,(List.replicate 16 (0:Int32)),0)
else
some (10,b,(List.replicate 16 (0:Int32)),0)
def Ak4(a:Int)(b:LX):Option (Int×Int32×Int×LX×LX×Int):=
(Ayd a b).bind fun(f,g,h,k)=>
if(Bb k 0)then
some (0,0,0,(List.replicate 16 (0:Int32)),(List.replicate 16 (0:Int32)),2)
else
some (a,0,f,g,h,0)
def Xr(a:UInt32):Option Int32:=
if(geq (Wx a 2) 0)then
some (Ae (Bq a 2):Int32)
else
some (Ae (Bq (Awk (Ad (Ae a:Int) 1)) 2):Int32)
def Bu(a:Int):Option Int32:=
some (Ae (Ae (Ae a:UInt64):UInt32):Int32)
def Aev(a:Int):Option Int32:=
some (Ae a:Int32)
def Ae7:=Aev
def Tj(j6:Int→Option Int32)(bk4:Int→Int→Option Int32)(h:Int)(f g:LX)(a b:Int):Option Int32:=
if(Bt b 16)then
(getI f b).bind fun _=>
(getI g b).bind fun _=>
(getI f b).bind fun k=>
(getI g b).bind fun m=>
(Bu (Ax (Ae k:Int) (Ae m:Int))).bind fun n=>
(Bu (Ad a (Ae n:Int))).bind fun o=>
bk4 (Ae o:Int) (Ad b 1)
else
j6 a
def Ii(h:Int)(f g:LX):Nat→Int→Int→Option Int32
|0,_,_=>none
|q+1,a,b=>Tj Ae7 (Ii h f g q) h f g a b
def As5 h f g:=Ii h f g Am
def As8(j4:Int→LX→LX→Int→Int→Option Int32)(h:Int)(f g:LX):Option Int32:=
j4 h f g 0 0
def Alg:=As8 As5
def Ac9(b:Int)(f g:LX)(a:Int):Option Int32:=
(Alg b f g).bind fun k=>
(Bu (Ad (Ae k:Int) (Bq a 2))).bind fun h=>
(Gj (Bb a 0)).bind fun _=>
(Gj (Bb a 0)).bind fun _=>
if(Bt (Fa (Ae h:Int) a) 0)then
some (Ae (Ah (Bq (Ae h:Int) a) 1):Int32)
else
some (Ae (Bq (Ae h:Int) a):Int32)
def Re:=Ac9
def Adt(j2:Int→LX→LX→Int→Option Int32)(b:Int)(f g:LX):Option Int32:=
if(geq b 9)then
j2 b f g 512
else
j2 b f g 1024
def Zl:=Adt Re
def Wz(a:Int):Option Int32:=
if(geq a 0)then
some 4
else
if(gle a 3)then
some 2
else
some 1
def Px(a:Int32):Option Int32:=
if(Bt a 0)then
some (-1:Int32)
else
if(El a 0)then
some 1
else
some 0
abbrev Cw:=Option (Int×LX×LX)
def Akl(g:Int)(b a:LX):Cw:=
some (g,b,a)
def Ak2:=Akl
def Mg(j6:Int→LX→LX→Cw)(bk4:Int→LX→Cw)(h:Int32)(g:Int)(a:LX)(f:Int)(b:LX):Cw:=
if(Bt f 16)then
(getI b f).bind fun _=>
(getI a f).bind fun _=>
(getI b f).bind fun k=>
(getI a f).bind fun m=>
(Wz f).bind fun n=>
(Px m).bind fun o=>
(Px h).bind fun p=>
(getI b f).bind fun _=>
(Ic b f (Ad k (Ax (Ax n o) p))).bind fun u=>
bk4 (Ad f 1) u
else
j6 g b a
def Fi(h:Int32)(g:Int)(a:LX):Nat→Int→LX→Cw
|0,_,_=>none
|q+1,f,b=>Mg Ak2 (Fi h g a q) h g a f b
def Ak6 h g a:=Fi h g a Am
def Alb(j4:Int32→Int→LX→Int→LX→Cw)(g:Int)(v a:LX)(h:Int32):Cw:=
j4 h g a 0 v
def Acs:=Alb Ak6
abbrev Dj:=Option (Int×LX×LX)
def Zz(b:Int32)(f:Int)(g a:LX):Dj:=
(getI a 0).bind fun _=>
(Ic a 0 b).bind fun k=>
some (f,g,k)
def Zi:=Zz
def Mu(j6:Int32→Int→LX→LX→Dj)(bk4:Int→LX→Dj)(b:Int32)(f:Int)(g:LX)(h:Int)(a:LX):Dj:=
if(El h 0)then
(getI a (Ah h 1)).bind fun _=>
(getI a (Ah h 1)).bind fun m=>
(getI a h).bind fun _=>
(Ic a h m).bind fun n=>
bk4 (Ah h 1) n
else
j6 b f g a
def Gc(b:Int32)(f:Int)(g:LX):Nat→Int→LX→Dj
|0,_,_=>none
|q+1,h,a=>Mu Zi (Gc b f g q) b f g h a
def Amw b f g:=Gc b f g Am
def Ams(j4:Int32→Int→LX→Int→LX→Dj)(f:Int)(g o:LX)(b:Int32):Dj:=
j4 b f g 15 o
def Aey:=Ams Amw
def Rh(a:Int)(b f:LX)(g:Int32):Option (Int32×Int×LX×LX):=
(Zl a b f).bind fun k=>
(Bu (Ad (Ae g:Int) (Ae k:Int))).bind fun h=>
(Acs a b f g).bind fun(m,n,o)=>
(Aey m n o h).bind fun(p,u,v)=>
some (h,p,u,v)
def Ze(b:Int32)(a:Int):Option Int32:=
(Gj (Bb a 0)).bind fun _=>
(Gj (Bb a 0)).bind fun _=>
if(Bt (Fa (Ax (Ah a 1) (Ae b:Int)) a) 0)then
some (Ae (Ah (Bq (Ax (Ah a 1) (Ae b:Int)) a) 1):Int32)
else
some (Ae (Bq (Ax (Ah a 1) (Ae b:Int)) a):Int32)
def Ng:=Ze
def Zv(j2:Int32→Int→Option Int32)(f:Int)(b:Int32):Option Int32:=
if(geq f 5)then
j2 b 32
else
j2 b 16
def Lr:=Zv Ng
def Te(b:Int)(a:Int32)(h:Int)(k m:LX):Option Int:=
if(geq b 8)then
(Lr 4 a).bind fun f=>
some (Ae f:Int)
else
(Lr 5 a).bind fun g=>
some (Ae g:Int)
def Qt(a:Int)(k:Int32)(b:Int)(f g:LX)(m:Int32):Option (Int32×Int×Int32×Int×LX×LX):=
(Rh b f g m).bind fun(n,o,p,u)=>
(Te a k b f g).bind fun v=>
(Bu (Ad (Ae n:Int) v)).bind fun h=>
some (h,a,h,o,p,u)
def My(a:Int)(b:LX):Option Int:=
if((Bt a 1)||(El a 6))then
some 2
else
if(El (Ac b) 4000)then
some 4
else
(Gj (Bb a 0)).bind fun _=>
if(El (Fa (Ac b) a) 0)then
some 2
else
some 0
def Akw(b:LX):Option (LX):=
some b
def Akr:=Akw
def Ma(j8:LX→Option (LX))(bk6:Int→LX→Option (LX))(a:LX)(f:Int)(b:LX):Option (LX):=
if(Ja f 0)then
(getI b (Ad f 1)).bind fun _=>
(getI a f).bind fun m=>
(getI b (Ad f 1)).bind fun n=>
(Bu (Ah (Ae n:Int) (Ae m:Int))).bind fun o=>
(getI b f).bind fun _=>
(Ic b f o).bind fun p=>
bk6 (Ah f 1) p
else
j8 b
def Fh(a:LX):Nat→Int→LX→Option (LX)
|0,_,_=>none
|q+1,f,b=>Ma Akr (Fh a q) a f b
def Aki a:=Fh a Am
def Wu(j6:LX→Int→LX→Option (LX))(a g:LX):Option (LX):=
j6 a (Ah (Ac a) 2) g
def Me:=Wu Aki
def Wm(j5:LX→LX→Option (LX))(a:LX):Option (LX):=
(mkI (Ac a) (0:Int32)).bind fun k=>
(Gj (geq (Ac a) (Ac a))).bind fun _=>
(getI a (Ah (Ac a) 1)).bind fun u=>
(getI k (Ah (Ac a) 1)).bind fun _=>
(Ic k (Ah (Ac a) 1) u).bind fun h=>
if(El (Ac a) 1)then
(getI a (Ah (Ac a) 1)).bind fun v=>
(getI a (Ah (Ac a) 2)).bind fun w=>
(Bu (Ad (Ae v:Int) (Bq (Ae w:Int) 2))).bind fun y=>
(getI h (Ah (Ac a) 1)).bind fun _=>
(Ic h (Ah (Ac a) 1) y).bind fun aa=>
j5 a aa
else
j5 a h
def Rc:=Wm Me
abbrev En:=Option (LX×Int)
def Arf(f:LX):En:=
some (f,0)
def Apr:=Arf
def Ach(j6:LX→En)(bk4:Int→LX→En)(a:Int)(b:LX)(g:Int)(f:LX):En:=
if(Bt g (Ac b))then
(Bo b g (Ad g a)).bind fun h=>
(Rc h).bind fun k=>
(Ew f k).bind fun m=>
bk4 (Ad g a) m
else
j6 f
def Kx(a:Int)(b:LX):Nat→Int→LX→En
|0,_,_=>none
|q+1,g,f=>Ach Apr (Kx a b q) a b g f
def Aq2 a b:=Kx a b Am
def Adn(j4:Int→LX→Int→LX→En)(a:Int)(b:LX):En:=
(My a b).bind fun n=>
if(Bb n 0)then
(My a b).bind fun o=>
some (([]:LX),o)
else
j4 a b 0 ([]:LX)
def Yg:=Adn Aq2
def Wf(a f:Int)(w:LX):Option (LX):=
(Yg a w).bind fun(aj,ai)=>
some aj
def Mk:=Wf
def Vx(bk18:Int→LX→Option (LX))(b:LU)(a f:Int)(g:LX)(h:Int)(m:LX):Option (LX):=
bk18 (Ad h 1) m
def Wo bk18:=Vx bk18
def Wa(bk26:Int→LX→Int→Int32→Int→LX→LX→Option (LX))(b:LU)(h a f:Int)(g:LX)(k:Int)(af:LX)(y:Int)(aa:Int32)(ab:Int)(ac ad:LX):Option (LX):=
bk26 (Ad k a) af y aa ab ac ad
def Wi bk26:=Wa bk26
def Vs(j30:Int→LX→Int→Int32→Int→LX→LX→Option (LX))(b:LU)(h a f:Int)(g:LX)(k:Int)(ae:Int32)(m:LX)(n:Int)(o:Int32)(p:Int)(u v:LX)(y:Int)(aa:Int32)(ab:Int)(ac ad:LX):Option (LX):=
(getI m k).bind fun _=>
(Ic m k ae).bind fun af=>
j30 k af y aa ab ac ad
def Wh bk26 b h a f g:=Vs (Wi bk26 b h a f g) b h a f g
def Wb(j29:Int→Int32→LX→Int→Int32→Int→LX→LX→Int→Int32→Int→LX→LX→Option (LX))(j32:Int→LX→Option (LX))(b:LU)(a f:Int)(g:LX)(h k:Int)(m:LX)(n:Int)(o:Int32)(p:Int)(u v:LX):Option (LX):=
if(Bt k (Ac b))then
(getI b k).bind fun ah=>
(
(Xr ah).bind fun ag=>
(
(Qt n o p u v ag).bind fun(ae,y,aa,ab,ac,ad)=>
j29 k ae m n o p u v y aa ab ac ad))
else
j32 h m
def Hu(bk18:Int→LX→Option (LX))(b:LU)(a f:Int)(g:LX)(h:Int):Nat→Int→LX→Int→Int32→Int→LX→LX→Option (LX)
|0,_,_,_,_,_,_,_=>none
|q+1,k,m,n,o,p,u,v=>Wb (Wh (Hu bk18 b a f g h q) b h a f g) (Wo bk18 b a f g) b a f g h k m n o p u v
def Wp bk18 b a f g h:=Hu bk18 b a f g h Am
def Ly(j26:Int→Int→LX→Int→Int32→Int→LX→LX→Option (LX))(j34:Int→Int→LX→Option (LX))(b:LU)(a f:Int)(g:LX)(h:Int)(w:LX):Option (LX):=
if(Bt h a)then
(Ak4 f g).bind fun(ak,ai,al,am,an,aq)=>
j26 h h w ak ai al am an
else
j34 a f w
def Du(b:LU)(a f:Int)(g:LX):Nat→Int→LX→Option (LX)
|0,_,_=>none
|q+1,h,w=>Ly (Wp (Du b a f g q) b a f g) Mk b a f g h w
def Wk b a f g:=Du b a f g Am
def Yd(j18:LU→Int→Int→LX→Int→LX→Option (LX))(a f:Int)(g:LX)(b:LU):Option (LX):=
(mkI (Ac b) (0:Int32)).bind fun ao=>
(Gj (geq (Ac b) (Ac b))).bind fun _=>
j18 b a f g 0 ao
def Lp:=Yd Wk
def Apb:Option Int:=
some 0
def Aph:=Apb
def Cl(j6:Option Int)(bk4:Int→Option Int)(a:LX)(b f:Int):Option Int:=
if(Bt f (Ac a))then
(getI a f).bind fun g=>
if(Bt (Ae g:Int) (Awk b))then
some 16
else
(getI a f).bind fun h=>
if(Ja (Ae h:Int) b)then
some 16
else
bk4 (Ad f 1)
else
j6
def Ba(a:LX)(b:Int):Nat→Int→Option Int
|0,_=>none
|q+1,f=>Cl Aph (Ba a b q) a b f
def Ao5 a b:=Ba a b Am
def Gy(j4:LX→Int→Int→Option Int)(k:Int)(a:LX):Option Int:=
(Qa k).bind fun b=>
if(geq b 0)then
some 2
else
if(El (Ac a) 4000)then
some 4
else
j4 a b 0
def cadenzaref18_Check:=Gy Ao5
def Sn(g f:Int)(a:LX):Option (LX×Int):=
(cadenzaref18_Check f a).bind fun b=>
if(Bb b 0)then
some (([]:LX),b)
else
some (a,0)
abbrev Oi:=Option (LX×Int)
def Nr(f a b:Int)(g:LX)(h:LU):Oi:=
if(Bb f 0)then
some (([]:LX),f)
else
(
(
(Lp a b g h).bind fun m=>
(Sn a b m).bind fun(n,o)=>
some (n,o)))
def Mt:=Nr
def Yr(j2:Int→Int→Int→LX→LU→Oi)(a b:Int)(g:LX)(p:Int)(k:LB):Oi:=
(Uv a b p).bind fun y=>
if(Bb y 0)then
some (([]:LX),2)
else
(Lq k).bind fun aa=>
if(Bb aa 0)then
(Lq k).bind fun ab=>
some (([]:LX),ab)
else
(Bo k 0 (Ah (Ac k) 4)).bind fun ac=>
(Yq a p ac).bind fun(h,f)=>
j2 f a b g h
def cadenzaref21_Decode:=Yr Mt
def Sm(a b:Int):Option (LB):=
if(geq a 24)then
(Ew ([(Ae (Fa b 256):UInt8),(Ae (Fa (Bq b 256) 256):UInt8)]:LB) ([(Ae (Bq b 65536):UInt8)]:LB)).bind fun g=>
some g
else
some ([(Ae (Fa b 256):UInt8),(Ae (Fa (Bq b 256) 256):UInt8)]:LB)
def Il:=Sm
def Afa(j2:Int→Int→Option (LB))(a:Int)(f:Int32):Option (LB):=
if(geq a 8)then
some ([(Ae (Ad (Ae f:Int) 128):UInt8)]:LB)
else
if(Bt (Ae f:Int) 0)then
(Qa a).bind fun h=>
j2 a (Ad (Ae f:Int) (Ax 2 h))
else
j2 a (Ae f:Int)
def Abk:=Afa Il
abbrev Ea:=Option (LB×Int)
def Ao2(b:LB):Ea:=
some (b,0)
def Apj:=Ao2
def Om(j6:LB→Ea)(bk4:Int→LB→Ea)(f:Int)(a:LX)(g:Int)(b:LB):Ea:=
if(Bt g (Ac a))then
(getI a g).bind fun h=>
(Abk f h).bind fun k=>
(Ew b k).bind fun m=>
bk4 (Ad g 1) m
else
j6 b
def Gp(f:Int)(a:LX):Nat→Int→LB→Ea
|0,_,_=>none
|q+1,g,b=>Om Apj (Gp f a q) f a g b
def Ao8 f a:=Gp f a Am
def Aa8(j4:Int→LX→Int→LB→Ea)(f:Int)(a:LX):Ea:=
(cadenzaref18_Check f a).bind fun n=>
if(Bb n 0)then
(cadenzaref18_Check f a).bind fun o=>
some (([]:LB),o)
else
j4 f a 0 ([]:LB)
def Vp:=Aa8 Ao8
abbrev Eo:=Option (Int×Int)
def Ri(a:LB)(f g:Int)(b h:LB)(k:Int):Eo:=
if(Bt (Ac a) k)then
some (0,24)
else
if(b==h)then
(Bo a (Ah (Ac a) k) (Ad (Ah (Ac a) k) 32)).bind fun o=>
(Po f g).bind fun p=>
if(o !=p)then
some (0,12)
else
some (k,0)
else
some (k,0)
def Ro:=Ri
def Qq(j6:LB→Int→Int→LB→LB→Int→Eo)(a:LB)(f g:Int)(b h:LB):Eo:=
if(b==h)then
j6 a f g b h (Ad (Ad 32 f) 32)
else
j6 a f g b h (Ad 32 f)
def Qd:=Qq Ro
def Adr(j5:LB→Int→Int→LB→LB→Eo)(a:LB):Eo:=
(Bo a (Ah (Ac a) 32) (Ac a)).bind fun b=>
(Pq b).bind fun(f,g,n)=>
if(!n)then
some (0,12)
else
(Hw f g true).bind fun h=>
(
if(!(b==h))then
(Hw f g false).bind fun m=>
if(b !=m)then
some (0,12)
else
j5 a f g b h
else
j5 a f g b h)
def Adv:=Adr Qd
def Acq(j4:LB→Eo)(a:LB):Eo:=
if(Bt (Ac a) 32)then
some (0,6)
else
(Bo a (Ah (Ac a) 32) (Ad (Ah (Ac a) 32) 8)).bind fun u=>
if(u !=([65,80,69,84,65,71,69,88]:LB))then
some (0,6)
else
j4 a
def Xo:=Acq Adv
abbrev Dm:=Option (Int×Int)
def Amc(a:Int):Dm:=
some (a,0)
def Am5:=Amc
def Yz(j6:Int→Dm)(bk4:LB→Int→Dm)(b:LB)(a:Int):Dm:=
if(El (Ac b) 0)then
(Xo b).bind fun(g,h)=>
if(Bb h 0)then
some (0,38)
else
(Bo b 0 (Ah (Ac b) g)).bind fun k=>
bk4 k (Ad a 1)
else
j6 a
def Iv:Nat→LB→Int→Dm
|0,_,_=>none
|q+1,b,a=>Yz Am5 (Iv q) b a
def Amz:=Iv Am
def Xj(j4:LB→Int→Dm)(f:LB):Dm:=
if(El (Ac f) 4000)then
some (0,38)
else
j4 f 0
def Tp:=Xj Amz
abbrev Gq:=Option (Int×Int×Int×Int×Int×Int×LI×Int)
def Yx(m n b h k f g:Int)(o:LI):Gq:=
if(Bb n 0)then
some (0,0,0,0,0,0,([]:LI),n)
else
some (b,h,k,f,g,(Ad (Ad m (Ax 4 (Ac o))) 4),o,0)
def Yt:=Yx
def Xz(j4:Int→Int→Int→Int→Int→Int→Int→LI→Gq)(a:LB)(b h k f g m:Int):Gq:=
(Bo a m (Ac a)).bind fun y=>
(Cg f g).bind fun aa=>
(Ps y (Ac aa)).bind fun(o,n)=>
j4 m n b h k f g o
def Ir:=Xz Yt
def Nn(j3:LB→Int→Int→Int→Int→Int→Int→Gq)(a u:LB):Gq:=
if(El (Ac a) 100000)then
some (0,0,0,0,0,0,([]:LI),4)
else
(Na a).bind fun(p,v)=>
if(Bb v 0)then
some (0,0,0,0,0,0,([]:LI),v)
else
(Bo a p (Ac a)).bind fun ab=>
(Ph ab).bind fun(b,h,k,f,g,w)=>
if(Bb w 0)then
some (0,0,0,0,0,0,([]:LI),w)
else
if((u==([]:LB)) !=(geq b 1))then
some (0,0,0,0,0,0,([]:LI),26)
else
if(geq b 2)then
if(Bt (Ah (Ac a) (Ad p 22)) 8)then
some (0,0,0,0,0,0,([]:LI),24)
else
(Bo a (Ad p 22) (Ad (Ad p 22) 8)).bind fun ac=>
(Kv u).bind fun ad=>
if(ac !=ad)then
some (0,0,0,0,0,0,([]:LI),26)
else
j3 a b h k f g (Ad (Ad p 22) 8)
else
j3 a b h k f g (Ad p 22)
def cadenzaref40_Opened:=Nn Ir
def Aov(a:Int):Option Int:=
some a
def Aoz:=Aov
def Oj(j6:Int→Option Int)(bk4:Int→Int→Option Int)(b h k m n o f:Int)(g:LI)(a p:Int):Option Int:=
if(Bt p b)then
(getI g p).bind fun u=>
bk4 (Ad a u) (Ad p 1)
else
j6 a
def Gt(b h k m n o f:Int)(g:LI):Nat→Int→Int→Option Int
|0,_,_=>none
|q+1,a,p=>Oj Aoz (Gt b h k m n o f g q) b h k m n o f g a p
def Aoy b h k m n o f g:=Gt b h k m n o f g Am
def Ao3(j4:Int→Int→Int→Int→Int→Int→Int→LI→Int→Int→Option Int)(h k m n o f:Int)(g:LI)(b:Int):Option Int:=
j4 b h k m n o f g f 0
def Ahi:=Ao3 Aoy
abbrev Vn:=Option (LB×Int)
def Ae3(p:LX)(m n g b h k o:Int)(a:LI):Vn:=
if(Bb m 0)then
some (([]:LB),m)
else
(Vp b p).bind fun(af,ai)=>
some (af,0)
def Ae0:=Ae3
def Afe(j2:LX→Int→Int→Int→Int→Int→Int→Int→LI→Vn)(v y:LB)(n g b h k o:Int)(a:LI)(f:Int):Vn:=
(Ahi n g b h k o a f).bind fun u=>
(getI a f).bind fun aa=>
if(Bt (Ah (Ac v) u) aa)then
some (([]:LB),24)
else
(La y).bind fun(ab,ag)=>
(getI a f).bind fun ac=>
(Bo v u (Ad u ac)).bind fun ad=>
(
(Cg h k).bind fun w=>
(getI w f).bind fun _=>
(getI w f).bind fun ae=>
(cadenzaref21_Decode g b ab ae ad).bind fun(p,m)=>
j2 p m n g b h k o a)
def cadenzaref40_Got:=Afe Ae0
def Af8(a:LB):Option (Int×Int×Int×Int×Int×Int×Int):=
if(El (Ac a) 100000)then
some (0,0,0,0,0,0,4)
else
(Na a).bind fun(b,f)=>
if(Bb f 0)then
some (0,0,0,0,0,0,f)
else
(Bo a b (Ac a)).bind fun g=>
(Ph g).bind fun(h,k,m,n,o,p)=>
some (b,h,k,m,n,o,p)
def Ae5(f:LB)(a g m n o p:Int)(b:LB):Option (Int×Int):=
if((b==([]:LB)) !=(geq g 1))then
some (0,26)
else
if(b==([]:LB))then
some (a,0)
else
if(Bt (Ac f) (Ad a 8))then
some (0,24)
else
(Bo f a (Ad a 8)).bind fun h=>
(Kv b).bind fun k=>
if(h !=k)then
some (0,26)
else
some ((Ad a 8),0)
def Uw(a:LB)(b o p u f g:Int):Option (LI×Int):=
(Bo a b (Ac a)).bind fun h=>
(Cg f g).bind fun k=>
(Ps h (Ac k)).bind fun(m,n)=>
some (m,n)
abbrev Cp:=Option (Int×Int×Int×LX×Int)
def Aaz(a:LB)(n b f g:Int)(v:LX):Cp:=
(Bo a n (Ac a)).bind fun af=>
(Tp af).bind fun(ao,ag)=>
if(Bb ag 0)then
some (0,0,0,([]:LX),38)
else
some (b,f,g,v,0)
def Aaf:=Aaz
def Aaj(bk7:Int→Int→LX→Cp)(a:LB)(o b f g k:Int)(h p:LI)(u:LX)(n m:Int)(y:LX)(w:Int)(v:LX):Cp:=
if(Bb w 0)then
some (0,0,0,([]:LX),w)
else
(Ew v y).bind fun ah=>
(getI h m).bind fun _=>
(getI h m).bind fun ai=>
bk7 (Ad n ai) (Ad m 1) ah
def Aa7 bk7:=Aaj bk7
def Rl(j10:Int→Int→LX→Int→LX→Cp)(j12:LB→Int→Int→Int→Int→LX→Cp)(a:LB)(o b f g k:Int)(h p:LI)(u:LX)(n m:Int)(v:LX):Cp:=
if(Bt m (Ac h))then
(getI h m).bind fun _=>
(getI h m).bind fun aj=>
if(Bt (Ah (Ac a) n) aj)then
some (0,0,0,([]:LX),24)
else
(getI p m).bind fun _=>
(getI h m).bind fun _=>
(getI p m).bind fun ak=>
(getI h m).bind fun al=>
(Bo a n (Ad n al)).bind fun am=>
(cadenzaref21_Decode b f u ak am).bind fun(y,w)=>
j10 n m y w v
else
j12 a n b f g v
def Hq(a:LB)(o b f g k:Int)(h p:LI)(u:LX):Nat→Int→Int→LX→Cp
|0,_,_,_=>none
|q+1,n,m,v=>Rl (Aa7 (Hq a o b f g k h p u q) a o b f g k h p u) Aaf a o b f g k h p u n m v
def Ac1 a o b f g k h p u:=Hq a o b f g k h p u Am
def Adi(j7:LB→Int→Int→Int→Int→Int→LI→LI→LX→Int→Int→LX→Cp)(a aa:LB):Cp:=
if(El (Ac aa) 64)then
some (0,0,0,([]:LX),2)
else
(Af8 a).bind fun(an,o,b,f,g,k,ab)=>
if(Bb ab 0)then
some (0,0,0,([]:LX),ab)
else
(Ae5 a (Ad an 22) o b f g k aa).bind fun(ac,ad)=>
if(Bb ad 0)then
some (0,0,0,([]:LX),ad)
else
(Uw a ac o b f g k).bind fun(h,ae)=>
if(Bb ae 0)then
some (0,0,0,([]:LX),ae)
else
(Cg g k).bind fun p=>
(La aa).bind fun(u,ap)=>
j7 a o b f g k h p u (Ad ac (Ad (Ax 4 (Ac h)) 4)) 0 ([]:LX)
def Fs:=Adi Ac1
end Go.Pl
