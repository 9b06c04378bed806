/- A part of the proof of a statement of this seat (see the text that ends in Proof): DpPure. No conditions of its own. -/
import Derived.Test.YtkkcakakemjdeaaGreatDoorDpBA
set_option linter.unusedVariables false
namespace Go.Pl
open Go Go.Lv
abbrev LB:=List UInt8
abbrev LI:=List Int
abbrev LX:=List Int32
abbrev LU:=List UInt32
abbrev LQ:=List UInt64
def Au0(a b f:Int)(g:LX):Option (Int×Int):=
some (a,b)
abbrev Akk:=Option (Int32×Int32×Int)
def Bfl(a:Int)(b:Bool):Akk:=
if b then
(Hp (Km (Ah a 1) 0)).bind fun _=>
some ((Axk (Ct (1:Int32) (GI.toZ (Ah a 1)).toNat)),(Ah (Ct (1:Int32) (GI.toZ (Ah a 1)).toNat) 1),0)
else
some (0,0,2)
def Aq6:=Bfl
def Asg(j2:Int→Bool→Akk)(a:Int):Akk:=
if(geq a 8)then
j2 a (geq a 8)
else
if(geq a 16)then
j2 a (geq a 16)
else
j2 a (geq a 24)
def Ac1:=Asg Aq6
def Om(a b:Int):Option Int:=
(Ac1 b).bind fun(g,h,f)=>
if(((Au f 0)||(Bl a 1))||(Cp a 6))then
some 2
else
some 0
def Xl(a:Int):Option (Int×Int):=
if((Bl a 1)||(Cp a 1048576))then
some (0,2)
else
some ((Ato 1 (By (Ax 256 a) 245)),0)
def Ox(g b:Int):Option (Int×Int):=
(Xl g).bind fun(a,f)=>
if(Au f 0)then
some (0,f)
else
if((Bl b 1)||(Cp b 4000))then
some (0,2)
else
(Hp (Au a 0)).bind fun _=>
if(Cp (By (Ah (Ad b a) 1) a) 1000)then
some (0,4)
else
some ((By (Ah (Ad b a) 1) a),0)
def Bgr(a g f:Int)(h:LX)(b:Int):Option Int:=
(Au0 a g f h).bind fun(k,m)=>
(Om k m).bind fun n=>
if((Au n 0)||(Bl b 1))then
some 8
else
(Hp (Au a 0)).bind fun _=>
if(Cp b (By 4000 a))then
some 8
else
(Ox f b).bind fun(p,o)=>
if(Au o 0)then
some 8
else
some 0
def Bfe:Option Int:=
some 0
def Ap5:=Bfe
def Ye(j6:Option Int)(bk4:Int→Option Int)(b f:Int32)(a:LX)(g:Int):Option Int:=
if(Bl g (Ac a))then
(getI a g).bind fun h=>
if((Bl h b)||(Cp h f))then
some 16
else
bk4 (Ad g 1)
else
j6
def Mp(b f:Int32)(a:LX):Nat→Int→Option Int
|0,_=>none
|q+1,g=>Ye Ap5 (Mp b f a q) b f a g
def Aq0 b f a:=Mp b f a Am
def Ags(j4:Int32→Int32→LX→Int→Option Int)(m:Int)(a:LX):Option Int:=
(Ac1 m).bind fun(b,f,k)=>
if(Au k 0)then
some k
else
if(Cp (Ac a) 4000)then
some 4
else
j4 b f a 0
def Qo:=Ags Aq0
def Ab9(a f h:Int)(b:LX):Option Int:=
if(Bl a 1)then
some 8
else
(Hp (Au a 0)).bind fun _=>
if(Au (Fh (Ac b) a) 0)then
some 8
else
(Hp (Au a 0)).bind fun _=>
(Bgr a f h b (By (Ac b) a)).bind fun g=>
if(Au g 0)then
some g
else
(Qo f b).bind fun k=>
if(Au k 0)then
some 8
else
some 0
abbrev Akz:=Option (Int×Int×Int×Int×Int×Int)
def Be1(h:LB)(a b f:Int)(g:LX):Akz:=
if(h !=([]:LB))then
some (2,a,b,f,(By (Ac g) a),0)
else
some (1,a,b,f,(By (Ac g) a),0)
def Ap4:=Be1
def Aij(j2:LB→Int→Int→Int→LX→Akz)(a b f:Int)(g:LX)(h:LB):Akz:=
(Ab9 a b f g).bind fun k=>
if(Au k 0)then
some (0,0,0,0,0,k)
else
if(Cp (Ac h) 64)then
some (0,0,0,0,0,2)
else
(Hp (Au a 0)).bind fun _=>
(
j2 h a b f g)
def Azn:=Aij Ap4
abbrev Bf:=Option (UInt64×Int)
def Aqd(h:UInt64):Bf:=
some (h,0)
def Ah8:=Aqd
def Ah3(j30:UInt64→Bf)(h b:UInt64)(a:LB)(f:LQ):Bf:=
j30 h
def Aix:=Ah3 Ah8
def Aai(j29:UInt64→UInt64→LB→LQ→Bf)(bk27:UInt64→Int→Bf)(a:LB)(b:UInt64)(f:LQ)(h:UInt64)(m:Int):Bf:=
if(Bl m (Ac a))then
(getI a m).bind fun p=>
Option.bind (getI f (GI.toZ (Sr (Ae (Bj h (GI.toZ (56:UInt64)).toNat):UInt8) p))) fun _=>
Option.bind (getI f (GI.toZ (Sr (Ae (Bj h (GI.toZ (56:UInt64)).toNat):UInt8) p))) fun u=>
bk27 (Sr (Ct h (GI.toZ (8:UInt64)).toNat) u) (Ad m 1)
else
j29 h b a f
def Mo(a:LB)(b:UInt64)(f:LQ):Nat→UInt64→Int→Bf
|0,_,_=>none
|q+1,h,m=>Aai Aix (Mo a b f q) a b f h m
def Ah6 a b f:=Mo a b f Am
def Ahm(j27:LB→UInt64→LQ→UInt64→Int→Bf)(b:UInt64)(a:LB)(f:LQ):Bf:=
j27 a b f b 0
def Yk:=Ahm Ah6
def Ar9(bk16:Int→LQ→Bf)(b:UInt64)(a:LB)(g:Int)(o:LQ):Bf:=
bk16 (Ad g 1) o
def Agw bk16:=Ar9 bk16
def Aih(j24:Int→LQ→Bf)(b:UInt64)(a:LB)(g:Int)(k:UInt64)(f:LQ):Bf:=
(getI f g).bind fun _=>
(If f g k).bind fun o=>
j24 g o
def Yh bk16 b a:=Aih (Agw bk16 b a) b a
def Ya(j23:Int→UInt64→LQ→Bf)(bk21:UInt64→Int→Bf)(b:UInt64)(a:LB)(g:Int)(f:LQ)(k:UInt64)(n:Int):Bf:=
if(Bl n 8)then
bk21 (Sr (Ct k (GI.toZ (1:UInt64)).toNat) (Ax 4823603603198064275 (Bj k (GI.toZ (63:UInt64)).toNat))) (Ad n 1)
else
j23 g k f
def Mz(bk16:Int→LQ→Bf)(b:UInt64)(a:LB)(g:Int)(f:LQ):Nat→UInt64→Int→Bf
|0,_,_=>none
|q+1,k,n=>Ya (Yh bk16 b a) (Mz bk16 b a g f q) b a g f k n
def Ag8 bk16 b a g f:=Mz bk16 b a g f Am
def Yi(j21:Int→LQ→UInt64→Int→Bf)(j26:UInt64→LB→LQ→Bf)(b:UInt64)(a:LB)(g:Int)(f:LQ):Bf:=
if(Bl g 256)then
j21 g f (Ct (Ae g:UInt64) (GI.toZ (56:UInt64)).toNat) 0
else
j26 b a f
def Jo(b:UInt64)(a:LB):Nat→Int→LQ→Bf
|0,_,_=>none
|q+1,g,f=>Yi (Ag8 (Jo b a q) b a) Yk b a g f
def Aid b a:=Jo b a Am
def Akg(j16:UInt64→LB→Int→LQ→Bf)(b:UInt64)(a:LB):Bf:=
if(Cp (Ac a) 100000)then
some (0,4)
else
j16 b a 0 (List.replicate 256 (0:UInt64))
def Amu:=Akg Aid
def Al4(a:LB):Option (UInt64×Int):=
(Amu 0 a).bind fun(b,f)=>
some (b,f)
def Bnh(a:LX):Option (LX):=
some a
def Bcs:=Bnh
def Aoc(j6:LX→Option (LX))(bk4:Int→LX→Option (LX))(f:UInt64)(b:Int)(a:LX):Option (LX):=
if(Bl b 8)then
(Hp (Km (Ax 8 b) 0)).bind fun _=>
(getI a b).bind fun _=>
(If a b (Ae (Ae (Bj f (GI.toZ (Ax 8 b)).toNat):Int8):Int32)).bind fun g=>
bk4 (Ad b 1) g
else
j6 a
def Abu(f:UInt64):Nat→Int→LX→Option (LX)
|0,_,_=>none
|q+1,b,a=>Aoc Bcs (Abu f q) f b a
def Bcd f:=Abu f Am
def Bcz(j4:UInt64→Int→LX→Option (LX))(f:UInt64):Option (LX):=
j4 f 0 (List.replicate 16 (0:Int32))
def Bih:=Bcz Bcd
def Wn(a:LB):Option (LX×Int):=
if(Cp (Ac a) 64)then
some (([(0:Int32),(0:Int32),(0:Int32),(0:Int32),(0:Int32),(0:Int32),(0:Int32),(0:Int32),(0:Int32),(0:Int32),(0:Int32),(0:Int32),(0:Int32),(0:Int32),(0:Int32),(0:Int32)]:LX),2)
else
(Al4 a).bind fun(f,b)=>
if(Au b 0)then
some (([(0:Int32),(0:Int32),(0:Int32),(0:Int32),(0:Int32),(0:Int32),(0:Int32),(0:Int32),(0:Int32),(0:Int32),(0:Int32),(0:Int32),(0:Int32),(0:Int32),(0:Int32),(0:Int32)]:LX),b)
else
(Bih f).bind fun g=>
some (g,0)
def Aem(a b:UInt64):Option (UInt64×UInt64):=
some ((Ad (Ad (Ax (Bj a (GI.toZ (32:UInt64)).toNat) (Bj b (GI.toZ (32:UInt64)).toNat)) (Bj (Ad (Ax (Bj a (GI.toZ (32:UInt64)).toNat) (Cy b 4294967295)) (Bj (Ax (Cy a 4294967295) (Cy b 4294967295)) (GI.toZ (32:UInt64)).toNat)) (GI.toZ (32:UInt64)).toNat)) (Bj (Ad (Cy (Ad (Ax (Bj a (GI.toZ (32:UInt64)).toNat) (Cy b 4294967295)) (Bj (Ax (Cy a 4294967295) (Cy b 4294967295)) (GI.toZ (32:UInt64)).toNat)) 4294967295) (Ax (Cy a 4294967295) (Bj b (GI.toZ (32:UInt64)).toNat))) (GI.toZ (32:UInt64)).toNat)),(Ax a b))
def Acr(a b:UInt64):Option (UInt64×UInt64):=
(Aem a b).bind fun(f,g)=>
some (f,g)
def Kv(a:LI):Option (LI):=
some a
def Gq:=Kv
def Ez(j10:LI→Option (LI))(bk8:Int→LI→Option (LI))(b:Int)(a:LI):Option (LI):=
if(Bl b (Ac a))then
(
(vwI (Ac a) b (Ac a)).bind fun _=>
(vwI (Ac a) 0 b).bind fun _=>
bk8 (Ad b (Agm ((Ac a)-b) (Akm a 0 (b-(0:Int))).length)) (Pn a b ((Ac a)-b) (Akm a 0 (b-(0:Int)))))
else
j10 a
def Df:Nat→Int→LI→Option (LI)
|0,_,_=>none
|q+1,b,a=>Ez Gq (Df q) b a
def Lu:=Df Am
def Lm(j8:Int→LI→Option (LI))(f:LI)(g:UInt64):Option (LI):=
(mkI (Ae g:Int) (0:Int)).bind fun k=>
(Hp (geq (Ae g:Int) (Ae g:Int))).bind fun _=>
j8 (Agm (Ac k) f.length) (Bex k f)
def Ln:=Lm Lu
def Lk(j7:LI→UInt64→Option (LI))(f:LI)(h:Int):Option (LI):=
(Acr (Ae (Ac f):UInt64) (Ae h:UInt64)).bind fun(m,g)=>
if((Cp m 0)||(Cp g 9223372036854775807))then
none
else
j7 f g
def Lr:=Lk Ln
def Ll(j6:LI→Int→Option (LI))(f:LI)(h:Int):Option (LI):=
if(Bl h 0)then
none
else
j6 f h
def Kc:=Ll Lr
def Aja(f:LI):Option (LI):=
some f
def Te:=Aja
def Eo(j16:LI→Option (LI))(bk14:Int→LI→Option (LI))(a:List LI)(g:Int)(f:LI):Option (LI):=
if(Bl g (Ac a))then
(getI a g).bind fun o=>
(Ev f o).bind fun p=>
bk14 (Ad g 1) p
else
j16 f
def Cu(a:List LI):Nat→Int→LI→Option (LI)
|0,_,_=>none
|q+1,g,f=>Eo Te (Cu a q) a g f
def Kn a:=Cu a Am
def Kr(j14:(List LI)→Int→LI→Option (LI))(a:List LI)(k:LI):Option (LI):=
j14 a 0 k
def Gn:=Kr Kn
def Kx(j13:(List LI)→LI→Option (LI))(b:Int)(a:List LI):Option (LI):=
if(Cp (Ah b (Ah (0:Int) (0:Int))) 0)then
(vwI 0 0 0).bind fun _=>
(mkI (Ah b (Ah (0:Int) (0:Int))) (0:Int)).bind fun u=>
(Ev ([]:LI) u).bind fun m=>
(vwI (Ac m) 0 0).bind fun _=>
j13 a (Akm m 0 ((0:Int)-(0:Int)))
else
j13 a ([]:LI)
def Kq:=Kx Gn
def Kt(j12:Int→(List LI)→Option (LI))(a:List LI)(b:Int):Option (LI):=
if(Bl b 0)then
none
else
j12 b a
def Ks:=Kt Kq
def Fa(j11:(List LI)→Int→Option (LI))(bk9:Int→Int→Option (LI))(a:List LI)(b h:Int):Option (LI):=
if(Bl h (Ac a))then
(getI a h).bind fun n=>
if(Bl (Ad b (Ac n)) 0)then
none
else
bk9 (Ad b (Ac n)) (Ad h 1)
else
j11 a b
def De(a:List LI):Nat→Int→Int→Option (LI)
|0,_,_=>none
|q+1,b,h=>Fa Ks (De a q) a b h
def Lo a:=De a Am
def Lp(j9:(List LI)→Int→Int→Option (LI))(a:List LI):Option (LI):=
j9 a 0 0
def Kk:=Lp Lo
def Ain(a b:LI):Option (LI):=
(Kk ([a,b]:List LI)).bind fun f=>
some f
def Rg(a b:Int):Option (LI×Int):=
(Ox a b).bind fun(f,g)=>
if(Au g 0)then
some (([]:LI),g)
else
(Xl a).bind fun(h,n)=>
(Kc ([h]:LI) (Ah f 1)).bind fun k=>
(Ain k ([(Ah b (Ax (Ah f 1) h))]:LI)).bind fun m=>
some (m,0)
def Att(a f:Int)(b:LX):Option Int:=
(Om a f).bind fun g=>
if(Au g 0)then
some g
else
(Qo f b).bind fun h=>
if(Au h 0)then
some h
else
if(geq (Ac b) 0)then
some 2
else
(Hp (Au a 0)).bind fun _=>
if(Au (Fh (Ac b) a) 0)then
some 2
else
some 0
def Alg(a:Int)(b:LX):Option Int:=
if((Bl a 1)||(Cp a 6))then
some 2
else
if(Cp (Ac b) 4000)then
some 4
else
(Hp (Au a 0)).bind fun _=>
if(Au (Fh (Ac b) a) 0)then
some 2
else
some 0
def Di(a:LX):Option (LX):=
(
(Ev ([]:LX) a).bind fun b=>
some b)
abbrev Gg:=Option (LX×Int)
def Bj4(f:LX):Gg:=
some (f,0)
def Bal:=Bj4
def Bl2(bk12:Int→LX→Gg)(b a:Int)(k:LX):Gg:=
bk12 (Ad a b) k
def Az2 bk12:=Bl2 bk12
def Az3(j20:Int→LX→Gg)(b a:Int)(g:LX):Gg:=
if(Cp (Ah ((Ad a b)-a) 1) 0)then
(Hp (decide (0≤(Ah ((Ad a b)-a) 1)∧(Ah ((Ad a b)-a) 1)<((Ad a b)-a)))).bind fun _=>
Option.bind (Hp (decide (0≤(Ah (Ah ((Ad a b)-a) 1) 1)∧(Ah (Ah ((Ad a b)-a) 1) 1)<((Ad a b)-a)))) fun _=>
(getI g (a+(Ah ((Ad a b)-a) 1))).bind fun m=>
(getI g (a+(Ah (Ah ((Ad a b)-a) 1) 1))).bind fun n=>
(Hp (decide (0≤(Ah ((Ad a b)-a) 1)∧(Ah ((Ad a b)-a) 1)<((Ad a b)-a)))).bind fun _=>
(If g (a+(Ah ((Ad a b)-a) 1)) (Ah m (By n 2))).bind fun o=>
j20 a o
else
j20 a g
def Az9 bk12 b:=Az3 (Az2 bk12 b) b
def Azl(j19:Int→LX→Gg)(bk17:Int→LX→Gg)(b a h:Int)(g:LX):Gg:=
if(Bl h (Ah ((Ad a b)-a) 1))then
(Hp (decide (0≤(Ad h 1)∧(Ad h 1)<((Ad a b)-a)))).bind fun _=>
(Hp (decide (0≤h∧h<((Ad a b)-a)))).bind fun _=>
(getI g (a+(Ad h 1))).bind fun m=>
(getI g (a+h)).bind fun n=>
(Hp (decide (0≤h∧h<((Ad a b)-a)))).bind fun _=>
(If g (a+h) (Ah m n)).bind fun o=>
bk17 (Ad h 1) o
else
j19 a g
def Asf(bk12:Int→LX→Gg)(b a:Int):Nat→Int→LX→Gg
|0,_,_=>none
|q+1,h,g=>Azl (Az9 bk12 b) (Asf bk12 b a q) b a h g
def Azk bk12 b a:=Asf bk12 b a Am
def Bad(j17:Int→Int→LX→Gg)(j22:LX→Gg)(b a:Int)(f:LX):Gg:=
if(Bl a (Ac f))then
(vwI (Ac f) a (Ad a b)).bind fun _=>
j17 a 0 f
else
j22 f
def Aq7(b:Int):Nat→Int→LX→Gg
|0,_,_=>none
|q+1,a,f=>Bad (Azk (Aq7 b q) b) Bal b a f
def Azt b:=Aq7 b Am
def Bb2(j12:Int→Int→LX→Gg)(b:Int)(p:LX):Gg:=
(Alg b p).bind fun u=>
if(Au u 0)then
some (([]:LX),u)
else
(Di p).bind fun v=>
j12 b 0 v
def Bro:=Bb2 Azt
abbrev Au4:=Option (Int×LX×LX×Int)
def Bk1(a:Int)(b:LX)(f:Bool):Au4:=
if f then
some (10,b,(List.replicate 16 (0:Int32)),0)
else
if(geq a 16)then
some (9,b,(List.replicate 16 (0:Int32)),0)
else
some (0,(List.replicate 16 (0:Int32)),(List.replicate 16 (0:Int32)),2)
def Az1:=Bk1
def Azi(j2:Int→LX→Bool→Au4)(a:Int)(b:LX):Au4:=
if(geq a 8)then
j2 a b (geq a 8)
else
j2 a b (geq a 24)
def Awx:=Azi Az1
def Ax1(a:Int)(f:LX):Option (Int×Int32×Int×LX×LX×Int):=
(Awx a f).bind fun(g,h,k,b)=>
if(Au b 0)then
some (0,0,0,(List.replicate 16 (0:Int32)),(List.replicate 16 (0:Int32)),b)
else
some (a,0,g,h,k,0)
def Ra(a:Int)(k:Int32)(b:Int)(f m:LX):Option Int:=
(Awx a f).bind fun(g,n,o,h)=>
if((Au h 0)||(Au g b))then
some 8
else
some 0
def Aqm(a:Int):Option (Int×Int):=
if(geq a 8)then
some (4,0)
else
if(geq a 16)then
if(geq a 16)then
some (5,0)
else
some (0,2)
else
if(geq a 24)then
some (5,0)
else
some (0,2)
def Ajg(a:Int)(b:Int32):Option Int32:=
(Hp (Km a 0)).bind fun _=>
(Hp (Km a 0)).bind fun _=>
some (Ae (Bjf (Ah (Ct (Ae b:Int) (GI.toZ a).toNat) (Ae b:Int)) (GI.toZ a).toNat):Int32)
def Rq(b:Int)(f:Int32):Option (Int32×Int):=
(Aqm b).bind fun(g,a)=>
if(Au a 0)then
some (0,a)
else
(Ajg g f).bind fun h=>
some (h,0)
def Abw(a:Int)(b f:LX):Option Int:=
if((Au a 9)&&(Au a 10))then
some 8
else
some 0
abbrev Ny:=Option (Int32×Int)
def Atx(g:Int32)(a:Int)(b f:LX):Ny:=
(Hp (Km a 0)).bind fun _=>
some ((Bj g (GI.toZ a).toNat),0)
def Aks:=Atx
def Acq(j6:Int32→Int→LX→LX→Ny)(bk4:Int32→Int→Ny)(b:LX)(a:Int)(f:LX)(g:Int32)(h:Int):Ny:=
if(Bl h 16)then
(getI b h).bind fun m=>
(getI f h).bind fun _=>
(getI f h).bind fun n=>
bk4 (Ad g (Ax m n)) (Ad h 1)
else
j6 g a b f
def Ot(b:LX)(a:Int)(f:LX):Nat→Int32→Int→Ny
|0,_,_=>none
|q+1,g,h=>Acq Aks (Ot b a f q) b a f g h
def Akx b a f:=Ot b a f Am
def Akd(j4:LX→Int→LX→Int32→Int→Ny)(a:Int)(b f:LX):Ny:=
(Abw a b f).bind fun k=>
if(Au k 0)then
some (0,k)
else
(Hp (Km (Ah a 1) 0)).bind fun _=>
j4 b a f (Ct (1:Int32) (GI.toZ (Ah a 1)).toNat) 0
def Ahz:=Akd Akx
def Amo(a:Int):Option Int32:=
if(geq a 0)then
some 4
else
if(Bl a 4)then
some 2
else
some 1
abbrev Nj:=Option (Int×LX×LX×Int)
def Bft(g:Int)(b f:LX):Nj:=
some (g,b,f,0)
def At8:=Bft
def Acn(j6:Int→LX→LX→Nj)(bk4:Int→LX→Nj)(h:Int32)(f:LX)(g a:Int)(b:LX):Nj:=
if(Bl a 16)then
(getI f a).bind fun m=>
if(geq m 0)then
bk4 (Ad a 1) b
else
if((Bl m 0)==(Bl h 0))then
(getI b a).bind fun _=>
(getI b a).bind fun o=>
(Amo a).bind fun p=>
(getI b a).bind fun _=>
(If b a (Ad o p)).bind fun u=>
bk4 (Ad a 1) u
else
(getI b a).bind fun _=>
(getI b a).bind fun v=>
(Amo a).bind fun w=>
(getI b a).bind fun _=>
(If b a (Ah v w)).bind fun y=>
bk4 (Ad a 1) y
else
j6 g b f
def Oq(h:Int32)(f:LX)(g:Int):Nat→Int→LX→Nj
|0,_,_=>none
|q+1,a,b=>Acn At8 (Oq h f g q) h f g a b
def Atu h f g:=Oq h f g Am
def Ak6(j4:Int32→LX→Int→Int→LX→Nj)(g:Int)(k f:LX)(h:Int32):Nj:=
(Abw g k f).bind fun n=>
if(Au n 0)then
some (0,(List.replicate 16 (0:Int32)),(List.replicate 16 (0:Int32)),n)
else
if(geq h 0)then
some (g,k,f,0)
else
j4 h f g 0 k
def Anu:=Ak6 Atu
abbrev Asc:=Option (Int×LX×LX×Int)
def Axa(g:Int32)(b:Int)(f a:LX):Asc:=
(getI (Pn a 1 ((16:Int)-(1:Int)) (Akm a 0 ((16:Int)-(0:Int)))) 0).bind fun _=>
(If (Pn a 1 ((16:Int)-(1:Int)) (Akm a 0 ((16:Int)-(0:Int)))) 0 g).bind fun k=>
some (b,f,k,0)
def Anm:=Axa
def Af8(j2:Int32→Int→LX→LX→Asc)(b:Int)(f a:LX)(g:Int32):Asc:=
(Abw b f a).bind fun h=>
if(Au h 0)then
some (0,(List.replicate 16 (0:Int32)),(List.replicate 16 (0:Int32)),h)
else
(
(vwI 16 1 16).bind fun _=>
(vwI 16 0 16).bind fun _=>
j2 g b f a)
def As7:=Af8 Anm
def Anp(a:Int)(b f:LX)(g h:Int32):Option (Int×LX×LX):=
(Anu a b f h).bind fun(k,m,n,v)=>
(As7 k m n g).bind fun(o,p,u,w)=>
some (o,p,u)
def Aqu(b:Int)(f g:LX)(a:Int32):Option (Int32×Int×LX×LX×Int):=
(Ahz b f g).bind fun(h,k)=>
if(Au k 0)then
some (0,0,(List.replicate 16 (0:Int32)),(List.replicate 16 (0:Int32)),k)
else
(Anp b f g a (Ah a h)).bind fun(m,n,o)=>
some ((Ah a h),m,n,o,0)
def Acs(a:Int)(b:Int32)(f:Int)(g h:LX)(k:Int32):Option (Int32×Int×Int32×Int×LX×LX×Int):=
(Ra a b f g h).bind fun m=>
if(Au m 0)then
some (0,0,0,0,(List.replicate 16 (0:Int32)),(List.replicate 16 (0:Int32)),m)
else
(Rq a b).bind fun(n,y)=>
(Aqu f g h (Ah k n)).bind fun(o,p,u,v,w)=>
(
some (o,a,k,p,u,v,w))
def Bf2(a:Int32):Option UInt32:=
some (Sr (Ct (Ae a:UInt32) (GI.toZ (1:UInt64)).toNat) (Ae (Bj a (GI.toZ (31:UInt64)).toNat):UInt32))
abbrev Bz:=Option (LU×Int)
def Avu(k:LU):Bz:=
some (k,0)
def Ahd:=Avu
def Aiu(j12:LU→Bz)(bk10:Int→(List (Int×Int32×(Int×LX×LX×Unit)×Unit))→LU→Bz)(b:LX)(a f g:Int)(o:List (Int×Int32×(Int×LX×LX×Unit)×Unit))(k:LU):Bz:=
if(Bl g (Ac b))then
(getI b g).bind fun _=>
(getI b g).bind fun ac=>
(Hp (Au a 0)).bind fun _=>
(getI o (Fh g a)).bind fun _=>
(getI o (Fh g a)).bind fun p=>
(Acs p.1 p.2.1 p.2.2.1.1 p.2.2.1.2.1 p.2.2.1.2.2.1 ac).bind fun(u,ad,ae,v,af,ag,w)=>
if(Au w 0)then
some (([]:LU),w)
else
(If o (Fh g a) (ad,ae,(v,af,ag,()),())).bind fun ah=>
(Bf2 u).bind fun ai=>
(Ev k ([ai]:LU)).bind fun aj=>
bk10 (Ad g 1) ah aj
else
j12 k
def Vq(b:LX)(a f:Int):Nat→Int→(List (Int×Int32×(Int×LX×LX×Unit)×Unit))→LU→Bz
|0,_,_,_=>none
|q+1,g,o,k=>Aiu Ahd (Vq b a f q) b a f g o k
def Aib b a f:=Vq b a f Am
def Ajh(j10:LX→Int→Int→Int→(List (Int×Int32×(Int×LX×LX×Unit)×Unit))→LU→Bz)(a f:Int)(b:LX)(h:List (Int×Int32×(Int×LX×LX×Unit)×Unit)):Bz:=
j10 b a f 0 h ([]:LU)
def Akb:=Ajh Aib
def Ajd(j9:Int→Int→LX→(List (Int×Int32×(Int×LX×LX×Unit)×Unit))→Bz)(bk7:Int→(List (Int×Int32×(Int×LX×LX×Unit)×Unit))→Bz)(a f:Int)(m b:LX)(n:Int)(h:List (Int×Int32×(Int×LX×LX×Unit)×Unit)):Bz:=
if(Bl n 6)then
(Ax1 f m).bind fun(ak,al,u,am,an,v)=>
(getI h n).bind fun _=>
(If h n (ak,al,(u,am,an,()),())).bind fun ao=>
bk7 (Ad n 1) ao
else
j9 a f b h
def Yg(a f:Int)(m b:LX):Nat→Int→(List (Int×Int32×(Int×LX×LX×Unit)×Unit))→Bz
|0,_,_=>none
|q+1,n,h=>Ajd Akb (Yg a f m b q) a f m b n h
def Ajl a f m b:=Yg a f m b Am
def Aju(j7:Int→Int→LX→LX→Int→(List (Int×Int32×(Int×LX×LX×Unit)×Unit))→Bz)(a f:Int)(m y:LX):Bz:=
(Att a f y).bind fun aa=>
if(Au aa 0)then
some (([]:LU),aa)
else
(Bro a y).bind fun(b,ab)=>
if(Au ab 0)then
some (([]:LU),ab)
else
j7 a f m b 0 (List.replicate 6 ((0:Int),(0:Int32),((0:Int),(List.replicate 16 (0:Int32)),(List.replicate 16 (0:Int32)),()),()))
def Aqf:=Aju Ajl
def Au5:Option (Int×Int×UInt64×UInt64):=
some (10,10,16384,16384)
abbrev Ho:=Option ((List (Int×Int×UInt64×UInt64×Unit)))
def Awa(a:List (Int×Int×UInt64×UInt64×Unit)):Ho:=
some a
def Ajn:=Awa
def Ajf(j6:(List (Int×Int×UInt64×UInt64×Unit))→Ho)(bk4:Int→(List (Int×Int×UInt64×UInt64×Unit))→Ho)(b:Int)(a:List (Int×Int×UInt64×UInt64×Unit)):Ho:=
if(Bl b 6)then
(Au5).bind fun(f,g,h,k)=>
(getI a b).bind fun _=>
(If a b (f,g,h,k,())).bind fun m=>
bk4 (Ad b 1) m
else
j6 a
def Aae:Nat→Int→(List (Int×Int×UInt64×UInt64×Unit))→Ho
|0,_,_=>none
|q+1,b,a=>Ajf Ajn (Aae q) b a
def Ajv:=Aae Am
def Aj1(j4:Int→(List (Int×Int×UInt64×UInt64×Unit))→Ho):Ho:=
j4 0 (List.replicate 6 ((0:Int),(0:Int),(0:UInt64),(0:UInt64),()))
def Arx:=Aj1 Ajv
def Hi(b:LB)(a:Int):Option Int:=
if(((Bl a 0)||(Cp a 330000))||(Au (Ac b) (Bjf (Ad a 7) (GI.toZ (3:UInt64)).toNat)))then
some 8
else
if(Cp (Cy a 7) 0)then
(getI b (Ah (Ac b) 1)).bind fun f=>
(Hp (Km (Cy a 7) 0)).bind fun _=>
if(Au (Bj f (GI.toZ (Cy a 7)).toNat) 0)then
some 8
else
some 0
else
some 0
def At4(a b:Int)(f g:UInt64):Option Int:=
if(!((geq (Da (Ato a 0) 24) a)&&((geq (Da (Ato b 0) 24) b)&&((geq (Da f 68719476735) f)&&((geq (Da g 68719476735) g)&&true)))))then
some 8
else
some 0
def Akj:=At4
def Acz(j4:Int→Int→UInt64→UInt64→Option Int)(a b:Int)(f g:UInt64):Option Int:=
(
(
j4 a b f g))
def Ake:=Acz Akj
def Acu(j3:Int→Int→UInt64→UInt64→Option Int)(a b:Int)(f g:UInt64):Option Int:=
(
(
j3 a b f g))
def Ahu:=Acu Ake
def Abt(a f:Int)(g h:UInt64)(b:UInt32):Option (Int×UInt32):=
(Hp (Km a 0)).bind fun _=>
if(geq (Bj b (GI.toZ a).toNat) 0)then
some (0,b)
else
(Hp (Km a 0)).bind fun _=>
some (1,(Ah b (Ct (1:UInt32) (GI.toZ a).toNat)))
def Ej(a:LB):Option (LB):=
(
(Ev ([]:LB) a).bind fun b=>
some b)
def Axy(a:LB)(b:Int):Option (LB×Int):=
(Ej a).bind fun f=>
some (f,b)
abbrev Ci:=Option (LB×Int×Int)
def Biy(f:Int)(o:LB):Ci:=
some (o,f,0)
def Av7:=Biy
def Bij(bk15:UInt64→Int→Int→LB→Ci)(b:UInt64)(a:Int)(m:UInt64)(h f:Int)(w:LB):Ci:=
(Hp (Km (Da h (Ah 8 (Cy f 7))) 0)).bind fun _=>
bk15 (Bj m (GI.toZ (Da h (Ah 8 (Cy f 7)))).toNat) (Ah h (Da h (Ah 8 (Cy f 7)))) (Ad f (Da h (Ah 8 (Cy f 7)))) w
def Aw3 bk15:=Bij bk15
def Awl(j19:UInt64→Int→Int→LB→Ci)(b:UInt64)(a:Int)(m:UInt64)(h f:Int)(u:LB):Ci:=
(getI u (Ah (Ac u) 1)).bind fun _=>
(Hp (Km (Da h (Ah 8 (Cy f 7))) 0)).bind fun _=>
(Hp (Km (Cy f 7) 0)).bind fun _=>
(getI u (Ah (Ac u) 1)).bind fun ad=>
(getI u (Ah (Ac u) 1)).bind fun _=>
Option.bind (If u (Ah (Ac u) 1) (gor ad (Ct (Ae (Cy m (Ah (Ct (1:UInt64) (GI.toZ (Da h (Ah 8 (Cy f 7)))).toNat) 1)):UInt8) (GI.toZ (Cy f 7)).toNat))) fun w=>
j19 m h f w
def Awd bk15 b a:=Awl (Aw3 bk15 b a) b a
def Awz(j18:UInt64→Int→Int→LB→Ci)(j21:Int→LB→Ci)(b:UInt64)(a:Int)(m:UInt64)(h f:Int)(o:LB):Ci:=
if(Cp h 0)then
if(geq (Cy f 7) 0)then
(Ev o ([(0:UInt8)]:LB)).bind fun ab=>
j18 m h f ab
else
j18 m h f o
else
j21 f o
def Anq(b:UInt64)(a:Int):Nat→UInt64→Int→Int→LB→Ci
|0,_,_,_,_=>none
|q+1,m,h,f,o=>Awz (Awd (Anq b a q) b a) Av7 b a m h f o
def Av1 b a:=Anq b a Am
def Bh0(g:Int)(p:LB):Ci:=
some (p,g,0)
def Axj:=Bh0
def Bji(bk22:UInt64→Int→Int→LB→Ci)(b:UInt64)(a:Int)(n:UInt64)(k g:Int)(y:LB):Ci:=
(Hp (Km (Da k (Ah 8 (Cy g 7))) 0)).bind fun _=>
bk22 (Bj n (GI.toZ (Da k (Ah 8 (Cy g 7)))).toNat) (Ah k (Da k (Ah 8 (Cy g 7)))) (Ad g (Da k (Ah 8 (Cy g 7)))) y
def Axm bk22:=Bji bk22
def Awe(j26:UInt64→Int→Int→LB→Ci)(b:UInt64)(a:Int)(n:UInt64)(k g:Int)(v:LB):Ci:=
(getI v (Ah (Ac v) 1)).bind fun _=>
(Hp (Km (Da k (Ah 8 (Cy g 7))) 0)).bind fun _=>
(Hp (Km (Cy g 7) 0)).bind fun _=>
(getI v (Ah (Ac v) 1)).bind fun ae=>
(getI v (Ah (Ac v) 1)).bind fun _=>
Option.bind (If v (Ah (Ac v) 1) (gor ae (Ct (Ae (Cy n (Ah (Ct (1:UInt64) (GI.toZ (Da k (Ah 8 (Cy g 7)))).toNat) 1)):UInt8) (GI.toZ (Cy g 7)).toNat))) fun y=>
j26 n k g y
def Axe bk22 b a:=Awe (Axm bk22 b a) b a
def Av0(j25:UInt64→Int→Int→LB→Ci)(j28:Int→LB→Ci)(b:UInt64)(a:Int)(n:UInt64)(k g:Int)(p:LB):Ci:=
if(Cp k 0)then
if(geq (Cy g 7) 0)then
(Ev p ([(0:UInt8)]:LB)).bind fun w=>
j25 n k g w
else
j25 n k g p
else
j28 g p
def Anb(b:UInt64)(a:Int):Nat→UInt64→Int→Int→LB→Ci
|0,_,_,_,_=>none
|q+1,n,k,g,p=>Av0 (Axe (Anb b a q) b a) Axj b a n k g p
def Av3 b a:=Anb b a Am
def Bak(j15:UInt64→Int→UInt64→Int→Int→LB→Ci)(j22:UInt64→Int→UInt64→Int→Int→LB→Ci)(ac:LB)(aa:Int)(b:UInt64)(a:Int):Ci:=
(Hi ac aa).bind fun af=>
if(Au af 0)then
some (([]:LB),0,8)
else
if((Bl a 0)||(Cp a 64))then
some (([]:LB),0,2)
else
if(Bl a 64)then
(Hp (Km a 0)).bind fun _=>
if(Au (Bj b (GI.toZ a).toNat) 0)then
some (([]:LB),0,16)
else
if(Cp (Ad aa a) 330000)then
some (([]:LB),0,18)
else
(Axy ac aa).bind fun(ag,ah)=>
j15 b a b a ah ag
else
if(Cp (Ad aa a) 330000)then
some (([]:LB),0,18)
else
(Axy ac aa).bind fun(ab,ai)=>
j22 b a b a ai ab
def Arp:=Bak Av1 Av3
def Af0(b:UInt32)(a:Int):Option Bool:=
(Hp (Km a 0)).bind fun _=>
some (Km (Bj b (GI.toZ a).toNat) 48)
def Awg(a:Int):Option (Int×Int):=
if((Bl a 0)||(Cp a 48))then
some (0,2)
else
some ((Da (Ad a 1) 48),0)
def Azr(b:LB)(f a:Int):Option (LB×Int×Int):=
(Hi b f).bind fun g=>
if(Au g 0)then
some (([]:LB),0,g)
else
(Awg a).bind fun(k,h)=>
if(Au h 0)then
some (([]:LB),0,h)
else
(Hp (Km a 0)).bind fun _=>
(Arp b f (Ah (Ct (1:UInt64) (GI.toZ a).toNat) 1) k).bind fun(m,n,o)=>
some (m,n,o)
abbrev Amv:=Option (LB×Int×Int)
def Bfx(b:LB)(f h:Int)(k:UInt32)(m:Int):Amv:=
(Azr b f h).bind fun(p,u,n)=>
if(Au n 0)then
some (([]:LB),0,n)
else
(Arp p u (Ae k:UInt64) m).bind fun(v,w,y)=>
some (v,w,y)
def Auj:=Bfx
def Auk(j2:LB→Int→Int→UInt32→Int→Amv)(b:LB)(f:Int)(g:UInt32)(a:Int):Amv:=
(Hi b f).bind fun o=>
if(Au o 0)then
some (([]:LB),0,o)
else
if((Bl a 0)||(Cp a 24))then
some (([]:LB),0,2)
else
(Hp (Km a 0)).bind fun _=>
(Hp (Km a 0)).bind fun _=>
(Af0 g a).bind fun aa=>
if aa then
j2 b f 48 g 32
else
j2 b f (Ae (Bj g (GI.toZ a).toNat):Int) (Cy g (Ah (Ct (1:UInt32) (GI.toZ a).toNat) 1)) a
def Bbv:=Auk Auj
abbrev Fz:=Option (LB×Int×Int×Int×UInt64×UInt64×Int)
def Ahx(k u n:Int)(a:UInt64)(b:UInt32)(o:UInt64)(m:LB):Fz:=
(
(
some (m,k,u,n,(Ad a (Ah (Ae b:UInt64) (Bj a (GI.toZ (4:UInt64)).toNat))),o,0)))
def Arc:=Ahx
def Aug(j10:Int→Int→Int→UInt64→UInt32→UInt64→LB→Fz)(b:UInt32)(k n:Int)(a o:UInt64)(m:LB)(u:Int):Fz:=
j10 k u n a b o m
def Aup:=Aug Arc
def Aul(j9:UInt32→Int→Int→UInt64→UInt64→LB→Int→Fz)(b:UInt32)(f:Int)(a:UInt64)(k:Int)(m:LB)(n:Int)(o:UInt64):Fz:=
if(Cp f 0)then
(Hp (Km f 0)).bind fun _=>
if(Bl (Ad a (Ah (Ae b:UInt64) (Bj a (GI.toZ (4:UInt64)).toNat))) (Ct (16:UInt64) (GI.toZ f).toNat))then
j9 b k n a o m (Ah f 1)
else
if(Bl f 24)then
(Hp (Km f 0)).bind fun _=>
if(Cp (Ad a (Ah (Ae b:UInt64) (Bj a (GI.toZ (4:UInt64)).toNat))) (Ct (32:UInt64) (GI.toZ f).toNat))then
j9 b k n a o m (Ad f 1)
else
j9 b k n a o m f
else
j9 b k n a o m f
else
if(Bl f 24)then
(Hp (Km f 0)).bind fun _=>
if(Cp (Ad a (Ah (Ae b:UInt64) (Bj a (GI.toZ (4:UInt64)).toNat))) (Ct (32:UInt64) (GI.toZ f).toNat))then
j9 b k n a o m (Ad f 1)
else
j9 b k n a o m f
else
j9 b k n a o m f
def Ats:=Aul Aup
def Auo(j8:UInt32→Int→UInt64→Int→LB→Int→UInt64→Fz)(b:UInt32)(f h:Int)(a g:UInt64)(y k:Int)(m:LB):Fz:=
if(Au y 0)then
some (([]:LB),0,0,0,0,0,y)
else
(Abt f h a g b).bind fun(ag,p)=>
if(geq ag 1)then
if(Cp h 0)then
(Hp (Km h 0)).bind fun _=>
if(Bl (Ad g (Ah (Ae p:UInt64) (Bj g (GI.toZ (4:UInt64)).toNat))) (Ct (16:UInt64) (GI.toZ h).toNat))then
j8 b f a k m (Ah h 1) (Ad g (Ah (Ae p:UInt64) (Bj g (GI.toZ (4:UInt64)).toNat)))
else
if(Bl h 24)then
(Hp (Km h 0)).bind fun _=>
if(Cp (Ad g (Ah (Ae p:UInt64) (Bj g (GI.toZ (4:UInt64)).toNat))) (Ct (32:UInt64) (GI.toZ h).toNat))then
j8 b f a k m (Ad h 1) (Ad g (Ah (Ae p:UInt64) (Bj g (GI.toZ (4:UInt64)).toNat)))
else
j8 b f a k m h (Ad g (Ah (Ae p:UInt64) (Bj g (GI.toZ (4:UInt64)).toNat)))
else
j8 b f a k m h (Ad g (Ah (Ae p:UInt64) (Bj g (GI.toZ (4:UInt64)).toNat)))
else
if(Bl h 24)then
(Hp (Km h 0)).bind fun _=>
if(Cp (Ad g (Ah (Ae p:UInt64) (Bj g (GI.toZ (4:UInt64)).toNat))) (Ct (32:UInt64) (GI.toZ h).toNat))then
j8 b f a k m (Ad h 1) (Ad g (Ah (Ae p:UInt64) (Bj g (GI.toZ (4:UInt64)).toNat)))
else
j8 b f a k m h (Ad g (Ah (Ae p:UInt64) (Bj g (GI.toZ (4:UInt64)).toNat)))
else
j8 b f a k m h (Ad g (Ah (Ae p:UInt64) (Bj g (GI.toZ (4:UInt64)).toNat)))
else
j8 b f a k m h g
def At6:=Auo Ats
def Aud(j7:UInt32→Int→Int→UInt64→UInt64→Int→Int→LB→Fz)(b:UInt32)(v:LB)(w f h:Int)(a g:UInt64):Fz:=
(Abt f h a g b).bind fun(ad,ae)=>
(Arp v w (Ae ad:UInt64) 1).bind fun(aa,ab,ac)=>
if((geq ac 0)&&(geq ad 0))then
(Arp aa ab (Ae ae:UInt64) f).bind fun(ah,ai,aj)=>
j7 b f h a g aj ai ah
else
if(geq ac 0)then
(Bbv aa ab ae h).bind fun(ak,al,am)=>
j7 b f h a g am al ak
else
j7 b f h a g ac ab aa
def At1:=Aud At6
def At9(j6:UInt32→LB→Int→Int→Int→UInt64→UInt64→Fz)(v:LB)(w f h:Int)(a g:UInt64)(b:UInt32):Fz:=
(Hi v w).bind fun an=>
if(Au an 0)then
some (([]:LB),0,0,0,0,0,8)
else
(Ahu f h a g).bind fun ao=>
if(Au ao 0)then
some (([]:LB),0,0,0,0,0,8)
else
j6 b v w f h a g
def Be8:=At9 At1
abbrev Bg:=Option (UInt32×Int)
def Ar1(h:UInt32):Bg:=
some (h,0)
def Ag0:=Ar1
def Zv(j30:UInt32→Bg)(bk28:UInt32→Int→Bg)(a:LB)(b:LU)(h:UInt32)(m:Int):Bg:=
if(Bl m (Ac a))then
(getI a m).bind fun p=>
(getI b (GI.toZ (Sr (Ae h:UInt8) p))).bind fun _=>
(getI b (GI.toZ (Sr (Ae h:UInt8) p))).bind fun u=>
bk28 (Sr (Bj h (GI.toZ (8:UInt64)).toNat) u) (Ad m 1)
else
j30 h
def Mv(a:LB)(b:LU):Nat→UInt32→Int→Bg
|0,_,_=>none
|q+1,h,m=>Zv Ag0 (Mv a b q) a b h m
def Aht a b:=Mv a b Am
def Ai3(j28:LB→LU→UInt32→Int→Bg)(f:UInt32)(a:LB)(b:LU):Bg:=
j28 a b f 0
def Ai5:=Ai3 Aht
def Agy(j27:UInt32→LB→LU→Bg)(f:UInt32)(a:LB)(b:LU):Bg:=
j27 f a b
def Yl:=Agy Ai5
def Ar8(bk16:Int→LU→Bg)(f:UInt32)(a:LB)(g:Int)(o:LU):Bg:=
bk16 (Ad g 1) o
def Air bk16:=Ar8 bk16
def Agl(j24:Int→LU→Bg)(f:UInt32)(a:LB)(g:Int)(k:UInt32)(b:LU):Bg:=
(getI b g).bind fun _=>
(If b g k).bind fun o=>
j24 g o
def Zl bk16 f a:=Agl (Air bk16 f a) f a
def Xv(j23:Int→UInt32→LU→Bg)(bk21:UInt32→Int→Bg)(f:UInt32)(a:LB)(g:Int)(b:LU)(k:UInt32)(n:Int):Bg:=
if(Bl n 8)then
bk21 (Sr (Bj k (GI.toZ (1:UInt64)).toNat) (Ax 3988292384 (Cy k 1))) (Ad n 1)
else
j23 g k b
def Mn(bk16:Int→LU→Bg)(f:UInt32)(a:LB)(g:Int)(b:LU):Nat→UInt32→Int→Bg
|0,_,_=>none
|q+1,k,n=>Xv (Zl bk16 f a) (Mn bk16 f a g b q) f a g b k n
def Ah1 bk16 f a g b:=Mn bk16 f a g b Am
def Yf(j21:Int→LU→UInt32→Int→Bg)(j26:UInt32→LB→LU→Bg)(f:UInt32)(a:LB)(g:Int)(b:LU):Bg:=
if(Bl g 256)then
j21 g b (Ae g:UInt32) 0
else
j26 f a b
def Jn(f:UInt32)(a:LB):Nat→Int→LU→Bg
|0,_,_=>none
|q+1,g,b=>Yf (Ah1 (Jn f a q) f a) Yl f a g b
def Ahi f a:=Jn f a Am
def Aki(j16:UInt32→LB→Int→LU→Bg)(f:UInt32)(a:LB):Bg:=
if(Cp (Ac a) 100000)then
some (0,4)
else
j16 f a 0 (List.replicate 256 (0:UInt32))
def Aof:=Aki Ahi
def Sf(b:LB):Option (UInt32×Int):=
(Aof 4294967295 b).bind fun(f,a)=>
if(Au a 0)then
some (0,a)
else
some ((Bbx f),0)
def Ba4(b:UInt64)(a:Int):Option Bool:=
if(geq a 8)then
some true
else
(Hp (Km (Ax 8 a) 0)).bind fun _=>
some (geq (Bj b (GI.toZ (Ax 8 a)).toNat) 0)
abbrev Vk:=Option (LB×Int)
def Bab(a:LB):Vk:=
some (a,0)
def Arr:=Bab
def Aj8(j6:LB→Vk)(bk4:Int→LB→Vk)(f:UInt64)(g:LB)(b:Int)(a:LB):Vk:=
if(Bl b (Ac g))then
(Hp (Km (Ax 8 b) 0)).bind fun _=>
(getI a b).bind fun _=>
(If a b (Ae (Bj f (GI.toZ (Ax 8 b)).toNat):UInt8)).bind fun k=>
bk4 (Ad b 1) k
else
j6 a
def We(f:UInt64)(g:LB):Nat→Int→LB→Vk
|0,_,_=>none
|q+1,b,a=>Aj8 Arr (We f g q) f g b a
def Ar6 f g:=We f g Am
def Ar4(j4:UInt64→LB→Int→LB→Vk)(f:UInt64)(h:Int):Vk:=
if((Bl h 1)||(Cp h 8))then
some (([]:LB),2)
else
(Ba4 f h).bind fun m=>
if(!m)then
some (([]:LB),16)
else
(mkI h (0:UInt8)).bind fun g=>
(Hp (geq h h)).bind fun _=>
j4 f g 0 g
def Un:=Ar4 Ar6
def Aft(f:LB):Option (LB):=
some f
def Ql:=Aft
def Qh(j16:LB→Option (LB))(bk14:Int→LB→Option (LB))(a:List LB)(g:Int)(f:LB):Option (LB):=
if(Bl g (Ac a))then
(getI a g).bind fun o=>
(Ev f o).bind fun p=>
bk14 (Ad g 1) p
else
j16 f
def Jd(a:List LB):Nat→Int→LB→Option (LB)
|0,_,_=>none
|q+1,g,f=>Qh Ql (Jd a q) a g f
def Qe a:=Jd a Am
def Qf(j14:(List LB)→Int→LB→Option (LB))(a:List LB)(k:LB):Option (LB):=
j14 a 0 k
def Px:=Qf Qe
def Qd(j13:(List LB)→LB→Option (LB))(b:Int)(a:List LB):Option (LB):=
if(Cp (Ah b (Ah (0:Int) (0:Int))) 0)then
(vwI 0 0 0).bind fun _=>
(mkI (Ah b (Ah (0:Int) (0:Int))) (0:UInt8)).bind fun u=>
(Ev ([]:LB) u).bind fun m=>
(vwI (Ac m) 0 0).bind fun _=>
j13 a (Akm m 0 ((0:Int)-(0:Int)))
else
j13 a ([]:LB)
def Pw:=Qd Px
def Pv(j12:Int→(List LB)→Option (LB))(a:List LB)(b:Int):Option (LB):=
if(Bl b 0)then
none
else
j12 b a
def Qb:=Pv Pw
def Rf(j11:(List LB)→Int→Option (LB))(bk9:Int→Int→Option (LB))(a:List LB)(b h:Int):Option (LB):=
if(Bl h (Ac a))then
(getI a h).bind fun n=>
if(Bl (Ad b (Ac n)) 0)then
none
else
bk9 (Ad b (Ac n)) (Ad h 1)
else
j11 a b
def Jl(a:List LB):Nat→Int→Int→Option (LB)
|0,_,_=>none
|q+1,b,h=>Rf Qb (Jl a q) a b h
def Rr a:=Jl a Am
def Qt(j9:(List LB)→Int→Int→Option (LB))(a:List LB):Option (LB):=
j9 a 0 0
def Wf:=Qt Rr
abbrev Ba:=Option (LB×Int)
def Avi(u:Int)(p:LB):Ba:=
(Sf p).bind fun(af,ac)=>
if(Au ac 0)then
some (([]:LB),ac)
else
(Un (Ae af:UInt64) 4).bind fun(m,h)=>
if(Au h 0)then
some (([]:LB),h)
else
(Wf ([p,m]:List LB)).bind fun ag=>
some (ag,0)
def Ag7:=Avi
def Aus(bk27:Int→(List (Int×Int×UInt64×UInt64×Unit))→Int→LB→Ba)(a:LU)(b f g:Int)(k:List (Int×Int×UInt64×UInt64×Unit))(n:Int)(v:LB):Ba:=
bk27 (Ad g 1) k n v
def Ai4 bk27:=Aus bk27
def Avp(bk44:Int→Int→LB→Ba)(h:Int)(a:LU)(g b f:Int)(k:List (Int×Int×UInt64×UInt64×Unit))(m:LB)(o n:Int)(aa:LB):Ba:=
bk44 (Ad o 1) (Ad n 1) aa
def Aiy bk44:=Avp bk44
def Ait(j48:Int→Int→LB→Ba)(h:Int)(a:LU)(g b f:Int)(k:List (Int×Int×UInt64×UInt64×Unit))(m:LB)(o n:Int)(y:LB):Ba:=
(getI m (By o 8)).bind fun _=>
(getI m (By o 8)).bind fun ah=>
(Hp (Km (Fh o 8) 0)).bind fun _=>
(getI y (By n 8)).bind fun _=>
(Hp (Km (Fh n 8) 0)).bind fun _=>
(getI y (By n 8)).bind fun ai=>
(getI y (By n 8)).bind fun _=>
Option.bind (If y (By n 8) (gor ai (Ct (Cy (Bj ah (GI.toZ (Fh o 8)).toNat) 1) (GI.toZ (Fh n 8)).toNat))) fun aa=>
j48 o n aa
def Ahs bk44 h a g b f k m:=Ait (Aiy bk44 h a g b f k m) h a g b f k m
def Ai6(j47:Int→Int→LB→Ba)(j50:Int→(List (Int×Int×UInt64×UInt64×Unit))→Int→LB→Ba)(a:LU)(b f h g:Int)(k:List (Int×Int×UInt64×UInt64×Unit))(m:LB)(o n:Int)(v:LB):Ba:=
if(Bl o h)then
if(geq (Fh n 8) 0)then
(Ev v ([(0:UInt8)]:LB)).bind fun aj=>
j47 o n aj
else
j47 o n v
else
j50 g k n v
def Vm(bk27:Int→(List (Int×Int×UInt64×UInt64×Unit))→Int→LB→Ba)(a:LU)(b f h g:Int)(k:List (Int×Int×UInt64×UInt64×Unit))(m:LB):Nat→Int→Int→LB→Ba
|0,_,_,_=>none
|q+1,o,n,v=>Ai6 (Ahs (Vm bk27 a b f h g k m q) h a g b f k m) (Ai4 bk27 a b f) a b f h g k m o n v
def Ais bk27 a b f h g k m:=Vm bk27 a b f h g k m Am
def Ahj(j44:Int→Int→(List (Int×Int×UInt64×UInt64×Unit))→LB→Int→Int→LB→Ba)(j52:Int→LB→Ba)(a:LU)(b f g:Int)(w:List (Int×Int×UInt64×UInt64×Unit))(u:Int)(p:LB):Ba:=
if(Bl g (Ac a))then
(getI a g).bind fun _=>
(getI a g).bind fun ak=>
(Hp (Au b 0)).bind fun _=>
(getI w (Fh g b)).bind fun _=>
(getI w (Fh g b)).bind fun ab=>
(Be8 ([]:LB) 0 ab.1 ab.2.1 ab.2.2.1 ab.2.2.2.1 ak).bind fun(m,h,al,am,an,ao,ad)=>
if(Au ad 0)then
some (([]:LB),ad)
else
(Hp (Au b 0)).bind fun _=>
(getI w (Fh g b)).bind fun _=>
(If w (Fh g b) (al,am,an,ao,())).bind fun k=>
j44 h g k m 0 u p
else
j52 u p
def Vv(a:LU)(b f:Int):Nat→Int→(List (Int×Int×UInt64×UInt64×Unit))→Int→LB→Ba
|0,_,_,_,_=>none
|q+1,g,w,u,p=>Ahj (Ais (Vv a b f q) a b f) Ag7 a b f g w u p
def Ahh a b f:=Vv a b f Am
def Ajr(j27:LU→Int→Int→Int→(List (Int×Int×UInt64×UInt64×Unit))→Int→LB→Ba)(b f:Int)(ap aq:LX):Ba:=
(Aqf b f ap aq).bind fun(a,ae)=>
if(Au ae 0)then
some (([]:LB),ae)
else
(Arx).bind fun ar=>
j27 a b f 0 ar 0 ([]:LB)
def Xp:=Ajr Ahh
def Qv(a:Int)(b:LX):LI→Int→Option (List LX)
  |[],_=>some []
  |n::l,x=>Option.bind (Bp b x (Ad x (Ax n a))) fun p=>Option.bind (Qv a b l (Ad x (Ax n a))) fun ps=>some (p::ps)
def Acw(a f:Int)(t:LX):List LX→List LB→Option (List LB×Int)
  |[],o=>some (o,0)
  |x::xs,o=>Option.bind (Xp a f t x) fun y=>
    if(Au y.2 0)=true then some ([],y.2)
    else Option.bind (Ev o [y.1]) fun o'=>Acw a f t xs o'
def Aq8(a h:Int)(b:LX):Option (List LX):=
  Option.bind (Hp (Au a 0)) fun _=>Option.bind (Rg h (By (Ac b) a)) fun l=>Option.bind (Hp (decide (Ac l.1≤17179869184))) fun _=>Qv a b l.1 0
def Aqr(a f h:Int)(b:LX)(p:LB):Option (List LB×Int):=
  Option.bind (Ab9 a f h b) fun e=>
    if(Au e 0)=true then some ([],e)
    else Option.bind (Wn p) fun t=>
      if(Au t.2 0)=true then some ([],t.2)
      else Option.bind (Aq8 a h b) fun xs=>Acw a f t.1 xs []
def Alb(b f a g h:Int):Option Bool:=
some (((((((geq b 1)||(geq b 2))&&(Cp f 0))&&(gle f 6))&&(Cp g 0))&&(gle g 1048576))&&(Cp h 0))
def Sm:=Alb
def Ach(j2:Int→Int→Int→Int→Int→Option Bool)(b f a g h:Int):Option Bool:=
if(geq a 8)then
if(geq a 8)then
j2 b f a g h
else
some false
else
if(geq a 16)then
if(geq a 16)then
j2 b f a g h
else
some false
else
if(geq a 24)then
j2 b f a g h
else
some false
def Ui:=Ach Sm
def Ac6(k a m f b:Int):Option Bool:=
(Hp (Au a 0)).bind fun _=>
if(Cp b (By 4000 a))then
some false
else
(Ox f b).bind fun(g,h)=>
some ((geq h 0)&&(gle g 1000))
def Aaf(a b f g h:Int):Option Int:=
(Ui a b f g h).bind fun k=>
if(!k)then
some 8
else
(Ac6 a b f g h).bind fun m=>
if(!m)then
some 8
else
some 0
abbrev Jr:=Option (LB×Int)
def Bau(a:LB):Jr:=
(Sf a).bind fun(u,aa)=>
(Un (Ae u:UInt64) 4).bind fun(n,v)=>
(Ev a n).bind fun o=>
some (o,0)
def Aok:=Bau
def Aoo(j6:LB→Jr)(bk4:Int→LB→Jr)(b f g h k m:Int)(a:LB):Jr:=
if(Bl m 5)then
(getI ([b,f,g,h,k]:LI) m).bind fun w=>
(getI ([(2:Int),(2:Int),(2:Int),(4:Int),(4:Int)]:LI) m).bind fun y=>
(Un (Ae w:UInt64) y).bind fun(n,v)=>
(Ev a n).bind fun o=>
bk4 (Ad m 1) o
else
j6 a
def Afa(b f g h k:Int):Nat→Int→LB→Jr
|0,_,_=>none
|q+1,m,a=>Aoo Aok (Afa b f g h k q) b f g h k m a
def Apa b f g h k:=Afa b f g h k Am
def Ao7(j4:Int→Int→Int→Int→Int→Int→LB→Jr)(b f g h k:Int):Jr:=
(Aaf b f g h k).bind fun p=>
if(Au p 0)then
some (([]:LB),p)
else
j4 b f g h k 0 ([(84:UInt8),(84:UInt8),(65:UInt8),(49:UInt8)]:LB)
def Aw9:=Ao7 Apa
def Axv(a:LB):Option (UInt64×Int):=
if(Cp (Ac a) 64)then
some (0,2)
else
(Al4 a).bind fun(b,f)=>
some (b,0)
def Yp(b:LB):Option (LB×Int):=
(Axv b).bind fun(f,a)=>
if(Au a 0)then
some (([]:LB),a)
else
(Un f 8).bind fun(g,h)=>
some (g,h)
def Bb9:Option Int:=
some 0
def Aqz:=Bb9
def Yn(j6:Option Int)(bk4:Int→Int→Option Int)(a:LI)(f b:Int):Option Int:=
if(Bl b (Ac a))then
(getI a b).bind fun g=>
if((Bl g 5)||(Cp g f))then
some 8
else
bk4 (Ah f g) (Ad b 1)
else
j6
def Ms(a:LI):Nat→Int→Int→Option Int
|0,_,_=>none
|q+1,f,b=>Yn Aqz (Ms a q) a f b
def Aim a:=Ms a Am
def Aaa(j4:LI→Int→Int→Option Int)(a:LI):Option Int:=
if((geq (Ac a) 0)||(Cp (Ac a) 1000))then
some 8
else
j4 a 100000 0
def Lf:=Aaa Aim
abbrev Ey:=Option (LB×Int)
def Bar(g:LB):Ey:=
some (g,0)
def Aov:=Bar
def Aoz(j14:LB→Ey)(b:LB):Ey:=
(Sf b).bind fun(m,u)=>
(Un (Ae m:UInt64) 4).bind fun(n,v)=>
(Ev b n).bind fun g=>
j14 g
def Aoy:=Aoz Aov
def Bav(bk8:Int→LB→Ey)(a:LI)(f:Int)(h:LB):Ey:=
bk8 (Ad f 1) h
def Aoj bk8:=Bav bk8
def Asm(j11:Int→LB→Ey)(j13:LB→Ey)(a:LI)(f:Int)(b:LB):Ey:=
if(Bl f (Ac a))then
(getI a f).bind fun o=>
(Un (Ae o:UInt64) 4).bind fun(p,w)=>
(Ev b p).bind fun h=>
j11 f h
else
j13 b
def Ag9(a:LI):Nat→Int→LB→Ey
|0,_,_=>none
|q+1,f,b=>Asm (Aoj (Ag9 a q) a) Aoy a f b
def Aqh a:=Ag9 a Am
def Arf(j8:LI→Int→LB→Ey)(a:LI):Ey:=
(Lf a).bind fun k=>
if(Au k 0)then
some (([]:LB),k)
else
j8 a 0 ([]:LB)
def Bac:=Arf Aqh
def Atr(a:LB):Option Int:=
some (Ac a)
def Bem(a:LB):Option (LB):=
some a
def Aqw:=Bem
def Aqe(j6:LB→Option (LB))(bk4:Int→LB→Option (LB))(b:List LB)(f:Int)(a:LB):Option (LB):=
if(Bl f (Ac b))then
(getI b f).bind fun g=>
(Ev a g).bind fun h=>
bk4 (Ad f 1) h
else
j6 a
def Agt(b:List LB):Nat→Int→LB→Option (LB)
|0,_,_=>none
|q+1,f,a=>Aqe Aqw (Agt b q) b f a
def Aqx b:=Agt b Am
def Ap9(j4:(List LB)→Int→LB→Option (LB))(b:List LB):Option (LB):=
j4 b 0 ([]:LB)
def Ay8:=Ap9 Aqx
abbrev Dg:=Option (LB×Int)
def Baw(k:Int)(a:List LB)(b f n:LB):Dg:=
if(Au k 0)then
some (([]:LB),k)
else
(Ev ([b,f,n]:List LB) a).bind fun m=>
(Ay8 m).bind fun ad=>
some (ad,0)
def Ao5:=Baw
def Ao8(j14:Int→(List LB)→LB→LB→LB→Dg)(h:LI)(a:List LB)(b f:LB):Dg:=
(Bac h).bind fun(n,k)=>
j14 k a b f n
def Aon:=Ao8 Ao5
def Baz(bk9:Int→LI→Dg)(a:List LB)(b f:LB)(g:Int)(m:LI):Dg:=
bk9 (Ad g 1) m
def Aos bk9:=Baz bk9
def Ari(j11:Int→LI→Dg)(j13:LI→(List LB)→LB→LB→Dg)(a:List LB)(b f:LB)(g:Int)(h:LI):Dg:=
if(Bl g (Ac a))then
(getI a g).bind fun _=>
(getI a g).bind fun ae=>
(Atr ae).bind fun k=>
(getI h g).bind fun _=>
(If h g k).bind fun m=>
j11 g m
else
j13 h a b f
def Aip(a:List LB)(b f:LB):Nat→Int→LI→Dg
|0,_,_=>none
|q+1,g,h=>Ari (Aos (Aip a b f q) a b f) Aon a b f g h
def Aq9 a b f:=Aip a b f Am
def Aq4(j9:(List LB)→LB→LB→Int→LI→Dg)(a:List LB)(b f:LB):Dg:=
(mkI (Ac a) (0:Int)).bind fun af=>
(Hp (geq (Ac a) (Ac a))).bind fun _=>
j9 a b f 0 af
def Ap6:=Aq4 Aq9
def Aq3(j8:(List LB)→LB→LB→Dg)(p u v:Int)(w:LX)(o:LB):Dg:=
(Azn p u v w o).bind fun(y,ag,ah,ai,aj,aa)=>
if(Au aa 0)then
some (([]:LB),aa)
else
(Aqr p u v w o).bind fun(a,ab)=>
if(Au ab 0)then
some (([]:LB),ab)
else
(Aw9 y ag ah ai aj).bind fun(b,ac)=>
if(Au ac 0)then
some (([]:LB),ac)
else
if(geq y 2)then
(Yp o).bind fun(ak,al)=>
j8 a b ak
else
j8 a b ([]:LB)
def Azo:=Aq3 Ap6
def Ahy:Option (LB×Bool):=
(Azo 1 8 1 ([(1:Int32),(2:Int32)]:LX) ([]:LB)).bind fun(a,b)=>
some (a,((geq b 0)&&(geq (Ac a) 46)))
def Fo(a b:LB):Option Bool:=
some (a==b)
def Ig(b a:LB):Option Bool:=
if(Km (Ac b) (Ac a))then
(Bp b 0 (Ac a)).bind fun f=>
(Fo f a).bind fun g=>
some g
else
some false
abbrev Il:=Option (Int×Int)
def Ayk(b:Int):Il:=
some (b,0)
def Alk:=Ayk
def So(j6:Int→Il)(bk4:Int→Int→Il)(a:LB)(b f:Int):Il:=
if(Bl f (Ac a))then
(getI a f).bind fun g=>
if(Cp g 127)then
some (0,12)
else
bk4 (gor (Ct b (GI.toZ (7:UInt64)).toNat) (Ae g:Int)) (Ad f 1)
else
j6 b
def Je(a:LB):Nat→Int→Int→Il
|0,_,_=>none
|q+1,b,f=>So Alk (Je a q) a b f
def Acd a:=Je a Am
def Ab1(j4:LB→Int→Int→Il)(a:LB):Il:=
if(Au (Ac a) 4)then
some (0,2)
else
j4 a 0 0
def Acx:=Ab1 Acd
abbrev Fy:=Option (Int×Int)
def Ao2(a:LB)(b:UInt8)(h:Int):Fy:=
if(Cp h 4000)then
some (0,4)
else
if(Bl (Ac a) h)then
some (0,24)
else
if(geq b 16)then
(Bp a (Ah h 10) h).bind fun k=>
(Bp k 0 3).bind fun u=>
if(u !=([51,68,73]:LB))then
some (0,12)
else
(Bp k 3 (Ac k)).bind fun v=>
(Bp a 3 10).bind fun w=>
(Fo v w).bind fun y=>
if(!y)then
some (0,12)
else
some (h,0)
else
some (h,0)
def Ur:=Ao2
def Aep(j8:LB→UInt8→Int→Fy)(a:LB)(g:Int)(b:UInt8):Fy:=
if(geq b 16)then
j8 a b (Ad (Ad g 10) 10)
else
j8 a b (Ad g 10)
def Us:=Aep Ur
def Aeq(j7:LB→Int→UInt8→Fy)(a:LB)(g:Int)(b:UInt8)(m:Bool):Fy:=
if m then
some (0,12)
else
j7 a g b
def Ae4:=Aeq Us
def Ae5(j6:LB→Int→UInt8→Bool→Fy)(a:LB)(f b:UInt8):Fy:=
(Bp a 6 10).bind fun aa=>
(Acx aa).bind fun(g,ab)=>
if(Au ab 0)then
if true then
j6 a g b true
else
if(geq b 0)then
j6 a g b (!((Km f 2)&&(gle f 4)))
else
if(geq b 16)then
j6 a g b (!(geq f 4))
else
j6 a g b (!false)
else
(getI a 4).bind fun ac=>
if(Au ac 0)then
j6 a g b true
else
if(geq b 0)then
j6 a g b (!((Km f 2)&&(gle f 4)))
else
if(geq b 16)then
j6 a g b (!(geq f 4))
else
j6 a g b (!false)
def Ae1:=Ae5 Ae4
def Ux(j5:LB→UInt8→UInt8→Fy)(a:LB):Fy:=
(Ig a ([(73:UInt8),(68:UInt8),(51:UInt8)]:LB)).bind fun n=>
if(!n)then
some (0,6)
else
if(Bl (Ac a) 10)then
some (0,24)
else
(getI a 3).bind fun f=>
(getI a 5).bind fun b=>
(
(
(
j5 a f b)))
def Afv:=Ux Ae1
abbrev Vh:=Option (UInt64×Int)
def Blx(b:UInt64):Vh:=
some (b,0)
def Azm:=Blx
def Ajy(j6:UInt64→Vh)(bk4:UInt64→Int→Vh)(a:LB)(b:UInt64)(f:Int):Vh:=
if(Bl f (Ac a))then
(getI a f).bind fun g=>
(Hp (Km (Ax 8 f) 0)).bind fun _=>
bk4 (gor b (Ct (Ae g:UInt64) (GI.toZ (Ax 8 f)).toNat)) (Ad f 1)
else
j6 b
def Wq(a:LB):Nat→UInt64→Int→Vh
|0,_,_=>none
|q+1,b,f=>Ajy Azm (Wq a q) a b f
def Aqa a:=Wq a Am
def Aql(j4:LB→UInt64→Int→Vh)(a:LB):Vh:=
if((Bl (Ac a) 1)||(Cp (Ac a) 8))then
some (0,2)
else
j4 a 0 0
def Aqk:=Aql Aqa
def Al5(f:LB)(a b:Int):Option (UInt64×Int):=
if(((Bl b 1)||(Cp b 8))||(Bl a 0))then
some (0,2)
else
if(Cp a (Ah (Ac f) b))then
some (0,24)
else
(Bp f a (Ad a b)).bind fun g=>
(Aqk g).bind fun(h,k)=>
some (h,k)
def Bfb(g:LB):Option (LB):=
some g
def Avm:=Bfb
def Ani(j6:LB→Option (LB))(bk4:Int→LB→Option (LB))(a b:Int)(f:UInt64)(h:Int)(g:LB):Option (LB):=
if(Bl h (Ac ([(2000:UInt64),(Ae (Ad a 32):UInt64),(Ae b:UInt64),f,(0:UInt64),(0:UInt64)]:LQ)))then
(getI ([(2000:UInt64),(Ae (Ad a 32):UInt64),(Ae b:UInt64),f,(0:UInt64),(0:UInt64)]:LQ) h).bind fun _=>
(getI ([(2000:UInt64),(Ae (Ad a 32):UInt64),(Ae b:UInt64),f,(0:UInt64),(0:UInt64)]:LQ) h).bind fun k=>
(Un k 4).bind fun(m,o)=>
(Ev g m).bind fun n=>
bk4 (Ad h 1) n
else
j6 g
def Wa(a b:Int)(f:UInt64):Nat→Int→LB→Option (LB)
|0,_,_=>none
|q+1,h,g=>Ani Avm (Wa a b f q) a b f h g
def Avx a b f:=Wa a b f Am
def Avg(j4:Int→Int→UInt64→Int→LB→Option (LB))(a b:Int)(f:UInt64):Option (LB):=
j4 a b f 0 ([(65:UInt8),(80:UInt8),(69:UInt8),(84:UInt8),(65:UInt8),(71:UInt8),(69:UInt8),(88:UInt8)]:LB)
def Asr:=Avg Avx
def Agb(b:LB)(g:UInt64):Option (Int×Int×Bool):=
(Al5 b 12 4).bind fun(a,m)=>
(Al5 b 16 4).bind fun(f,n)=>
if(((Bl a 32)||(Cp a 3032))||(Cp f 1000))then
some (0,0,false)
else
(Asr (Ah (Ae a:Int) 32) (Ae f:Int) g).bind fun h=>
(Fo b h).bind fun k=>
some ((Ah (Ae a:Int) 32),(Ae f:Int),k)
def Asv(a:LB):Option (Int×Int):=
(Ig a ([(65:UInt8),(80:UInt8),(69:UInt8),(84:UInt8),(65:UInt8),(71:UInt8),(69:UInt8),(88:UInt8)]:LB)).bind fun f=>
if(!f)then
some (0,6)
else
if(Bl (Ac a) 32)then
some (0,24)
else
(Bp a 0 32).bind fun g=>
(Agb g 2684354560).bind fun(b,h,k)=>
if(!k)then
some (0,12)
else
if(Bl (Ac a) (Ad b 64))then
some (0,24)
else
(Bp a (Ah (Ad b 64) 32) (Ad b 64)).bind fun m=>
(Asr b h 2147483648).bind fun n=>
(Fo m n).bind fun o=>
if(!o)then
some (0,12)
else
some ((Ad b 64),0)
def Sa(a:LB):Option (Int×Int):=
(Afv a).bind fun(f,b)=>
if(Au b 6)then
some (f,b)
else
(Asv a).bind fun(g,h)=>
some (g,h)
def Oo(b:List UInt8):Nat→Int→Option (Int×Int)
  |0,_=>none
  |q+1,x=>Option.bind (Bp b x (Ac b)) fun s=>Option.bind (Sa s) fun r=>
    if geq r.2 (6:Int)=true then some (x,0)
    else if(geq r.2 (0:Int)&&Cp (Ad x r.1) (4000:Int))=true then some (0,4)
    else if Au r.2 (0:Int)=true then some (0,r.2)
    else Oo b q (Ad x r.1)
def Nf(b:List UInt8):Option (Int×Int):=Oo b Am 0
def Hh(b a:LB):Option Bool:=
if(Km (Ac b) (Ac a))then
(Bp b 0 (Ac a)).bind fun f=>
some (f==a)
else
some false
def Qg(a b:LB):Option Bool:=
(Hh a b).bind fun f=>
some f
abbrev Ls:=Option (Int×Int×Int×Int×Int×Int)
def Asn(a:LI):Ls:=
(getI a 0).bind fun _=>
(getI a 0).bind fun h=>
(getI a 1).bind fun _=>
(getI a 1).bind fun k=>
(getI a 2).bind fun _=>
(getI a 2).bind fun m=>
(getI a 3).bind fun _=>
(getI a 3).bind fun n=>
(getI a 4).bind fun _=>
(getI a 4).bind fun o=>
(Ui h k m n o).bind fun p=>
if(!p)then
some (0,0,0,0,0,12)
else
(Ac6 h k m n o).bind fun u=>
if(!u)then
some (0,0,0,0,0,4)
else
some (h,k,m,n,o,0)
def Xo:=Asn
def Yo(j6:LI→Ls)(bk4:Int→Int→LI→Ls)(b:LB)(g f:Int)(a:LI):Ls:=
if(Bl f 5)then
(getI ([(2:Int),(2:Int),(2:Int),(4:Int),(4:Int)]:LI) f).bind fun h=>
(Al5 b g h).bind fun(v,ae)=>
(getI a f).bind fun _=>
(If a f (Ae v:Int)).bind fun w=>
bk4 (Ad g h) (Ad f 1) w
else
j6 a
def Js(b:LB):Nat→Int→Int→LI→Ls
|0,_,_,_=>none
|q+1,g,f,a=>Yo Xo (Js b q) b g f a
def Xj b:=Js b Am
def Aie(j4:LB→Int→Int→LI→Ls)(b:LB):Ls:=
(Bp b 0 (Da 4 (Ac b))).bind fun y=>
(Qg ([84,84,65,49]:LB) y).bind fun aa=>
if(!aa)then
some (0,0,0,0,0,12)
else
if(Bl (Ac b) 22)then
some (0,0,0,0,0,24)
else
(Al5 b 18 4).bind fun(ab,af)=>
(Bp b 0 18).bind fun ac=>
(Sf ac).bind fun(ad,ag)=>
if(Au (Ae ad:UInt64) ab)then
some (0,0,0,0,0,22)
else
j4 b 4 0 (List.replicate 5 (0:Int))
def Xc:=Aie Xj
def Lt(g h k a b:Int):Option (LI×Int):=
(Aaf g h k a b).bind fun f=>
if(Au f 0)then
some (([]:LI),f)
else
(Rg a b).bind fun(m,n)=>
some (m,n)
def Nc(f:LB):Option (Int×Int×Int×Int×Int×Int×Int×Int×Int×Int×LI×Int):=
if(Cp (Ac f) 100000)then
some (0,0,0,0,0,0,0,0,0,0,([]:LI),4)
else
(Nf f).bind fun(a,n)=>
if(Au n 0)then
some (0,0,0,0,0,0,0,0,0,0,([]:LI),n)
else
(Bp f a (Ac f)).bind fun u=>
(Xc u).bind fun(b,g,h,k,m,o)=>
if(Au o 0)then
some (b,g,h,k,m,0,0,0,0,0,([]:LI),o)
else
(Lt b g h k m).bind fun(p,v)=>
if(geq b 2)then
some (b,g,h,k,m,a,(Ad a 22),(Ad (Ad a 22) 8),0,0,p,0)
else
some (b,g,h,k,m,a,(Ad a 22),(Ad a 22),0,0,p,0)
def Sp(a f:LB):Option (Bool×Int):=
(Yp f).bind fun(b,g)=>
if((Au g 0)||(Au (Ac a) (Ac b)))then
some (false,2)
else
(Fo a b).bind fun h=>
some (h,0)
abbrev Nh:=Option (LI×Int)
def At2(a:LI):Nh:=
(Lf a).bind fun k=>
if(Au k 0)then
some (([]:LI),12)
else
some (a,0)
def Acv:=At2
def Aco(j6:LI→Nh)(bk4:Int→LI→Nh)(b:LB)(f:LI)(g:Int)(a:LI):Nh:=
if(Bl g (Ac f))then
(Al5 b (Ax 4 g) 4).bind fun(k,u)=>
(getI a g).bind fun _=>
(If a g (Ae k:Int)).bind fun m=>
bk4 (Ad g 1) m
else
j6 a
def On(b:LB)(f:LI):Nat→Int→LI→Nh
|0,_,_=>none
|q+1,g,a=>Aco Acv (On b f q) b f g a
def Ak3 b f:=On b f Am
def Akn(j4:LB→LI→Int→LI→Nh)(b:LB)(h:Int):Nh:=
if((Bl h 1)||(Cp h 1000))then
some (([]:LI),2)
else
if(Bl (Ac b) (Ad (Ax 4 h) 4))then
some (([]:LI),24)
else
(Al5 b (Ax 4 h) 4).bind fun(n,v)=>
(Bp b 0 (Ax 4 h)).bind fun o=>
(Sf o).bind fun(p,w)=>
if(Au (Ae p:UInt64) n)then
some (([]:LI),22)
else
(mkI h (0:Int)).bind fun f=>
(Hp (geq h h)).bind fun _=>
j4 b f 0 f
def Aca:=Akn Ak3
def Yy(a:LB):Option (LB×Int):=
if(Bl (Ac a) 5)then
some (([]:LB),24)
else
if(Cp (Ac a) 41254)then
some (([]:LB),4)
else
(Bp a 0 (Ah (Ac a) 4)).bind fun f=>
(Sf f).bind fun(g,b)=>
if(Au b 0)then
some (([]:LB),b)
else
(Bp a (Ah (Ac a) 4) (Ac a)).bind fun h=>
(Aqk h).bind fun(k,m)=>
if((Au m 0)||(Au k (Ae g:UInt64)))then
some (([]:LB),22)
else
(Bp a 0 (Ah (Ac a) 4)).bind fun n=>
some (n,0)
def Bi4(a:LB):Option (LB×Int×Int):=
if(Cp (Ac a) 41250)then
some (([]:LB),0,4)
else
(Ej a).bind fun b=>
some (b,(Ax 8 (Ac a)),0)
def Bmb(g:UInt64):Option UInt64:=
some g
def Azg:=Bmb
def Ar3(j6:UInt64→Option UInt64)(bk4:UInt64→Int→Option UInt64)(b f:Int)(h:LB)(k:Int)(g:UInt64)(a:Int):Option UInt64:=
if(Bl a f)then
(getI h (Bjf (Ad b a) (GI.toZ (3:UInt64)).toNat)).bind fun m=>
(Hp (Km (Cy (Ad b a) 7) 0)).bind fun _=>
(Hp (Km (Da (Ah f a) (Ah 8 (Cy (Ad b a) 7))) 0)).bind fun _=>
(Hp (Km a 0)).bind fun _=>
bk4 (gor g (Ct (Ae (Cy (Bj m (GI.toZ (Cy (Ad b a) 7)).toNat) (Ah (Ct (1:UInt8) (GI.toZ (Da (Ah f a) (Ah 8 (Cy (Ad b a) 7)))).toNat) 1)):UInt64) (GI.toZ a).toNat)) (Ad a (Da (Ah f a) (Ah 8 (Cy (Ad b a) 7))))
else
j6 g
def Ac5(b f:Int)(h:LB)(k:Int):Nat→UInt64→Int→Option UInt64
|0,_,_=>none
|q+1,g,a=>Ar3 Azg (Ac5 b f h k q) b f h k g a
def Azq b f h k:=Ac5 b f h k Am
def Bah(j4:Int→Int→LB→Int→UInt64→Int→Option UInt64)(h:LB)(k b f:Int):Option UInt64:=
j4 b f h k 0 0
def Aw1:=Bah Azq
abbrev Dm:=Option (LB×Int×Int)
def Axq(o:Int)(p:LB):Dm:=
some (p,o,0)
def Anj:=Axq
def Aw0(bk27:Int→Int→LB→Dm)(a:Int)(g:LB)(f b h:Int)(u:LB):Dm:=
bk27 (Ad b 64) h u
def Afx bk27:=Aw0 bk27
def Avy(bk44:UInt64→Int→Int→LB→Dm)(a b:Int)(g:LB)(f:Int)(k n:UInt64)(m h:Int)(w:LB):Dm:=
(Hp (Km (Da m (Ah 8 (Cy h 7))) 0)).bind fun _=>
bk44 (Bj n (GI.toZ (Da m (Ah 8 (Cy h 7)))).toNat) (Ah m (Da m (Ah 8 (Cy h 7)))) (Ad h (Da m (Ah 8 (Cy h 7)))) w
def Amt bk44:=Avy bk44
def Ams(j48:UInt64→Int→Int→LB→Dm)(a b:Int)(g:LB)(f:Int)(k n:UInt64)(m h:Int)(v:LB):Dm:=
(getI v (Ah (Ac v) 1)).bind fun _=>
(Hp (Km (Da m (Ah 8 (Cy h 7))) 0)).bind fun _=>
(Hp (Km (Cy h 7) 0)).bind fun _=>
(getI v (Ah (Ac v) 1)).bind fun aa=>
(getI v (Ah (Ac v) 1)).bind fun _=>
Option.bind (If v (Ah (Ac v) 1) (gor aa (Ct (Ae (Cy n (Ah (Ct (1:UInt64) (GI.toZ (Da m (Ah 8 (Cy h 7)))).toNat) 1)):UInt8) (GI.toZ (Cy h 7)).toNat))) fun w=>
j48 n m h w
def Af7 bk44 a b g f k:=Ams (Amt bk44 a b g f k) a b g f k
def Afu(j47:UInt64→Int→Int→LB→Dm)(j50:Int→Int→LB→Dm)(a:Int)(g:LB)(f b:Int)(k n:UInt64)(m h:Int)(u:LB):Dm:=
if(Cp m 0)then
if(geq (Cy h 7) 0)then
(Ev u ([(0:UInt8)]:LB)).bind fun ab=>
j47 n m h ab
else
j47 n m h u
else
j50 b h u
def Lj(bk27:Int→Int→LB→Dm)(a:Int)(g:LB)(f b:Int)(k:UInt64):Nat→UInt64→Int→Int→LB→Dm
|0,_,_,_,_=>none
|q+1,n,m,h,u=>Afu (Af7 (Lj bk27 a g f b k q) a b g f k) (Afx bk27 a g f) a g f b k n m h u
def Ann bk27 a g f b k:=Lj bk27 a g f b k Am
def Ans(j44:Int→UInt64→UInt64→Int→Int→LB→Dm)(j52:Int→LB→Dm)(a:Int)(g:LB)(f b o:Int)(p:LB):Dm:=
if(Bl b a)then
(Aw1 g f b (Da 64 (Ah a b))).bind fun k=>
j44 b k k (Da 64 (Ah a b)) o p
else
j52 o p
def Sk(a:Int)(g:LB)(f:Int):Nat→Int→Int→LB→Dm
|0,_,_,_=>none
|q+1,b,o,p=>Ans (Ann (Sk a g f q) a g f) Anj a g f b o p
def An7 a g f:=Sk a g f Am
def Arh(j27:Int→LB→Int→Int→Int→LB→Dm)(g:LB)(f y a:Int):Dm:=
(Hi g f).bind fun ac=>
if(Au ac 0)then
some (([]:LB),0,8)
else
if(((Bl y 0)||(Cp y a))||(Cp a f))then
some (([]:LB),0,2)
else
j27 a g f y 0 ([]:LB)
def Ar7:=Arh An7
def Zg(g:LB)(b f a:Int):Option (UInt64×Int):=
(Hi g b).bind fun h=>
if(Au h 0)then
some (0,8)
else
if(((Bl a 0)||(Cp a 64))||(Bl f 0))then
some (0,2)
else
if(Cp f (Ah b a))then
some (0,24)
else
(Aw1 g b f a).bind fun k=>
some (k,0)
def En(a:UInt64):Option Int:=
if(geq a 0)then
some 64
else
(getI ([(0:UInt8),(1:UInt8),(56:UInt8),(2:UInt8),(57:UInt8),(49:UInt8),(28:UInt8),(3:UInt8),(61:UInt8),(58:UInt8),(42:UInt8),(50:UInt8),(38:UInt8),(29:UInt8),(17:UInt8),(4:UInt8),(62:UInt8),(47:UInt8),(59:UInt8),(36:UInt8),(45:UInt8),(43:UInt8),(51:UInt8),(22:UInt8),(53:UInt8),(39:UInt8),(33:UInt8),(30:UInt8),(24:UInt8),(18:UInt8),(12:UInt8),(5:UInt8),(63:UInt8),(55:UInt8),(48:UInt8),(27:UInt8),(60:UInt8),(41:UInt8),(37:UInt8),(16:UInt8),(46:UInt8),(35:UInt8),(44:UInt8),(21:UInt8),(52:UInt8),(32:UInt8),(23:UInt8),(11:UInt8),(54:UInt8),(26:UInt8),(40:UInt8),(15:UInt8),(34:UInt8),(20:UInt8),(31:UInt8),(10:UInt8),(25:UInt8),(14:UInt8),(19:UInt8),(9:UInt8),(13:UInt8),(8:UInt8),(7:UInt8),(6:UInt8)]:LB) (GI.toZ (Bj (Ax (Cy a (Axk a)) 285870213051353865) (GI.toZ (58:UInt64)).toNat))).bind fun b=>
some (Ae b:Int)
abbrev Gc:=Option (Int×Int×Int)
def Bdx:Gc:=
some (0,0,24)
def Arb:=Bdx
def Atz(j10:Gc):Gc:=
j10
def Aty:=Atz Arb
def Aku(j9:Gc)(f a:Int):Gc:=
if(geq f 48)then
some (f,(Ad 0 (Ad a f)),0)
else
j9
def Akt:=Aku Aty
def Akc(j8:Int→Int→Gc)(f b a:Int):Gc:=
if(Bl f (Da 48 (Ah b a)))then
some (f,(Ad (Ad (0:Int) (1:Int)) (Ad a f)),0)
else
j8 f a
def Akh:=Akc Akt
def Ak7(j7:Int→Int→Int→Gc)(h:Int)(k:UInt64)(a:Int)(g:LB)(b:Int):Gc:=
if(Au h 0)then
some (0,0,h)
else
(En (Bbx k)).bind fun f=>
j7 f b a
def Ak8:=Ak7 Akh
def Ug(j6:Int→UInt64→Int→LB→Int→Gc)(g:LB)(b a:Int):Gc:=
(Hi g b).bind fun m=>
if(Au m 0)then
some (0,0,m)
else
if(Bl a 0)then
some (0,0,2)
else
if(Km a b)then
some (0,0,24)
else
(
(
(Zg g b a (Da 48 (Ah b a))).bind fun(k,h)=>
j6 h k a g b))
def Abx:=Ug Ak8
abbrev Ar2:=Option (UInt32×Int×Int)
def Anr(a b f:Int)(g:LB)(h k:Int):Ar2:=
(Zg g h b k).bind fun(m,n)=>
if(Au n 0)then
some (0,0,n)
else
if(Bl f 48)then
(Hp (Km a 0)).bind fun _=>
some ((gor (Ct (Ae f:UInt32) (GI.toZ a).toNat) (Ae m:UInt32)),(Ad b k),0)
else
(Af0 (Ae m:UInt32) a).bind fun u=>
if(!u)then
some (0,0,12)
else
some ((Ae m:UInt32),(Ad b k),0)
def Af6:=Anr
def Am5(j2:Int→Int→Int→LB→Int→Int→Ar2)(g:LB)(h v a:Int):Ar2:=
(Hi g h).bind fun o=>
if(Au o 0)then
some (0,0,o)
else
if((Bl a 0)||(Cp a 24))then
some (0,0,2)
else
(Abx g h v).bind fun(f,b,p)=>
if(Au p 0)then
some (0,0,p)
else
if(geq f 48)then
j2 a b f g h 32
else
j2 a b f g h a
def As1:=Am5 Af6
abbrev Hw:=Option (UInt32×Int×Int×Int×UInt64×UInt64×Int)
def Auh(f:UInt32)(k w m:Int)(a n:UInt64):Hw:=
some (f,k,w,m,(Ad a (Ah (Ae f:UInt64) (Bj a (GI.toZ (4:UInt64)).toNat))),n,0)
def Akw:=Auh
def Amw(j10:UInt32→Int→Int→Int→UInt64→UInt64→Hw)(f:UInt32)(k m:Int)(a n:UInt64)(w:Int):Hw:=
j10 f k w m a n
def An1:=Amw Akw
def Am1(j9:UInt32→Int→Int→UInt64→UInt64→Int→Hw)(f:UInt32)(k b:Int)(a:UInt64)(m:Int)(n:UInt64):Hw:=
if(Cp b 0)then
(Hp (Km b 0)).bind fun _=>
if(Bl (Ad a (Ah (Ae f:UInt64) (Bj a (GI.toZ (4:UInt64)).toNat))) (Ct (16:UInt64) (GI.toZ b).toNat))then
j9 f k m a n (Ah b 1)
else
if(Bl b 24)then
(Hp (Km b 0)).bind fun _=>
if(Cp (Ad a (Ah (Ae f:UInt64) (Bj a (GI.toZ (4:UInt64)).toNat))) (Ct (32:UInt64) (GI.toZ b).toNat))then
j9 f k m a n (Ad b 1)
else
j9 f k m a n b
else
j9 f k m a n b
else
if(Bl b 24)then
(Hp (Km b 0)).bind fun _=>
if(Cp (Ad a (Ah (Ae f:UInt64) (Bj a (GI.toZ (4:UInt64)).toNat))) (Ct (32:UInt64) (GI.toZ b).toNat))then
j9 f k m a n (Ad b 1)
else
j9 f k m a n b
else
j9 f k m a n b
def Zb:=Am1 An1
def Anl(j8:UInt32→Int→Int→UInt64→Int→UInt64→Hw)(b h:Int)(a g:UInt64)(f:UInt32)(k:Int):Hw:=
(Abt b h a g f).bind fun(ad,o)=>
if(geq ad 1)then
if(Cp h 0)then
(Hp (Km h 0)).bind fun _=>
if(Bl (Ad g (Ah (Ae o:UInt64) (Bj g (GI.toZ (4:UInt64)).toNat))) (Ct (16:UInt64) (GI.toZ h).toNat))then
j8 f k b a (Ah h 1) (Ad g (Ah (Ae o:UInt64) (Bj g (GI.toZ (4:UInt64)).toNat)))
else
if(Bl h 24)then
(Hp (Km h 0)).bind fun _=>
if(Cp (Ad g (Ah (Ae o:UInt64) (Bj g (GI.toZ (4:UInt64)).toNat))) (Ct (32:UInt64) (GI.toZ h).toNat))then
j8 f k b a (Ad h 1) (Ad g (Ah (Ae o:UInt64) (Bj g (GI.toZ (4:UInt64)).toNat)))
else
j8 f k b a h (Ad g (Ah (Ae o:UInt64) (Bj g (GI.toZ (4:UInt64)).toNat)))
else
j8 f k b a h (Ad g (Ah (Ae o:UInt64) (Bj g (GI.toZ (4:UInt64)).toNat)))
else
if(Bl h 24)then
(Hp (Km h 0)).bind fun _=>
if(Cp (Ad g (Ah (Ae o:UInt64) (Bj g (GI.toZ (4:UInt64)).toNat))) (Ct (32:UInt64) (GI.toZ h).toNat))then
j8 f k b a (Ad h 1) (Ad g (Ah (Ae o:UInt64) (Bj g (GI.toZ (4:UInt64)).toNat)))
else
j8 f k b a h (Ad g (Ah (Ae o:UInt64) (Bj g (GI.toZ (4:UInt64)).toNat)))
else
j8 f k b a h (Ad g (Ah (Ae o:UInt64) (Bj g (GI.toZ (4:UInt64)).toNat)))
else
j8 f k b a h g
def Af2:=Anl Zb
def Amx(j7:Int→Int→UInt64→UInt64→UInt32→Int→Hw)(p:Int)(u:LB)(v b h:Int)(a g:UInt64):Hw:=
(Zg u v p 1).bind fun(ae,aa)=>
if(Au aa 0)then
some (0,0,0,0,0,0,aa)
else
if(geq ae 0)then
(Zg u v (Ad p 1) b).bind fun(af,ab)=>
if(Au ab 0)then
some (0,0,0,0,0,0,ab)
else
j7 b h a g (Ae af:UInt32) (Ad (Ad p 1) b)
else
(As1 u v (Ad p 1) h).bind fun(y,ag,ac)=>
if(Au ac 0)then
some (0,0,0,0,0,0,ac)
else
(Hp (Km b 0)).bind fun _=>
if(Bl (Ad y (Ct (1:UInt32) (GI.toZ b).toNat)) y)then
some (0,0,0,0,0,0,12)
else
j7 b h a g (Ad y (Ct (1:UInt32) (GI.toZ b).toNat)) ag
def Am7:=Amx Af2
def Aoa(j6:Int→LB→Int→Int→Int→UInt64→UInt64→Hw)(u:LB)(v p b h:Int)(a g:UInt64):Hw:=
(Hi u v).bind fun ah=>
if(Au ah 0)then
some (0,0,0,0,0,0,8)
else
(Ahu b h a g).bind fun ai=>
if(Au ai 0)then
some (0,0,0,0,0,0,8)
else
j6 p u v b h a g
def Ab7:=Aoa Am7
abbrev Bd:=Option (LU×Int×Int)
def Avj(k:Int)(m:LU):Bd:=
some (m,k,0)
def Aiv:=Avj
def Ag4(bk16:Int→Int→(List (Int×Int×UInt64×UInt64×Unit))→LU→Bd)(a f:Int)(g:LB)(b k v:Int)(w:UInt32)(h:Int)(ag:List (Int×Int×UInt64×UInt64×Unit))(m:LU):Bd:=
(Ev m ([w]:LU)).bind fun ak=>
bk16 (Ad k v) (Ad h 1) ag ak
def Vu bk16:=Ag4 bk16
def Nr(j22:Int→Int→UInt32→Int→(List (Int×Int×UInt64×UInt64×Unit))→LU→Bd)(a f:Int)(g:LB)(b k h y:Int)(w:UInt32)(v:Int)(n:List (Int×Int×UInt64×UInt64×Unit))(m:LU)(aa ab:Int)(ac ad:UInt64):Bd:=
if(Au y 0)then
some (([]:LU),0,y)
else
(Hp (Au a 0)).bind fun _=>
(getI n (Fh h a)).bind fun _=>
(If n (Fh h a) (aa,ab,ac,ad,())).bind fun ag=>
j22 k v w h ag m
def Nl bk16 a f g b:=Nr (Vu bk16 a f g b) a f g b
def Od(j21:Int→Int→Int→UInt32→Int→(List (Int×Int×UInt64×UInt64×Unit))→LU→Int→Int→UInt64→UInt64→Bd)(j24:Int→LU→Bd)(a f:Int)(g:LB)(b k h:Int)(n:List (Int×Int×UInt64×UInt64×Unit))(m:LU):Bd:=
if(Bl h (Ax f a))then
(Ar7 g b k (Da (Ad k 81) b)).bind fun(ah,ae,af)=>
if(Au af 0)then
some (([]:LU),0,af)
else
(Hp (Au a 0)).bind fun _=>
(getI n (Fh h a)).bind fun _=>
(
(
(getI n (Fh h a)).bind fun p=>
(
(Ab7 ah ae 0 p.1 p.2.1 p.2.2.1 p.2.2.2.1).bind fun(w,v,aa,ab,ac,ad,y)=>
j21 k h y w v n m aa ab ac ad)))
else
j24 k m
def Jv(a f:Int)(g:LB)(b:Int):Nat→Int→Int→(List (Int×Int×UInt64×UInt64×Unit))→LU→Bd
|0,_,_,_,_=>none
|q+1,k,h,n,m=>Od (Nl (Jv a f g b q) a f g b) Aiv a f g b k h n m
def Ah4 a f g b:=Jv a f g b Am
def Ah5(j16:Int→Int→LB→Int→Int→Int→(List (Int×Int×UInt64×UInt64×Unit))→LU→Bd)(a f:Int)(g:LB)(b:Int)(o:List (Int×Int×UInt64×UInt64×Unit)):Bd:=
j16 a f g b 0 0 o ([]:LU)
def Vr:=Ah5 Ah4
def Aik(j15:Int→Int→LB→Int→(List (Int×Int×UInt64×UInt64×Unit))→Bd)(bk13:Int→(List (Int×Int×UInt64×UInt64×Unit))→Bd)(a f:Int)(g:LB)(b u:Int)(o:List (Int×Int×UInt64×UInt64×Unit)):Bd:=
if(Bl u 6)then
(Au5).bind fun(al,ae,af,am)=>
(getI o u).bind fun _=>
(If o u (al,ae,af,am,())).bind fun an=>
bk13 (Ad u 1) an
else
j15 a f g b o
def Vw(a f:Int)(g:LB)(b:Int):Nat→Int→(List (Int×Int×UInt64×UInt64×Unit))→Bd
|0,_,_=>none
|q+1,u,o=>Aik Vr (Vw a f g b q) a f g b u o
def Nn a f g b:=Vw a f g b Am
def Aac(j13:Int→Int→LB→Int→Int→(List (Int×Int×UInt64×UInt64×Unit))→Bd)(a f:Int)(g:LB)(b:Int):Bd:=
j13 a f g b 0 (List.replicate 6 ((0:Int),(0:Int),(0:UInt64),(0:UInt64),()))
def Aao:=Aac Nn
def Sn(a:UInt32):Option Int32:=
some (Sr (Ae (Bj a (GI.toZ (1:UInt64)).toNat):Int32) (Axk (Ae (Cy a 1):Int32)))
def Arn(b:Int)(f g:LX)(a:Int32):Option (Int32×Int×LX×LX×Int):=
(Ahz b f g).bind fun(h,k)=>
if(Au k 0)then
some (0,0,(List.replicate 16 (0:Int32)),(List.replicate 16 (0:Int32)),k)
else
(Anp b f g (Ad a h) a).bind fun(m,n,o)=>
some ((Ad a h),m,n,o,0)
def Ih(a:Int)(b:Int32)(f:Int)(g h:LX)(o:Int32):Option (Int32×Int×Int32×Int×LX×LX×Int):=
(Ra a b f g h).bind fun k=>
if(Au k 0)then
some (0,0,0,0,(List.replicate 16 (0:Int32)),(List.replicate 16 (0:Int32)),k)
else
(Rq a b).bind fun(m,y)=>
(Arn f g h o).bind fun(n,p,u,v,w)=>
(
some ((Ad n m),a,(Ad n m),p,u,v,w))
abbrev Er:=Option (LX×Int)
def Bh5(f:LX):Er:=
some (f,0)
def Aww:=Bh5
def Avz(bk12:Int→LX→Er)(b a:Int)(h:LX):Er:=
bk12 (Ad a b) h
def Aoh bk12:=Avz bk12
def Afy(j20:Int→LX→Er)(bk18:Int→LX→Er)(b a g:Int)(h:LX):Er:=
if(Km g 0)then
(Hp (decide (0≤(Ad g 1)∧(Ad g 1)<((Ad a b)-a)))).bind fun _=>
(Hp (decide (0≤g∧g<((Ad a b)-a)))).bind fun _=>
(getI h (a+(Ad g 1))).bind fun o=>
(getI h (a+g)).bind fun p=>
(Hp (decide (0≤g∧g<((Ad a b)-a)))).bind fun _=>
(If h (a+g) (Ah o p)).bind fun u=>
bk18 (Ah g 1) u
else
j20 a h
def Tc(bk12:Int→LX→Er)(b a:Int):Nat→Int→LX→Er
|0,_,_=>none
|q+1,g,h=>Afy (Aoh bk12 b) (Tc bk12 b a q) b a g h
def An5 bk12 b a:=Tc bk12 b a Am
def Amy(j18:Int→Int→LX→Er)(b a:Int)(k:LX):Er:=
j18 a (Ah (Ah ((Ad a b)-a) 1) 1) k
def Af4 bk12 b:=Amy (An5 bk12 b) b
def Aob(j17:Int→LX→Er)(j22:LX→Er)(b a:Int)(f:LX):Er:=
if(Bl a (Ac f))then
(vwI (Ac f) a (Ad a b)).bind fun _=>
if(Cp (Ah ((Ad a b)-a) 1) 0)then
(Hp (decide (0≤(Ah ((Ad a b)-a) 1)∧(Ah ((Ad a b)-a) 1)<((Ad a b)-a)))).bind fun _=>
Option.bind (Hp (decide (0≤(Ah (Ah ((Ad a b)-a) 1) 1)∧(Ah (Ah ((Ad a b)-a) 1) 1)<((Ad a b)-a)))) fun _=>
(getI f (a+(Ah ((Ad a b)-a) 1))).bind fun v=>
(getI f (a+(Ah (Ah ((Ad a b)-a) 1) 1))).bind fun w=>
(Hp (decide (0≤(Ah ((Ad a b)-a) 1)∧(Ah ((Ad a b)-a) 1)<((Ad a b)-a)))).bind fun _=>
(If f (a+(Ah ((Ad a b)-a) 1)) (Ad v (By w 2))).bind fun y=>
j17 a y
else
j17 a f
else
j22 f
def Ni(b:Int):Nat→Int→LX→Er
|0,_,_=>none
|q+1,a,f=>Aob (Af4 (Ni b q) b) Aww b a f
def Aog b:=Ni b Am
def Aqb(j12:Int→Int→LX→Er)(b:Int)(m:LX):Er:=
(Alg b m).bind fun n=>
if(Au n 0)then
some (([]:LX),n)
else
(Di m).bind fun aa=>
j12 b 0 aa
def Aw6:=Aqb Aog
abbrev Bh:=Option (LX×Int)
def Afj(a b:Int)(k:LX):Bh:=
(Aw6 a k).bind fun(ah,af)=>
if(Au af 0)then
some (([]:LX),af)
else
(Qo b ah).bind fun ae=>
if(Au ae 0)then
some (([]:LX),ae)
else
some (ah,0)
def Ip:=Afj
def Afq(bk13:Int→(List (Int×Int32×(Int×LX×LX×Unit)×Unit))→LX→Bh)(a:Int)(f:LU)(b g:Int)(w:Int32)(u:Int)(h:List (Int×Int32×(Int×LX×LX×Unit)×Unit))(k:LX)(y:Int)(v:Int32)(aa:Int)(ab ac:LX):Bh:=
if(Au u 0)then
some (([]:LX),u)
else
(If h (Fh g a) (y,v,(aa,ab,ac,()),())).bind fun ai=>
(Ev k ([w]:LX)).bind fun aj=>
bk13 (Ad g 1) ai aj
def Tv bk13:=Afq bk13
def Ir(j16:Int→Int32→Int→(List (Int×Int32×(Int×LX×LX×Unit)×Unit))→LX→Int→Int32→Int→LX→LX→Bh)(j18:Int→Int→LX→Bh)(f:LU)(a b g:Int)(h:List (Int×Int32×(Int×LX×LX×Unit)×Unit))(k:LX):Bh:=
if(Bl g (Ac f))then
(getI f g).bind fun ag=>
(Hp (Au a 0)).bind fun _=>
(getI h (Fh g a)).bind fun _=>
(
(getI h (Fh g a)).bind fun m=>
(
(Sn ag).bind fun ae=>
(
(Ih m.1 m.2.1 m.2.2.1.1 m.2.2.1.2.1 m.2.2.1.2.2.1 ae).bind fun(w,y,v,aa,ab,ac,u)=>
j16 g w u h k y v aa ab ac)))
else
j18 a b k
def Gh(f:LU)(a b:Int):Nat→Int→(List (Int×Int32×(Int×LX×LX×Unit)×Unit))→LX→Bh
|0,_,_,_=>none
|q+1,g,h,k=>Ir (Tv (Gh f a b q) a f b) Ip f a b g h k
def Afe f a b:=Gh f a b Am
def Afr(j13:LU→Int→Int→Int→(List (Int×Int32×(Int×LX×LX×Unit)×Unit))→LX→Bh)(f:LU)(a b:Int)(n:List (Int×Int32×(Int×LX×LX×Unit)×Unit)):Bh:=
j13 f a b 0 n ([]:LX)
def Ti:=Afr Afe
def Afc(j12:LU→Int→Int→(List (Int×Int32×(Int×LX×LX×Unit)×Unit))→Bh)(bk10:Int→(List (Int×Int32×(Int×LX×LX×Unit)×Unit))→Bh)(f:LU)(a b:Int)(o:LX)(p:Int)(n:List (Int×Int32×(Int×LX×LX×Unit)×Unit)):Bh:=
if(Bl p 6)then
(Ax1 b o).bind fun(ak,af,ae,al,am,v)=>
(getI n p).bind fun _=>
(If n p (ak,af,(ae,al,am,()),())).bind fun an=>
bk10 (Ad p 1) an
else
j12 f a b n
def Tn(f:LU)(a b:Int)(o:LX):Nat→Int→(List (Int×Int32×(Int×LX×LX×Unit)×Unit))→Bh
|0,_,_=>none
|q+1,p,n=>Afc Ti (Tn f a b o q) f a b o p n
def Mb f a b o:=Tn f a b o Am
def Va(j10:LU→Int→Int→LX→Int→(List (Int×Int32×(Int×LX×LX×Unit)×Unit))→Bh)(a b:Int)(o:LX)(f:LU):Bh:=
j10 f a b o 0 (List.replicate 6 ((0:Int),(0:Int32),((0:Int),(List.replicate 16 (0:Int32)),(List.replicate 16 (0:Int32)),()),()))
def Oj:=Va Mb
def deframe_Decode(a h:Int)(u:LX)(f:Int)(v:LB):Option (LX×Int):=
(Om a h).bind fun k=>
if(Au k 0)then
some (([]:LX),k)
else
if(Bl f 1)then
some (([]:LX),2)
else
(Hp (Au a 0)).bind fun _=>
if(Cp f (By 4000 a))then
some (([]:LX),2)
else
(Yy v).bind fun(w,m)=>
if(Au m 0)then
some (([]:LX),m)
else
(Bi4 w).bind fun(n,b,o)=>
if(Au o 0)then
some (([]:LX),o)
else
(Aao a f n b).bind fun(y,g,p)=>
if(Au p 0)then
some (([]:LX),p)
else
if(Km (Ah b g) 8)then
some (([]:LX),12)
else
(Zg n b g (Ah b g)).bind fun(aa,ab)=>
if((Au ab 0)||(Au aa 0))then
some (([]:LX),12)
else
(Oj a h u y).bind fun(ac,ad)=>
some (ac,ad)
abbrev Avk:=Option (Int×Int)
def Bag(a:LB):Avk:=
(Bp a (Ah (Ac a) 32) (Ac a)).bind fun g=>
(Agb g 0).bind fun(f,y,h)=>
if h then
if(Bl (Ah (Ac a) 32) f)then
some (0,24)
else
some ((Ad f 32),0)
else
(Bp a (Ah (Ac a) 32) (Ac a)).bind fun k=>
(Agb k 2147483648).bind fun(b,m,n)=>
if(!n)then
some (0,12)
else
if(Bl (Ac a) (Ad b 64))then
some (0,24)
else
(Bp a (Ah (Ac a) (Ad b 64)) (Ad (Ah (Ac a) (Ad b 64)) 32)).bind fun o=>
(Asr b m 2684354560).bind fun p=>
(Fo o p).bind fun u=>
if(!u)then
some (0,12)
else
some ((Ad b 64),0)
def Aqo:=Bag
def Arm(j2:LB→Avk)(a:LB):Avk:=
if(Bl (Ah (Ac a) 32) 0)then
some (0,6)
else
(Bp a (Ah (Ac a) 32) (Ac a)).bind fun v=>
(Ig v ([(65:UInt8),(80:UInt8),(69:UInt8),(84:UInt8),(65:UInt8),(71:UInt8),(69:UInt8),(88:UInt8)]:LB)).bind fun w=>
if(!w)then
some (0,6)
else
j2 a
def Aws:=Arm Aqo
abbrev Ef:=Option (Int×Int)
def Axz(a:Int):Ef:=
some (a,0)
def Alq:=Axz
def Amh(bk8:Int→LB→Ef)(a:Int)(g:LB):Ef:=
bk8 (Ad a 1) g
def Abv bk8:=Amh bk8
def Aci(j12:Int→LB→Ef)(a f:Int)(b:LB):Ef:=
if(geq f 0)then
some (0,38)
else
(Bp b 0 (Ah (Ac b) f)).bind fun g=>
j12 a g
def Ab0 bk8:=Aci (Abv bk8)
def Ae0(j11:Int→Int→LB→Ef)(j14:Int→Ef)(a:Int)(b:LB):Ef:=
if(Cp (Ac b) 0)then
(Aws b).bind fun(f,k)=>
j11 a f b
else
j14 a
def Oh:Nat→Int→LB→Ef
|0,_,_=>none
|q+1,a,b=>Ae0 (Ab0 (Oh q)) Alq a b
def Ao9:=Oh Am
def Ae8(j8:Int→LB→Ef)(h:LB):Ef:=
if(Cp (Ac h) 4000)then
some (0,38)
else
j8 0 h
def Afz:=Ae8 Ao9
abbrev Bc:=Option (Int×Int×Int×LX×Int)
def Aqi(a:LB)(aa b f h:Int)(ad:LX):Bc:=
(Bp a aa (Ac a)).bind fun aq=>
(Afz aq).bind fun(bb,ar)=>
if(Au ar 0)then
some (0,0,0,([]:LX),38)
else
some (b,f,h,ad,0)
def Agz:=Aqi
def Aso(bk21:Int→Int→LX→Bc)(a:LB)(w:LI)(m b f h o p n g y ab:Int)(ac:LX)(k:LI)(aa aj ak ae:Int)(am ad:LX):Bc:=
if(Au ak 0)then
some (0,0,0,([]:LX),ak)
else
(Ev ad am).bind fun au=>
bk21 (Ad aa aj) (Ad ae 1) au
def Ai2 bk21:=Aso bk21
def Yv(j24:Int→Int→Int→Int→LX→LX→Bc)(j26:LB→Int→Int→Int→Int→LX→Bc)(a:LB)(w:LI)(m b f h o p n g y ab:Int)(ac:LX)(k:LI)(aa ae:Int)(ad:LX):Bc:=
if(Bl ae (Ac w))then
(getI w ae).bind fun _=>
(getI w ae).bind fun aj=>
if(Bl (Ac a) (Ad aa aj))then
some (0,0,0,([]:LX),24)
else
(getI k ae).bind fun _=>
(Bp a aa (Ad aa aj)).bind fun av=>
(getI k ae).bind fun aw=>
(deframe_Decode b f ac aw av).bind fun(am,ak)=>
j24 aa aj ak ae am ad
else
j26 a aa b f h ad
def Mt(a:LB)(w:LI)(m b f h o p n g y ab:Int)(ac:LX)(k:LI):Nat→Int→Int→LX→Bc
|0,_,_,_=>none
|q+1,aa,ae,ad=>Yv (Ai2 (Mt a w m b f h o p n g y ab ac k q) a w m b f h o p n g y ab ac k) Agz a w m b f h o p n g y ab ac k aa ae ad
def Asj a w m b f h o p n g y ab ac k:=Mt a w m b f h o p n g y ab ac k Am
def Xx(j21:LB→LI→Int→Int→Int→Int→Int→Int→Int→Int→Int→Int→LX→LI→Int→Int→LX→Bc)(a u:LB)(m b f h o p n g:Int)(k:LI)(an y ab:Int)(w:LI):Bc:=
if(Au an 0)then
some (0,0,0,([]:LX),an)
else
(Wn u).bind fun(ac,bc)=>
j21 a w m b f h o p n g y ab ac k y 0 ([]:LX)
def Jt:=Xx Asj
def Ah0(j20:LB→LB→Int→Int→Int→Int→Int→Int→Int→Int→LI→Int→Int→Int→LI→Bc)(a u:LB)(v:LI)(m b f h o p n g af:Int)(k:LI):Bc:=
j20 a u m b f h o p n g k 0 (Ad (Ad g (Ax 4 (Ac v))) 4) af v
def Xy:=Ah0 Jt
def Xm(j19:LB→LB→LI→Int→Int→Int→Int→Int→Int→Int→Int→Int→LI→Bc)(bk17:Int→Int→Bc)(v:LI)(a u:LB)(m b f h o p n g:Int)(k:LI)(ag af:Int):Bc:=
if(Bl ag (Ac v))then
(getI v ag).bind fun _=>
(getI v ag).bind fun ax=>
bk17 (Ad ag 1) (Ad af ax)
else
j19 a u v m b f h o p n g af k
def Md(v:LI)(a u:LB)(m b f h o p n g:Int)(k:LI):Nat→Int→Int→Bc
|0,_,_=>none
|q+1,ag,af=>Xm Xy (Md v a u m b f h o p n g k q) v a u m b f h o p n g k ag af
def Aig v a u m b f h o p n g k:=Md v a u m b f h o p n g k Am
def Zm(j20:LB→LB→Int→Int→Int→Int→Int→Int→Int→Int→LI→Int→Int→Int→LI→Bc)(j17:LI→LB→LB→Int→Int→Int→Int→Int→Int→Int→Int→LI→Int→Int→Bc)(al:Int)(a u:LB)(m b f h o p n g ah ai:Int)(v k:LI):Bc:=
if(Au al 0)then
j20 a u m b f h o p n g k al ah ai ([]:LI)
else
j17 v a u m b f h o p n g k 0 (Ad (Ad g (Ax 4 (Ac v))) 4)
def Yz:=Zm Jt Aig
def Ai8(j20:LB→LB→Int→Int→Int→Int→Int→Int→Int→Int→LI→Int→Int→Int→LI→Bc)(j16:Int→LB→LB→Int→Int→Int→Int→Int→Int→Int→Int→Int→Int→LI→LI→Bc)(a u:LB)(m b f h o p n g ah ai:Int)(k:LI):Bc:=
if(Bl (Ac a) g)then
j20 a u m b f h o p n g k 24 ah ai ([]:LI)
else
(Bp a g (Ac a)).bind fun ay=>
(Aca ay (Ac k)).bind fun(v,al)=>
j16 al a u m b f h o p n g ah ai v k
def Re:=Ai8 Jt Yz
def Ys(j15:LB→LB→Int→Int→Int→Int→Int→Int→Int→Int→Int→Int→LI→Bc)(a u:LB)(m b f h o p n g ah ai:Int)(k:LI)(ao:Int):Bc:=
if(Au ao 0)then
some (0,0,0,([]:LX),ao)
else
j15 a u m b f h o p n g ah ai k
def Mf:=Ys Re
def Akl(j14:LB→LB→Int→Int→Int→Int→Int→Int→Int→Int→Int→Int→LI→Int→Bc)(a u:LB):Bc:=
if(Cp (Ac u) 64)then
some (0,0,0,([]:LX),2)
else
(Nc a).bind fun(m,b,f,h,o,p,n,g,ah,ai,k,ap)=>
if(Au ap 0)then
some (0,0,0,([]:LX),ap)
else
if((u==([]:LB)) !=(geq m 1))then
j14 a u m b f h o p n g ah ai k 26
else
if(geq m 1)then
j14 a u m b f h o p n g ah ai k 0
else
if(Bl (Ac a) g)then
j14 a u m b f h o p n g ah ai k 24
else
(Bp a n g).bind fun az=>
(Sp az u).bind fun(ba,bd)=>
if(!ba)then
j14 a u m b f h o p n g ah ai k 26
else
j14 a u m b f h o p n g ah ai k 0
def Jq:=Akl Mf
def Gi(a b:LB):Option Int:=
(Jq a b).bind fun(g,h,k,m,f)=>
some f
abbrev Cj:=Option (Int×Int×Int×Int×Int×Int)
def Aor(a:LB)(k m n o p f g b aa y:Int)(h:LI):Cj:=
if(Bl (Ac a) y)then
some (0,0,0,0,0,24)
else
some (f,g,b,aa,y,0)
def Aes:=Aor
def Ae2(j12:LB→Int→Int→Int→Int→Int→Int→Int→Int→Int→Int→LI→Cj)(a:LB)(k m n o p f g b:Int)(h:LI)(ae aa y:Int):Cj:=
if(Au ae 0)then
some (0,0,0,0,0,ae)
else
j12 a k m n o p f g b aa y h
def Of:=Ae2 Aes
def Ae3(j11:LB→Int→Int→Int→Int→Int→Int→Int→Int→LI→Int→Int→Int→Cj)(a:LB)(u:LI)(k m n o p f g b v:Int)(h:LI):Cj:=
j11 a k m n o p f g b h 0 (Ad (Ad b (Ax 4 (Ac u))) 4) v
def Uv:=Ae3 Of
def Aak(j10:LB→LI→Int→Int→Int→Int→Int→Int→Int→Int→Int→LI→Cj)(bk8:Int→Int→Cj)(u:LI)(a:LB)(k m n o p f g b:Int)(h:LI)(w v:Int):Cj:=
if(Bl w (Ac u))then
(getI u w).bind fun _=>
(getI u w).bind fun ag=>
bk8 (Ad w 1) (Ad v ag)
else
j10 a u k m n o p f g b v h
def Nb(u:LI)(a:LB)(k m n o p f g b:Int)(h:LI):Nat→Int→Int→Cj
|0,_,_=>none
|q+1,w,v=>Aak Uv (Nb u a k m n o p f g b h q) u a k m n o p f g b h w v
def Agu u a k m n o p f g b h:=Nb u a k m n o p f g b h Am
def Ai7(j11:LB→Int→Int→Int→Int→Int→Int→Int→Int→LI→Int→Int→Int→Cj)(j8:LI→LB→Int→Int→Int→Int→Int→Int→Int→Int→LI→Int→Int→Cj)(ab:Int)(a:LB)(k m n o p f g b ac ad:Int)(u h:LI):Cj:=
if(Au ab 0)then
j11 a k m n o p f g b h ab ac ad
else
j8 u a k m n o p f g b h 0 (Ad (Ad b (Ax 4 (Ac u))) 4)
def Ag6:=Ai7 Of Agu
def Ahc(j11:LB→Int→Int→Int→Int→Int→Int→Int→Int→LI→Int→Int→Int→Cj)(j7:Int→LB→Int→Int→Int→Int→Int→Int→Int→Int→Int→Int→LI→LI→Cj)(a:LB):Cj:=
(Nc a).bind fun(k,m,n,o,p,f,g,b,ac,ad,h,af)=>
if(Au af 0)then
some (0,0,0,0,0,af)
else
if(Bl (Ac a) b)then
j11 a k m n o p f g b h 24 ac ad
else
(Bp a b (Ac a)).bind fun ah=>
(Aca ah (Ac h)).bind fun(u,ab)=>
j7 ab a k m n o p f g b ac ad u h
def Aj5:=Ahc Of Ag6
abbrev Ak4:=Option (Int×Int×Int×Int×Int×Int×LI×Int)
def Arq(a:LB)(b f g h k n:Int):Ak4:=
(Lt b f g h k).bind fun(ab,p)=>
if(Au p 0)then
some (0,0,0,0,0,0,([]:LI),p)
else
(Bp a n (Ac a)).bind fun ac=>
(Aca ac (Ac ab)).bind fun(u,v)=>
if(Au v 0)then
some (0,0,0,0,0,0,([]:LI),v)
else
some (b,f,g,h,k,(Ad (Ad n (Ax 4 (Ac u))) 4),u,0)
def Jh:=Arq
def Mj(j2:LB→Int→Int→Int→Int→Int→Int→Ak4)(a o:LB):Ak4:=
if(Cp (Ac o) 64)then
some (0,0,0,0,0,0,([]:LI),2)
else
if(Cp (Ac a) 100000)then
some (0,0,0,0,0,0,([]:LI),4)
else
(Nf a).bind fun(m,w)=>
if(Au w 0)then
some (0,0,0,0,0,0,([]:LI),w)
else
(Bp a m (Ac a)).bind fun ad=>
(Xc ad).bind fun(b,f,g,h,k,y)=>
if(Au y 0)then
some (0,0,0,0,0,0,([]:LI),y)
else
if((o==([]:LB)) !=(geq b 1))then
some (0,0,0,0,0,0,([]:LI),26)
else
if(o !=([]:LB))then
if(Bl (Ac a) (Ad (Ad m 22) 8))then
some (0,0,0,0,0,0,([]:LI),24)
else
(Bp a (Ad m 22) (Ad (Ad m 22) 8)).bind fun ae=>
(Sp ae o).bind fun(af,aa)=>
if(Au aa 0)then
some (0,0,0,0,0,0,([]:LI),aa)
else
if(!af)then
some (0,0,0,0,0,0,([]:LI),26)
else
j2 a b f g h k (Ad (Ad m 22) 8)
else
j2 a b f g h k (Ad m 22)
def seekto_Open:=Mj Jh
abbrev Lq:=Option (Int×Int)
def Aro(k f a b g h:Int):Lq:=
some ((By (Ax (Ax k a) b) 8),0)
def Agk:=Aro
def Aab(j6:Int→Int→Int→Int→Int→Int→Lq)(bk4:Int→Int→Lq)(n f a b g h:Int)(m:LI)(k o:Int):Lq:=
if(Bl o n)then
(getI m o).bind fun _=>
(getI m o).bind fun p=>
bk4 (Ad k p) (Ad o 1)
else
j6 k f a b g h
def Mh(n f a b g h:Int)(m:LI):Nat→Int→Int→Lq
|0,_,_=>none
|q+1,k,o=>Aab Agk (Mh n f a b g h m q) n f a b g h m k o
def Aq2 n f a b g h m:=Mh n f a b g h m Am
def Ag5(j4:Int→Int→Int→Int→Int→Int→LI→Int→Int→Lq)(f a b g h n:Int):Lq:=
(Lt f a b g h).bind fun(m,u)=>
if((Au u 0)||(Cp n (Ac m)))then
some (0,8)
else
j4 n f a b g h m 0 0
def Ac7:=Ag5 Aq2
abbrev Jz:=Option (Int×UInt8×Int×Int×Int)
def Bat:Jz:=
some (0,6,0,0,0)
def Aop:=Bat
def Uu(j6:Jz)(bk4:Int→Int→Jz)(a:Int)(b:LI)(g h k m n o p f:Int):Jz:=
if(Bl f (Ac b))then
(getI b f).bind fun _=>
(getI b f).bind fun v=>
if(Bl a (Ad p v))then
(Ac7 g h k m n f).bind fun(ad,ae)=>
some (0,5,f,ad,ae)
else
bk4 (Ad p v) (Ad f 1)
else
j6
def Kz(a:Int)(b:LI)(g h k m n o:Int):Nat→Int→Int→Jz
|0,_,_=>none
|q+1,p,f=>Uu Aop (Kz a b g h k m n o q) a b g h k m n o p f
def Aox a b g h k m n o:=Kz a b g h k m n o Am
def Uw(j4:Int→LI→Int→Int→Int→Int→Int→Int→Int→Int→Jz)(u w:LB)(a:Int):Jz:=
(Gi u w).bind fun y=>
if(Au y 0)then
some (0,0,0,0,y)
else
if((Bl a 0)||(Km a (Ac u)))then
some (0,0,0,0,2)
else
(Aj5 u).bind fun(af,ag,ah,aa,ai,ab)=>
if(Au ab 0)then
some (0,0,0,0,ab)
else
(seekto_Open u w).bind fun(g,h,k,m,n,o,b,ac)=>
if(Au ac 0)then
some (0,0,0,0,ac)
else
if(Bl a af)then
some (0,1,0,0,0)
else
if(Bl a ag)then
some (0,2,0,0,0)
else
if(Bl a ah)then
some (0,3,0,0,0)
else
if(Bl a aa)then
some (0,4,0,0,0)
else
j4 a b g h k m n o aa 0
def El:=Uw Aox
def Ajj(a:LB):Option (LB):=
(
(Ev ([]:LB) a).bind fun b=>
some b)
def Baf(f:LB)(a:Int)(g:UInt8):Option (LB×Int):=
if(((Bl a 0)||(Km a (Ac f)))||(geq g 0))then
some (([]:LB),2)
else
(Ajj f).bind fun b=>
(getI b a).bind fun _=>
(getI b a).bind fun h=>
(getI b a).bind fun _=>
(If b a (Sr h g)).bind fun k=>
some (k,0)
def La(a n:LB)(b:Int):Option UInt8:=
if(Cp (Ac a) 100000)then
some 0
else
(Nf a).bind fun(f,g)=>
if(Au g 0)then
some 1
else
(Bp a f (Ac a)).bind fun h=>
(Xc h).bind fun(k,o,p,u,v,m)=>
if(Au m 0)then
some 2
else
if(geq b 26)then
if(geq b 26)then
some 3
else
some 4
else
if((geq k 2)&&(Bl (Ah (Ac a) f) 30))then
some 3
else
some 4
abbrev Fc:=Option (LI×Int)
def Awq(f:LI):Fc:=
some (f,0)
def Ajp:=Awq
def Aln(bk6:Int→Int→LI→Fc)(a:LI)(b g h:Int)(k:LI):Fc:=
bk6 (Ad b 1) (Ad g h) k
def Abs bk6:=Aln bk6
def Ta(j8:Int→Int→Int→LI→Fc)(j10:LI→Fc)(a:LI)(b g:Int)(f:LI):Fc:=
if(Bl b (Ac a))then
(getI a b).bind fun h=>
(Ev f ([(Ad g h)]:LI)).bind fun k=>
j8 b g h k
else
j10 f
def Jg(a:LI):Nat→Int→Int→LI→Fc
|0,_,_,_=>none
|q+1,b,g,f=>Ta (Abs (Jg a q) a) Ajp a b g f
def All a:=Jg a Am
def Ab4(j6:LI→Int→Int→LI→Fc)(a:LI):Fc:=
(Lf a).bind fun m=>
if(Au m 0)then
some (([]:LI),m)
else
j6 a 0 0 ([(0:Int)]:LI)
def Acp:=Ab4 All
abbrev Ca:=Option (LB×Int)
def Bay(g:LB):Ca:=
some (g,0)
def Ao0:=Bay
def Aow(bk16:Int→LB→Ca)(b:Int)(a:LX)(f:Int)(h:LB):Ca:=
bk16 (Ad f 1) h
def Aeo bk16:=Aow bk16
def Uy(j28:Int→LB→Ca)(bk26:Int→LB→Ca)(b:Int)(a:LX)(k:Int32)(f m:Int)(h:LB):Ca:=
if(Bl m (By b 8))then
(Hp (Km (Ax 8 m) 0)).bind fun _=>
(Ev h ([(Ae (Bj k (GI.toZ (Ax 8 m)).toNat):UInt8)]:LB)).bind fun p=>
bk26 (Ad m 1) p
else
j28 f h
def Gl(bk16:Int→LB→Ca)(b:Int)(a:LX)(k:Int32)(f:Int):Nat→Int→LB→Ca
|0,_,_=>none
|q+1,m,h=>Uy (Aeo bk16 b a) (Gl bk16 b a k f q) b a k f m h
def Ael bk16 b a k f:=Gl bk16 b a k f Am
def Ae6(j26:Int32→Int→Int→LB→Ca)(b:Int)(a:LX)(f:Int)(g:LB)(k:Int32):Ca:=
j26 k f 0 g
def Im bk16 b a:=Ae6 (Ael bk16 b a) b a
def Uz(j25:Int→LB→Int32→Ca)(j30:LB→Ca)(b:Int)(a:LX)(f:Int)(g:LB):Ca:=
if(Bl f (Ac a))then
(getI a f).bind fun n=>
if(geq b 8)then
j25 f g (Ad n 128)
else
j25 f g n
else
j30 g
def Ei(b:Int)(a:LX):Nat→Int→LB→Ca
|0,_,_=>none
|q+1,f,g=>Uz (Im (Ei b a q) b a) Ao0 b a f g
def Aou b a:=Ei b a Am
def Ah2(j16:Int→LX→Int→LB→Ca)(b:Int)(a:LX):Ca:=
(Qo b a).bind fun o=>
if(Au o 0)then
some (([]:LB),o)
else
j16 b a 0 ([]:LB)
def width_Bytes:=Ah2 Aou
abbrev Dc:=Option (LB×Int)
def Bas(a ac:Int):Dc:=
if(Au ac 0)then
some (([]:LB),ac)
else
if((Bl a 0)||(Km a 0))then
some (([]:LB),2)
else
none
def Aol:=Bas
def Ax5(ad:Int)(ae:LB):Dc:=
some (ae,ad)
def Acb:=Ax5
def Aen(j10:Int→LB→Dc)(w a h b:Int)(aa:LX)(n o p k:Int)(m:LB)(u:LX)(v f g:LI):Dc:=
if(Au w 0)then
j10 w ([]:LB)
else
(width_Bytes b aa).bind fun(ak,al)=>
j10 al ak
def Ae7:=Aen Acb
def Aeu(j10:Int→LB→Dc)(j9:Int→Int→Int→Int→LX→Int→Int→Int→Int→LB→LX→LI→LI→LI→Dc)(a k ab y:Int)(m:LB)(h b:Int)(u:LX)(n o p:Int)(g v f:LI):Dc:=
if(Cp (Ad k y) (Ac m))then
j10 24 ([]:LB)
else
(getI g a).bind fun _=>
(Bp m (Ad k ab) (Ad k y)).bind fun am=>
(getI g a).bind fun an=>
(deframe_Decode h b u an am).bind fun(aa,w)=>
j9 w a h b aa n o p k m u v f g
def Afb:=Aeu Acb Ae7
def Aer(j8:Int→Int→Int→Int→LB→Int→Int→LX→Int→Int→Int→LI→LI→LI→Dc)(a:Int)(g:LI)(n h b o p k:Int)(m:LB)(u:LX)(v f:LI):Dc:=
if(Au (0:Int) (0:Int))then
some (([]:LB),0)
else
if((Bl a 0)||(Km a (Ac g)))then
some (([]:LB),2)
else
(getI f a).bind fun _=>
(getI f (Ad a 1)).bind fun _=>
(getI f a).bind fun ab=>
(getI f (Ad a 1)).bind fun y=>
j8 a k ab y m h b u n o p g v f
def Ok:=Aer Afb
def Aet(j6:Int→Int→Dc)(j7:Int→LI→Int→Int→Int→Int→Int→Int→LB→LX→LI→LI→Dc)(m af:LB)(a:Int):Dc:=
(seekto_Open m af).bind fun(n,h,b,o,p,k,v,ag)=>
if(Au ag 0)then
j6 a ag
else
(Lt n h b o p).bind fun(g,ah)=>
if(Au ah 0)then
j6 a ah
else
(Acp v).bind fun(f,ai)=>
if(Au ai 0)then
j6 a ai
else
(Wn af).bind fun(u,aj)=>
if(Au aj 0)then
j6 a aj
else
(getI f (Ac g)).bind fun _=>
(getI f (Ac g)).bind fun ao=>
j7 a g n h b o p k m u v f
def Zo:=Aet Aol Ok
abbrev Hq:=Option (Int×UInt8×Int×Int×Int)
def Ze(b f g h k m n:Int)(a:LI)(w:Int)(y:UInt8)(aa:Int):Hq:=
(Ac7 f g h k m w).bind fun(ac,ad)=>
some (b,y,aa,ac,ad)
def Qz:=Ze
def Rn(j8:Int→Int→Int→Int→Int→Int→Int→LI→Int→UInt8→Int→Hq)(bk6:Int→Hq)(p o:LB)(a:LI)(b:Int)(u:UInt8)(f g h k m n v:Int):Hq:=
if(Bl v (Ac a))then
if(geq b 0)then
j8 b f g h k m n a (Ac a) u 0
else
(Zo p o v).bind fun(ag,ae)=>
if(Au ae 0)then
j8 b f g h k m n a v 5 v
else
bk6 (Ad v 1)
else
j8 b f g h k m n a (Ac a) u 0
def Jy(p o:LB)(a:LI)(b:Int)(u:UInt8)(f g h k m n:Int):Nat→Int→Hq
|0,_=>none
|q+1,v=>Rn Qz (Jy p o a b u f g h k m n q) p o a b u f g h k m n v
def Ah7 p o a b u f g h k m n:=Jy p o a b u f g h k m n Am
def Aiq(j6:LB→LB→LI→Int→UInt8→Int→Int→Int→Int→Int→Int→Int→Hq)(p o:LB)(b f g h k m n:Int)(a:LI)(u:UInt8):Hq:=
j6 p o a b u f g h k m n 0
def Ahv:=Aiq Ah7
def Aho(j5:LB→LB→Int→Int→Int→Int→Int→Int→Int→LI→UInt8→Hq)(p o:LB):Hq:=
if(Cp (Ac o) 64)then
some (0,0,0,0,2)
else
(Gi p o).bind fun b=>
(seekto_Open p o).bind fun(f,g,h,k,m,n,a,ab)=>
if(Au ab 0)then
(La p o ab).bind fun af=>
some (b,af,0,0,0)
else
if(Au b 0)then
j5 p o b f g h k m n a 6
else
j5 p o b f g h k m n a 0
def Nd:=Aho Ahv
def Dk(a:LB)(b k:Int)(f:UInt8)(g h m:Int):Option Bool:=
(El a ([]:LB) b).bind fun(n,o,p,u,v)=>
(Baf a b 64).bind fun(w,y)=>
(Nd w ([]:LB)).bind fun(aa,ab,ac,ad,ae)=>
if((((Au v 0)||(Au y 0))||(Au ae 0))||(!((geq n k)&&((geq o f)&&((geq p g)&&((geq u h)&&true))))))then
some false
else
some ((geq aa m)&&((geq ab f)&&((geq ac g)&&((geq ad h)&&true))))
def Nk:Option Bool:=
(Ahy).bind fun(a,b)=>
if b then
(Dk a 5 0 2 0 0 22).bind fun f=>
if f then
(Dk a 25 0 4 0 0 22).bind fun g=>
if g then
(Dk a 41 0 5 1 1 22).bind fun h=>
some h
else
some false
else
if false then
(Dk a 41 0 5 1 1 22).bind fun k=>
some k
else
some false
else
if false then
(Dk a 25 0 4 0 0 22).bind fun m=>
if m then
(Dk a 41 0 5 1 1 22).bind fun n=>
some n
else
some false
else
if false then
(Dk a 41 0 5 1 1 22).bind fun o=>
some o
else
some false
def Oi(k:Bool)(o:Int)(n:UInt8)(u b:Int):Option Bool:=
some ((k&&(geq n 0))&&(Cp b 0))
def Fe:=Oi
def Db(j6:Bool→Int→UInt8→Int→Int→Option Bool)(bk4:Int→Int→UInt8→Int→Int→Option Bool)(m p:LB)(k:Bool)(o:Int)(n:UInt8)(u b f ab:Int)(w:UInt8)(y aa:Int):Option Bool:=
if(Bl f (Ac m))then
(El m p f).bind fun(v,g,h,a,ac)=>
if(((((Au ac 0)||(Au v 0))||(Bl g w))||(Bl g 1))||(Cp g 6))then
some false
else
if((geq g 5)&&(geq w 5))then
if((((Bl h y)||(Cp h (Ad y 1)))||((geq h y) !=(geq a aa)))||(Bl a aa))then
if true then
if(true||(Cp a b))then
some false
else
bk4 (Ad f 1) v g h a
else
if(Au g 5)then
if(((Au h 0)||(Au a 0))||(Cp a b))then
some false
else
bk4 (Ad f 1) v g h a
else
if(false||(Cp a b))then
some false
else
bk4 (Ad f 1) v g h a
else
if((geq g 5)&&(Au w 5))then
if((Au h 0)||(Au a 0))then
if(true||(Cp a b))then
some false
else
bk4 (Ad f 1) v g h a
else
if(Au g 5)then
if(((Au h 0)||(Au a 0))||(Cp a b))then
some false
else
bk4 (Ad f 1) v g h a
else
if(false||(Cp a b))then
some false
else
bk4 (Ad f 1) v g h a
else
if false then
if(true||(Cp a b))then
some false
else
bk4 (Ad f 1) v g h a
else
if(Au g 5)then
if(((Au h 0)||(Au a 0))||(Cp a b))then
some false
else
bk4 (Ad f 1) v g h a
else
if(false||(Cp a b))then
some false
else
bk4 (Ad f 1) v g h a
else
if false then
if true then
if(true||(Cp a b))then
some false
else
bk4 (Ad f 1) v g h a
else
if(Au g 5)then
if(((Au h 0)||(Au a 0))||(Cp a b))then
some false
else
bk4 (Ad f 1) v g h a
else
if(false||(Cp a b))then
some false
else
bk4 (Ad f 1) v g h a
else
if((geq g 5)&&(Au w 5))then
if((Au h 0)||(Au a 0))then
if(true||(Cp a b))then
some false
else
bk4 (Ad f 1) v g h a
else
if(Au g 5)then
if(((Au h 0)||(Au a 0))||(Cp a b))then
some false
else
bk4 (Ad f 1) v g h a
else
if(false||(Cp a b))then
some false
else
bk4 (Ad f 1) v g h a
else
if false then
if(true||(Cp a b))then
some false
else
bk4 (Ad f 1) v g h a
else
if(Au g 5)then
if(((Au h 0)||(Au a 0))||(Cp a b))then
some false
else
bk4 (Ad f 1) v g h a
else
if(false||(Cp a b))then
some false
else
bk4 (Ad f 1) v g h a
else
j6 k o n u b
def Ce(m p:LB)(k:Bool)(o:Int)(n:UInt8)(u b:Int):Nat→Int→Int→UInt8→Int→Int→Option Bool
|0,_,_,_,_,_=>none
|q+1,f,ab,w,y,aa=>Db Fe (Ce m p k o n u b q) m p k o n u b f ab w y aa
def Fb m p k o n u b:=Ce m p k o n u b Am
def Ii(j4:LB→LB→Bool→Int→UInt8→Int→Int→Int→Int→UInt8→Int→Int→Option Bool)(m p:LB):Option Bool:=
(Nk).bind fun k=>
if(((Cp (Ac m) 600)||(Cp (Ac p) 64))||(!k))then
some k
else
(Nd m p).bind fun(o,n,u,b,ae)=>
(Gi m p).bind fun ad=>
if((Au ae 0)||(Au o ad))then
some false
else
if(Au ad 0)then
(El m p 0).bind fun(v,g,h,a,ac)=>
some ((k&&(geq ac ad))&&((Au n 0)==(gle (Ac m) 100000)))
else
j4 m p k o n u b 0 0 0 0 0
def Gp:=Ii Fb
def Tr(f g b a h:Int):Option Bool:=
if((((geq f 1)||(geq f 2))&&(Km g 1))&&(gle g 6))then
some ((((((geq b 8)||(geq b 16))||(geq b 24))&&(Km a 1))&&(gle a 1048576))&&(Km h 1))
else
some (((false&&(Km a 1))&&(gle a 1048576))&&(Km h 1))
def Pu(a:Int):Option Int:=
some (Ato 1 (By (Ax 256 a) 245))
def Kj(a:LI):Option (LI):=
some a
def Kg:=Kj
def Gz(j6:LI→Option (LI))(bk4:Int→LI→Option (LI))(b f:Int)(a:LI):Option (LI):=
if(Cp f 0)then
(Pu b).bind fun g=>
(Ev a ([(Da f g)]:LI)).bind fun h=>
(Pu b).bind fun k=>
bk4 (Ah f k) h
else
j6 a
def Dq(b:Int):Nat→Int→LI→Option (LI)
|0,_,_=>none
|q+1,f,a=>Gz Kg (Dq b q) b f a
def Abh b:=Dq b Am
def Aa6(j4:Int→Int→LI→Option (LI))(b m:Int):Option (LI):=
j4 b m ([]:LI)
def Cv:=Aa6 Abh
def Xq(h a k f b:Int):Option Bool:=
(
(Hp (Au a 0)).bind fun _=>
(
if(Cp b (By 4000 a))then
some true
else
(Cv f b).bind fun g=>
some (Cp (Ac g) 1000)))
def Xs(b:Int):Option Int:=
if(Cp b 100000)then
some 8
else
some 0
def Xk:=Xs
def Aa5(bk6:Int→Int→Option Int)(a:LI)(b f:Int):Option Int:=
(getI a f).bind fun g=>
bk6 (Ad b g) (Ad f 1)
def Aa1 bk6:=Aa5 bk6
def Po(j8:Int→Int→Option Int)(j10:Int→Option Int)(a:LI)(b f:Int):Option Int:=
if(Bl f (Ac a))then
(getI a f).bind fun h=>
if(Bl h 5)then
some 8
else
(getI a f).bind fun k=>
if(Cp k 100000)then
some 8
else
j8 b f
else
j10 b
def Gy(a:LI):Nat→Int→Int→Option Int
|0,_,_=>none
|q+1,b,f=>Po (Aa1 (Gy a q) a) Xk a b f
def Aau a:=Gy a Am
def Pa(j6:LI→Int→Int→Option Int)(a:LI):Option Int:=
if((Bl (Ac a) 1)||(Cp (Ac a) 1000))then
some 8
else
j6 a 0 0
def Hj:=Pa Aau
abbrev Eg:=Option (Int×Int)
def Apw(a:Int):Eg:=
some (a,0)
def Apo:=Apw
def Pm(j6:Int→Eg)(bk4:Int→Int→Eg)(b:LB)(a f:Int):Eg:=
if(Bl f 4)then
(getI b f).bind fun g=>
if(Km g 128)then
some (0,12)
else
(getI b f).bind fun h=>
bk4 (Ad (Ax 128 a) (Ae h:Int)) (Ad f 1)
else
j6 a
def Gv(b:LB):Nat→Int→Int→Eg
|0,_,_=>none
|q+1,a,f=>Pm Apo (Gv b q) b a f
def Abi b:=Gv b Am
def Abp(j4:LB→Int→Int→Eg)(b:LB):Eg:=
if(Au (Ac b) 4)then
some (0,2)
else
j4 b 0 0
def Vl:=Abp Abi
abbrev Es:=Option (Int×Int)
def Ado(a:LB)(g:Int):Es:=
if(Cp g 4000)then
some (0,4)
else
if(Bl (Ac a) g)then
some (0,24)
else
(getI a 5).bind fun h=>
if(geq h 16)then
(Bp a (Ah g 10) g).bind fun k=>
(Bp a 3 10).bind fun m=>
(Ev ([51,68,73]:LB) m).bind fun n=>
if(k !=n)then
some (0,12)
else
some (g,0)
else
some (g,0)
def Rh:=Ado
def Aek(j6:LB→Int→Es)(a:LB)(b:Int):Es:=
(getI a 5).bind fun o=>
if(geq o 16)then
j6 a (Ad (Ad 10 b) 10)
else
j6 a (Ad 10 b)
def Rp:=Aek Rh
def Adw(j5:LB→Int→Es)(a:LB):Es:=
if(Bl (Ac a) 10)then
some (0,24)
else
(Bp a 6 10).bind fun p=>
(Vl p).bind fun(b,f)=>
(getI a 3).bind fun u=>
if(Bl u 2)then
if true then
if true then
if(true||(Au f 0))then
some (0,12)
else
j5 a b
else
(getI a 5).bind fun v=>
if(Au v 0)then
(getI a 5).bind fun w=>
if(Au w 16)then
if(true||(Au f 0))then
some (0,12)
else
j5 a b
else
(getI a 3).bind fun y=>
if((Au y 4)||(Au f 0))then
some (0,12)
else
j5 a b
else
if(false||(Au f 0))then
some (0,12)
else
j5 a b
else
(getI a 4).bind fun aa=>
if(Au aa 0)then
if(true||(Au f 0))then
some (0,12)
else
j5 a b
else
(getI a 5).bind fun ab=>
if(Au ab 0)then
(getI a 5).bind fun ac=>
if(Au ac 16)then
if(true||(Au f 0))then
some (0,12)
else
j5 a b
else
(getI a 3).bind fun ad=>
if((Au ad 4)||(Au f 0))then
some (0,12)
else
j5 a b
else
if(false||(Au f 0))then
some (0,12)
else
j5 a b
else
(getI a 3).bind fun ae=>
if(Cp ae 4)then
if true then
if(true||(Au f 0))then
some (0,12)
else
j5 a b
else
(getI a 5).bind fun af=>
if(Au af 0)then
(getI a 5).bind fun ag=>
if(Au ag 16)then
if(true||(Au f 0))then
some (0,12)
else
j5 a b
else
(getI a 3).bind fun ah=>
if((Au ah 4)||(Au f 0))then
some (0,12)
else
j5 a b
else
if(false||(Au f 0))then
some (0,12)
else
j5 a b
else
(getI a 4).bind fun ai=>
if(Au ai 0)then
if(true||(Au f 0))then
some (0,12)
else
j5 a b
else
(getI a 5).bind fun aj=>
if(Au aj 0)then
(getI a 5).bind fun ak=>
if(Au ak 16)then
if(true||(Au f 0))then
some (0,12)
else
j5 a b
else
(getI a 3).bind fun al=>
if((Au al 4)||(Au f 0))then
some (0,12)
else
j5 a b
else
if(false||(Au f 0))then
some (0,12)
else
j5 a b
def Adx:=Adw Rp
def Ad1(j4:LB→Es)(a:LB):Es:=
if(Bl (Ac a) 3)then
some (0,6)
else
(Bp a 0 3).bind fun am=>
if(am !=([73,68,51]:LB))then
some (0,6)
else
j4 a
def Yu:=Ad1 Adx
def Aic(a:UInt64):Option UInt64:=
some a
def Ago:=Aic
def Vi(j6:UInt64→Option UInt64)(bk4:UInt64→Int→Option UInt64)(b:LB)(a:UInt64)(f:Int):Option UInt64:=
if(Km f 0)then
(getI b f).bind fun g=>
bk4 (Ad (Ax 256 a) (Ae g:UInt64)) (Ah f 1)
else
j6 a
def Jw(b:LB):Nat→UInt64→Int→Option UInt64
|0,_,_=>none
|q+1,a,f=>Vi Ago (Jw b q) b a f
def Ag3 b:=Jw b Am
def Ah9(j4:LB→UInt64→Int→Option UInt64)(b:LB):Option UInt64:=
j4 b 0 (Ah (Ac b) 1)
def Cd:=Ah9 Ag3
def Qj(b:LB):Option (Int×Int×Bool):=
(Bp b 12 16).bind fun g=>
(Cd g).bind fun a=>
(Bp b 16 20).bind fun h=>
(Cd h).bind fun f=>
if(((Bl a 32)||(Cp a 3032))||(Cp f 1000))then
some (0,0,false)
else
some ((Ah (Ae a:Int) 32),(Ae f:Int),true)
def Wl(a:LB):Option (LB):=
some a
def Wh:=Wl
def Me(j6:LB→Option (LB))(bk4:UInt64→Int→LB→Option (LB))(b:Int)(f:UInt64)(g:Int)(a:LB):Option (LB):=
if(Bl g b)then
(Ev a ([(Ae (Xg f 256):UInt8)]:LB)).bind fun h=>
bk4 (By f 256) (Ad g 1) h
else
j6 a
def Fl(b:Int):Nat→UInt64→Int→LB→Option (LB)
|0,_,_,_=>none
|q+1,f,g,a=>Me Wh (Fl b q) b f g a
def Wc b:=Fl b Am
def Ww(j4:Int→UInt64→Int→LB→Option (LB))(k:UInt64)(b:Int):Option (LB):=
j4 b k 0 ([]:LB)
def Cr:=Ww Wc
def Mm(a b:Int)(f:UInt64):Option (LB):=
(Cr 2000 4).bind fun g=>
(Ev ([(65:UInt8),(80:UInt8),(69:UInt8),(84:UInt8),(65:UInt8),(71:UInt8),(69:UInt8),(88:UInt8)]:LB) g).bind fun h=>
(Cr (Ae (Ad a 32):UInt64) 4).bind fun k=>
(Ev h k).bind fun m=>
(Cr (Ae b:UInt64) 4).bind fun n=>
(Ev m n).bind fun o=>
(Cr f 4).bind fun p=>
(Ev o p).bind fun u=>
(mkI (8:Int) (0:UInt8)).bind fun v=>
(Ev u v).bind fun w=>
some w
def Qc(a b:Int):Option (LB):=
(Mm a b 2684354560).bind fun f=>
some f
def Ie(a b:Int)(f:Bool):Option (LB):=
if f then
(Mm a b 2147483648).bind fun g=>
some g
else
(Mm a b 0).bind fun h=>
some h
abbrev Hy:=Option (Int×Int)
def Abl(a:LB)(b f:Int):Hy:=
if(Bl (Ac a) (Ad 64 b))then
some (0,24)
else
(Bp a (Ah (Ad 64 b) 32) (Ad 64 b)).bind fun g=>
(Ie b f true).bind fun h=>
if(g !=h)then
some (0,12)
else
some ((Ad 64 b),0)
def Aax:=Abl
def Aav(j4:LB→Int→Int→Hy)(a:LB):Hy:=
if(Bl (Ac a) 32)then
some (0,24)
else
(Bp a 0 32).bind fun k=>
(Qj k).bind fun(b,f,m)=>
if(!m)then
some (0,12)
else
(Bp a 0 32).bind fun n=>
(Qc b f).bind fun o=>
if(n !=o)then
some (0,12)
else
j4 a b f
def Abn:=Aav Aax
def Aa0(j3:LB→Hy)(a:LB):Hy:=
if(Bl (Ac a) 8)then
some (0,6)
else
(Bp a 0 8).bind fun p=>
if(p !=([65,80,69,84,65,71,69,88]:LB))then
some (0,6)
else
j3 a
def Vx:=Aa0 Abn
abbrev Ed:=Option (LI×Int)
def Aat(bk6:Int→LI→Ed)(a:LB)(b:Int)(f:LI)(g h:Int):Ed:=
if(geq h 6)then
some (f,0)
else
if(Au h 0)then
some (([]:LI),h)
else
if(Cp (Ad b g) 4000)then
some (([]:LI),4)
else
(Ev f ([g]:LI)).bind fun m=>
bk6 (Ad b g) m
def Kf bk6:=Aat bk6
def Pp(j9:Int→LI→Int→Int→Ed)(a:LB)(b:Int)(f:LI):Ed:=
(Bp a b (Ac a)).bind fun n=>
(Yu n).bind fun(o,k)=>
if(geq k 6)then
(Bp a b (Ac a)).bind fun p=>
(Vx p).bind fun(u,v)=>
j9 b f u v
else
j9 b f o k
def Ke(a:LB):Nat→Int→LI→Ed
|0,_,_=>none
|q+1,b,f=>Pp (Kf (Ke a q) a) a b f
def Apr a:=Ke a Am
def Apl(j6:LB→Int→LI→Ed)(a:LB):Ed:=
j6 a 0 ([]:LI)
def Agr:=Apl Apr
abbrev Eb:=Option (Int×Int)
def Aaw(a b:Int):Eb:=
some (b,a)
def Aa9:=Aaw
def Pj(j6:Int→Int→Eb)(bk4:Int→Int→Eb)(a:Int)(f:LI)(b g:Int):Eb:=
if(Bl g (Ac f))then
(getI f g).bind fun _=>
(getI f g).bind fun h=>
bk4 (Ad b h) (Ad g 1)
else
j6 a b
def Ha(a:Int)(f:LI):Nat→Int→Int→Eb
|0,_,_=>none
|q+1,b,g=>Pj Aa9 (Ha a f q) a f b g
def Pd a f:=Ha a f Am
def Abg(j4:Int→LI→Int→Int→Eb)(k:LB):Eb:=
(Agr k).bind fun(f,a)=>
j4 a f 0 0
def Jm:=Abg Pd
def Aed(a:UInt32)(b:Bool):Option UInt32:=
if b then
some (Sr (By a 2) 3988292384)
else
some (By a 2)
def Adh:=Aed
def Ac9(j2:UInt32→Bool→Option UInt32)(a:UInt32)(f:Int):Option UInt32:=
if(geq f 1)then
j2 a (!(geq (Xg a 2) 1))
else
j2 a (geq (Xg a 2) 1)
def Zw:=Ac9 Adh
def Adk(a:UInt32):Option UInt32:=
some a
def Ad9:=Adk
def Rb(j6:UInt32→Option UInt32)(bk4:UInt32→UInt8→Int→Option UInt32)(a:UInt32)(b:UInt8)(f:Int):Option UInt32:=
if(Bl f 8)then
(Zw a (Ae (Xg b 2):Int)).bind fun g=>
bk4 g (By b 2) (Ad f 1)
else
j6 a
def Hx:Nat→UInt32→UInt8→Int→Option UInt32
|0,_,_,_=>none
|q+1,a,b,f=>Rb Ad9 (Hx q) a b f
def Asb:=Hx Am
def Ap3(j4:UInt32→UInt8→Int→Option UInt32)(h:UInt32)(k:UInt8):Option UInt32:=
j4 h k 0
def Ajm:=Ap3 Asb
def Zs(a:UInt32):Option UInt32:=
some a
def Xr:=Zs
def Nw(j6:UInt32→Option UInt32)(bk4:UInt32→Int→Option UInt32)(b:LB)(a:UInt32)(f:Int):Option UInt32:=
if(Bl f (Ac b))then
(getI b f).bind fun g=>
(Ajm a g).bind fun h=>
bk4 h (Ad f 1)
else
j6 a
def Ga(b:LB):Nat→UInt32→Int→Option UInt32
|0,_,_=>none
|q+1,a,f=>Nw Xr (Ga b q) b a f
def Xn b:=Ga b Am
def Yx(j4:LB→UInt32→Int→Option UInt32)(k:UInt32)(b:LB):Option UInt32:=
j4 b k 0
def Afs:=Yx Xn
def Og(a:LB):Option UInt32:=
(Afs 4294967295 a).bind fun b=>
some (Ah 4294967295 b)
abbrev Eu:=Option (Int×Int×Int×Int×Int×Int)
def Aeb(k h g f b:UInt64):Eu:=
(Tr (Ae k:Int) (Ae h:Int) (Ae g:Int) (Ae f:Int) (Ae b:Int)).bind fun v=>
if(!v)then
some (0,0,0,0,0,12)
else
(Xq (Ae k:Int) (Ae h:Int) (Ae g:Int) (Ae f:Int) (Ae b:Int)).bind fun w=>
if w then
some (0,0,0,0,0,4)
else
some ((Ae k:Int),(Ae h:Int),(Ae g:Int),(Ae f:Int),(Ae b:Int),0)
def Adm:=Aeb
def Aej(j6:UInt64→UInt64→UInt64→UInt64→UInt64→Eu)(a:LB):Eu:=
(Bp a 4 6).bind fun u=>
(Bp a 6 8).bind fun p=>
(Bp a 8 10).bind fun o=>
(Bp a 10 14).bind fun n=>
(Bp a 14 18).bind fun m=>
(
(Cd u).bind fun k=>
(
(Cd p).bind fun h=>
(
(Cd o).bind fun g=>
(
(Cd n).bind fun f=>
(
(Cd m).bind fun b=>
(
j6 k h g f b))))))
def Ad0:=Aej Adm
def Aec(j5:LB→Eu)(a:LB):Eu:=
if(Bl (Ac a) 22)then
some (0,0,0,0,0,24)
else
(Bp a 18 22).bind fun y=>
(Bp a 0 18).bind fun aa=>
(Cd y).bind fun ab=>
(Og aa).bind fun ac=>
if(Au ab (Ae ac:UInt64))then
some (0,0,0,0,0,22)
else
j5 a
def Adl:=Aec Ad0
def Adg(j4:LB→Eu)(a:LB):Eu:=
(Bp a 0 (Da 4 (Ac a))).bind fun ad=>
(Bp ([84,84,65,49]:LB) 0 (Da 4 (Ac a))).bind fun ae=>
if(ad !=ae)then
some (0,0,0,0,0,12)
else
j4 a
def Lc:=Adg Adl
def Aef(a:UInt64)(b:Bool):Option UInt64:=
if b then
some (Sr (Ax a 2) 4823603603198064275)
else
some (Ax a 2)
def Qw:=Aef
def Adb(j2:UInt64→Bool→Option UInt64)(a:UInt64)(f:Int):Option UInt64:=
if(geq f 1)then
j2 a (!(Km a 9223372036854775808))
else
j2 a (Km a 9223372036854775808)
def Zt:=Adb Qw
def Aea(a:UInt64):Option UInt64:=
some a
def Ac8:=Aea
def Ro(j6:UInt64→Option UInt64)(bk4:UInt64→Int→Option UInt64)(b:UInt8)(a:UInt64)(f:Int):Option UInt64:=
if(Cp f 0)then
(Hp (Au f 0)).bind fun _=>
(Zt a (Fh (By (Ae b:Int) f) 2)).bind fun g=>
bk4 g (By f 2)
else
j6 a
def Ht(b:UInt8):Nat→UInt64→Int→Option UInt64
|0,_,_=>none
|q+1,a,f=>Ro Ac8 (Ht b q) b a f
def Arv b:=Ht b Am
def Aq5(j4:UInt8→UInt64→Int→Option UInt64)(h:UInt64)(b:UInt8):Option UInt64:=
j4 b h 128
def Aj0:=Aq5 Arv
def Zp(a:UInt64):Option UInt64:=
some a
def Aaj:=Zp
def Nz(j6:UInt64→Option UInt64)(bk4:UInt64→Int→Option UInt64)(b:LB)(a:UInt64)(f:Int):Option UInt64:=
if(Bl f (Ac b))then
(getI b f).bind fun g=>
(Aj0 a g).bind fun h=>
bk4 h (Ad f 1)
else
j6 a
def Fw(b:LB):Nat→UInt64→Int→Option UInt64
|0,_,_=>none
|q+1,a,f=>Nz Aaj (Fw b q) b a f
def Ano b:=Fw b Am
def Ant(j4:LB→UInt64→Int→Option UInt64)(k:UInt64)(b:LB):Option UInt64:=
j4 b k 0
def Tf:=Ant Ano
def Ajz(a:LB):Option UInt64:=
(Tf 0 a).bind fun b=>
some b
def Li(a:LB):Option (LB):=
(Ajz a).bind fun b=>
(Cr b 8).bind fun f=>
some f
abbrev Cn:=Option (LI×Int)
def Ac0(f:LI):Cn:=
(Hj f).bind fun h=>
if(Au h 0)then
some (([]:LI),12)
else
some (f,0)
def Rl:=Ac0
def Qn(j8:LI→Cn)(bk6:Int→LI→Cn)(b:LB)(a g:Int)(f:LI):Cn:=
if(Bl g a)then
(Bp b (Ax 4 g) (Ad (Ax 4 g) 4)).bind fun k=>
(Cd k).bind fun m=>
(Ev f ([(Ae m:Int)]:LI)).bind fun n=>
bk6 (Ad g 1) n
else
j8 f
def Hs(b:LB)(a:Int):Nat→Int→LI→Cn
|0,_,_=>none
|q+1,g,f=>Qn Rl (Hs b a q) b a g f
def Adr b a:=Hs b a Am
def Aeg(j6:LB→Int→Int→LI→Cn)(b:LB)(a:Int):Cn:=
j6 b a 0 ([]:LI)
def Ac4:=Aeg Adr
def Ad2(j5:LB→Int→Cn)(b:LB)(a:Int):Cn:=
if((Bl a 1)||(Cp a 1000))then
some (([]:LI),2)
else
if(Bl (Ac b) (Ad (Ax 4 a) 4))then
some (([]:LI),24)
else
(Bp b (Ax 4 a) (Ad (Ax 4 a) 4)).bind fun o=>
(Bp b 0 (Ax 4 a)).bind fun p=>
(Cd o).bind fun u=>
(Og p).bind fun v=>
if(Au u (Ae v:UInt64))then
some (([]:LI),22)
else
j5 b a
def Py:=Ad2 Ac4
def Ajs(b:UInt64)(a:LB):Option (UInt64×Int):=
if(Cp (Ac a) 100000)then
some (0,4)
else
(Tf b a).bind fun f=>
some (f,0)
def Al9(a:LB):Option (UInt64×Int):=
(Ajs 0 a).bind fun(b,f)=>
some (b,f)
def Ath(a:LX):Option (LX):=
some a
def Ati:=Ath
def Agq(bk6:UInt64→Int→LX→Option (LX))(b:UInt64)(f:Int)(a:LX)(g:Int32):Option (LX):=
(getI a f).bind fun _=>
(If a f g).bind fun h=>
bk6 (By b 256) (Ad f 1) h
def Vo bk6:=Agq bk6
def Vj(j8:UInt64→Int→LX→Int32→Option (LX))(j10:LX→Option (LX))(b:UInt64)(f:Int)(a:LX):Option (LX):=
if(Bl f 8)then
if(Cp (Ae (Xg b 256):Int32) 127)then
j8 b f a (Ah (Ae (Xg b 256):Int32) 256)
else
j8 b f a (Ae (Xg b 256):Int32)
else
j10 a
def Hm:Nat→UInt64→Int→LX→Option (LX)
|0,_,_,_=>none
|q+1,b,f,a=>Vj (Vo (Hm q)) Ati b f a
def Au9:=Hm Am
def Aur(j6:UInt64→Int→LX→Option (LX))(k:UInt64):Option (LX):=
j6 k 0 (List.replicate 16 (0:Int32))
def Ao3:=Aur Au9
def Lb(a:LB):Option (LX×Int):=
if(Cp (Ac a) 64)then
some (([(0:Int32),(0:Int32),(0:Int32),(0:Int32),(0:Int32),(0:Int32),(0:Int32),(0:Int32),(0:Int32),(0:Int32),(0:Int32),(0:Int32),(0:Int32),(0:Int32),(0:Int32),(0:Int32)]:LX),2)
else
(Al9 a).bind fun(b,g)=>
(Ao3 b).bind fun f=>
some (f,0)
def Pz(a:Int):Option Int:=
if(geq a 8)then
some 128
else
if(geq a 16)then
some 32768
else
if(geq a 24)then
some 8388608
else
some 0
def Ahf(a b:Int):Option Int:=
if((Bl a 1)||(Cp a 6))then
some 2
else
(Pz b).bind fun f=>
if(geq f 0)then
some 2
else
some 0
def Vg(a f b:Int):Option Int:=
(Ahf a f).bind fun g=>
if((Au g 0)||(Bl b 1))then
some 2
else
(Hp (Au a 0)).bind fun _=>
if(Cp b (By 4000 a))then
some 2
else
some 0
def Ud(b:LB):Option (LB):=
(Og b).bind fun a=>
(Ev ([]:LB) b).bind fun f=>
(Ev f ([(Ae a:UInt8),(Ae (Bj a (GI.toZ (8:UInt64)).toNat):UInt8),(Ae (Bj a (GI.toZ (16:UInt64)).toNat):UInt8),(Ae (Bj a (GI.toZ (24:UInt64)).toNat):UInt8)]:LB)).bind fun g=>
some g
def Ma(a:LB):Option Int:=
if(Bl (Ac a) 5)then
some 24
else
if(Cp (Ac a) 41254)then
some 4
else
(Bp a 0 (Ah (Ac a) 4)).bind fun b=>
(Ud b).bind fun f=>
if(f !=a)then
some 22
else
some 0
def Jp:Option (Int×Int×UInt64×UInt64):=
some (10,10,16384,16384)
def Apc(a:UInt64):Option UInt64:=
some a
def Apn:=Apc
def Oz(j6:UInt64→Option UInt64)(bk4:UInt64→Int→Option UInt64)(b:Int)(a:UInt64)(f:Int):Option UInt64:=
if(Bl f b)then
bk4 (Ax a 2) (Ad f 1)
else
j6 a
def Gw(b:Int):Nat→UInt64→Int→Option UInt64
|0,_,_=>none
|q+1,a,f=>Oz Apn (Gw b q) b a f
def Apu b:=Gw b Am
def Apt(j4:Int→UInt64→Int→Option UInt64)(b:Int):Option UInt64:=
j4 b 1 0
def Ee:=Apt Apu
def Abz(a g:Int)(h k:UInt64)(b:UInt32):Option Bool:=
(Ee a).bind fun f=>
some (Bl (Ae b:UInt64) f)
def Yc(a g:Int)(h k:UInt64)(b:UInt32):Option UInt32:=
(Ee a).bind fun f=>
some (Ae (Ah (Ae b:UInt64) f):UInt32)
abbrev Tm:=Option (Int×UInt64)
def Aei(b:Int)(a f:UInt64):Tm:=
if(Bl b 24)then
(Ee (Ad b 5)).bind fun g=>
if(Cp (Ah (Ad a f) (By a 16)) g)then
some ((Ad b 1),(Ah (Ad a f) (By a 16)))
else
some (b,(Ah (Ad a f) (By a 16)))
else
some (b,(Ah (Ad a f) (By a 16)))
def Qx:=Aei
def Aeh(j2:Int→UInt64→UInt64→Tm)(b:Int)(a f:UInt64):Tm:=
if(Cp b 0)then
(Ee (Ad b 4)).bind fun h=>
if(Bl (Ah (Ad a f) (By a 16)) h)then
some ((Ah b 1),(Ah (Ad a f) (By a 16)))
else
j2 b a f
else
j2 b a f
def Qi:=Aeh Qx
abbrev Ps:=Option (Int×Int×UInt64×UInt64)
def Zr(h:UInt32)(f a:Int)(g b:UInt64)(o:Int)(p:UInt64):Ps:=
(Qi f g (Ae h:UInt64)).bind fun(aa,ab)=>
some (aa,o,ab,p)
def Np:=Zr
def Zz(j2:UInt32→Int→Int→UInt64→UInt64→Int→UInt64→Ps)(f a:Int)(g b:UInt64)(h:UInt32):Ps:=
(Abz f a g b h).bind fun u=>
if(!u)then
(
(
(Yc f a g b h).bind fun k=>
(Qi a b (Ae k:UInt64)).bind fun(m,n)=>
j2 h f a g b m n))
else
j2 h f a g b a b
def Tp:=Zz Np
abbrev Dr:=Option (Int×Int×UInt64×UInt64)
def Am4(a b:Int)(f g:UInt64):Dr:=
some (a,b,f,g)
def Ank:=Am4
def Aal(j6:Int→Int→UInt64→UInt64→Dr)(bk4:Int→Int→Int→UInt64→UInt64→Dr)(h:Int)(k:LU)(m a b:Int)(f g:UInt64):Dr:=
if(Bl m (Ac k))then
(getI k m).bind fun n=>
(Tp a b f g n).bind fun(o,p,u,v)=>
bk4 (Ad m h) o p u v
else
j6 a b f g
def Jc(h:Int)(k:LU):Nat→Int→Int→Int→UInt64→UInt64→Dr
|0,_,_,_,_,_=>none
|q+1,m,a,b,f,g=>Aal Ank (Jc h k q) h k m a b f g
def Anf h k:=Jc h k Am
def Xz(j4:Int→LU→Int→Int→Int→UInt64→UInt64→Dr)(h:Int)(k:LU):Dr:=
(Jp).bind fun(w,y,aa,ab)=>
(Hp (Au h 0)).bind fun _=>
j4 h k (Fh (Ac k) h) w y aa ab
def Ly:=Xz Anf
def Ahe(a:Int):Option Int:=
some (Fh a 2)
def Ahk:=Ahe
def Vn(j6:Int→Option Int)(bk4:Int→Int→Option Int)(b a f:Int):Option Int:=
if(Bl f (Fh b 8))then
bk4 (By a 2) (Ad f 1)
else
j6 a
def Kb(b:Int):Nat→Int→Int→Option Int
|0,_,_=>none
|q+1,a,f=>Vn Ahk (Kb b q) b a f
def Agp b:=Kb b Am
def Agx(j4:Int→Int→Int→Option Int)(g:LB)(k b:Int):Option Int:=
(getI g (By b 8)).bind fun h=>
j4 b (Ae h:Int) 0
def Ij:=Agx Agp
abbrev Cx:=Option (LB×Int)
def Afk(b g a:Int)(f:LB):Cx:=
(getI f (By a 8)).bind fun _=>
(getI f (By a 8)).bind fun m=>
(getI f (By a 8)).bind fun _=>
(If f (By a 8) (Ad m (Ae (Ax b g):UInt8))).bind fun n=>
some (n,(Ad a 1))
def Ua:=Afk
def Tl(j8:Int→Int→Int→LB→Cx)(bk6:Int→Int→Cx)(b a:Int)(f:LB)(g h:Int):Cx:=
if(Bl h (Fh a 8))then
bk6 (Ax g 2) (Ad h 1)
else
j8 b g a f
def Iu(b a:Int)(f:LB):Nat→Int→Int→Cx
|0,_,_=>none
|q+1,g,h=>Tl Ua (Iu b a f q) b a f g h
def Afp b a f:=Iu b a f Am
def Afo(j6:Int→Int→LB→Int→Int→Cx)(b a:Int)(f:LB):Cx:=
j6 b a f 1 0
def Tg:=Afo Afp
def Afg(j5:Int→Int→LB→Cx)(k:LB)(a b:Int):Cx:=
if(geq (Fh a 8) 0)then
(Ev k ([(0:UInt8)]:LB)).bind fun o=>
j5 b a o
else
j5 b a k
def Sy:=Afg Tg
abbrev Cw:=Option (LB×Int)
def Alm(a:Int)(b:LB):Cw:=
some (b,a)
def Alj:=Alm
def Na(j6:Int→LB→Cw)(bk4:Int→Int→LB→Cw)(f:Int)(g:LB)(h k a:Int)(b:LB):Cw:=
if(Bl k f)then
(Ij g h k).bind fun m=>
(Sy b a m).bind fun(n,o)=>
bk4 (Ad k 1) o n
else
j6 a b
def Fk(f:Int)(g:LB)(h:Int):Nat→Int→Int→LB→Cw
|0,_,_,_=>none
|q+1,k,a,b=>Na Alj (Fk f g h q) f g h k a b
def Alp f g h:=Fk f g h Am
def Ami(j4:Int→LB→Int→Int→Int→LB→Cw)(g:LB)(h p f:Int):Cw:=
j4 f g h p 0 ([]:LB)
def Ade:=Ami Alp
def Apx(a:UInt64):Option UInt64:=
some a
def Ape:=Apx
def Pg(j6:UInt64→Option UInt64)(bk4:UInt64→Int→Option UInt64)(b:Int)(f:LB)(g:Int)(a:UInt64)(h:Int):Option UInt64:=
if(Km h 0)then
(Ij f g (Ad b h)).bind fun k=>
bk4 (Ad (Ax 2 a) (Ae k:UInt64)) (Ah h 1)
else
j6 a
def Hb(b:Int)(f:LB)(g:Int):Nat→UInt64→Int→Option UInt64
|0,_,_=>none
|q+1,a,h=>Pg Ape (Hb b f g q) b f g a h
def Abc b f g:=Hb b f g Am
def Abe(j4:Int→LB→Int→UInt64→Int→Option UInt64)(f:LB)(g b m:Int):Option UInt64:=
j4 b f g 0 (Ah m 1)
def Nv:=Abe Abc
abbrev Fi:=Option (Int×Int)
def Afm(b a:Int)(g:LB)(f:Int):Fi:=
if(geq a 48)then
some (a,(Ad b a))
else
if(Km (Ad b a) f)then
some ((-1:Int),0)
else
some (a,(Ad (Ad b a) 1))
def Ty:=Afm
def Tt(j6:Int→Int→LB→Int→Fi)(bk4:Int→Fi)(b:Int)(g:LB)(f a:Int):Fi:=
if((Bl (Ad b a) f)&&(Bl a 48))then
(Ij g f (Ad b a)).bind fun h=>
if(geq h 1)then
bk4 (Ad a 1)
else
j6 b a g f
else
j6 b a g f
def Is(b:Int)(g:LB)(f:Int):Nat→Int→Fi
|0,_=>none
|q+1,a=>Tt Ty (Is b g f q) b g f a
def Atp b g f:=Is b g f Am
def Atk(j4:Int→LB→Int→Int→Fi)(g:LB)(f b:Int):Fi:=
j4 b g f 0
def Al2:=Atk Atp
def Aah(b:UInt32)(f:Int):Option Int:=
(Ee f).bind fun a=>
(Hp (Au a 0)).bind fun _=>
some (Ae (Da 48 (By (Ae b:UInt64) a)):Int)
abbrev Vz:=Option (UInt32×Int×Int)
def Tq(g a b:Int)(h:LB)(f k:Int):Vz:=
if((Bl a 0)||(Bl (Ah f b) k))then
some (0,0,24)
else
(Nv h f b k).bind fun m=>
if(Bl a 48)then
(Ee g).bind fun o=>
some ((Ae (Ad (Ax (Ae a:UInt64) o) m):UInt32),(Ad b k),0)
else
(Aah (Ae m:UInt32) g).bind fun p=>
if(Bl p a)then
some (0,0,12)
else
some ((Ae m:UInt32),(Ad b k),0)
def Tk:=Tq
def Afh(j2:Int→Int→Int→LB→Int→Int→Vz)(h:LB)(f n g:Int):Vz:=
if(Km n f)then
some (0,0,24)
else
(Al2 h f n).bind fun(a,b)=>
if(geq a 48)then
j2 g a b h f 32
else
j2 g a b h f g
def Aby:=Afh Tk
def Ab6(g:LB)(b a f n:Int)(v w:UInt64):Option (UInt32×Int×Int):=
if(Km a b)then
some (0,0,24)
else
(Ij g b a).bind fun o=>
if(geq o 0)then
if(Bl (Ah (Ah b a) 1) f)then
some (0,0,24)
else
(Nv g b (Ad a 1) f).bind fun p=>
some ((Ae p:UInt32),(Ad (Ad a 1) f),0)
else
(Aby g b (Ad a 1) n).bind fun(h,u,k)=>
if(Au k 0)then
some (0,0,k)
else
(Ee f).bind fun m=>
if(Cp (Ad (Ae h:UInt64) m) 4294967295)then
some (0,0,12)
else
some ((Ae (Ad (Ae h:UInt64) m):UInt32),u,0)
abbrev Ay:=Option (LU×Int)
def Apj(b:LU):Ay:=
some (b,0)
def Apy:=Apj
def Pk(j18:LU→Ay)(bk16:Int→Ay)(a:LB)(b:LU)(m:Int):Ay:=
if(Bl m (Ax 8 (Ac a)))then
(Ij a (Ax 8 (Ac a)) m).bind fun n=>
if(Au n 0)then
some (b,12)
else
bk16 (Ad m 1)
else
j18 b
def Gu(a:LB)(b:LU):Nat→Int→Ay
|0,_=>none
|q+1,m=>Pk Apy (Gu a b q) a b m
def Abd a b:=Gu a b Am
def Aay(j16:LB→LU→Int→Ay)(f:Int)(a:LB)(b:LU):Ay:=
if(Cp (Ah (Ax 8 (Ac a)) f) 7)then
some (b,12)
else
j16 a b f
def Pe:=Aay Abd
def Aba(bk10:Int→Int→LU→Ay)(g h:Int)(a:LB)(f k:Int)(b:LU)(o p:Int)(u v:UInt64):Ay:=
(Ade a (Ax 8 (Ac a)) f (Da (Ad f 81) (Ax 8 (Ac a)))).bind fun(y,aa)=>
(Ab6 y aa 0 o p u v).bind fun(ab,ac,w)=>
if(Au w 0)then
some (b,w)
else
(Ev b ([ab]:LU)).bind fun ad=>
bk10 (Ad f ac) (Ad k 1) ad
def Hc bk10:=Aba bk10
def Aa2(j13:Int→Int→LU→Int→Int→UInt64→UInt64→Ay)(j15:Int→LB→LU→Ay)(g h:Int)(a:LB)(f k:Int)(b:LU):Ay:=
if(Bl k (Ax h g))then
(Jp).bind fun(n,ae,af,ag)=>
if(Km k g)then
(Ly g b).bind fun(ah,ai,aj,ak)=>
j13 f k b ah ai aj ak
else
j13 f k b n ae af ag
else
j15 f a b
def Dn(g h:Int)(a:LB):Nat→Int→Int→LU→Ay
|0,_,_,_=>none
|q+1,f,k,b=>Aa2 (Hc (Dn g h a q) g h a) Pe g h a f k b
def Apq g h a:=Dn g h a Am
def Ad8(j10:Int→Int→LB→Int→Int→LU→Ay)(g h:Int)(a:LB):Ay:=
j10 g h a 0 0 ([]:LU)
def Aad:=Ad8 Apq
def Avv(a:Int):Option (Int×Int):=
if(geq a 8)then
some (4,0)
else
if((geq a 16)||(geq a 24))then
some (5,0)
else
some (0,2)
def Ayb(a:Int)(b:LX):Option (Int×LX×LX×Int):=
(Avv a).bind fun(g,f)=>
if(Au f 0)then
some (0,(List.replicate 16 (0:Int32)),(List.replicate 16 (0:Int32)),2)
else
if(geq a 16)then
some (9,b,(List.replicate 16 (0:Int32)),0)
else
some (10,b,(List.replicate 16 (0:Int32)),0)
def Amn(a:Int)(b:LX):Option (Int×Int32×Int×LX×LX×Int):=
(Ayb a b).bind fun(f,g,h,k)=>
if(Au k 0)then
some (0,0,0,(List.replicate 16 (0:Int32)),(List.replicate 16 (0:Int32)),2)
else
some (a,0,f,g,h,0)
def Zn(a:UInt32):Option Int32:=
if(geq (Xg a 2) 0)then
some (Ae (By a 2):Int32)
else
some (Ae (By (Axk (Ad (Ae a:Int) 1)) 2):Int32)
def Bs(a:Int):Option Int32:=
some (Ae (Ae (Ae a:UInt64):UInt32):Int32)
def Afl(a:Int):Option Int32:=
some (Ae a:Int32)
def Afn:=Afl
def Ts(j6:Int→Option Int32)(bk4:Int→Int→Option Int32)(h:Int)(f g:LX)(a b:Int):Option Int32:=
if(Bl b 16)then
(getI f b).bind fun _=>
(getI g b).bind fun _=>
(getI f b).bind fun k=>
(getI g b).bind fun m=>
(Bs (Ax (Ae k:Int) (Ae m:Int))).bind fun n=>
(Bs (Ad a (Ae n:Int))).bind fun o=>
bk4 (Ae o:Int) (Ad b 1)
else
j6 a
def It(h:Int)(f g:LX):Nat→Int→Int→Option Int32
|0,_,_=>none
|q+1,a,b=>Ts Afn (It h f g q) h f g a b
def Atl h f g:=It h f g Am
def Atf(j4:Int→LX→LX→Int→Int→Option Int32)(h:Int)(f g:LX):Option Int32:=
j4 h f g 0 0
def Amg:=Atf Atl
def Ad7(b:Int)(f g:LX)(a:Int):Option Int32:=
(Amg b f g).bind fun k=>
(Bs (Ad (Ae k:Int) (By a 2))).bind fun h=>
(Hp (Au a 0)).bind fun _=>
(Hp (Au a 0)).bind fun _=>
if(Bl (Fh (Ae h:Int) a) 0)then
some (Ae (Ah (By (Ae h:Int) a) 1):Int32)
else
some (Ae (By (Ae h:Int) a):Int32)
def Rs:=Ad7
def Aee(j2:Int→LX→LX→Int→Option Int32)(b:Int)(f g:LX):Option Int32:=
if(geq b 9)then
j2 b f g 512
else
j2 b f g 1024
def Yb:=Aee Rs
def Aag(a:Int):Option Int32:=
if(geq a 0)then
some 4
else
if(gle a 3)then
some 2
else
some 1
def Qk(a:Int32):Option Int32:=
if(Bl a 0)then
some (-1:Int32)
else
if(Cp a 0)then
some 1
else
some 0
abbrev Cz:=Option (Int×LX×LX)
def Amm(g:Int)(b a:LX):Cz:=
some (g,b,a)
def Ala:=Amm
def Mi(j6:Int→LX→LX→Cz)(bk4:Int→LX→Cz)(h:Int32)(g:Int)(a:LX)(f:Int)(b:LX):Cz:=
if(Bl f 16)then
(getI b f).bind fun _=>
(getI a f).bind fun _=>
(getI b f).bind fun k=>
(getI a f).bind fun m=>
(Aag f).bind fun n=>
(Qk m).bind fun o=>
(Qk h).bind fun p=>
(getI b f).bind fun _=>
(If b f (Ad k (Ax (Ax n o) p))).bind fun u=>
bk4 (Ad f 1) u
else
j6 g b a
def Fp(h:Int32)(g:Int)(a:LX):Nat→Int→LX→Cz
|0,_,_=>none
|q+1,f,b=>Mi Ala (Fp h g a q) h g a f b
def Amc h g a:=Fp h g a Am
def Alz(j4:Int32→Int→LX→Int→LX→Cz)(g:Int)(v a:LX)(h:Int32):Cz:=
j4 h g a 0 v
def Ady:=Alz Amc
abbrev Dp:=Option (Int×LX×LX)
def Zu(b:Int32)(f:Int)(g a:LX):Dp:=
(getI a 0).bind fun _=>
(If a 0 b).bind fun k=>
some (f,g,k)
def Zk:=Zu
def Nq(j6:Int32→Int→LX→LX→Dp)(bk4:Int→LX→Dp)(b:Int32)(f:Int)(g:LX)(h:Int)(a:LX):Dp:=
if(Cp h 0)then
(getI a (Ah h 1)).bind fun _=>
(getI a (Ah h 1)).bind fun m=>
(getI a h).bind fun _=>
(If a h m).bind fun n=>
bk4 (Ah h 1) n
else
j6 b f g a
def Gb(b:Int32)(f:Int)(g:LX):Nat→Int→LX→Dp
|0,_,_=>none
|q+1,h,a=>Nq Zk (Gb b f g q) b f g h a
def Amz b f g:=Gb b f g Am
def Ane(j4:Int32→Int→LX→Int→LX→Dp)(f:Int)(g o:LX)(b:Int32):Dp:=
j4 b f g 15 o
def Afd:=Ane Amz
def Qu(a:Int)(b f:LX)(g:Int32):Option (Int32×Int×LX×LX):=
(Yb a b f).bind fun k=>
(Bs (Ad (Ae g:Int) (Ae k:Int))).bind fun h=>
(Ady a b f g).bind fun(m,n,o)=>
(Afd m n o h).bind fun(p,u,v)=>
some (h,p,u,v)
def Xu(b:Int32)(a:Int):Option Int32:=
(Hp (Au a 0)).bind fun _=>
(Hp (Au a 0)).bind fun _=>
if(Bl (Fh (Ax (Ah a 1) (Ae b:Int)) a) 0)then
some (Ae (Ah (By (Ax (Ah a 1) (Ae b:Int)) a) 1):Int32)
else
some (Ae (By (Ax (Ah a 1) (Ae b:Int)) a):Int32)
def Oc:=Xu
def Zj(j2:Int32→Int→Option Int32)(f:Int)(b:Int32):Option Int32:=
if(geq f 5)then
j2 b 32
else
j2 b 16
def Lz:=Zj Oc
def Uc(b:Int)(a:Int32)(h:Int)(k m:LX):Option Int:=
if(geq b 8)then
(Lz 4 a).bind fun f=>
some (Ae f:Int)
else
(Lz 5 a).bind fun g=>
some (Ae g:Int)
def Sd(a:Int)(k:Int32)(b:Int)(f g:LX)(m:Int32):Option (Int32×Int×Int32×Int×LX×LX):=
(Qu b f g m).bind fun(n,o,p,u)=>
(Uc a k b f g).bind fun v=>
(Bs (Ad (Ae n:Int) v)).bind fun h=>
some (h,a,h,o,p,u)
def Oa(a:Int)(b:LX):Option Int:=
if((Bl a 1)||(Cp a 6))then
some 2
else
if(Cp (Ac b) 4000)then
some 4
else
(Hp (Au a 0)).bind fun _=>
if(Cp (Fh (Ac b) a) 0)then
some 2
else
some 0
def Ame(b:LX):Option (LX):=
some b
def Ali:=Ame
def Mr(j8:LX→Option (LX))(bk6:Int→LX→Option (LX))(a:LX)(f:Int)(b:LX):Option (LX):=
if(Km f 0)then
(getI b (Ad f 1)).bind fun _=>
(getI a f).bind fun m=>
(getI b (Ad f 1)).bind fun n=>
(Bs (Ah (Ae n:Int) (Ae m:Int))).bind fun o=>
(getI b f).bind fun _=>
(If b f o).bind fun p=>
bk6 (Ah f 1) p
else
j8 b
def Fm(a:LX):Nat→Int→LX→Option (LX)
|0,_,_=>none
|q+1,f,b=>Mr Ali (Fm a q) a f b
def Alc a:=Fm a Am
def Wu(j6:LX→Int→LX→Option (LX))(a g:LX):Option (LX):=
j6 a (Ah (Ac a) 2) g
def Mw:=Wu Alc
def Ws(j5:LX→LX→Option (LX))(a:LX):Option (LX):=
(mkI (Ac a) (0:Int32)).bind fun k=>
(Hp (geq (Ac a) (Ac a))).bind fun _=>
(getI a (Ah (Ac a) 1)).bind fun u=>
(getI k (Ah (Ac a) 1)).bind fun _=>
(If k (Ah (Ac a) 1) u).bind fun h=>
if(Cp (Ac a) 1)then
(getI a (Ah (Ac a) 1)).bind fun v=>
(getI a (Ah (Ac a) 2)).bind fun w=>
(Bs (Ad (Ae v:Int) (By (Ae w:Int) 2))).bind fun y=>
(getI h (Ah (Ac a) 1)).bind fun _=>
(If h (Ah (Ac a) 1) y).bind fun aa=>
j5 a aa
else
j5 a h
def Rw:=Ws Mw
abbrev Ep:=Option (LX×Int)
def Ars(f:LX):Ep:=
some (f,0)
def Asl:=Ars
def Adc(j6:LX→Ep)(bk4:Int→LX→Ep)(a:Int)(b:LX)(g:Int)(f:LX):Ep:=
if(Bl g (Ac b))then
(Bp b g (Ad g a)).bind fun h=>
(Rw h).bind fun k=>
(Ev f k).bind fun m=>
bk4 (Ad g a) m
else
j6 f
def Lh(a:Int)(b:LX):Nat→Int→LX→Ep
|0,_,_=>none
|q+1,g,f=>Adc Asl (Lh a b q) a b g f
def Aqp a b:=Lh a b Am
def Ad3(j4:Int→LX→Int→LX→Ep)(a:Int)(b:LX):Ep:=
(Oa a b).bind fun n=>
if(Au n 0)then
(Oa a b).bind fun o=>
some (([]:LX),o)
else
j4 a b 0 ([]:LX)
def Zh:=Ad3 Aqp
def Xe(a f:Int)(w:LX):Option (LX):=
(Zh a w).bind fun(aj,ai)=>
some aj
def Mq:=Xe
def Wi(bk18:Int→LX→Option (LX))(b:LU)(a f:Int)(g:LX)(h:Int)(m:LX):Option (LX):=
bk18 (Ad h 1) m
def Wz bk18:=Wi bk18
def Wm(bk26:Int→LX→Int→Int32→Int→LX→LX→Option (LX))(b:LU)(h a f:Int)(g:LX)(k:Int)(af:LX)(y:Int)(aa:Int32)(ab:Int)(ac ad:LX):Option (LX):=
bk26 (Ad k a) af y aa ab ac ad
def Wj bk26:=Wm bk26
def Wr(j30:Int→LX→Int→Int32→Int→LX→LX→Option (LX))(b:LU)(h a f:Int)(g:LX)(k:Int)(ae:Int32)(m:LX)(n:Int)(o:Int32)(p:Int)(u v:LX)(y:Int)(aa:Int32)(ab:Int)(ac ad:LX):Option (LX):=
(getI m k).bind fun _=>
(If m k ae).bind fun af=>
j30 k af y aa ab ac ad
def Xd bk26 b h a f g:=Wr (Wj bk26 b h a f g) b h a f g
def Xa(j29:Int→Int32→LX→Int→Int32→Int→LX→LX→Int→Int32→Int→LX→LX→Option (LX))(j32:Int→LX→Option (LX))(b:LU)(a f:Int)(g:LX)(h k:Int)(m:LX)(n:Int)(o:Int32)(p:Int)(u v:LX):Option (LX):=
if(Bl k (Ac b))then
(getI b k).bind fun ah=>
(
(Zn ah).bind fun ag=>
(
(Sd n o p u v ag).bind fun(ae,y,aa,ab,ac,ad)=>
j29 k ae m n o p u v y aa ab ac ad))
else
j32 h m
def Ic(bk18:Int→LX→Option (LX))(b:LU)(a f:Int)(g:LX)(h:Int):Nat→Int→LX→Int→Int32→Int→LX→LX→Option (LX)
|0,_,_,_,_,_,_,_=>none
|q+1,k,m,n,o,p,u,v=>Xa (Xd (Ic bk18 b a f g h q) b h a f g) (Wz bk18 b a f g) b a f g h k m n o p u v
def Wy bk18 b a f g h:=Ic bk18 b a f g h Am
def Ml(j26:Int→Int→LX→Int→Int32→Int→LX→LX→Option (LX))(j34:Int→Int→LX→Option (LX))(b:LU)(a f:Int)(g:LX)(h:Int)(w:LX):Option (LX):=
if(Bl h a)then
(Amn f g).bind fun(ak,ai,al,am,an,aq)=>
j26 h h w ak ai al am an
else
j34 a f w
def Dy(b:LU)(a f:Int)(g:LX):Nat→Int→LX→Option (LX)
|0,_,_=>none
|q+1,h,w=>Ml (Wy (Dy b a f g q) b a f g) Mq b a f g h w
def Wx b a f g:=Dy b a f g Am
def Aap(j18:LU→Int→Int→LX→Int→LX→Option (LX))(a f:Int)(g:LX)(b:LU):Option (LX):=
(mkI (Ac b) (0:Int32)).bind fun ao=>
(Hp (geq (Ac b) (Ac b))).bind fun _=>
j18 b a f g 0 ao
def Lw:=Aap Wx
def Aps:Option Int:=
some 0
def Apz:=Aps
def Ex(j6:Option Int)(bk4:Int→Option Int)(a:LX)(b f:Int):Option Int:=
if(Bl f (Ac a))then
(getI a f).bind fun g=>
if(Bl (Ae g:Int) (Axk b))then
some 16
else
(getI a f).bind fun h=>
if(Km (Ae h:Int) b)then
some 16
else
bk4 (Ad f 1)
else
j6
def Bt(a:LX)(b:Int):Nat→Int→Option Int
|0,_=>none
|q+1,f=>Ex Apz (Bt a b q) a b f
def Aph a b:=Bt a b Am
def Kh(j4:LX→Int→Int→Option Int)(k:Int)(a:LX):Option Int:=
(Pz k).bind fun b=>
if(geq b 0)then
some 2
else
if(Cp (Ac a) 4000)then
some 4
else
j4 a b 0
def cadenzaref18_Check:=Kh Aph
def Ub(g f:Int)(a:LX):Option (LX×Int):=
(cadenzaref18_Check f a).bind fun b=>
if(Au b 0)then
some (([]:LX),b)
else
some (a,0)
abbrev Pr:=Option (LX×Int)
def Oe(f a b:Int)(g:LX)(h:LU):Pr:=
if(Au f 0)then
some (([]:LX),f)
else
(
(
(Lw a b g h).bind fun m=>
(Ub a b m).bind fun(n,o)=>
some (n,o)))
def Nm:=Oe
def Yw(j2:Int→Int→Int→LX→LU→Pr)(a b:Int)(g:LX)(p:Int)(k:LB):Pr:=
(Vg a b p).bind fun y=>
if(Au y 0)then
some (([]:LX),2)
else
(Ma k).bind fun aa=>
if(Au aa 0)then
(Ma k).bind fun ab=>
some (([]:LX),ab)
else
(Bp k 0 (Ah (Ac k) 4)).bind fun ac=>
(Aad a p ac).bind fun(h,f)=>
j2 f a b g h
def cadenzaref21_Decode:=Yw Nm
def To(a b:Int):Option (LB):=
if(geq a 24)then
(Ev ([(Ae (Fh b 256):UInt8),(Ae (Fh (By b 256) 256):UInt8)]:LB) ([(Ae (By b 65536):UInt8)]:LB)).bind fun g=>
some g
else
some ([(Ae (Fh b 256):UInt8),(Ae (Fh (By b 256) 256):UInt8)]:LB)
def Iq:=To
def Afi(j2:Int→Int→Option (LB))(a:Int)(f:Int32):Option (LB):=
if(geq a 8)then
some ([(Ae (Ad (Ae f:Int) 128):UInt8)]:LB)
else
if(Bl (Ae f:Int) 0)then
(Pz a).bind fun h=>
j2 a (Ad (Ae f:Int) (Ax 2 h))
else
j2 a (Ae f:Int)
def Acg:=Afi Iq
abbrev Ec:=Option (LB×Int)
def Apf(b:LB):Ec:=
some (b,0)
def Apm:=Apf
def Pc(j6:LB→Ec)(bk4:Int→LB→Ec)(f:Int)(a:LX)(g:Int)(b:LB):Ec:=
if(Bl g (Ac a))then
(getI a g).bind fun h=>
(Acg f h).bind fun k=>
(Ev b k).bind fun m=>
bk4 (Ad g 1) m
else
j6 b
def Gt(f:Int)(a:LX):Nat→Int→LB→Ec
|0,_,_=>none
|q+1,g,b=>Pc Apm (Gt f a q) f a g b
def Apd f a:=Gt f a Am
def Abm(j4:Int→LX→Int→LB→Ec)(f:Int)(a:LX):Ec:=
(cadenzaref18_Check f a).bind fun n=>
if(Au n 0)then
(cadenzaref18_Check f a).bind fun o=>
some (([]:LB),o)
else
j4 f a 0 ([]:LB)
def Vy:=Abm Apd
abbrev Et:=Option (Int×Int)
def Se(a:LB)(f g:Int)(b h:LB)(k:Int):Et:=
if(Bl (Ac a) k)then
some (0,24)
else
if(b==h)then
(Bp a (Ah (Ac a) k) (Ad (Ah (Ac a) k) 32)).bind fun o=>
(Qc f g).bind fun p=>
if(o !=p)then
some (0,12)
else
some (k,0)
else
some (k,0)
def Rt:=Se
def Qq(j6:LB→Int→Int→LB→LB→Int→Et)(a:LB)(f g:Int)(b h:LB):Et:=
if(b==h)then
j6 a f g b h (Ad (Ad 32 f) 32)
else
j6 a f g b h (Ad 32 f)
def Rk:=Qq Rt
def Adi(j5:LB→Int→Int→LB→LB→Et)(a:LB):Et:=
(Bp a (Ah (Ac a) 32) (Ac a)).bind fun b=>
(Qj b).bind fun(f,g,n)=>
if(!n)then
some (0,12)
else
(Ie f g true).bind fun h=>
(
if(!(b==h))then
(Ie f g false).bind fun m=>
if(b !=m)then
some (0,12)
else
j5 a f g b h
else
j5 a f g b h)
def Adu:=Adi Rk
def Ad6(j4:LB→Et)(a:LB):Et:=
if(Bl (Ac a) 32)then
some (0,6)
else
(Bp a (Ah (Ac a) 32) (Ad (Ah (Ac a) 32) 8)).bind fun u=>
if(u !=([65,80,69,84,65,71,69,88]:LB))then
some (0,6)
else
j4 a
def Ym:=Ad6 Adu
abbrev Dl:=Option (Int×Int)
def An9(a:Int):Dl:=
some (a,0)
def Anx:=An9
def Xw(j6:Int→Dl)(bk4:LB→Int→Dl)(b:LB)(a:Int):Dl:=
if(Cp (Ac b) 0)then
(Ym b).bind fun(g,h)=>
if(Au h 0)then
some (0,38)
else
(Bp b 0 (Ah (Ac b) g)).bind fun k=>
bk4 k (Ad a 1)
else
j6 a
def Ja:Nat→LB→Int→Dl
|0,_,_=>none
|q+1,b,a=>Xw Anx (Ja q) b a
def Am0:=Ja Am
def Zx(j4:LB→Int→Dl)(f:LB):Dl:=
if(Cp (Ac f) 4000)then
some (0,38)
else
j4 f 0
def Tj:=Zx Am0
abbrev Hg:=Option (Int×Int×Int×Int×Int×Int×LI×Int)
def Aam(m n b h k f g:Int)(o:LI):Hg:=
if(Au n 0)then
some (0,0,0,0,0,0,([]:LI),n)
else
some (b,h,k,f,g,(Ad (Ad m (Ax 4 (Ac o))) 4),o,0)
def Zf:=Aam
def Aan(j4:Int→Int→Int→Int→Int→Int→Int→LI→Hg)(a:LB)(b h k f g m:Int):Hg:=
(Bp a m (Ac a)).bind fun y=>
(Cv f g).bind fun aa=>
(Py y (Ac aa)).bind fun(o,n)=>
j4 m n b h k f g o
def Iy:=Aan Zf
def Iv(j3:LB→Int→Int→Int→Int→Int→Int→Hg)(a u:LB):Hg:=
if(Cp (Ac a) 100000)then
some (0,0,0,0,0,0,([]:LI),4)
else
(Jm a).bind fun(p,v)=>
if(Au v 0)then
some (0,0,0,0,0,0,([]:LI),v)
else
(Bp a p (Ac a)).bind fun ab=>
(Lc ab).bind fun(b,h,k,f,g,w)=>
if(Au w 0)then
some (0,0,0,0,0,0,([]:LI),w)
else
if((u==([]:LB)) !=(geq b 1))then
some (0,0,0,0,0,0,([]:LI),26)
else
if(geq b 2)then
if(Bl (Ah (Ac a) (Ad p 22)) 8)then
some (0,0,0,0,0,0,([]:LI),24)
else
(Bp a (Ad p 22) (Ad (Ad p 22) 8)).bind fun ac=>
(Li u).bind fun ad=>
if(ac !=ad)then
some (0,0,0,0,0,0,([]:LI),26)
else
j3 a b h k f g (Ad (Ad p 22) 8)
else
j3 a b h k f g (Ad p 22)
def cadenzaref40_Opened:=Iv Iy
def Apv(a:Int):Option Int:=
some a
def Ap0:=Apv
def Pf(j6:Int→Option Int)(bk4:Int→Int→Option Int)(b h k m n o f:Int)(g:LI)(a p:Int):Option Int:=
if(Bl p b)then
(getI g p).bind fun u=>
bk4 (Ad a u) (Ad p 1)
else
j6 a
def Gx(b h k m n o f:Int)(g:LI):Nat→Int→Int→Option Int
|0,_,_=>none
|q+1,a,p=>Pf Ap0 (Gx b h k m n o f g q) b h k m n o f g a p
def Apg b h k m n o f g:=Gx b h k m n o f g Am
def Ap1(j4:Int→Int→Int→Int→Int→Int→Int→LI→Int→Int→Option Int)(h k m n o f:Int)(g:LI)(b:Int):Option Int:=
j4 b h k m n o f g f 0
def Agn:=Ap1 Apg
abbrev Vt:=Option (LB×Int)
def Tw(p:LX)(m n g b h k o:Int)(a:LI):Vt:=
if(Au m 0)then
some (([]:LB),m)
else
(Vy b p).bind fun(af,ai)=>
some (af,0)
def Tx:=Tw
def Tu(j2:LX→Int→Int→Int→Int→Int→Int→Int→LI→Vt)(v y:LB)(n g b h k o:Int)(a:LI)(f:Int):Vt:=
(Agn n g b h k o a f).bind fun u=>
(getI a f).bind fun aa=>
if(Bl (Ah (Ac v) u) aa)then
some (([]:LB),24)
else
(Lb y).bind fun(ab,ag)=>
(getI a f).bind fun ac=>
(Bp v u (Ad u ac)).bind fun ad=>
(
(Cv h k).bind fun w=>
(getI w f).bind fun _=>
(getI w f).bind fun ae=>
(cadenzaref21_Decode g b ab ae ad).bind fun(p,m)=>
j2 p m n g b h k o a)
def cadenzaref40_Got:=Tu Tx
def Ck(a:LB):Option (Int×Int×Int×Int×Int×Int×Int):=
if(Cp (Ac a) 100000)then
some (0,0,0,0,0,0,4)
else
(Jm a).bind fun(b,f)=>
if(Au f 0)then
some (0,0,0,0,0,0,f)
else
(Bp a b (Ac a)).bind fun g=>
(Lc g).bind fun(h,k,m,n,o,p)=>
some (b,h,k,m,n,o,p)
def Aff(f:LB)(a g m n o p:Int)(b:LB):Option (Int×Int):=
if((b==([]:LB)) !=(geq g 1))then
some (0,26)
else
if(b==([]:LB))then
some (a,0)
else
if(Bl (Ac f) (Ad a 8))then
some (0,24)
else
(Bp f a (Ad a 8)).bind fun h=>
(Li b).bind fun k=>
if(h !=k)then
some (0,26)
else
some ((Ad a 8),0)
def Ju(a:LB)(b o p u f g:Int):Option (LI×Int):=
(Bp a b (Ac a)).bind fun h=>
(Cv f g).bind fun k=>
(Py h (Ac k)).bind fun(m,n)=>
some (m,n)
abbrev Cm:=Option (Int×Int×Int×LX×Int)
def Aa8(a:LB)(n b f g:Int)(v:LX):Cm:=
(Bp a n (Ac a)).bind fun af=>
(Tj af).bind fun(ao,ag)=>
if(Au ag 0)then
some (0,0,0,([]:LX),38)
else
some (b,f,g,v,0)
def Aa3:=Aa8
def Abq(bk7:Int→Int→LX→Cm)(a:LB)(o b f g k:Int)(h p:LI)(u:LX)(n m:Int)(y:LX)(w:Int)(v:LX):Cm:=
if(Au w 0)then
some (0,0,0,([]:LX),w)
else
(Ev v y).bind fun ah=>
(getI h m).bind fun _=>
(getI h m).bind fun ai=>
bk7 (Ad n ai) (Ad m 1) ah
def Abk bk7:=Abq bk7
def Qy(j10:Int→Int→LX→Int→LX→Cm)(j12:LB→Int→Int→Int→Int→LX→Cm)(a:LB)(o b f g k:Int)(h p:LI)(u:LX)(n m:Int)(v:LX):Cm:=
if(Bl m (Ac h))then
(getI h m).bind fun _=>
(getI h m).bind fun aj=>
if(Bl (Ah (Ac a) n) aj)then
some (0,0,0,([]:LX),24)
else
(getI p m).bind fun _=>
(getI h m).bind fun _=>
(getI p m).bind fun ak=>
(getI h m).bind fun al=>
(Bp a n (Ad n al)).bind fun am=>
(cadenzaref21_Decode b f u ak am).bind fun(y,w)=>
j10 n m y w v
else
j12 a n b f g v
def Hu(a:LB)(o b f g k:Int)(h p:LI)(u:LX):Nat→Int→Int→LX→Cm
|0,_,_,_=>none
|q+1,n,m,v=>Qy (Abk (Hu a o b f g k h p u q) a o b f g k h p u) Aa3 a o b f g k h p u n m v
def Adv a o b f g k h p u:=Hu a o b f g k h p u Am
def Adz(j7:LB→Int→Int→Int→Int→Int→LI→LI→LX→Int→Int→LX→Cm)(a aa:LB):Cm:=
if(Cp (Ac aa) 64)then
some (0,0,0,([]:LX),2)
else
(Ck a).bind fun(an,o,b,f,g,k,ab)=>
if(Au ab 0)then
some (0,0,0,([]:LX),ab)
else
(Aff a (Ad an 22) o b f g k aa).bind fun(ac,ad)=>
if(Au ad 0)then
some (0,0,0,([]:LX),ad)
else
(Ju a ac o b f g k).bind fun(h,ae)=>
if(Au ae 0)then
some (0,0,0,([]:LX),ae)
else
(Cv g k).bind fun p=>
(Lb aa).bind fun(u,ap)=>
j7 a o b f g k h p u (Ad ac (Ad (Ax 4 (Ac h)) 4)) 0 ([]:LX)
def Gf:=Adz Adv
def Nu(a f:LB):Option UInt8:=
if(Cp (Ac a) 100000)then
some 0
else
(Jm a).bind fun(b,h)=>
if(Au h 0)then
some 1
else
(Bp a b (Ac a)).bind fun k=>
(Lc k).bind fun(g,p,u,v,w,m)=>
if(Au m 0)then
some 2
else
if((f==([]:LB)) !=(geq g 1))then
some 3
else
if(geq g 2)then
(Bp a 0 (Da (Ac a) (Ad (Ad b 22) 8))).bind fun n=>
(cadenzaref40_Opened n f).bind fun(y,aa,ab,ac,ad,ae,af,o)=>
if((Au o 24)||(Bl (Ac a) (Ad (Ad b 22) 8)))then
some 3
else
some 4
else
some 4
abbrev Cf:=Option (Int×Int×Int×Int×Int×Int)
def Abf(b:LB)(a f:Int)(g:LI)(h:Int):Cf:=
if(Bl (Ac b) h)then
some (0,0,0,0,0,24)
else
some (a,(Ad a 22),f,(Ad (Ad f (Ax 4 (Ac g))) 4),h,0)
def Pb:=Abf
def Ph(j8:LB→Int→Int→LI→Int→Cf)(bk6:Int→Int→Cf)(b:LB)(a f:Int)(g:LI)(k h:Int):Cf:=
if(Bl k (Ac g))then
(getI g k).bind fun _=>
(getI g k).bind fun y=>
bk6 (Ad k 1) (Ad h y)
else
j8 b a f g h
def Hf(b:LB)(a f:Int)(g:LI):Nat→Int→Int→Cf
|0,_,_=>none
|q+1,k,h=>Ph Pb (Hf b a f g q) b a f g k h
def Aaz b a f g:=Hf b a f g Am
def Abb(j6:LB→Int→Int→LI→Int→Int→Cf)(b:LB)(m n o p u a f:Int):Cf:=
if(Bl (Ac b) f)then
some (0,0,0,0,0,24)
else
(Ju b f m n o p u).bind fun(g,v)=>
if(Au v 0)then
some (0,0,0,0,0,v)
else
j6 b a f g 0 (Ad (Ad f (Ax 4 (Ac g))) 4)
def He:=Abb Aaz
def Abo(j5:LB→Int→Int→Int→Int→Int→Int→Int→Cf)(b:LB):Cf:=
(Ck b).bind fun(a,m,n,o,p,u,w)=>
if(Au w 0)then
some (0,0,0,0,0,w)
else
if(geq m 2)then
j5 b m n o p u a (Ad (Ad a 22) 8)
else
j5 b m n o p u a (Ad a 22)
def Aia:=Abo He
end Go.Pl
