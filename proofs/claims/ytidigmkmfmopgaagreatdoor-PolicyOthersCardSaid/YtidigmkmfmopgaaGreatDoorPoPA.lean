/- A part of the proof of a statement of this seat (see the text that ends in Proof): PoPure. No conditions of its own. -/
import Derived.Test.YtidigmkmfmopgaaGreatDoorPoBA
set_option linter.unusedVariables false
namespace Go.Pl
open Go Go.Lv
abbrev LB:=List UInt8
abbrev LI:=List Int
abbrev LX:=List Int32
abbrev LU:=List UInt32
abbrev LQ:=List UInt64
def Afm(a b f:Int)(g:LX):Option (Int×Int):=
some (a,b)
abbrev An9:=Option (Int32×Int32×Int)
def Au7(a:Int)(b:Bool):An9:=
if b then
(Hm (Ly (Ah a 1) 0)).bind fun _=>
some ((Bae (Cm (1:Int32) (GI.toZ (Ah a 1)).toNat)),(Ah (Cm (1:Int32) (GI.toZ (Ah a 1)).toNat) 1),0)
else
some (0,0,2)
def Aj0:=Au7
def Ajz(j2:Int→Bool→An9)(a:Int):An9:=
if(geq a 8)then
j2 a (geq a 8)
else
if(geq a 16)then
j2 a (geq a 16)
else
j2 a (geq a 24)
def Oc:=Ajz Aj0
def Eg(a b:Int):Option Int:=
(Oc b).bind fun(g,h,f)=>
if(((Be f 0)||(Ch a 1))||(Ga a 6))then
some 2
else
some 0
def Rv(a:Int):Option (Int×Int):=
if((Ch a 1)||(Ga a 1048576))then
some (0,2)
else
some ((At3 1 (Bg (Ar 256 a) 245)),0)
def Ho(g b:Int):Option (Int×Int):=
(Rv g).bind fun(a,f)=>
if(Be f 0)then
some (0,f)
else
if((Ch b 1)||(Ga b 4000))then
some (0,2)
else
(Hm (Be a 0)).bind fun _=>
if(Ga (Bg (Ah (Ad b a) 1) a) 1000)then
some (0,4)
else
some ((Bg (Ah (Ad b a) 1) a),0)
def Ae0(a g f:Int)(h:LX)(b:Int):Option Int:=
(Afm a g f h).bind fun(k,m)=>
(Eg k m).bind fun n=>
if((Be n 0)||(Ch b 1))then
some 8
else
(Hm (Be a 0)).bind fun _=>
if(Ga b (Bg 4000 a))then
some 8
else
(Ho f b).bind fun(p,o)=>
if(Be o 0)then
some 8
else
some 0
def Bg8:Option Int:=
some 0
def Auu:=Bg8
def Ac4(j6:Option Int)(bk4:Int→Option Int)(b f:Int32)(a:LX)(g:Int):Option Int:=
if(Ch g (Ac a))then
(getI a g).bind fun h=>
if((Ch h b)||(Ga h f))then
some 16
else
bk4 (Ad g 1)
else
j6
def Qo(b f:Int32)(a:LX):Nat→Int→Option Int
|0,_=>none
|q+1,g=>Ac4 Auu (Qo b f a q) b f a g
def Auo b f a:=Qo b f a Al
def Amj(j4:Int32→Int32→LX→Int→Option Int)(m:Int)(a:LX):Option Int:=
(Oc m).bind fun(b,f,k)=>
if(Be k 0)then
some k
else
if(Ga (Ac a) 4000)then
some 4
else
j4 b f a 0
def Vt:=Amj Auo
def Ds(a f h:Int)(b:LX):Option Int:=
if(Ch a 1)then
some 8
else
(Hm (Be a 0)).bind fun _=>
if(Be (Ff (Ac b) a) 0)then
some 8
else
(Hm (Be a 0)).bind fun _=>
(Ae0 a f h b (Bg (Ac b) a)).bind fun g=>
if(Be g 0)then
some g
else
(Vt f b).bind fun k=>
if(Be k 0)then
some 8
else
some 0
abbrev Ao7:=Option (Int×Int×Int×Int×Int×Int)
def Awj(h:LB)(a b f:Int)(g:LX):Ao7:=
if(h !=([]:LB))then
some (2,a,b,f,(Bg (Ac g) a),0)
else
some (1,a,b,f,(Bg (Ac g) a),0)
def Aky:=Awj
def Ac0(j2:LB→Int→Int→Int→LX→Ao7)(a b f:Int)(g:LX)(h:LB):Ao7:=
(Ds a b f g).bind fun k=>
if(Be k 0)then
some (0,0,0,0,0,k)
else
if(Ga (Ac h) 64)then
some (0,0,0,0,0,2)
else
(Hm (Be a 0)).bind fun _=>
(
j2 h a b f g)
def Ant:=Ac0 Aky
abbrev Br:=Option (UInt64×Int)
def Avq(h:UInt64):Br:=
some (h,0)
def Amb:=Avq
def Aln(j30:UInt64→Br)(h b:UInt64)(a:LB)(f:LQ):Br:=
j30 h
def Amm:=Aln Amb
def Adz(j29:UInt64→UInt64→LB→LQ→Br)(bk27:UInt64→Int→Br)(a:LB)(b:UInt64)(f:LQ)(h:UInt64)(m:Int):Br:=
if(Ch m (Ac a))then
(getI a m).bind fun p=>
Option.bind (getI f (GI.toZ (Pk (Ae (Bo h (GI.toZ (56:UInt64)).toNat):UInt8) p))) fun _=>
Option.bind (getI f (GI.toZ (Pk (Ae (Bo h (GI.toZ (56:UInt64)).toNat):UInt8) p))) fun u=>
bk27 (Pk (Cm h (GI.toZ (8:UInt64)).toNat) u) (Ad m 1)
else
j29 h b a f
def Qf(a:LB)(b:UInt64)(f:LQ):Nat→UInt64→Int→Br
|0,_,_=>none
|q+1,h,m=>Adz Amm (Qf a b f q) a b f h m
def Al5 a b f:=Qf a b f Al
def Akn(j27:LB→UInt64→LQ→UInt64→Int→Br)(b:UInt64)(a:LB)(f:LQ):Br:=
j27 a b f b 0
def Abc:=Akn Al5
def Awb(bk16:Int→LQ→Br)(b:UInt64)(a:LB)(g:Int)(o:LQ):Br:=
bk16 (Ad g 1) o
def Aku bk16:=Awb bk16
def Al7(j24:Int→LQ→Br)(b:UInt64)(a:LB)(g:Int)(k:UInt64)(f:LQ):Br:=
(getI f g).bind fun _=>
(Ji f g k).bind fun o=>
j24 g o
def Ac5 bk16 b a:=Al7 (Aku bk16 b a) b a
def Ad2(j23:Int→UInt64→LQ→Br)(bk21:UInt64→Int→Br)(b:UInt64)(a:LB)(g:Int)(f:LQ)(k:UInt64)(n:Int):Br:=
if(Ch n 8)then
bk21 (Pk (Cm k (GI.toZ (1:UInt64)).toNat) (Ar 4823603603198064275 (Bo k (GI.toZ (63:UInt64)).toNat))) (Ad n 1)
else
j23 g k f
def Pw(bk16:Int→LQ→Br)(b:UInt64)(a:LB)(g:Int)(f:LQ):Nat→UInt64→Int→Br
|0,_,_=>none
|q+1,k,n=>Ad2 (Ac5 bk16 b a) (Pw bk16 b a g f q) b a g f k n
def Akr bk16 b a g f:=Pw bk16 b a g f Al
def Aba(j21:Int→LQ→UInt64→Int→Br)(j26:UInt64→LB→LQ→Br)(b:UInt64)(a:LB)(g:Int)(f:LQ):Br:=
if(Ch g 256)then
j21 g f (Cm (Ae g:UInt64) (GI.toZ (56:UInt64)).toNat) 0
else
j26 b a f
def Mn(b:UInt64)(a:LB):Nat→Int→LQ→Br
|0,_,_=>none
|q+1,g,f=>Aba (Akr (Mn b a q) b a) Abc b a g f
def Amh b a:=Mn b a Al
def Aos(j16:UInt64→LB→Int→LQ→Br)(b:UInt64)(a:LB):Br:=
if(Ga (Ac a) 100000)then
some (0,4)
else
j16 b a 0 (List.replicate 256 (0:UInt64))
def Aru:=Aos Amh
def Ap6(a:LB):Option (UInt64×Int):=
(Aru 0 a).bind fun(b,f)=>
some (b,f)
def Bsd(a:LX):Option (LX):=
some a
def Bh6:=Bsd
def Ar8(j6:LX→Option (LX))(bk4:Int→LX→Option (LX))(f:UInt64)(b:Int)(a:LX):Option (LX):=
if(Ch b 8)then
(Hm (Ly (Ar 8 b) 0)).bind fun _=>
(getI a b).bind fun _=>
(Ji a b (Ae (Ae (Bo f (GI.toZ (Ar 8 b)).toNat):Int8):Int32)).bind fun g=>
bk4 (Ad b 1) g
else
j6 a
def Ae3(f:UInt64):Nat→Int→LX→Option (LX)
|0,_,_=>none
|q+1,b,a=>Ar8 Bh6 (Ae3 f q) f b a
def Bjg f:=Ae3 f Al
def Bhv(j4:UInt64→Int→LX→Option (LX))(f:UInt64):Option (LX):=
j4 f 0 (List.replicate 16 (0:Int32))
def Bmv:=Bhv Bjg
def Aau(a:LB):Option (LX×Int):=
if(Ga (Ac a) 64)then
some (([(0:Int32),(0:Int32),(0:Int32),(0:Int32),(0:Int32),(0:Int32),(0:Int32),(0:Int32),(0:Int32),(0:Int32),(0:Int32),(0:Int32),(0:Int32),(0:Int32),(0:Int32),(0:Int32)]:LX),2)
else
(Ap6 a).bind fun(f,b)=>
if(Be b 0)then
some (([(0:Int32),(0:Int32),(0:Int32),(0:Int32),(0:Int32),(0:Int32),(0:Int32),(0:Int32),(0:Int32),(0:Int32),(0:Int32),(0:Int32),(0:Int32),(0:Int32),(0:Int32),(0:Int32)]:LX),b)
else
(Bmv f).bind fun g=>
some (g,0)
def Ahz(a b:UInt64):Option (UInt64×UInt64):=
some ((Ad (Ad (Ar (Bo a (GI.toZ (32:UInt64)).toNat) (Bo b (GI.toZ (32:UInt64)).toNat)) (Bo (Ad (Ar (Bo a (GI.toZ (32:UInt64)).toNat) (Dq b 4294967295)) (Bo (Ar (Dq a 4294967295) (Dq b 4294967295)) (GI.toZ (32:UInt64)).toNat)) (GI.toZ (32:UInt64)).toNat)) (Bo (Ad (Dq (Ad (Ar (Bo a (GI.toZ (32:UInt64)).toNat) (Dq b 4294967295)) (Bo (Ar (Dq a 4294967295) (Dq b 4294967295)) (GI.toZ (32:UInt64)).toNat)) 4294967295) (Ar (Dq a 4294967295) (Bo b (GI.toZ (32:UInt64)).toNat))) (GI.toZ (32:UInt64)).toNat)),(Ar a b))
def Af1(a b:UInt64):Option (UInt64×UInt64):=
(Ahz a b).bind fun(f,g)=>
some (f,g)
def Nv(a:LI):Option (LI):=
some a
def Ij:=Nv
def Gp(j10:LI→Option (LI))(bk8:Int→LI→Option (LI))(b:Int)(a:LI):Option (LI):=
if(Ch b (Ac a))then
(
(vwI (Ac a) b (Ac a)).bind fun _=>
(vwI (Ac a) 0 b).bind fun _=>
bk8 (Ad b (Aks ((Ac a)-b) (Amq a 0 (b-(0:Int))).length)) (Tw a b ((Ac a)-b) (Amq a 0 (b-(0:Int)))))
else
j10 a
def Ej:Nat→Int→LI→Option (LI)
|0,_,_=>none
|q+1,b,a=>Gp Ij (Ej q) b a
def Ox:=Ej Al
def Pg(j8:Int→LI→Option (LI))(f:LI)(g:UInt64):Option (LI):=
(mkI (Ae g:Int) (0:Int)).bind fun k=>
(Hm (geq (Ae g:Int) (Ae g:Int))).bind fun _=>
j8 (Aks (Ac k) f.length) (Bhp k f)
def Pc:=Pg Ox
def Om(j7:LI→UInt64→Option (LI))(f:LI)(h:Int):Option (LI):=
(Af1 (Ae (Ac f):UInt64) (Ae h:UInt64)).bind fun(m,g)=>
if((Ga m 0)||(Ga g 9223372036854775807))then
none
else
j7 f g
def Oo:=Om Pc
def Ph(j6:LI→Int→Option (LI))(f:LI)(h:Int):Option (LI):=
if(Ch h 0)then
none
else
j6 f h
def Nb:=Ph Oo
def Amp(f:LI):Option (LI):=
some f
def Ws:=Amp
def Fz(j16:LI→Option (LI))(bk14:Int→LI→Option (LI))(a:List LI)(g:Int)(f:LI):Option (LI):=
if(Ch g (Ac a))then
(getI a g).bind fun o=>
(Cg f o).bind fun p=>
bk14 (Ad g 1) p
else
j16 f
def Dy(a:List LI):Nat→Int→LI→Option (LI)
|0,_,_=>none
|q+1,g,f=>Fz Ws (Dy a q) a g f
def Np a:=Dy a Al
def Nm(j14:(List LI)→Int→LI→Option (LI))(a:List LI)(k:LI):Option (LI):=
j14 a 0 k
def Ik:=Nm Np
def Nn(j13:(List LI)→LI→Option (LI))(b:Int)(a:List LI):Option (LI):=
if(Ga (Ah b (Ah (0:Int) (0:Int))) 0)then
(vwI 0 0 0).bind fun _=>
(mkI (Ah b (Ah (0:Int) (0:Int))) (0:Int)).bind fun u=>
(Cg ([]:LI) u).bind fun m=>
(vwI (Ac m) 0 0).bind fun _=>
j13 a (Amq m 0 ((0:Int)-(0:Int)))
else
j13 a ([]:LI)
def Nr:=Nn Ik
def Nq(j12:Int→(List LI)→Option (LI))(a:List LI)(b:Int):Option (LI):=
if(Ch b 0)then
none
else
j12 b a
def Nu:=Nq Nr
def Gn(j11:(List LI)→Int→Option (LI))(bk9:Int→Int→Option (LI))(a:List LI)(b h:Int):Option (LI):=
if(Ch h (Ac a))then
(getI a h).bind fun n=>
if(Ch (Ad b (Ac n)) 0)then
none
else
bk9 (Ad b (Ac n)) (Ad h 1)
else
j11 a b
def Ek(a:List LI):Nat→Int→Int→Option (LI)
|0,_,_=>none
|q+1,b,h=>Gn Nu (Ek a q) a b h
def Pb a:=Ek a Al
def Ot(j9:(List LI)→Int→Int→Option (LI))(a:List LI):Option (LI):=
j9 a 0 0
def Ng:=Ot Pb
def Alv(a b:LI):Option (LI):=
(Ng ([a,b]:List LI)).bind fun f=>
some f
def Vf(a b:Int):Option (LI×Int):=
(Ho a b).bind fun(f,g)=>
if(Be g 0)then
some (([]:LI),g)
else
(Rv a).bind fun(h,n)=>
(Nb ([h]:LI) (Ah f 1)).bind fun k=>
(Alv k ([(Ah b (Ar (Ah f 1) h))]:LI)).bind fun m=>
some (m,0)
def Af5(a f:Int)(b:LX):Option Int:=
(Eg a f).bind fun g=>
if(Be g 0)then
some g
else
(Vt f b).bind fun h=>
if(Be h 0)then
some h
else
if(geq (Ac b) 0)then
some 2
else
(Hm (Be a 0)).bind fun _=>
if(Be (Ff (Ac b) a) 0)then
some 2
else
some 0
def Apk(a:Int)(b:LX):Option Int:=
if((Ch a 1)||(Ga a 6))then
some 2
else
if(Ga (Ac b) 4000)then
some 4
else
(Hm (Be a 0)).bind fun _=>
if(Be (Ff (Ac b) a) 0)then
some 2
else
some 0
def Dj(a:LX):Option (LX):=
(
(Cg ([]:LX) a).bind fun b=>
some b)
abbrev Ic:=Option (LX×Int)
def Bp1(f:LX):Ic:=
some (f,0)
def Bdx:=Bp1
def Ave(bk12:Int→LX→Ic)(b a:Int)(k:LX):Ic:=
bk12 (Ad a b) k
def Amx bk12:=Ave bk12
def At7(j20:Int→LX→Ic)(b a:Int)(g:LX):Ic:=
if(Ga (Ah ((Ad a b)-a) 1) 0)then
(Hm (decide (0≤(Ah ((Ad a b)-a) 1)∧(Ah ((Ad a b)-a) 1)<((Ad a b)-a)))).bind fun _=>
Option.bind (Hm (decide (0≤(Ah (Ah ((Ad a b)-a) 1) 1)∧(Ah (Ah ((Ad a b)-a) 1) 1)<((Ad a b)-a)))) fun _=>
(getI g (a+(Ah ((Ad a b)-a) 1))).bind fun m=>
(getI g (a+(Ah (Ah ((Ad a b)-a) 1) 1))).bind fun n=>
(Hm (decide (0≤(Ah ((Ad a b)-a) 1)∧(Ah ((Ad a b)-a) 1)<((Ad a b)-a)))).bind fun _=>
(Ji g (a+(Ah ((Ad a b)-a) 1)) (Ah m (Bg n 2))).bind fun o=>
j20 a o
else
j20 a g
def At9 bk12 b:=At7 (Amx bk12 b) b
def Amt(j19:Int→LX→Ic)(bk17:Int→LX→Ic)(b a h:Int)(g:LX):Ic:=
if(Ch h (Ah ((Ad a b)-a) 1))then
(Hm (decide (0≤(Ad h 1)∧(Ad h 1)<((Ad a b)-a)))).bind fun _=>
(Hm (decide (0≤h∧h<((Ad a b)-a)))).bind fun _=>
(getI g (a+(Ad h 1))).bind fun m=>
(getI g (a+h)).bind fun n=>
(Hm (decide (0≤h∧h<((Ad a b)-a)))).bind fun _=>
(Ji g (a+h) (Ah m n)).bind fun o=>
bk17 (Ad h 1) o
else
j19 a g
def Aaj(bk12:Int→LX→Ic)(b a:Int):Nat→Int→LX→Ic
|0,_,_=>none
|q+1,h,g=>Amt (At9 bk12 b) (Aaj bk12 b a q) b a h g
def Bdp bk12 b a:=Aaj bk12 b a Al
def Avc(j17:Int→Int→LX→Ic)(j22:LX→Ic)(b a:Int)(f:LX):Ic:=
if(Ch a (Ac f))then
(vwI (Ac f) a (Ad a b)).bind fun _=>
j17 a 0 f
else
j22 f
def Aam(b:Int):Nat→Int→LX→Ic
|0,_,_=>none
|q+1,a,f=>Avc (Bdp (Aam b q) b) Bdx b a f
def Aud b:=Aam b Al
def Ay0(j12:Int→Int→LX→Ic)(b:Int)(p:LX):Ic:=
(Apk b p).bind fun u=>
if(Be u 0)then
some (([]:LX),u)
else
(Dj p).bind fun v=>
j12 b 0 v
def Bey:=Ay0 Aud
abbrev Ay3:=Option (Int×LX×LX×Int)
def Bp8(a:Int)(b:LX)(f:Bool):Ay3:=
if f then
some (10,b,(List.replicate 16 (0:Int32)),0)
else
if(geq a 16)then
some (9,b,(List.replicate 16 (0:Int32)),0)
else
some (0,(List.replicate 16 (0:Int32)),(List.replicate 16 (0:Int32)),2)
def Bd0:=Bp8
def Bei(j2:Int→LX→Bool→Ay3)(a:Int)(b:LX):Ay3:=
if(geq a 8)then
j2 a b (geq a 8)
else
j2 a b (geq a 24)
def Az1:=Bei Bd0
def Bcf(a:Int)(f:LX):Option (Int×Int32×Int×LX×LX×Int):=
(Az1 a f).bind fun(g,h,k,b)=>
if(Be b 0)then
some (0,0,0,(List.replicate 16 (0:Int32)),(List.replicate 16 (0:Int32)),b)
else
some (a,0,g,h,k,0)
def Vu(a:Int)(k:Int32)(b:Int)(f m:LX):Option Int:=
(Az1 a f).bind fun(g,n,o,h)=>
if((Be h 0)||(Be g b))then
some 8
else
some 0
def Au1(a:Int):Option (Int×Int):=
if(geq a 8)then
some (4,0)
else
if(geq a 16)then
if(geq a 16)then
some (5,0)
else
some (0,2)
else
if(geq a 24)then
some (5,0)
else
some (0,2)
def Anv(a:Int)(b:Int32):Option Int32:=
(Hm (Ly a 0)).bind fun _=>
(Hm (Ly a 0)).bind fun _=>
some (Ae (Bl9 (Ah (Cm (Ae b:Int) (GI.toZ a).toNat) (Ae b:Int)) (GI.toZ a).toNat):Int32)
def Vk(b:Int)(f:Int32):Option (Int32×Int):=
(Au1 b).bind fun(g,a)=>
if(Be a 0)then
some (0,a)
else
(Anv g f).bind fun h=>
some (h,0)
def Afr(a:Int)(b f:LX):Option Int:=
if((Be a 9)&&(Be a 10))then
some 8
else
some 0
abbrev Rh:=Option (Int32×Int)
def Ayd(g:Int32)(a:Int)(b f:LX):Rh:=
(Hm (Ly a 0)).bind fun _=>
some ((Bo g (GI.toZ a).toNat),0)
def Aot:=Ayd
def Afy(j6:Int32→Int→LX→LX→Rh)(bk4:Int32→Int→Rh)(b:LX)(a:Int)(f:LX)(g:Int32)(h:Int):Rh:=
if(Ch h 16)then
(getI b h).bind fun m=>
(getI f h).bind fun _=>
(getI f h).bind fun n=>
bk4 (Ad g (Ar m n)) (Ad h 1)
else
j6 g a b f
def Sy(b:LX)(a:Int)(f:LX):Nat→Int32→Int→Rh
|0,_,_=>none
|q+1,g,h=>Afy Aot (Sy b a f q) b a f g h
def Ao3 b a f:=Sy b a f Al
def Aof(j4:LX→Int→LX→Int32→Int→Rh)(a:Int)(b f:LX):Rh:=
(Afr a b f).bind fun k=>
if(Be k 0)then
some (0,k)
else
(Hm (Ly (Ah a 1) 0)).bind fun _=>
j4 b a f (Cm (1:Int32) (GI.toZ (Ah a 1)).toNat) 0
def Al1:=Aof Ao3
def Apz(a:Int):Option Int32:=
if(geq a 0)then
some 4
else
if(Ch a 4)then
some 2
else
some 1
abbrev Rs:=Option (Int×LX×LX×Int)
def Bjn(g:Int)(b f:LX):Rs:=
some (g,b,f,0)
def Ax4:=Bjn
def Afw(j6:Int→LX→LX→Rs)(bk4:Int→LX→Rs)(h:Int32)(f:LX)(g a:Int)(b:LX):Rs:=
if(Ch a 16)then
(getI f a).bind fun m=>
if(geq m 0)then
bk4 (Ad a 1) b
else
if((Ch m 0)==(Ch h 0))then
(getI b a).bind fun _=>
(getI b a).bind fun o=>
(Apz a).bind fun p=>
(getI b a).bind fun _=>
(Ji b a (Ad o p)).bind fun u=>
bk4 (Ad a 1) u
else
(getI b a).bind fun _=>
(getI b a).bind fun v=>
(Apz a).bind fun w=>
(getI b a).bind fun _=>
(Ji b a (Ah v w)).bind fun y=>
bk4 (Ad a 1) y
else
j6 g b f
def Tf(h:Int32)(f:LX)(g:Int):Nat→Int→LX→Rs
|0,_,_=>none
|q+1,a,b=>Afw Ax4 (Tf h f g q) h f g a b
def Ayk h f g:=Tf h f g Al
def Apb(j4:Int32→LX→Int→Int→LX→Rs)(g:Int)(k f:LX)(h:Int32):Rs:=
(Afr g k f).bind fun n=>
if(Be n 0)then
some (0,(List.replicate 16 (0:Int32)),(List.replicate 16 (0:Int32)),n)
else
if(geq h 0)then
some (g,k,f,0)
else
j4 h f g 0 k
def Aq9:=Apb Ayk
abbrev Aue:=Option (Int×LX×LX×Int)
def Az6(g:Int32)(b:Int)(f a:LX):Aue:=
(getI (Tw a 1 ((16:Int)-(1:Int)) (Amq a 0 ((16:Int)-(0:Int)))) 0).bind fun _=>
(Ji (Tw a 1 ((16:Int)-(1:Int)) (Amq a 0 ((16:Int)-(0:Int)))) 0 g).bind fun k=>
some (b,f,k,0)
def Aq4:=Az6
def Aji(j2:Int32→Int→LX→LX→Aue)(b:Int)(f a:LX)(g:Int32):Aue:=
(Afr b f a).bind fun h=>
if(Be h 0)then
some (0,(List.replicate 16 (0:Int32)),(List.replicate 16 (0:Int32)),h)
else
(
(vwI 16 1 16).bind fun _=>
(vwI 16 0 16).bind fun _=>
j2 g b f a)
def Aw3:=Aji Aq4
def Al4(a:Int)(b f:LX)(g h:Int32):Option (Int×LX×LX):=
(Aq9 a b f h).bind fun(k,m,n,v)=>
(Aw3 k m n g).bind fun(o,p,u,w)=>
some (o,p,u)
def Anb(b:Int)(f g:LX)(a:Int32):Option (Int32×Int×LX×LX×Int):=
(Al1 b f g).bind fun(h,k)=>
if(Be k 0)then
some (0,0,(List.replicate 16 (0:Int32)),(List.replicate 16 (0:Int32)),k)
else
(Al4 b f g a (Ah a h)).bind fun(m,n,o)=>
some ((Ah a h),m,n,o,0)
def Tg(a:Int)(b:Int32)(f:Int)(g h:LX)(k:Int32):Option (Int32×Int×Int32×Int×LX×LX×Int):=
(Vu a b f g h).bind fun m=>
if(Be m 0)then
some (0,0,0,0,(List.replicate 16 (0:Int32)),(List.replicate 16 (0:Int32)),m)
else
(Vk a b).bind fun(n,y)=>
(Anb f g h (Ah k n)).bind fun(o,p,u,v,w)=>
(
some (o,a,k,p,u,v,w))
def Axi(a:Int32):Option UInt32:=
some (Pk (Cm (Ae a:UInt32) (GI.toZ (1:UInt64)).toNat) (Ae (Bo a (GI.toZ (31:UInt64)).toNat):UInt32))
abbrev Cu:=Option (LU×Int)
def Azq(k:LU):Cu:=
some (k,0)
def Alj:=Azq
def Ri(j12:LU→Cu)(bk10:Int→(List (Int×Int32×(Int×LX×LX×Unit)×Unit))→LU→Cu)(b:LX)(a f g:Int)(o:List (Int×Int32×(Int×LX×LX×Unit)×Unit))(k:LU):Cu:=
if(Ch g (Ac b))then
(getI b g).bind fun _=>
(getI b g).bind fun ac=>
(Hm (Be a 0)).bind fun _=>
(getI o (Ff g a)).bind fun _=>
(getI o (Ff g a)).bind fun p=>
(Tg p.1 p.2.1 p.2.2.1.1 p.2.2.1.2.1 p.2.2.1.2.2.1 ac).bind fun(u,ad,ae,v,af,ag,w)=>
if(Be w 0)then
some (([]:LU),w)
else
(Ji o (Ff g a) (ad,ae,(v,af,ag,()),())).bind fun ah=>
(Axi u).bind fun ai=>
(Cg k ([ai]:LU)).bind fun aj=>
bk10 (Ad g 1) ah aj
else
j12 k
def Jg(b:LX)(a f:Int):Nat→Int→(List (Int×Int32×(Int×LX×LX×Unit)×Unit))→LU→Cu
|0,_,_,_=>none
|q+1,g,o,k=>Ri Alj (Jg b a f q) b a f g o k
def Al3 b a f:=Jg b a f Al
def Anp(j10:LX→Int→Int→Int→(List (Int×Int32×(Int×LX×LX×Unit)×Unit))→LU→Cu)(a f:Int)(b:LX)(h:List (Int×Int32×(Int×LX×LX×Unit)×Unit)):Cu:=
j10 b a f 0 h ([]:LU)
def Ac1:=Anp Al3
def Amu(j9:Int→Int→LX→(List (Int×Int32×(Int×LX×LX×Unit)×Unit))→Cu)(bk7:Int→(List (Int×Int32×(Int×LX×LX×Unit)×Unit))→Cu)(a f:Int)(m b:LX)(n:Int)(h:List (Int×Int32×(Int×LX×LX×Unit)×Unit)):Cu:=
if(Ch n 6)then
(Bcf f m).bind fun(ak,al,u,am,an,v)=>
(getI h n).bind fun _=>
(Ji h n (ak,al,(u,am,an,()),())).bind fun ao=>
bk7 (Ad n 1) ao
else
j9 a f b h
def Adk(a f:Int)(m b:LX):Nat→Int→(List (Int×Int32×(Int×LX×LX×Unit)×Unit))→Cu
|0,_,_=>none
|q+1,n,h=>Amu Ac1 (Adk a f m b q) a f m b n h
def Ur a f m b:=Adk a f m b Al
def Abp(j7:Int→Int→LX→LX→Int→(List (Int×Int32×(Int×LX×LX×Unit)×Unit))→Cu)(a f:Int)(m y:LX):Cu:=
(Af5 a f y).bind fun aa=>
if(Be aa 0)then
some (([]:LU),aa)
else
(Bey a y).bind fun(b,ab)=>
if(Be ab 0)then
some (([]:LU),ab)
else
j7 a f m b 0 (List.replicate 6 ((0:Int),(0:Int32),((0:Int),(List.replicate 16 (0:Int32)),(List.replicate 16 (0:Int32)),()),()))
def Abv:=Abp Ur
def Ay1:Option (Int×Int×UInt64×UInt64):=
some (10,10,16384,16384)
abbrev Jh:=Option ((List (Int×Int×UInt64×UInt64×Unit)))
def Bbv(a:List (Int×Int×UInt64×UInt64×Unit)):Jh:=
some a
def Am6:=Bbv
def Am3(j6:(List (Int×Int×UInt64×UInt64×Unit))→Jh)(bk4:Int→(List (Int×Int×UInt64×UInt64×Unit))→Jh)(b:Int)(a:List (Int×Int×UInt64×UInt64×Unit)):Jh:=
if(Ch b 6)then
(Ay1).bind fun(f,g,h,k)=>
(getI a b).bind fun _=>
(Ji a b (f,g,h,k,())).bind fun m=>
bk4 (Ad b 1) m
else
j6 a
def Aci:Nat→Int→(List (Int×Int×UInt64×UInt64×Unit))→Jh
|0,_,_=>none
|q+1,b,a=>Am3 Am6 (Aci q) b a
def Abx:=Aci Al
def Abe(j4:Int→(List (Int×Int×UInt64×UInt64×Unit))→Jh):Jh:=
j4 0 (List.replicate 6 ((0:Int),(0:Int),(0:UInt64),(0:UInt64),()))
def Abu:=Abe Abx
def Hw(b:LB)(a:Int):Option Int:=
if(((Ch a 0)||(Ga a 330000))||(Be (Ac b) (Bl9 (Ad a 7) (GI.toZ (3:UInt64)).toNat)))then
some 8
else
if(Ga (Dq a 7) 0)then
(getI b (Ah (Ac b) 1)).bind fun f=>
(Hm (Ly (Dq a 7) 0)).bind fun _=>
if(Be (Bo f (GI.toZ (Dq a 7)).toNat) 0)then
some 8
else
some 0
else
some 0
def Aye(a b:Int)(f g:UInt64):Option Int:=
if(!((geq (Dx (At3 a 0) 24) a)&&((geq (Dx (At3 b 0) 24) b)&&((geq (Dx f 68719476735) f)&&((geq (Dx g 68719476735) g)&&true)))))then
some 8
else
some 0
def Aog:=Aye
def Af2(j4:Int→Int→UInt64→UInt64→Option Int)(a b:Int)(f g:UInt64):Option Int:=
(
(
j4 a b f g))
def Aov:=Af2 Aog
def Aga(j3:Int→Int→UInt64→UInt64→Option Int)(a b:Int)(f g:UInt64):Option Int:=
(
(
j3 a b f g))
def Amk:=Aga Aov
def Afa(a f:Int)(g h:UInt64)(b:UInt32):Option (Int×UInt32):=
(Hm (Ly a 0)).bind fun _=>
if(geq (Bo b (GI.toZ a).toNat) 0)then
some (0,b)
else
(Hm (Ly a 0)).bind fun _=>
some (1,(Ah b (Cm (1:UInt32) (GI.toZ a).toNat)))
def Ec(a:LB):Option (LB):=
(
(Cg ([]:LB) a).bind fun b=>
some b)
def Aqd(a:LB)(b:Int):Option (LB×Int):=
(Ec a).bind fun f=>
some (f,b)
abbrev Di:=Option (LB×Int×Int)
def Bbu(f:Int)(o:LB):Di:=
some (o,f,0)
def Ari:=Bbu
def Bau(bk15:UInt64→Int→Int→LB→Di)(b:UInt64)(a:Int)(m:UInt64)(h f:Int)(w:LB):Di:=
(Hm (Ly (Dx h (Ah 8 (Dq f 7))) 0)).bind fun _=>
bk15 (Bo m (GI.toZ (Dx h (Ah 8 (Dq f 7)))).toNat) (Ah h (Dx h (Ah 8 (Dq f 7)))) (Ad f (Dx h (Ah 8 (Dq f 7)))) w
def Aq2 bk15:=Bau bk15
def Arh(j19:UInt64→Int→Int→LB→Di)(b:UInt64)(a:Int)(m:UInt64)(h f:Int)(u:LB):Di:=
(getI u (Ah (Ac u) 1)).bind fun _=>
(Hm (Ly (Dx h (Ah 8 (Dq f 7))) 0)).bind fun _=>
(Hm (Ly (Dq f 7) 0)).bind fun _=>
(getI u (Ah (Ac u) 1)).bind fun ad=>
(getI u (Ah (Ac u) 1)).bind fun _=>
Option.bind (Ji u (Ah (Ac u) 1) (gor ad (Cm (Ae (Dq m (Ah (Cm (1:UInt64) (GI.toZ (Dx h (Ah 8 (Dq f 7)))).toNat) 1)):UInt8) (GI.toZ (Dq f 7)).toNat))) fun w=>
j19 m h f w
def Ajg bk15 b a:=Arh (Aq2 bk15 b a) b a
def Ajh(j18:UInt64→Int→Int→LB→Di)(j21:Int→LB→Di)(b:UInt64)(a:Int)(m:UInt64)(h f:Int)(o:LB):Di:=
if(Ga h 0)then
if(geq (Dq f 7) 0)then
(Cg o ([(0:UInt8)]:LB)).bind fun ab=>
j18 m h f ab
else
j18 m h f o
else
j21 f o
def Od(b:UInt64)(a:Int):Nat→UInt64→Int→Int→LB→Di
|0,_,_,_,_=>none
|q+1,m,h,f,o=>Ajh (Ajg (Od b a q) b a) Ari b a m h f o
def Baa b a:=Od b a Al
def Bmp(g:Int)(p:LB):Di:=
some (p,g,0)
def Bbq:=Bmp
def Bls(bk22:UInt64→Int→Int→LB→Di)(b:UInt64)(a:Int)(n:UInt64)(k g:Int)(y:LB):Di:=
(Hm (Ly (Dx k (Ah 8 (Dq g 7))) 0)).bind fun _=>
bk22 (Bo n (GI.toZ (Dx k (Ah 8 (Dq g 7)))).toNat) (Ah k (Dx k (Ah 8 (Dq g 7)))) (Ad g (Dx k (Ah 8 (Dq g 7)))) y
def Az5 bk22:=Bls bk22
def Bax(j26:UInt64→Int→Int→LB→Di)(b:UInt64)(a:Int)(n:UInt64)(k g:Int)(v:LB):Di:=
(getI v (Ah (Ac v) 1)).bind fun _=>
(Hm (Ly (Dx k (Ah 8 (Dq g 7))) 0)).bind fun _=>
(Hm (Ly (Dq g 7) 0)).bind fun _=>
(getI v (Ah (Ac v) 1)).bind fun ae=>
(getI v (Ah (Ac v) 1)).bind fun _=>
Option.bind (Ji v (Ah (Ac v) 1) (gor ae (Cm (Ae (Dq n (Ah (Cm (1:UInt64) (GI.toZ (Dx k (Ah 8 (Dq g 7)))).toNat) 1)):UInt8) (GI.toZ (Dq g 7)).toNat))) fun y=>
j26 n k g y
def Ban bk22 b a:=Bax (Az5 bk22 b a) b a
def Ba9(j25:UInt64→Int→Int→LB→Di)(j28:Int→LB→Di)(b:UInt64)(a:Int)(n:UInt64)(k g:Int)(p:LB):Di:=
if(Ga k 0)then
if(geq (Dq g 7) 0)then
(Cg p ([(0:UInt8)]:LB)).bind fun w=>
j25 n k g w
else
j25 n k g p
else
j28 g p
def Asb(b:UInt64)(a:Int):Nat→UInt64→Int→Int→LB→Di
|0,_,_,_,_=>none
|q+1,n,k,g,p=>Ba9 (Ban (Asb b a q) b a) Bbq b a n k g p
def Ba8 b a:=Asb b a Al
def Av6(j15:UInt64→Int→UInt64→Int→Int→LB→Di)(j22:UInt64→Int→UInt64→Int→Int→LB→Di)(ac:LB)(aa:Int)(b:UInt64)(a:Int):Di:=
(Hw ac aa).bind fun af=>
if(Be af 0)then
some (([]:LB),0,8)
else
if((Ch a 0)||(Ga a 64))then
some (([]:LB),0,2)
else
if(Ch a 64)then
(Hm (Ly a 0)).bind fun _=>
if(Be (Bo b (GI.toZ a).toNat) 0)then
some (([]:LB),0,16)
else
if(Ga (Ad aa a) 330000)then
some (([]:LB),0,18)
else
(Aqd ac aa).bind fun(ag,ah)=>
j15 b a b a ah ag
else
if(Ga (Ad aa a) 330000)then
some (([]:LB),0,18)
else
(Aqd ac aa).bind fun(ab,ai)=>
j22 b a b a ai ab
def Akg:=Av6 Baa Ba8
def We(b:UInt32)(a:Int):Option Bool:=
(Hm (Ly a 0)).bind fun _=>
some (Ly (Bo b (GI.toZ a).toNat) 48)
def Aq3(a:Int):Option (Int×Int):=
if((Ch a 0)||(Ga a 48))then
some (0,2)
else
some ((Dx (Ad a 1) 48),0)
def Ans(b:LB)(f a:Int):Option (LB×Int×Int):=
(Hw b f).bind fun g=>
if(Be g 0)then
some (([]:LB),0,g)
else
(Aq3 a).bind fun(k,h)=>
if(Be h 0)then
some (([]:LB),0,h)
else
(Hm (Ly a 0)).bind fun _=>
(Akg b f (Ah (Cm (1:UInt64) (GI.toZ a).toNat) 1) k).bind fun(m,n,o)=>
some (m,n,o)
abbrev Aq0:=Option (LB×Int×Int)
def Apc(b:LB)(f h:Int)(k:UInt32)(m:Int):Aq0:=
(Ans b f h).bind fun(p,u,n)=>
if(Be n 0)then
some (([]:LB),0,n)
else
(Akg p u (Ae k:UInt64) m).bind fun(v,w,y)=>
some (v,w,y)
def Af3:=Apc
def Aol(j2:LB→Int→Int→UInt32→Int→Aq0)(b:LB)(f:Int)(g:UInt32)(a:Int):Aq0:=
(Hw b f).bind fun o=>
if(Be o 0)then
some (([]:LB),0,o)
else
if((Ch a 0)||(Ga a 24))then
some (([]:LB),0,2)
else
(Hm (Ly a 0)).bind fun _=>
(Hm (Ly a 0)).bind fun _=>
(We g a).bind fun aa=>
if aa then
j2 b f 48 g 32
else
j2 b f (Ae (Bo g (GI.toZ a).toNat):Int) (Dq g (Ah (Cm (1:UInt32) (GI.toZ a).toNat) 1)) a
def Arv:=Aol Af3
abbrev Hq:=Option (LB×Int×Int×Int×UInt64×UInt64×Int)
def Ac6(k u n:Int)(a:UInt64)(b:UInt32)(o:UInt64)(m:LB):Hq:=
(
(
some (m,k,u,n,(Ad a (Ah (Ae b:UInt64) (Bo a (GI.toZ (4:UInt64)).toNat))),o,0)))
def Akj:=Ac6
def Aor(j10:Int→Int→Int→UInt64→UInt32→UInt64→LB→Hq)(b:UInt32)(k n:Int)(a o:UInt64)(m:LB)(u:Int):Hq:=
j10 k u n a b o m
def Ao1:=Aor Akj
def Aoc(j9:UInt32→Int→Int→UInt64→UInt64→LB→Int→Hq)(b:UInt32)(f:Int)(a:UInt64)(k:Int)(m:LB)(n:Int)(o:UInt64):Hq:=
if(Ga f 0)then
(Hm (Ly f 0)).bind fun _=>
if(Ch (Ad a (Ah (Ae b:UInt64) (Bo a (GI.toZ (4:UInt64)).toNat))) (Cm (16:UInt64) (GI.toZ f).toNat))then
j9 b k n a o m (Ah f 1)
else
if(Ch f 24)then
(Hm (Ly f 0)).bind fun _=>
if(Ga (Ad a (Ah (Ae b:UInt64) (Bo a (GI.toZ (4:UInt64)).toNat))) (Cm (32:UInt64) (GI.toZ f).toNat))then
j9 b k n a o m (Ad f 1)
else
j9 b k n a o m f
else
j9 b k n a o m f
else
if(Ch f 24)then
(Hm (Ly f 0)).bind fun _=>
if(Ga (Ad a (Ah (Ae b:UInt64) (Bo a (GI.toZ (4:UInt64)).toNat))) (Cm (32:UInt64) (GI.toZ f).toNat))then
j9 b k n a o m (Ad f 1)
else
j9 b k n a o m f
else
j9 b k n a o m f
def Xz:=Aoc Ao1
def An7(j8:UInt32→Int→UInt64→Int→LB→Int→UInt64→Hq)(b:UInt32)(f h:Int)(a g:UInt64)(y k:Int)(m:LB):Hq:=
if(Be y 0)then
some (([]:LB),0,0,0,0,0,y)
else
(Afa f h a g b).bind fun(ag,p)=>
if(geq ag 1)then
if(Ga h 0)then
(Hm (Ly h 0)).bind fun _=>
if(Ch (Ad g (Ah (Ae p:UInt64) (Bo g (GI.toZ (4:UInt64)).toNat))) (Cm (16:UInt64) (GI.toZ h).toNat))then
j8 b f a k m (Ah h 1) (Ad g (Ah (Ae p:UInt64) (Bo g (GI.toZ (4:UInt64)).toNat)))
else
if(Ch h 24)then
(Hm (Ly h 0)).bind fun _=>
if(Ga (Ad g (Ah (Ae p:UInt64) (Bo g (GI.toZ (4:UInt64)).toNat))) (Cm (32:UInt64) (GI.toZ h).toNat))then
j8 b f a k m (Ad h 1) (Ad g (Ah (Ae p:UInt64) (Bo g (GI.toZ (4:UInt64)).toNat)))
else
j8 b f a k m h (Ad g (Ah (Ae p:UInt64) (Bo g (GI.toZ (4:UInt64)).toNat)))
else
j8 b f a k m h (Ad g (Ah (Ae p:UInt64) (Bo g (GI.toZ (4:UInt64)).toNat)))
else
if(Ch h 24)then
(Hm (Ly h 0)).bind fun _=>
if(Ga (Ad g (Ah (Ae p:UInt64) (Bo g (GI.toZ (4:UInt64)).toNat))) (Cm (32:UInt64) (GI.toZ h).toNat))then
j8 b f a k m (Ad h 1) (Ad g (Ah (Ae p:UInt64) (Bo g (GI.toZ (4:UInt64)).toNat)))
else
j8 b f a k m h (Ad g (Ah (Ae p:UInt64) (Bo g (GI.toZ (4:UInt64)).toNat)))
else
j8 b f a k m h (Ad g (Ah (Ae p:UInt64) (Bo g (GI.toZ (4:UInt64)).toNat)))
else
j8 b f a k m h g
def Af8:=An7 Xz
def Aoo(j7:UInt32→Int→Int→UInt64→UInt64→Int→Int→LB→Hq)(b:UInt32)(v:LB)(w f h:Int)(a g:UInt64):Hq:=
(Afa f h a g b).bind fun(ad,ae)=>
(Akg v w (Ae ad:UInt64) 1).bind fun(aa,ab,ac)=>
if((geq ac 0)&&(geq ad 0))then
(Akg aa ab (Ae ae:UInt64) f).bind fun(ah,ai,aj)=>
j7 b f h a g aj ai ah
else
if(geq ac 0)then
(Arv aa ab ae h).bind fun(ak,al,am)=>
j7 b f h a g am al ak
else
j7 b f h a g ac ab aa
def Aob:=Aoo Af8
def An6(j6:UInt32→LB→Int→Int→Int→UInt64→UInt64→Hq)(v:LB)(w f h:Int)(a g:UInt64)(b:UInt32):Hq:=
(Hw v w).bind fun an=>
if(Be an 0)then
some (([]:LB),0,0,0,0,0,8)
else
(Amk f h a g).bind fun ao=>
if(Be ao 0)then
some (([]:LB),0,0,0,0,0,8)
else
j6 b v w f h a g
def Are:=An6 Aob
abbrev Bs:=Option (UInt32×Int)
def Aua(h:UInt32):Bs:=
some (h,0)
def Aj5:=Aua
def Ada(j30:UInt32→Bs)(bk28:UInt32→Int→Bs)(a:LB)(b:LU)(h:UInt32)(m:Int):Bs:=
if(Ch m (Ac a))then
(getI a m).bind fun p=>
(getI b (GI.toZ (Pk (Ae h:UInt8) p))).bind fun _=>
(getI b (GI.toZ (Pk (Ae h:UInt8) p))).bind fun u=>
bk28 (Pk (Bo h (GI.toZ (8:UInt64)).toNat) u) (Ad m 1)
else
j30 h
def Qg(a:LB)(b:LU):Nat→UInt32→Int→Bs
|0,_,_=>none
|q+1,h,m=>Ada Aj5 (Qg a b q) a b h m
def Aki a b:=Qg a b Al
def Ale(j28:LB→LU→UInt32→Int→Bs)(f:UInt32)(a:LB)(b:LU):Bs:=
j28 a b f 0
def Akw:=Ale Aki
def Aj6(j27:UInt32→LB→LU→Bs)(f:UInt32)(a:LB)(b:LU):Bs:=
j27 f a b
def Acn:=Aj6 Akw
def Au0(bk16:Int→LU→Bs)(f:UInt32)(a:LB)(g:Int)(o:LU):Bs:=
bk16 (Ad g 1) o
def Akf bk16:=Au0 bk16
def Alu(j24:Int→LU→Bs)(f:UInt32)(a:LB)(g:Int)(k:UInt32)(b:LU):Bs:=
(getI b g).bind fun _=>
(Ji b g k).bind fun o=>
j24 g o
def Adb bk16 f a:=Alu (Akf bk16 f a) f a
def Ace(j23:Int→UInt32→LU→Bs)(bk21:UInt32→Int→Bs)(f:UInt32)(a:LB)(g:Int)(b:LU)(k:UInt32)(n:Int):Bs:=
if(Ch n 8)then
bk21 (Pk (Bo k (GI.toZ (1:UInt64)).toNat) (Ar 3988292384 (Dq k 1))) (Ad n 1)
else
j23 g k b
def Qt(bk16:Int→LU→Bs)(f:UInt32)(a:LB)(g:Int)(b:LU):Nat→UInt32→Int→Bs
|0,_,_=>none
|q+1,k,n=>Ace (Adb bk16 f a) (Qt bk16 f a g b q) f a g b k n
def Ala bk16 f a g b:=Qt bk16 f a g b Al
def Ac2(j21:Int→LU→UInt32→Int→Bs)(j26:UInt32→LB→LU→Bs)(f:UInt32)(a:LB)(g:Int)(b:LU):Bs:=
if(Ch g 256)then
j21 g b (Ae g:UInt32) 0
else
j26 f a b
def Mq(f:UInt32)(a:LB):Nat→Int→LU→Bs
|0,_,_=>none
|q+1,g,b=>Ac2 (Ala (Mq f a q) f a) Acn f a g b
def Ak1 f a:=Mq f a Al
def Apd(j16:UInt32→LB→Int→LU→Bs)(f:UInt32)(a:LB):Bs:=
if(Ga (Ac a) 100000)then
some (0,4)
else
j16 f a 0 (List.replicate 256 (0:UInt32))
def Arb:=Apd Ak1
def Wh(b:LB):Option (UInt32×Int):=
(Arb 4294967295 b).bind fun(f,a)=>
if(Be a 0)then
some (0,a)
else
some ((Bgc f),0)
def Bez(b:UInt64)(a:Int):Option Bool:=
if(geq a 8)then
some true
else
(Hm (Ly (Ar 8 a) 0)).bind fun _=>
some (geq (Bo b (GI.toZ (Ar 8 a)).toNat) 0)
abbrev Zj:=Option (LB×Int)
def Bec(a:LB):Zj:=
some (a,0)
def Av1:=Bec
def An5(j6:LB→Zj)(bk4:Int→LB→Zj)(f:UInt64)(g:LB)(b:Int)(a:LB):Zj:=
if(Ch b (Ac g))then
(Hm (Ly (Ar 8 b) 0)).bind fun _=>
(getI a b).bind fun _=>
(Ji a b (Ae (Bo f (GI.toZ (Ar 8 b)).toNat):UInt8)).bind fun k=>
bk4 (Ad b 1) k
else
j6 a
def Zy(f:UInt64)(g:LB):Nat→Int→LB→Zj
|0,_,_=>none
|q+1,b,a=>An5 Av1 (Zy f g q) f g b a
def Auq f g:=Zy f g Al
def Avh(j4:UInt64→LB→Int→LB→Zj)(f:UInt64)(h:Int):Zj:=
if((Ch h 1)||(Ga h 8))then
some (([]:LB),2)
else
(Bez f h).bind fun m=>
if(!m)then
some (([]:LB),16)
else
(mkI h (0:UInt8)).bind fun g=>
(Hm (geq h h)).bind fun _=>
j4 f g 0 g
def Yh:=Avh Auq
def Ajk(f:LB):Option (LB):=
some f
def Ug:=Ajk
def Ez(j16:LB→Option (LB))(bk14:Int→LB→Option (LB))(a:List LB)(g:Int)(f:LB):Option (LB):=
if(Ch g (Ac a))then
(getI a g).bind fun o=>
(Cg f o).bind fun p=>
bk14 (Ad g 1) p
else
j16 f
def Dl(a:List LB):Nat→Int→LB→Option (LB)
|0,_,_=>none
|q+1,g,f=>Ez Ug (Dl a q) a g f
def Mc a:=Dl a Al
def Lu(j14:(List LB)→Int→LB→Option (LB))(a:List LB)(k:LB):Option (LB):=
j14 a 0 k
def Hk:=Lu Mc
def Ma(j13:(List LB)→LB→Option (LB))(b:Int)(a:List LB):Option (LB):=
if(Ga (Ah b (Ah (0:Int) (0:Int))) 0)then
(vwI 0 0 0).bind fun _=>
(mkI (Ah b (Ah (0:Int) (0:Int))) (0:UInt8)).bind fun u=>
(Cg ([]:LB) u).bind fun m=>
(vwI (Ac m) 0 0).bind fun _=>
j13 a (Amq m 0 ((0:Int)-(0:Int)))
else
j13 a ([]:LB)
def Mb:=Ma Hk
def Lq(j12:Int→(List LB)→Option (LB))(a:List LB)(b:Int):Option (LB):=
if(Ch b 0)then
none
else
j12 b a
def Lp:=Lq Mb
def Fo(j11:(List LB)→Int→Option (LB))(bk9:Int→Int→Option (LB))(a:List LB)(b h:Int):Option (LB):=
if(Ch h (Ac a))then
(getI a h).bind fun n=>
if(Ch (Ad b (Ac n)) 0)then
none
else
bk9 (Ad b (Ac n)) (Ad h 1)
else
j11 a b
def Dr(a:List LB):Nat→Int→Int→Option (LB)
|0,_,_=>none
|q+1,b,h=>Fo Lp (Dr a q) a b h
def Mv a:=Dr a Al
def Mz(j9:(List LB)→Int→Int→Option (LB))(a:List LB):Option (LB):=
j9 a 0 0
def Ks:=Mz Mv
abbrev Bf:=Option (LB×Int)
def Aka(u:Int)(p:LB):Bf:=
(Wh p).bind fun(af,ac)=>
if(Be ac 0)then
some (([]:LB),ac)
else
(Yh (Ae af:UInt64) 4).bind fun(m,h)=>
if(Be h 0)then
some (([]:LB),h)
else
(Ks ([p,m]:List LB)).bind fun ag=>
some (ag,0)
def Zi:=Aka
def Alq(bk27:Int→(List (Int×Int×UInt64×UInt64×Unit))→Int→LB→Bf)(a:LU)(b f g:Int)(k:List (Int×Int×UInt64×UInt64×Unit))(n:Int)(v:LB):Bf:=
bk27 (Ad g 1) k n v
def Zn bk27:=Alq bk27
def Akm(bk44:Int→Int→LB→Bf)(h:Int)(a:LU)(g b f:Int)(k:List (Int×Int×UInt64×UInt64×Unit))(m:LB)(o n:Int)(aa:LB):Bf:=
bk44 (Ad o 1) (Ad n 1) aa
def Zq bk44:=Akm bk44
def Zc(j48:Int→Int→LB→Bf)(h:Int)(a:LU)(g b f:Int)(k:List (Int×Int×UInt64×UInt64×Unit))(m:LB)(o n:Int)(y:LB):Bf:=
(getI m (Bg o 8)).bind fun _=>
(getI m (Bg o 8)).bind fun ah=>
(Hm (Ly (Ff o 8) 0)).bind fun _=>
(getI y (Bg n 8)).bind fun _=>
(Hm (Ly (Ff n 8) 0)).bind fun _=>
(getI y (Bg n 8)).bind fun ai=>
(getI y (Bg n 8)).bind fun _=>
Option.bind (Ji y (Bg n 8) (gor ai (Cm (Dq (Bo ah (GI.toZ (Ff o 8)).toNat) 1) (GI.toZ (Ff n 8)).toNat))) fun aa=>
j48 o n aa
def Ry bk44 h a g b f k m:=Zc (Zq bk44 h a g b f k m) h a g b f k m
def Rt(j47:Int→Int→LB→Bf)(j50:Int→(List (Int×Int×UInt64×UInt64×Unit))→Int→LB→Bf)(a:LU)(b f h g:Int)(k:List (Int×Int×UInt64×UInt64×Unit))(m:LB)(o n:Int)(v:LB):Bf:=
if(Ch o h)then
if(geq (Ff n 8) 0)then
(Cg v ([(0:UInt8)]:LB)).bind fun aj=>
j47 o n aj
else
j47 o n v
else
j50 g k n v
def Fj(bk27:Int→(List (Int×Int×UInt64×UInt64×Unit))→Int→LB→Bf)(a:LU)(b f h g:Int)(k:List (Int×Int×UInt64×UInt64×Unit))(m:LB):Nat→Int→Int→LB→Bf
|0,_,_,_=>none
|q+1,o,n,v=>Rt (Ry (Fj bk27 a b f h g k m q) h a g b f k m) (Zn bk27 a b f) a b f h g k m o n v
def Ami bk27 a b f h g k m:=Fj bk27 a b f h g k m Al
def Sf(j44:Int→Int→(List (Int×Int×UInt64×UInt64×Unit))→LB→Int→Int→LB→Bf)(j52:Int→LB→Bf)(a:LU)(b f g:Int)(w:List (Int×Int×UInt64×UInt64×Unit))(u:Int)(p:LB):Bf:=
if(Ch g (Ac a))then
(getI a g).bind fun _=>
(getI a g).bind fun ak=>
(Hm (Be b 0)).bind fun _=>
(getI w (Ff g b)).bind fun _=>
(getI w (Ff g b)).bind fun ab=>
(Are ([]:LB) 0 ab.1 ab.2.1 ab.2.2.1 ab.2.2.2.1 ak).bind fun(m,h,al,am,an,ao,ad)=>
if(Be ad 0)then
some (([]:LB),ad)
else
(Hm (Be b 0)).bind fun _=>
(getI w (Ff g b)).bind fun _=>
(Ji w (Ff g b) (al,am,an,ao,())).bind fun k=>
j44 h g k m 0 u p
else
j52 u p
def Gx(a:LU)(b f:Int):Nat→Int→(List (Int×Int×UInt64×UInt64×Unit))→Int→LB→Bf
|0,_,_,_,_=>none
|q+1,g,w,u,p=>Sf (Ami (Gx a b f q) a b f) Zi a b f g w u p
def Zw a b f:=Gx a b f Al
def Adm(j27:LU→Int→Int→Int→(List (Int×Int×UInt64×UInt64×Unit))→Int→LB→Bf)(b f:Int)(ap aq:LX):Bf:=
(Abv b f ap aq).bind fun(a,ae)=>
if(Be ae 0)then
some (([]:LB),ae)
else
(Abu).bind fun ar=>
j27 a b f 0 ar 0 ([]:LB)
def Qa:=Adm Zw
def Oy(a:Int)(b:LX):LI→Int→Option (List LX)
  |[],_=>some []
  |n::l,x=>Option.bind (Bv b x (Ad x (Ar n a))) fun p=>Option.bind (Oy a b l (Ad x (Ar n a))) fun ps=>some (p::ps)
def On(a f:Int)(t:LX):List LX→List LB→Option (List LB×Int)
  |[],o=>some (o,0)
  |x::xs,o=>Option.bind (Qa a f t x) fun y=>
    if(Be y.2 0)=true then some ([],y.2)
    else Option.bind (Cg o [y.1]) fun o'=>On a f t xs o'
def Aj9(a h:Int)(b:LX):Option (List LX):=
  Option.bind (Hm (Be a 0)) fun _=>Option.bind (Vf h (Bg (Ac b) a)) fun l=>Option.bind (Hm (decide (Ac l.1≤17179869184))) fun _=>Oy a b l.1 0
def Ag0(a f h:Int)(b:LX)(p:LB):Option (List LB×Int):=
  Option.bind (Ds a f h b) fun e=>
    if(Be e 0)=true then some ([],e)
    else Option.bind (Aau p) fun t=>
      if(Be t.2 0)=true then some ([],t.2)
      else Option.bind (Aj9 a h b) fun xs=>On a f t.1 xs []
def Ap8(b f a g h:Int):Option Bool:=
some (((((((geq b 1)||(geq b 2))&&(Ga f 0))&&(gle f 6))&&(Ga g 0))&&(gle g 1048576))&&(Ga h 0))
def Wf:=Ap8
def Ae9(j2:Int→Int→Int→Int→Int→Option Bool)(b f a g h:Int):Option Bool:=
if(geq a 8)then
if(geq a 8)then
j2 b f a g h
else
some false
else
if(geq a 16)then
if(geq a 16)then
j2 b f a g h
else
some false
else
if(geq a 24)then
j2 b f a g h
else
some false
def Yl:=Ae9 Wf
def Ag1(k a m f b:Int):Option Bool:=
(Hm (Be a 0)).bind fun _=>
if(Ga b (Bg 4000 a))then
some false
else
(Ho f b).bind fun(g,h)=>
some ((geq h 0)&&(gle g 1000))
def Sa(a b f g h:Int):Option Int:=
(Yl a b f g h).bind fun k=>
if(!k)then
some 8
else
(Ag1 a b f g h).bind fun m=>
if(!m)then
some 8
else
some 0
abbrev Mp:=Option (LB×Int)
def Atd(a:LB):Mp:=
(Wh a).bind fun(u,aa)=>
(Yh (Ae u:UInt64) 4).bind fun(n,v)=>
(Cg a n).bind fun o=>
some (o,0)
def Yt:=Atd
def Ym(j6:LB→Mp)(bk4:Int→LB→Mp)(b f g h k m:Int)(a:LB):Mp:=
if(Ch m 5)then
(getI ([b,f,g,h,k]:LI) m).bind fun w=>
(getI ([(2:Int),(2:Int),(2:Int),(4:Int),(4:Int)]:LI) m).bind fun y=>
(Yh (Ae w:UInt64) y).bind fun(n,v)=>
(Cg a n).bind fun o=>
bk4 (Ad m 1) o
else
j6 a
def Ky(b f g h k:Int):Nat→Int→LB→Mp
|0,_,_=>none
|q+1,m,a=>Ym Yt (Ky b f g h k q) b f g h k m a
def Ah5 b f g h k:=Ky b f g h k Al
def Aio(j4:Int→Int→Int→Int→Int→Int→LB→Mp)(b f g h k:Int):Mp:=
(Sa b f g h k).bind fun p=>
if(Be p 0)then
some (([]:LB),p)
else
j4 b f g h k 0 ([(84:UInt8),(84:UInt8),(65:UInt8),(49:UInt8)]:LB)
def Ajf:=Aio Ah5
def Bde(a:LB):Option (UInt64×Int):=
if(Ga (Ac a) 64)then
some (0,2)
else
(Ap6 a).bind fun(b,f)=>
some (b,0)
def Adu(b:LB):Option (LB×Int):=
(Bde b).bind fun(f,a)=>
if(Be a 0)then
some (([]:LB),a)
else
(Yh f 8).bind fun(g,h)=>
some (g,h)
def Bgj:Option Int:=
some 0
def Auw:=Bgj
def Acq(j6:Option Int)(bk4:Int→Int→Option Int)(a:LI)(f b:Int):Option Int:=
if(Ch b (Ac a))then
(getI a b).bind fun g=>
if((Ch g 5)||(Ga g f))then
some 8
else
bk4 (Ah f g) (Ad b 1)
else
j6
def Px(a:LI):Nat→Int→Int→Option Int
|0,_,_=>none
|q+1,f,b=>Acq Auw (Px a q) a f b
def Ak4 a:=Px a Al
def Acv(j4:LI→Int→Int→Option Int)(a:LI):Option Int:=
if((geq (Ac a) 0)||(Ga (Ac a) 1000))then
some 8
else
j4 a 100000 0
def Og:=Acv Ak4
abbrev Gq:=Option (LB×Int)
def Ber(g:LB):Gq:=
some (g,0)
def Atb:=Ber
def Aiq(j14:LB→Gq)(b:LB):Gq:=
(Wh b).bind fun(m,u)=>
(Yh (Ae m:UInt64) 4).bind fun(n,v)=>
(Cg b n).bind fun g=>
j14 g
def Aim:=Aiq Atb
def As8(bk8:Int→LB→Gq)(a:LI)(f:Int)(h:LB):Gq:=
bk8 (Ad f 1) h
def Air bk8:=As8 bk8
def Ab5(j11:Int→LB→Gq)(j13:LB→Gq)(a:LI)(f:Int)(b:LB):Gq:=
if(Ch f (Ac a))then
(getI a f).bind fun o=>
(Yh (Ae o:UInt64) 4).bind fun(p,w)=>
(Cg b p).bind fun h=>
j11 f h
else
j13 b
def Qj(a:LI):Nat→Int→LB→Gq
|0,_,_=>none
|q+1,f,b=>Ab5 (Air (Qj a q) a) Aim a f b
def Auj a:=Qj a Al
def Akl(j8:LI→Int→LB→Gq)(a:LI):Gq:=
(Og a).bind fun k=>
if(Be k 0)then
some (([]:LB),k)
else
j8 a 0 ([]:LB)
def Am0:=Akl Auj
def Aoi(a:LB):Option Int:=
some (Ac a)
def Bh5(a:LB):Option (LB):=
some a
def Avu:=Bh5
def Adw(j6:LB→Option (LB))(bk4:Int→LB→Option (LB))(b:List LB)(f:Int)(a:LB):Option (LB):=
if(Ch f (Ac b))then
(getI b f).bind fun g=>
(Cg a g).bind fun h=>
bk4 (Ad f 1) h
else
j6 a
def Qd(b:List LB):Nat→Int→LB→Option (LB)
|0,_,_=>none
|q+1,f,a=>Adw Avu (Qd b q) b f a
def Awh b:=Qd b Al
def At4(j4:(List LB)→Int→LB→Option (LB))(b:List LB):Option (LB):=
j4 b 0 ([]:LB)
def Avr:=At4 Awh
abbrev En:=Option (LB×Int)
def Asy(k:Int)(a:List LB)(b f n:LB):En:=
if(Be k 0)then
some (([]:LB),k)
else
(Cg ([b,f,n]:List LB) a).bind fun m=>
(Avr m).bind fun ad=>
some (ad,0)
def Aik:=Asy
def Aip(j14:Int→(List LB)→LB→LB→LB→En)(h:LI)(a:List LB)(b f:LB):En:=
(Am0 h).bind fun(n,k)=>
j14 k a b f n
def Sp:=Aip Aik
def As4(bk9:Int→LI→En)(a:List LB)(b f:LB)(g:Int)(m:LI):En:=
bk9 (Ad g 1) m
def Ais bk9:=As4 bk9
def Abs(j11:Int→LI→En)(j13:LI→(List LB)→LB→LB→En)(a:List LB)(b f:LB)(g:Int)(h:LI):En:=
if(Ch g (Ac a))then
(getI a g).bind fun _=>
(getI a g).bind fun ae=>
(Aoi ae).bind fun k=>
(getI h g).bind fun _=>
(Ji h g k).bind fun m=>
j11 g m
else
j13 h a b f
def Qh(a:List LB)(b f:LB):Nat→Int→LI→En
|0,_,_=>none
|q+1,g,h=>Abs (Ais (Qh a b f q) a b f) Sp a b f g h
def Av5 a b f:=Qh a b f Al
def Ali(j9:(List LB)→LB→LB→Int→LI→En)(a:List LB)(b f:LB):En:=
(mkI (Ac a) (0:Int)).bind fun af=>
(Hm (geq (Ac a) (Ac a))).bind fun _=>
j9 a b f 0 af
def Acs:=Ali Av5
def Aml(j8:(List LB)→LB→LB→En)(p u v:Int)(w:LX)(o:LB):En:=
(Ant p u v w o).bind fun(y,ag,ah,ai,aj,aa)=>
if(Be aa 0)then
some (([]:LB),aa)
else
(Ag0 p u v w o).bind fun(a,ab)=>
if(Be ab 0)then
some (([]:LB),ab)
else
(Ajf y ag ah ai aj).bind fun(b,ac)=>
if(Be ac 0)then
some (([]:LB),ac)
else
if(geq y 2)then
(Adu o).bind fun(ak,al)=>
j8 a b ak
else
j8 a b ([]:LB)
def Ahf:=Aml Acs
def Aly:Option (LB×Bool):=
(Ahf 1 8 1 ([(1:Int32),(2:Int32),(3:Int32)]:LX) ([]:LB)).bind fun(a,b)=>
if((Be b 0)||(Be (Ac a) 56))then
some (([]:LB),false)
else
(getI a 45).bind fun _=>
(getI a 45).bind fun f=>
(getI a 45).bind fun _=>
(Ji a 45 (Pk f 1)).bind fun g=>
some (g,true)
def Hc(a b:LB):Option Bool:=
some (a==b)
def Ld(b a:LB):Option Bool:=
if(Ly (Ac b) (Ac a))then
(Bv b 0 (Ac a)).bind fun f=>
(Hc f a).bind fun g=>
some g
else
some false
abbrev Kv:=Option (Int×Int)
def Bcz(b:Int):Kv:=
some (b,0)
def Apv:=Bcz
def Wg(j6:Int→Kv)(bk4:Int→Int→Kv)(a:LB)(b f:Int):Kv:=
if(Ch f (Ac a))then
(getI a f).bind fun g=>
if(Ga g 127)then
some (0,12)
else
bk4 (gor (Cm b (GI.toZ (7:UInt64)).toNat) (Ae g:Int)) (Ad f 1)
else
j6 b
def Mj(a:LB):Nat→Int→Int→Kv
|0,_,_=>none
|q+1,b,f=>Wg Apv (Mj a q) a b f
def Afj a:=Mj a Al
def Afi(j4:LB→Int→Int→Kv)(a:LB):Kv:=
if(Be (Ac a) 4)then
some (0,2)
else
j4 a 0 0
def Af9:=Afi Afj
abbrev Hy:=Option (Int×Int)
def As1(a:LB)(b:UInt8)(h:Int):Hy:=
if(Ga h 4000)then
some (0,4)
else
if(Ch (Ac a) h)then
some (0,24)
else
if(geq b 16)then
(Bv a (Ah h 10) h).bind fun k=>
(Bv k 0 3).bind fun u=>
if(u !=([51,68,73]:LB))then
some (0,12)
else
(Bv k 3 (Ac k)).bind fun v=>
(Bv a 3 10).bind fun w=>
(Hc v w).bind fun y=>
if(!y)then
some (0,12)
else
some (h,0)
else
some (h,0)
def Yr:=As1
def Ah1(j8:LB→UInt8→Int→Hy)(a:LB)(g:Int)(b:UInt8):Hy:=
if(geq b 16)then
j8 a b (Ad (Ad g 10) 10)
else
j8 a b (Ad g 10)
def Yn:=Ah1 Yr
def Ait(j7:LB→Int→UInt8→Hy)(a:LB)(g:Int)(b:UInt8)(m:Bool):Hy:=
if m then
some (0,12)
else
j7 a g b
def Ahy:=Ait Yn
def Aig(j6:LB→Int→UInt8→Bool→Hy)(a:LB)(f b:UInt8):Hy:=
(Bv a 6 10).bind fun aa=>
(Af9 aa).bind fun(g,ab)=>
if(Be ab 0)then
if true then
j6 a g b true
else
if(geq b 0)then
j6 a g b (!((Ly f 2)&&(gle f 4)))
else
if(geq b 16)then
j6 a g b (!(geq f 4))
else
j6 a g b (!false)
else
(getI a 4).bind fun ac=>
if(Be ac 0)then
j6 a g b true
else
if(geq b 0)then
j6 a g b (!((Ly f 2)&&(gle f 4)))
else
if(geq b 16)then
j6 a g b (!(geq f 4))
else
j6 a g b (!false)
def Ah9:=Aig Ahy
def Yq(j5:LB→UInt8→UInt8→Hy)(a:LB):Hy:=
(Ld a ([(73:UInt8),(68:UInt8),(51:UInt8)]:LB)).bind fun n=>
if(!n)then
some (0,6)
else
if(Ch (Ac a) 10)then
some (0,24)
else
(getI a 3).bind fun f=>
(getI a 5).bind fun b=>
(
(
(
j5 a f b)))
def Ajm:=Yq Ah9
abbrev Zt:=Option (UInt64×Int)
def Bqu(b:UInt64):Zt:=
some (b,0)
def Beg:=Bqu
def Ams(j6:UInt64→Zt)(bk4:UInt64→Int→Zt)(a:LB)(b:UInt64)(f:Int):Zt:=
if(Ch f (Ac a))then
(getI a f).bind fun g=>
(Hm (Ly (Ar 8 f) 0)).bind fun _=>
bk4 (gor b (Cm (Ae g:UInt64) (GI.toZ (Ar 8 f)).toNat)) (Ad f 1)
else
j6 b
def Aaz(a:LB):Nat→UInt64→Int→Zt
|0,_,_=>none
|q+1,b,f=>Ams Beg (Aaz a q) a b f
def Aut a:=Aaz a Al
def Awt(j4:LB→UInt64→Int→Zt)(a:LB):Zt:=
if((Ch (Ac a) 1)||(Ga (Ac a) 8))then
some (0,2)
else
j4 a 0 0
def Auv:=Awt Aut
def Ap3(f:LB)(a b:Int):Option (UInt64×Int):=
if(((Ch b 1)||(Ga b 8))||(Ch a 0))then
some (0,2)
else
if(Ga a (Ah (Ac f) b))then
some (0,24)
else
(Bv f a (Ad a b)).bind fun g=>
(Auv g).bind fun(h,k)=>
some (h,k)
def Bgu(g:LB):Option (LB):=
some g
def Azh:=Bgu
def Arf(j6:LB→Option (LB))(bk4:Int→LB→Option (LB))(a b:Int)(f:UInt64)(h:Int)(g:LB):Option (LB):=
if(Ch h (Ac ([(2000:UInt64),(Ae (Ad a 32):UInt64),(Ae b:UInt64),f,(0:UInt64),(0:UInt64)]:LQ)))then
(getI ([(2000:UInt64),(Ae (Ad a 32):UInt64),(Ae b:UInt64),f,(0:UInt64),(0:UInt64)]:LQ) h).bind fun _=>
(getI ([(2000:UInt64),(Ae (Ad a 32):UInt64),(Ae b:UInt64),f,(0:UInt64),(0:UInt64)]:LQ) h).bind fun k=>
(Yh k 4).bind fun(m,o)=>
(Cg g m).bind fun n=>
bk4 (Ad h 1) n
else
j6 g
def Ze(a b:Int)(f:UInt64):Nat→Int→LB→Option (LB)
|0,_,_=>none
|q+1,h,g=>Arf Azh (Ze a b f q) a b f h g
def Azs a b f:=Ze a b f Al
def Azt(j4:Int→Int→UInt64→Int→LB→Option (LB))(a b:Int)(f:UInt64):Option (LB):=
j4 a b f 0 ([(65:UInt8),(80:UInt8),(69:UInt8),(84:UInt8),(65:UInt8),(71:UInt8),(69:UInt8),(88:UInt8)]:LB)
def Axl:=Azt Azs
def Ajs(b:LB)(g:UInt64):Option (Int×Int×Bool):=
(Ap3 b 12 4).bind fun(a,m)=>
(Ap3 b 16 4).bind fun(f,n)=>
if(((Ch a 32)||(Ga a 3032))||(Ga f 1000))then
some (0,0,false)
else
(Axl (Ah (Ae a:Int) 32) (Ae f:Int) g).bind fun h=>
(Hc b h).bind fun k=>
some ((Ah (Ae a:Int) 32),(Ae f:Int),k)
def Aw9(a:LB):Option (Int×Int):=
(Ld a ([(65:UInt8),(80:UInt8),(69:UInt8),(84:UInt8),(65:UInt8),(71:UInt8),(69:UInt8),(88:UInt8)]:LB)).bind fun f=>
if(!f)then
some (0,6)
else
if(Ch (Ac a) 32)then
some (0,24)
else
(Bv a 0 32).bind fun g=>
(Ajs g 2684354560).bind fun(b,h,k)=>
if(!k)then
some (0,12)
else
if(Ch (Ac a) (Ad b 64))then
some (0,24)
else
(Bv a (Ah (Ad b 64) 32) (Ad b 64)).bind fun m=>
(Axl b h 2147483648).bind fun n=>
(Hc m n).bind fun o=>
if(!o)then
some (0,12)
else
some ((Ad b 64),0)
def Vi(a:LB):Option (Int×Int):=
(Ajm a).bind fun(f,b)=>
if(Be b 6)then
some (f,b)
else
(Aw9 a).bind fun(g,h)=>
some (g,h)
def Ti(b:List UInt8):Nat→Int→Option (Int×Int)
  |0,_=>none
  |q+1,x=>Option.bind (Bv b x (Ac b)) fun s=>Option.bind (Vi s) fun r=>
    if geq r.2 (6:Int)=true then some (x,0)
    else if(geq r.2 (0:Int)&&Ga (Ad x r.1) (4000:Int))=true then some (0,4)
    else if Be r.2 (0:Int)=true then some (0,r.2)
    else Ti b q (Ad x r.1)
def Vg(b:List UInt8):Option (Int×Int):=Ti b Al 0
def Jo(b a:LB):Option Bool:=
if(Ly (Ac b) (Ac a))then
(Bv b 0 (Ac a)).bind fun f=>
some (f==a)
else
some false
def Ui(a b:LB):Option Bool:=
(Jo a b).bind fun f=>
some f
abbrev Pf:=Option (Int×Int×Int×Int×Int×Int)
def Avz(a:LI):Pf:=
(getI a 0).bind fun _=>
(getI a 0).bind fun h=>
(getI a 1).bind fun _=>
(getI a 1).bind fun k=>
(getI a 2).bind fun _=>
(getI a 2).bind fun m=>
(getI a 3).bind fun _=>
(getI a 3).bind fun n=>
(getI a 4).bind fun _=>
(getI a 4).bind fun o=>
(Yl h k m n o).bind fun p=>
if(!p)then
some (0,0,0,0,0,12)
else
(Ag1 h k m n o).bind fun u=>
if(!u)then
some (0,0,0,0,0,4)
else
some (h,k,m,n,o,0)
def Abt:=Avz
def Adp(j6:LI→Pf)(bk4:Int→Int→LI→Pf)(b:LB)(g f:Int)(a:LI):Pf:=
if(Ch f 5)then
(getI ([(2:Int),(2:Int),(2:Int),(4:Int),(4:Int)]:LI) f).bind fun h=>
(Ap3 b g h).bind fun(v,ae)=>
(getI a f).bind fun _=>
(Ji a f (Ae v:Int)).bind fun w=>
bk4 (Ad g h) (Ad f 1) w
else
j6 a
def Mm(b:LB):Nat→Int→Int→LI→Pf
|0,_,_,_=>none
|q+1,g,f,a=>Adp Abt (Mm b q) b g f a
def Acp b:=Mm b Al
def Akz(j4:LB→Int→Int→LI→Pf)(b:LB):Pf:=
(Bv b 0 (Dx 4 (Ac b))).bind fun y=>
(Ui ([84,84,65,49]:LB) y).bind fun aa=>
if(!aa)then
some (0,0,0,0,0,12)
else
if(Ch (Ac b) 22)then
some (0,0,0,0,0,24)
else
(Ap3 b 18 4).bind fun(ab,af)=>
(Bv b 0 18).bind fun ac=>
(Wh ac).bind fun(ad,ag)=>
if(Be (Ae ad:UInt64) ab)then
some (0,0,0,0,0,22)
else
j4 b 4 0 (List.replicate 5 (0:Int))
def Agv:=Akz Acp
def Wl(a f:LB):Option (Bool×Int):=
(Adu f).bind fun(b,g)=>
if((Be g 0)||(Be (Ac a) (Ac b)))then
some (false,2)
else
(Hc a b).bind fun h=>
some (h,0)
def Me(g h k a b:Int):Option (LI×Int):=
(Sa g h k a b).bind fun f=>
if(Be f 0)then
some (([]:LI),f)
else
(Vf a b).bind fun(m,n)=>
some (m,n)
abbrev Rg:=Option (LI×Int)
def Ax2(a:LI):Rg:=
(Og a).bind fun k=>
if(Be k 0)then
some (([]:LI),12)
else
some (a,0)
def Agb:=Ax2
def Af0(j6:LI→Rg)(bk4:Int→LI→Rg)(b:LB)(f:LI)(g:Int)(a:LI):Rg:=
if(Ch g (Ac f))then
(Ap3 b (Ar 4 g) 4).bind fun(k,u)=>
(getI a g).bind fun _=>
(Ji a g (Ae k:Int)).bind fun m=>
bk4 (Ad g 1) m
else
j6 a
def Ta(b:LB)(f:LI):Nat→Int→LI→Rg
|0,_,_=>none
|q+1,g,a=>Af0 Agb (Ta b f q) b f g a
def Aox b f:=Ta b f Al
def Aom(j4:LB→LI→Int→LI→Rg)(b:LB)(h:Int):Rg:=
if((Ch h 1)||(Ga h 1000))then
some (([]:LI),2)
else
if(Ch (Ac b) (Ad (Ar 4 h) 4))then
some (([]:LI),24)
else
(Ap3 b (Ar 4 h) 4).bind fun(n,v)=>
(Bv b 0 (Ar 4 h)).bind fun o=>
(Wh o).bind fun(p,w)=>
if(Be (Ae p:UInt64) n)then
some (([]:LI),22)
else
(mkI h (0:Int)).bind fun f=>
(Hm (geq h h)).bind fun _=>
j4 b f 0 f
def Ama:=Aom Aox
abbrev Aon:=Option (Int×Int×Int×Int×Int×Int×LI×Int)
def Av2(a:LB)(b f g h k n:Int):Aon:=
(Me b f g h k).bind fun(ab,p)=>
if(Be p 0)then
some (0,0,0,0,0,0,([]:LI),p)
else
(Bv a n (Ac a)).bind fun ac=>
(Ama ac (Ac ab)).bind fun(u,v)=>
if(Be v 0)then
some (0,0,0,0,0,0,([]:LI),v)
else
some (b,f,g,h,k,(Ad (Ad n (Ar 4 (Ac u))) 4),u,0)
def Ql:=Av2
def Vy(j2:LB→Int→Int→Int→Int→Int→Int→Aon)(a o:LB):Aon:=
if(Ga (Ac o) 64)then
some (0,0,0,0,0,0,([]:LI),2)
else
if(Ga (Ac a) 100000)then
some (0,0,0,0,0,0,([]:LI),4)
else
(Vg a).bind fun(m,w)=>
if(Be w 0)then
some (0,0,0,0,0,0,([]:LI),w)
else
(Bv a m (Ac a)).bind fun ad=>
(Agv ad).bind fun(b,f,g,h,k,y)=>
if(Be y 0)then
some (0,0,0,0,0,0,([]:LI),y)
else
if((o==([]:LB)) !=(geq b 1))then
some (0,0,0,0,0,0,([]:LI),26)
else
if(o !=([]:LB))then
if(Ch (Ac a) (Ad (Ad m 22) 8))then
some (0,0,0,0,0,0,([]:LI),24)
else
(Bv a (Ad m 22) (Ad (Ad m 22) 8)).bind fun ae=>
(Wl ae o).bind fun(af,aa)=>
if(Be aa 0)then
some (0,0,0,0,0,0,([]:LI),aa)
else
if(!af)then
some (0,0,0,0,0,0,([]:LI),26)
else
j2 a b f g h k (Ad (Ad m 22) 8)
else
j2 a b f g h k (Ad m 22)
def seekto_Open:=Vy Ql
abbrev Gs:=Option (LI×Int)
def Ba5(f:LI):Gs:=
some (f,0)
def Am2:=Ba5
def Apm(bk6:Int→Int→LI→Gs)(a:LI)(b g h:Int)(k:LI):Gs:=
bk6 (Ad b 1) (Ad g h) k
def Aev bk6:=Apm bk6
def Wn(j8:Int→Int→Int→LI→Gs)(j10:LI→Gs)(a:LI)(b g:Int)(f:LI):Gs:=
if(Ch b (Ac a))then
(getI a b).bind fun h=>
(Cg f ([(Ad g h)]:LI)).bind fun k=>
j8 b g h k
else
j10 f
def Mh(a:LI):Nat→Int→Int→LI→Gs
|0,_,_,_=>none
|q+1,b,g,f=>Wn (Aev (Mh a q) a) Am2 a b g f
def Aqi a:=Mh a Al
def Afn(j6:LI→Int→Int→LI→Gs)(a:LI):Gs:=
(Og a).bind fun m=>
if(Be m 0)then
some (([]:LI),m)
else
j6 a 0 0 ([(0:Int)]:LI)
def Afx:=Afn Aqi
def Ac7(a:LB):Option (LB×Int):=
if(Ch (Ac a) 5)then
some (([]:LB),24)
else
if(Ga (Ac a) 41254)then
some (([]:LB),4)
else
(Bv a 0 (Ah (Ac a) 4)).bind fun f=>
(Wh f).bind fun(g,b)=>
if(Be b 0)then
some (([]:LB),b)
else
(Bv a (Ah (Ac a) 4) (Ac a)).bind fun h=>
(Auv h).bind fun(k,m)=>
if((Be m 0)||(Be k (Ae g:UInt64)))then
some (([]:LB),22)
else
(Bv a 0 (Ah (Ac a) 4)).bind fun n=>
some (n,0)
def Bnh(a:LB):Option (LB×Int×Int):=
if(Ga (Ac a) 41250)then
some (([]:LB),0,4)
else
(Ec a).bind fun b=>
some (b,(Ar 8 (Ac a)),0)
def Bon(g:UInt64):Option UInt64:=
some g
def Bdz:=Bon
def Avl(j6:UInt64→Option UInt64)(bk4:UInt64→Int→Option UInt64)(b f:Int)(h:LB)(k:Int)(g:UInt64)(a:Int):Option UInt64:=
if(Ch a f)then
(getI h (Bl9 (Ad b a) (GI.toZ (3:UInt64)).toNat)).bind fun m=>
(Hm (Ly (Dq (Ad b a) 7) 0)).bind fun _=>
(Hm (Ly (Dx (Ah f a) (Ah 8 (Dq (Ad b a) 7))) 0)).bind fun _=>
(Hm (Ly a 0)).bind fun _=>
bk4 (gor g (Cm (Ae (Dq (Bo m (GI.toZ (Dq (Ad b a) 7)).toNat) (Ah (Cm (1:UInt8) (GI.toZ (Dx (Ah f a) (Ah 8 (Dq (Ad b a) 7)))).toNat) 1)):UInt64) (GI.toZ a).toNat)) (Ad a (Dx (Ah f a) (Ah 8 (Dq (Ad b a) 7))))
else
j6 g
def Agg(b f:Int)(h:LB)(k:Int):Nat→UInt64→Int→Option UInt64
|0,_,_=>none
|q+1,g,a=>Avl Bdz (Agg b f h k q) b f h k g a
def Beb b f h k:=Agg b f h k Al
def Bdk(j4:Int→Int→LB→Int→UInt64→Int→Option UInt64)(h:LB)(k b f:Int):Option UInt64:=
j4 b f h k 0 0
def Bba:=Bdk Beb
abbrev Es:=Option (LB×Int×Int)
def Bav(o:Int)(p:LB):Es:=
some (p,o,0)
def Arp:=Bav
def Bat(bk27:Int→Int→LB→Es)(a:Int)(g:LB)(f b h:Int)(u:LB):Es:=
bk27 (Ad b 64) h u
def Ajn bk27:=Bat bk27
def Bbt(bk44:UInt64→Int→Int→LB→Es)(a b:Int)(g:LB)(f:Int)(k n:UInt64)(m h:Int)(w:LB):Es:=
(Hm (Ly (Dx m (Ah 8 (Dq h 7))) 0)).bind fun _=>
bk44 (Bo n (GI.toZ (Dx m (Ah 8 (Dq h 7)))).toNat) (Ah m (Dx m (Ah 8 (Dq h 7)))) (Ad h (Dx m (Ah 8 (Dq h 7)))) w
def Aq6 bk44:=Bbt bk44
def Ase(j48:UInt64→Int→Int→LB→Es)(a b:Int)(g:LB)(f:Int)(k n:UInt64)(m h:Int)(v:LB):Es:=
(getI v (Ah (Ac v) 1)).bind fun _=>
(Hm (Ly (Dx m (Ah 8 (Dq h 7))) 0)).bind fun _=>
(Hm (Ly (Dq h 7) 0)).bind fun _=>
(getI v (Ah (Ac v) 1)).bind fun aa=>
(getI v (Ah (Ac v) 1)).bind fun _=>
Option.bind (Ji v (Ah (Ac v) 1) (gor aa (Cm (Ae (Dq n (Ah (Cm (1:UInt64) (GI.toZ (Dx m (Ah 8 (Dq h 7)))).toNat) 1)):UInt8) (GI.toZ (Dq h 7)).toNat))) fun w=>
j48 n m h w
def Ajr bk44 a b g f k:=Ase (Aq6 bk44 a b g f k) a b g f k
def Aje(j47:UInt64→Int→Int→LB→Es)(j50:Int→Int→LB→Es)(a:Int)(g:LB)(f b:Int)(k n:UInt64)(m h:Int)(u:LB):Es:=
if(Ga m 0)then
if(geq (Dq h 7) 0)then
(Cg u ([(0:UInt8)]:LB)).bind fun ab=>
j47 n m h ab
else
j47 n m h u
else
j50 b h u
def Nx(bk27:Int→Int→LB→Es)(a:Int)(g:LB)(f b:Int)(k:UInt64):Nat→UInt64→Int→Int→LB→Es
|0,_,_,_,_=>none
|q+1,n,m,h,u=>Aje (Ajr (Nx bk27 a g f b k q) a b g f k) (Ajn bk27 a g f) a g f b k n m h u
def Ar0 bk27 a g f b k:=Nx bk27 a g f b k Al
def Aq7(j44:Int→UInt64→UInt64→Int→Int→LB→Es)(j52:Int→LB→Es)(a:Int)(g:LB)(f b o:Int)(p:LB):Es:=
if(Ch b a)then
(Bba g f b (Dx 64 (Ah a b))).bind fun k=>
j44 b k k (Dx 64 (Ah a b)) o p
else
j52 o p
def Wr(a:Int)(g:LB)(f:Int):Nat→Int→Int→LB→Es
|0,_,_,_=>none
|q+1,b,o,p=>Aq7 (Ar0 (Wr a g f q) a g f) Arp a g f b o p
def Aqz a g f:=Wr a g f Al
def Aum(j27:Int→LB→Int→Int→Int→LB→Es)(g:LB)(f y a:Int):Es:=
(Hw g f).bind fun ac=>
if(Be ac 0)then
some (([]:LB),0,8)
else
if(((Ch y 0)||(Ga y a))||(Ga a f))then
some (([]:LB),0,2)
else
j27 a g f y 0 ([]:LB)
def Aux:=Aum Aqz
def Abd(g:LB)(b f a:Int):Option (UInt64×Int):=
(Hw g b).bind fun h=>
if(Be h 0)then
some (0,8)
else
if(((Ch a 0)||(Ga a 64))||(Ch f 0))then
some (0,2)
else
if(Ga f (Ah b a))then
some (0,24)
else
(Bba g b f a).bind fun k=>
some (k,0)
def Fy(a:UInt64):Option Int:=
if(geq a 0)then
some 64
else
(getI ([(0:UInt8),(1:UInt8),(56:UInt8),(2:UInt8),(57:UInt8),(49:UInt8),(28:UInt8),(3:UInt8),(61:UInt8),(58:UInt8),(42:UInt8),(50:UInt8),(38:UInt8),(29:UInt8),(17:UInt8),(4:UInt8),(62:UInt8),(47:UInt8),(59:UInt8),(36:UInt8),(45:UInt8),(43:UInt8),(51:UInt8),(22:UInt8),(53:UInt8),(39:UInt8),(33:UInt8),(30:UInt8),(24:UInt8),(18:UInt8),(12:UInt8),(5:UInt8),(63:UInt8),(55:UInt8),(48:UInt8),(27:UInt8),(60:UInt8),(41:UInt8),(37:UInt8),(16:UInt8),(46:UInt8),(35:UInt8),(44:UInt8),(21:UInt8),(52:UInt8),(32:UInt8),(23:UInt8),(11:UInt8),(54:UInt8),(26:UInt8),(40:UInt8),(15:UInt8),(34:UInt8),(20:UInt8),(31:UInt8),(10:UInt8),(25:UInt8),(14:UInt8),(19:UInt8),(9:UInt8),(13:UInt8),(8:UInt8),(7:UInt8),(6:UInt8)]:LB) (GI.toZ (Bo (Ar (Dq a (Bae a)) 285870213051353865) (GI.toZ (58:UInt64)).toNat))).bind fun b=>
some (Ae b:Int)
abbrev Ht:=Option (Int×Int×Int)
def Bh0:Ht:=
some (0,0,24)
def Aub:=Bh0
def Ax6(j10:Ht):Ht:=
j10
def Axx:=Ax6 Aub
def Aoz(j9:Ht)(f a:Int):Ht:=
if(geq f 48)then
some (f,(Ad 0 (Ad a f)),0)
else
j9
def Aod:=Aoz Axx
def Aoy(j8:Int→Int→Ht)(f b a:Int):Ht:=
if(Ch f (Dx 48 (Ah b a)))then
some (f,(Ad (Ad (0:Int) (1:Int)) (Ad a f)),0)
else
j8 f a
def Aoq:=Aoy Aod
def Ao0(j7:Int→Int→Int→Ht)(h:Int)(k:UInt64)(a:Int)(g:LB)(b:Int):Ht:=
if(Be h 0)then
some (0,0,h)
else
(Fy (Bgc k)).bind fun f=>
j7 f b a
def Ao4:=Ao0 Aoq
def Xu(j6:Int→UInt64→Int→LB→Int→Ht)(g:LB)(b a:Int):Ht:=
(Hw g b).bind fun m=>
if(Be m 0)then
some (0,0,m)
else
if(Ch a 0)then
some (0,0,2)
else
if(Ly a b)then
some (0,0,24)
else
(
(
(Abd g b a (Dx 48 (Ah b a))).bind fun(k,h)=>
j6 h k a g b))
def Aff:=Xu Ao4
abbrev Awl:=Option (UInt32×Int×Int)
def Ard(a b f:Int)(g:LB)(h k:Int):Awl:=
(Abd g h b k).bind fun(m,n)=>
if(Be n 0)then
some (0,0,n)
else
if(Ch f 48)then
(Hm (Ly a 0)).bind fun _=>
some ((gor (Cm (Ae f:UInt32) (GI.toZ a).toNat) (Ae m:UInt32)),(Ad b k),0)
else
(We (Ae m:UInt32) a).bind fun u=>
if(!u)then
some (0,0,12)
else
some ((Ae m:UInt32),(Ad b k),0)
def Ajb:=Ard
def Asg(j2:Int→Int→Int→LB→Int→Int→Awl)(g:LB)(h v a:Int):Awl:=
(Hw g h).bind fun o=>
if(Be o 0)then
some (0,0,o)
else
if((Ch a 0)||(Ga a 24))then
some (0,0,2)
else
(Aff g h v).bind fun(f,b,p)=>
if(Be p 0)then
some (0,0,p)
else
if(geq f 48)then
j2 a b f g h 32
else
j2 a b f g h a
def Awz:=Asg Ajb
abbrev Kh:=Option (UInt32×Int×Int×Int×UInt64×UInt64×Int)
def Axy(f:UInt32)(k w m:Int)(a n:UInt64):Kh:=
some (f,k,w,m,(Ad a (Ah (Ae f:UInt64) (Bo a (GI.toZ (4:UInt64)).toNat))),n,0)
def Aow:=Axy
def Asj(j10:UInt32→Int→Int→Int→UInt64→UInt64→Kh)(f:UInt32)(k m:Int)(a n:UInt64)(w:Int):Kh:=
j10 f k w m a n
def Arj:=Asj Aow
def Asl(j9:UInt32→Int→Int→UInt64→UInt64→Int→Kh)(f:UInt32)(k b:Int)(a:UInt64)(m:Int)(n:UInt64):Kh:=
if(Ga b 0)then
(Hm (Ly b 0)).bind fun _=>
if(Ch (Ad a (Ah (Ae f:UInt64) (Bo a (GI.toZ (4:UInt64)).toNat))) (Cm (16:UInt64) (GI.toZ b).toNat))then
j9 f k m a n (Ah b 1)
else
if(Ch b 24)then
(Hm (Ly b 0)).bind fun _=>
if(Ga (Ad a (Ah (Ae f:UInt64) (Bo a (GI.toZ (4:UInt64)).toNat))) (Cm (32:UInt64) (GI.toZ b).toNat))then
j9 f k m a n (Ad b 1)
else
j9 f k m a n b
else
j9 f k m a n b
else
if(Ch b 24)then
(Hm (Ly b 0)).bind fun _=>
if(Ga (Ad a (Ah (Ae f:UInt64) (Bo a (GI.toZ (4:UInt64)).toNat))) (Cm (32:UInt64) (GI.toZ b).toNat))then
j9 f k m a n (Ad b 1)
else
j9 f k m a n b
else
j9 f k m a n b
def Ade:=Asl Arj
def Arw(j8:UInt32→Int→Int→UInt64→Int→UInt64→Kh)(b h:Int)(a g:UInt64)(f:UInt32)(k:Int):Kh:=
(Afa b h a g f).bind fun(ad,o)=>
if(geq ad 1)then
if(Ga h 0)then
(Hm (Ly h 0)).bind fun _=>
if(Ch (Ad g (Ah (Ae o:UInt64) (Bo g (GI.toZ (4:UInt64)).toNat))) (Cm (16:UInt64) (GI.toZ h).toNat))then
j8 f k b a (Ah h 1) (Ad g (Ah (Ae o:UInt64) (Bo g (GI.toZ (4:UInt64)).toNat)))
else
if(Ch h 24)then
(Hm (Ly h 0)).bind fun _=>
if(Ga (Ad g (Ah (Ae o:UInt64) (Bo g (GI.toZ (4:UInt64)).toNat))) (Cm (32:UInt64) (GI.toZ h).toNat))then
j8 f k b a (Ad h 1) (Ad g (Ah (Ae o:UInt64) (Bo g (GI.toZ (4:UInt64)).toNat)))
else
j8 f k b a h (Ad g (Ah (Ae o:UInt64) (Bo g (GI.toZ (4:UInt64)).toNat)))
else
j8 f k b a h (Ad g (Ah (Ae o:UInt64) (Bo g (GI.toZ (4:UInt64)).toNat)))
else
if(Ch h 24)then
(Hm (Ly h 0)).bind fun _=>
if(Ga (Ad g (Ah (Ae o:UInt64) (Bo g (GI.toZ (4:UInt64)).toNat))) (Cm (32:UInt64) (GI.toZ h).toNat))then
j8 f k b a (Ad h 1) (Ad g (Ah (Ae o:UInt64) (Bo g (GI.toZ (4:UInt64)).toNat)))
else
j8 f k b a h (Ad g (Ah (Ae o:UInt64) (Bo g (GI.toZ (4:UInt64)).toNat)))
else
j8 f k b a h (Ad g (Ah (Ae o:UInt64) (Bo g (GI.toZ (4:UInt64)).toNat)))
else
j8 f k b a h g
def Ajq:=Arw Ade
def Arm(j7:Int→Int→UInt64→UInt64→UInt32→Int→Kh)(p:Int)(u:LB)(v b h:Int)(a g:UInt64):Kh:=
(Abd u v p 1).bind fun(ae,aa)=>
if(Be aa 0)then
some (0,0,0,0,0,0,aa)
else
if(geq ae 0)then
(Abd u v (Ad p 1) b).bind fun(af,ab)=>
if(Be ab 0)then
some (0,0,0,0,0,0,ab)
else
j7 b h a g (Ae af:UInt32) (Ad (Ad p 1) b)
else
(Awz u v (Ad p 1) h).bind fun(y,ag,ac)=>
if(Be ac 0)then
some (0,0,0,0,0,0,ac)
else
(Hm (Ly b 0)).bind fun _=>
if(Ch (Ad y (Cm (1:UInt32) (GI.toZ b).toNat)) y)then
some (0,0,0,0,0,0,12)
else
j7 b h a g (Ad y (Cm (1:UInt32) (GI.toZ b).toNat)) ag
def Arx:=Arm Ajq
def Ary(j6:Int→LB→Int→Int→Int→UInt64→UInt64→Kh)(u:LB)(v p b h:Int)(a g:UInt64):Kh:=
(Hw u v).bind fun ah=>
if(Be ah 0)then
some (0,0,0,0,0,0,8)
else
(Amk b h a g).bind fun ai=>
if(Be ai 0)then
some (0,0,0,0,0,0,8)
else
j6 p u v b h a g
def Ae4:=Ary Arx
abbrev Bp:=Option (LU×Int×Int)
def Ay7(k:Int)(m:LU):Bp:=
some (m,k,0)
def Ak6:=Ay7
def Amd(bk16:Int→Int→(List (Int×Int×UInt64×UInt64×Unit))→LU→Bp)(a f:Int)(g:LB)(b k v:Int)(w:UInt32)(h:Int)(ag:List (Int×Int×UInt64×UInt64×Unit))(m:LU):Bp:=
(Cg m ([w]:LU)).bind fun ak=>
bk16 (Ad k v) (Ad h 1) ag ak
def Zf bk16:=Amd bk16
def Rw(j22:Int→Int→UInt32→Int→(List (Int×Int×UInt64×UInt64×Unit))→LU→Bp)(a f:Int)(g:LB)(b k h y:Int)(w:UInt32)(v:Int)(n:List (Int×Int×UInt64×UInt64×Unit))(m:LU)(aa ab:Int)(ac ad:UInt64):Bp:=
if(Be y 0)then
some (([]:LU),0,y)
else
(Hm (Be a 0)).bind fun _=>
(getI n (Ff h a)).bind fun _=>
(Ji n (Ff h a) (aa,ab,ac,ad,())).bind fun ag=>
j22 k v w h ag m
def Rq bk16 a f g b:=Rw (Zf bk16 a f g b) a f g b
def Rk(j21:Int→Int→Int→UInt32→Int→(List (Int×Int×UInt64×UInt64×Unit))→LU→Int→Int→UInt64→UInt64→Bp)(j24:Int→LU→Bp)(a f:Int)(g:LB)(b k h:Int)(n:List (Int×Int×UInt64×UInt64×Unit))(m:LU):Bp:=
if(Ch h (Ar f a))then
(Aux g b k (Dx (Ad k 81) b)).bind fun(ah,ae,af)=>
if(Be af 0)then
some (([]:LU),0,af)
else
(Hm (Be a 0)).bind fun _=>
(getI n (Ff h a)).bind fun _=>
(
(
(getI n (Ff h a)).bind fun p=>
(
(Ae4 ah ae 0 p.1 p.2.1 p.2.2.1 p.2.2.2.1).bind fun(w,v,aa,ab,ac,ad,y)=>
j21 k h y w v n m aa ab ac ad)))
else
j24 k m
def Mk(a f:Int)(g:LB)(b:Int):Nat→Int→Int→(List (Int×Int×UInt64×UInt64×Unit))→LU→Bp
|0,_,_,_,_=>none
|q+1,k,h,n,m=>Rk (Rq (Mk a f g b q) a f g b) Ak6 a f g b k h n m
def Aj2 a f g b:=Mk a f g b Al
def Alo(j16:Int→Int→LB→Int→Int→Int→(List (Int×Int×UInt64×UInt64×Unit))→LU→Bp)(a f:Int)(g:LB)(b:Int)(o:List (Int×Int×UInt64×UInt64×Unit)):Bp:=
j16 a f g b 0 0 o ([]:LU)
def Zh:=Alo Aj2
def Akq(j15:Int→Int→LB→Int→(List (Int×Int×UInt64×UInt64×Unit))→Bp)(bk13:Int→(List (Int×Int×UInt64×UInt64×Unit))→Bp)(a f:Int)(g:LB)(b u:Int)(o:List (Int×Int×UInt64×UInt64×Unit)):Bp:=
if(Ch u 6)then
(Ay1).bind fun(al,ae,af,am)=>
(getI o u).bind fun _=>
(Ji o u (al,ae,af,am,())).bind fun an=>
bk13 (Ad u 1) an
else
j15 a f g b o
def Zr(a f:Int)(g:LB)(b:Int):Nat→Int→(List (Int×Int×UInt64×UInt64×Unit))→Bp
|0,_,_=>none
|q+1,u,o=>Akq Zh (Zr a f g b q) a f g b u o
def Rp a f g b:=Zr a f g b Al
def Abg(j13:Int→Int→LB→Int→Int→(List (Int×Int×UInt64×UInt64×Unit))→Bp)(a f:Int)(g:LB)(b:Int):Bp:=
j13 a f g b 0 (List.replicate 6 ((0:Int),(0:Int),(0:UInt64),(0:UInt64),()))
def Adq:=Abg Rp
def Wp(a:UInt32):Option Int32:=
some (Pk (Ae (Bo a (GI.toZ (1:UInt64)).toNat):Int32) (Bae (Ae (Dq a 1):Int32)))
def At8(b:Int)(f g:LX)(a:Int32):Option (Int32×Int×LX×LX×Int):=
(Al1 b f g).bind fun(h,k)=>
if(Be k 0)then
some (0,0,(List.replicate 16 (0:Int32)),(List.replicate 16 (0:Int32)),k)
else
(Al4 b f g (Ad a h) a).bind fun(m,n,o)=>
some ((Ad a h),m,n,o,0)
def Kw(a:Int)(b:Int32)(f:Int)(g h:LX)(o:Int32):Option (Int32×Int×Int32×Int×LX×LX×Int):=
(Vu a b f g h).bind fun k=>
if(Be k 0)then
some (0,0,0,0,(List.replicate 16 (0:Int32)),(List.replicate 16 (0:Int32)),k)
else
(Vk a b).bind fun(m,y)=>
(At8 f g h o).bind fun(n,p,u,v,w)=>
(
some ((Ad n m),a,(Ad n m),p,u,v,w))
abbrev Gd:=Option (LX×Int)
def Bmu(f:LX):Gd:=
some (f,0)
def Bbg:=Bmu
def Ba3(bk12:Int→LX→Gd)(b a:Int)(h:LX):Gd:=
bk12 (Ad a b) h
def Arn bk12:=Ba3 bk12
def Ajl(j20:Int→LX→Gd)(bk18:Int→LX→Gd)(b a g:Int)(h:LX):Gd:=
if(Ly g 0)then
(Hm (decide (0≤(Ad g 1)∧(Ad g 1)<((Ad a b)-a)))).bind fun _=>
(Hm (decide (0≤g∧g<((Ad a b)-a)))).bind fun _=>
(getI h (a+(Ad g 1))).bind fun o=>
(getI h (a+g)).bind fun p=>
(Hm (decide (0≤g∧g<((Ad a b)-a)))).bind fun _=>
(Ji h (a+g) (Ah o p)).bind fun u=>
bk18 (Ah g 1) u
else
j20 a h
def Wk(bk12:Int→LX→Gd)(b a:Int):Nat→Int→LX→Gd
|0,_,_=>none
|q+1,g,h=>Ajl (Arn bk12 b) (Wk bk12 b a q) b a g h
def Aq8 bk12 b a:=Wk bk12 b a Al
def Aqx(j18:Int→Int→LX→Gd)(b a:Int)(k:LX):Gd:=
j18 a (Ah (Ah ((Ad a b)-a) 1) 1) k
def Ajp bk12 b:=Aqx (Aq8 bk12 b) b
def Aqv(j17:Int→LX→Gd)(j22:LX→Gd)(b a:Int)(f:LX):Gd:=
if(Ch a (Ac f))then
(vwI (Ac f) a (Ad a b)).bind fun _=>
if(Ga (Ah ((Ad a b)-a) 1) 0)then
(Hm (decide (0≤(Ah ((Ad a b)-a) 1)∧(Ah ((Ad a b)-a) 1)<((Ad a b)-a)))).bind fun _=>
Option.bind (Hm (decide (0≤(Ah (Ah ((Ad a b)-a) 1) 1)∧(Ah (Ah ((Ad a b)-a) 1) 1)<((Ad a b)-a)))) fun _=>
(getI f (a+(Ah ((Ad a b)-a) 1))).bind fun v=>
(getI f (a+(Ah (Ah ((Ad a b)-a) 1) 1))).bind fun w=>
(Hm (decide (0≤(Ah ((Ad a b)-a) 1)∧(Ah ((Ad a b)-a) 1)<((Ad a b)-a)))).bind fun _=>
(Ji f (a+(Ah ((Ad a b)-a) 1)) (Ad v (Bg w 2))).bind fun y=>
j17 a y
else
j17 a f
else
j22 f
def Re(b:Int):Nat→Int→LX→Gd
|0,_,_=>none
|q+1,a,f=>Aqv (Ajp (Re b q) b) Bbg b a f
def Aqw b:=Re b Al
def Awu(j12:Int→Int→LX→Gd)(b:Int)(m:LX):Gd:=
(Apk b m).bind fun n=>
if(Be n 0)then
some (([]:LX),n)
else
(Dj m).bind fun aa=>
j12 b 0 aa
def Baj:=Awu Aqw
abbrev By:=Option (LX×Int)
def Aiz(a b:Int)(k:LX):By:=
(Baj a k).bind fun(ah,af)=>
if(Be af 0)then
some (([]:LX),af)
else
(Vt b ah).bind fun ae=>
if(Be ae 0)then
some (([]:LX),ae)
else
some (ah,0)
def Lm:=Aiz
def Ai3(bk13:Int→(List (Int×Int32×(Int×LX×LX×Unit)×Unit))→LX→By)(a:Int)(f:LU)(b g:Int)(w:Int32)(u:Int)(h:List (Int×Int32×(Int×LX×LX×Unit)×Unit))(k:LX)(y:Int)(v:Int32)(aa:Int)(ab ac:LX):By:=
if(Be u 0)then
some (([]:LX),u)
else
(Ji h (Ff g a) (y,v,(aa,ab,ac,()),())).bind fun ai=>
(Cg k ([w]:LX)).bind fun aj=>
bk13 (Ad g 1) ai aj
def Xj bk13:=Ai3 bk13
def Ln(j16:Int→Int32→Int→(List (Int×Int32×(Int×LX×LX×Unit)×Unit))→LX→Int→Int32→Int→LX→LX→By)(j18:Int→Int→LX→By)(f:LU)(a b g:Int)(h:List (Int×Int32×(Int×LX×LX×Unit)×Unit))(k:LX):By:=
if(Ch g (Ac f))then
(getI f g).bind fun ag=>
(Hm (Be a 0)).bind fun _=>
(getI h (Ff g a)).bind fun _=>
(
(getI h (Ff g a)).bind fun m=>
(
(Wp ag).bind fun ae=>
(
(Kw m.1 m.2.1 m.2.2.1.1 m.2.2.1.2.1 m.2.2.1.2.2.1 ae).bind fun(w,y,v,aa,ab,ac,u)=>
j16 g w u h k y v aa ab ac)))
else
j18 a b k
def If(f:LU)(a b:Int):Nat→Int→(List (Int×Int32×(Int×LX×LX×Unit)×Unit))→LX→By
|0,_,_,_=>none
|q+1,g,h,k=>Ln (Xj (If f a b q) a f b) Lm f a b g h k
def Aiw f a b:=If f a b Al
def Ai5(j13:LU→Int→Int→Int→(List (Int×Int32×(Int×LX×LX×Unit)×Unit))→LX→By)(f:LU)(a b:Int)(n:List (Int×Int32×(Int×LX×LX×Unit)×Unit)):By:=
j13 f a b 0 n ([]:LX)
def Xh:=Ai5 Aiw
def Ai0(j12:LU→Int→Int→(List (Int×Int32×(Int×LX×LX×Unit)×Unit))→By)(bk10:Int→(List (Int×Int32×(Int×LX×LX×Unit)×Unit))→By)(f:LU)(a b:Int)(o:LX)(p:Int)(n:List (Int×Int32×(Int×LX×LX×Unit)×Unit)):By:=
if(Ch p 6)then
(Bcf b o).bind fun(ak,af,ae,al,am,v)=>
(getI n p).bind fun _=>
(Ji n p (ak,af,(ae,al,am,()),())).bind fun an=>
bk10 (Ad p 1) an
else
j12 f a b n
def Xa(f:LU)(a b:Int)(o:LX):Nat→Int→(List (Int×Int32×(Int×LX×LX×Unit)×Unit))→By
|0,_,_=>none
|q+1,p,n=>Ai0 Xh (Xa f a b o q) f a b o p n
def Pv f a b o:=Xa f a b o Al
def Zp(j10:LU→Int→Int→LX→Int→(List (Int×Int32×(Int×LX×LX×Unit)×Unit))→By)(a b:Int)(o:LX)(f:LU):By:=
j10 f a b o 0 (List.replicate 6 ((0:Int),(0:Int32),((0:Int),(List.replicate 16 (0:Int32)),(List.replicate 16 (0:Int32)),()),()))
def So:=Zp Pv
def deframe_Decode(a h:Int)(u:LX)(f:Int)(v:LB):Option (LX×Int):=
(Eg a h).bind fun k=>
if(Be k 0)then
some (([]:LX),k)
else
if(Ch f 1)then
some (([]:LX),2)
else
(Hm (Be a 0)).bind fun _=>
if(Ga f (Bg 4000 a))then
some (([]:LX),2)
else
(Ac7 v).bind fun(w,m)=>
if(Be m 0)then
some (([]:LX),m)
else
(Bnh w).bind fun(n,b,o)=>
if(Be o 0)then
some (([]:LX),o)
else
(Adq a f n b).bind fun(y,g,p)=>
if(Be p 0)then
some (([]:LX),p)
else
if(Ly (Ah b g) 8)then
some (([]:LX),12)
else
(Abd n b g (Ah b g)).bind fun(aa,ab)=>
if((Be ab 0)||(Be aa 0))then
some (([]:LX),12)
else
(So a h u y).bind fun(ac,ad)=>
some (ac,ad)
abbrev Da:=Option (LB×Int)
def Bew(g:LB):Da:=
some (g,0)
def As3:=Bew
def As9(bk16:Int→LB→Da)(b:Int)(a:LX)(f:Int)(h:LB):Da:=
bk16 (Ad f 1) h
def Aia bk16:=As9 bk16
def Yo(j28:Int→LB→Da)(bk26:Int→LB→Da)(b:Int)(a:LX)(k:Int32)(f m:Int)(h:LB):Da:=
if(Ch m (Bg b 8))then
(Hm (Ly (Ar 8 m) 0)).bind fun _=>
(Cg h ([(Ae (Bo k (GI.toZ (Ar 8 m)).toNat):UInt8)]:LB)).bind fun p=>
bk26 (Ad m 1) p
else
j28 f h
def Ih(bk16:Int→LB→Da)(b:Int)(a:LX)(k:Int32)(f:Int):Nat→Int→LB→Da
|0,_,_=>none
|q+1,m,h=>Yo (Aia bk16 b a) (Ih bk16 b a k f q) b a k f m h
def Ah8 bk16 b a k f:=Ih bk16 b a k f Al
def Ah4(j26:Int32→Int→Int→LB→Da)(b:Int)(a:LX)(f:Int)(g:LB)(k:Int32):Da:=
j26 k f 0 g
def Kx bk16 b a:=Ah4 (Ah8 bk16 b a) b a
def Yu(j25:Int→LB→Int32→Da)(j30:LB→Da)(b:Int)(a:LX)(f:Int)(g:LB):Da:=
if(Ch f (Ac a))then
(getI a f).bind fun n=>
if(geq b 8)then
j25 f g (Ad n 128)
else
j25 f g n
else
j30 g
def Fu(b:Int)(a:LX):Nat→Int→LB→Da
|0,_,_=>none
|q+1,f,g=>Yu (Kx (Fu b a q) b a) As3 b a f g
def Asv b a:=Fu b a Al
def Akb(j16:Int→LX→Int→LB→Da)(b:Int)(a:LX):Da:=
(Vt b a).bind fun o=>
if(Be o 0)then
some (([]:LB),o)
else
j16 b a 0 ([]:LB)
def width_Bytes:=Akb Asv
abbrev Ee:=Option (LB×Int)
def Bev(a ac:Int):Ee:=
if(Be ac 0)then
some (([]:LB),ac)
else
if((Ch a 0)||(Ly a 0))then
some (([]:LB),2)
else
none
def Ata:=Bev
def Bda(ad:Int)(ae:LB):Ee:=
some (ae,ad)
def Ae2:=Bda
def Ain(j10:Int→LB→Ee)(w a h b:Int)(aa:LX)(n o p k:Int)(m:LB)(u:LX)(v f g:LI):Ee:=
if(Be w 0)then
j10 w ([]:LB)
else
(width_Bytes b aa).bind fun(ak,al)=>
j10 al ak
def Aib:=Ain Ae2
def Ah2(j10:Int→LB→Ee)(j9:Int→Int→Int→Int→LX→Int→Int→Int→Int→LB→LX→LI→LI→LI→Ee)(a k ab y:Int)(m:LB)(h b:Int)(u:LX)(n o p:Int)(g v f:LI):Ee:=
if(Ga (Ad k y) (Ac m))then
j10 24 ([]:LB)
else
(getI g a).bind fun _=>
(Bv m (Ad k ab) (Ad k y)).bind fun am=>
(getI g a).bind fun an=>
(deframe_Decode h b u an am).bind fun(aa,w)=>
j9 w a h b aa n o p k m u v f g
def Aie:=Ah2 Ae2 Aib
def Ah6(j8:Int→Int→Int→Int→LB→Int→Int→LX→Int→Int→Int→LI→LI→LI→Ee)(a:Int)(g:LI)(n h b o p k:Int)(m:LB)(u:LX)(v f:LI):Ee:=
if(Be (0:Int) (0:Int))then
some (([]:LB),0)
else
if((Ch a 0)||(Ly a (Ac g)))then
some (([]:LB),2)
else
(getI f a).bind fun _=>
(getI f (Ad a 1)).bind fun _=>
(getI f a).bind fun ab=>
(getI f (Ad a 1)).bind fun y=>
j8 a k ab y m h b u n o p g v f
def Sk:=Ah6 Aie
def Ail(j6:Int→Int→Ee)(j7:Int→LI→Int→Int→Int→Int→Int→Int→LB→LX→LI→LI→Ee)(m af:LB)(a:Int):Ee:=
(seekto_Open m af).bind fun(n,h,b,o,p,k,v,ag)=>
if(Be ag 0)then
j6 a ag
else
(Me n h b o p).bind fun(g,ah)=>
if(Be ah 0)then
j6 a ah
else
(Afx v).bind fun(f,ai)=>
if(Be ai 0)then
j6 a ai
else
(Aau af).bind fun(u,aj)=>
if(Be aj 0)then
j6 a aj
else
(getI f (Ac g)).bind fun _=>
(getI f (Ac g)).bind fun ao=>
j7 a g n h b o p k m u v f
def Wj:=Ail Ata Sk
abbrev Cb:=Option (LX×Int)
def Bai(g:LX):Cb:=
some (g,0)
def Ano:=Bai
def Uq(bk16:Int→LX→Cb)(a:Int)(b:LB)(f:Int)(m:LX):Cb:=
bk16 (Ad f (Bg a 8)) m
def Hs bk16:=Uq bk16
def Ue(j28:Int→LX→Cb)(a:Int)(b:LB)(f:Int)(h:Int32)(g:LX):Cb:=
(Hm (Ly (Ah 32 a) 0)).bind fun _=>
(Hm (Ly (Ah 32 a) 0)).bind fun _=>
(Cg g ([(Bo (Cm h (GI.toZ (Ah 32 a)).toNat) (GI.toZ (Ah 32 a)).toNat)]:LX)).bind fun p=>
j28 f p
def Uk bk16 a b:=Ue (Hs bk16 a b) a b
def Ey(j27:Int→Int32→LX→Cb)(bk25:Int32→Int→Cb)(a:Int)(b:LB)(f:Int)(g:LX)(h:Int32)(k:Int):Cb:=
if(Ch k (Bg a 8))then
(getI b (Ad f k)).bind fun n=>
(Hm (Ly (Ar 8 k) 0)).bind fun _=>
bk25 (gor h (Cm (Ae n:Int32) (GI.toZ (Ar 8 k)).toNat)) (Ad k 1)
else
j27 f h g
def Dt(bk16:Int→LX→Cb)(a:Int)(b:LB)(f:Int)(g:LX):Nat→Int32→Int→Cb
|0,_,_=>none
|q+1,h,k=>Ey (Uk bk16 a b) (Dt bk16 a b f g q) a b f g h k
def Kr bk16 a b f g:=Dt bk16 a b f g Al
def Ev(j28:Int→LX→Cb)(j25:Int→LX→Int32→Int→Cb)(j30:LX→Cb)(a:Int)(b:LB)(f:Int)(g:LX):Cb:=
if(Ch f (Ac b))then
if(geq a 8)then
(getI b f).bind fun n=>
(Cg g ([(Ah (Ae n:Int32) 128)]:LX)).bind fun u=>
j28 f u
else
j25 f g 0 0
else
j30 g
def Dg(a:Int)(b:LB):Nat→Int→LX→Cb
|0,_,_=>none
|q+1,f,g=>Ev (Hs (Dg a b q) a b) (Kr (Dg a b q) a b) Ano a b f g
def Ac9 a b:=Dg a b Al
def Afd(j16:Int→LB→Int→LX→Cb)(a:Int)(b:LB):Cb:=
(Oc a).bind fun(v,w,o)=>
if(Be o 0)then
some (([]:LX),o)
else
(Hm (Be (Bg a 8) 0)).bind fun _=>
if(Be (Ff (Ac b) (Bg a 8)) 0)then
some (([]:LX),12)
else
(Hm (Be (Bg a 8) 0)).bind fun _=>
if(Ga (Bg (Ac b) (Bg a 8)) 4000)then
some (([]:LX),4)
else
j16 a b 0 ([]:LX)
def Te:=Afd Ac9
abbrev Cy:=Option (LI×Int)
def Avj(ab:Int)(ac:LI):Cy:=
if(Be ab 0)then
some (([]:LI),ab)
else
some (ac,0)
def Qc:=Avj
def Akd(j26:Int→LI→Cy)(a b:LB)(h k g m n o:Int)(p v:LI):Cy:=
j26 0 v
def Akk:=Akd Qc
def Auk(bk14:Int→LI→Cy)(a b:LB)(f:LI)(h k g m n o:Int)(p:LI)(u:Int)(w:LI):Cy:=
bk14 (Ad u 1) w
def Al0 bk14:=Auk bk14
def Ak9(j26:Int→LI→Cy)(j23:Int→LI→Cy)(a b:LB)(f:LI)(h k g m n o:Int)(p:LI)(u:Int)(w:LI):Cy:=
if(Be (0:Int) (0:Int))then
j26 0 w
else
j23 u w
def Ads bk14 a b f h k g m n o p:=Ak9 Qc (Al0 bk14 a b f h k g m n o p) a b f h k g m n o p
def Adj(j22:Int→LI→Cy)(a b:LB)(f:LI)(h k g m n o:Int)(p:LI)(u aa y:Int)(v:LI)(ad:LX):Cy:=
if(!(geq y 0))then
(Cg v ([u]:LI)).bind fun ah=>
j22 u ah
else
j22 u v
def Abo bk14 a b f h k g m n o p:=Adj (Ads bk14 a b f h k g m n o p) a b f h k g m n o p
def Acz(j26:Int→LI→Cy)(j21:Int→Int→Int→LI→LX→Cy)(j25:LB→LB→Int→Int→Int→Int→Int→Int→LI→LI→Cy)(a b:LB)(f:LI)(h k g m n o:Int)(p:LI)(u:Int)(v:LI):Cy:=
if(Ch u (Ac f))then
(getI f u).bind fun _=>
(getI f u).bind fun aa=>
(Wj a b u).bind fun(ai,y)=>
if(geq y 0)then
(Te g ai).bind fun(aj,ae)=>
if(Be ae 0)then
j26 ae v
else
j21 u aa y v aj
else
j21 u aa y v ([]:LX)
else
j25 a b h k g m n o p v
def Mt(a b:LB)(f:LI)(h k g m n o:Int)(p:LI):Nat→Int→LI→Cy
|0,_,_=>none
|q+1,u,v=>Acz Qc (Abo (Mt a b f h k g m n o p q) a b f h k g m n o p) Akk a b f h k g m n o p u v
def Avb a b f h k g m n o p:=Mt a b f h k g m n o p Al
def Ao9(j26:Int→LI→Cy)(j14:LB→LB→LI→Int→Int→Int→Int→Int→Int→LI→Int→LI→Cy)(a b:LB):Cy:=
(seekto_Open a b).bind fun(h,k,g,m,n,o,p,af)=>
if(Be af 0)then
j26 af ([]:LI)
else
(Me h k g m n).bind fun(f,ag)=>
if(Be ag 0)then
j26 ag ([]:LI)
else
j14 a b f h k g m n o p 0 ([]:LI)
def Wa:=Ao9 Qc Avb
def Bea(f:LB):Option (Int×Int×Int×Int×Int×Int×Int×Int×Int×Int×LI×Int):=
if(Ga (Ac f) 100000)then
some (0,0,0,0,0,0,0,0,0,0,([]:LI),4)
else
(Vg f).bind fun(a,n)=>
if(Be n 0)then
some (0,0,0,0,0,0,0,0,0,0,([]:LI),n)
else
(Bv f a (Ac f)).bind fun u=>
(Agv u).bind fun(b,g,h,k,m,o)=>
if(Be o 0)then
some (b,g,h,k,m,0,0,0,0,0,([]:LI),o)
else
(Me b g h k m).bind fun(p,v)=>
if(geq b 2)then
some (b,g,h,k,m,a,(Ad a 22),(Ad (Ad a 22) 8),0,0,p,0)
else
some (b,g,h,k,m,a,(Ad a 22),(Ad a 22),0,0,p,0)
abbrev Azu:=Option (Int×Int)
def Bdu(a:LB):Azu:=
(Bv a (Ah (Ac a) 32) (Ac a)).bind fun g=>
(Ajs g 0).bind fun(f,y,h)=>
if h then
if(Ch (Ah (Ac a) 32) f)then
some (0,24)
else
some ((Ad f 32),0)
else
(Bv a (Ah (Ac a) 32) (Ac a)).bind fun k=>
(Ajs k 2147483648).bind fun(b,m,n)=>
if(!n)then
some (0,12)
else
if(Ch (Ac a) (Ad b 64))then
some (0,24)
else
(Bv a (Ah (Ac a) (Ad b 64)) (Ad (Ah (Ac a) (Ad b 64)) 32)).bind fun o=>
(Axl b m 2684354560).bind fun p=>
(Hc o p).bind fun u=>
if(!u)then
some (0,12)
else
some ((Ad b 64),0)
def Avg:=Bdu
def At5(j2:LB→Azu)(a:LB):Azu:=
if(Ch (Ah (Ac a) 32) 0)then
some (0,6)
else
(Bv a (Ah (Ac a) 32) (Ac a)).bind fun v=>
(Ld v ([(65:UInt8),(80:UInt8),(69:UInt8),(84:UInt8),(65:UInt8),(71:UInt8),(69:UInt8),(88:UInt8)]:LB)).bind fun w=>
if(!w)then
some (0,6)
else
j2 a
def Bao:=At5 Avg
abbrev Fh:=Option (Int×Int)
def Bcx(a:Int):Fh:=
some (a,0)
def Aqa:=Bcx
def Aqs(bk8:Int→LB→Fh)(a:Int)(g:LB):Fh:=
bk8 (Ad a 1) g
def Afs bk8:=Aqs bk8
def Aft(j12:Int→LB→Fh)(a f:Int)(b:LB):Fh:=
if(geq f 0)then
some (0,38)
else
(Bv b 0 (Ah (Ac b) f)).bind fun g=>
j12 a g
def Afe bk8:=Aft (Afs bk8)
def Aij(j11:Int→Int→LB→Fh)(j14:Int→Fh)(a:Int)(b:LB):Fh:=
if(Ga (Ac b) 0)then
(Bao b).bind fun(f,k)=>
j11 a f b
else
j14 a
def Sm:Nat→Int→LB→Fh
|0,_,_=>none
|q+1,a,b=>Aij (Afe (Sm q)) Aqa a b
def Asw:=Sm Al
def Aif(j8:Int→LB→Fh)(h:LB):Fh:=
if(Ga (Ac h) 4000)then
some (0,38)
else
j8 0 h
def Ajd:=Aif Asw
abbrev Bm:=Option (Int×Int×Int×LX×Int)
def Auy(a:LB)(aa b f h:Int)(ad:LX):Bm:=
(Bv a aa (Ac a)).bind fun aq=>
(Ajd aq).bind fun(bb,ar)=>
if(Be ar 0)then
some (0,0,0,([]:LX),38)
else
some (b,f,h,ad,0)
def Ame:=Auy
def Awi(bk21:Int→Int→LX→Bm)(a:LB)(w:LI)(m b f h o p n g y ab:Int)(ac:LX)(k:LI)(aa aj ak ae:Int)(am ad:LX):Bm:=
if(Be ak 0)then
some (0,0,0,([]:LX),ak)
else
(Cg ad am).bind fun au=>
bk21 (Ad aa aj) (Ad ae 1) au
def Akc bk21:=Awi bk21
def Acj(j24:Int→Int→Int→Int→LX→LX→Bm)(j26:LB→Int→Int→Int→Int→LX→Bm)(a:LB)(w:LI)(m b f h o p n g y ab:Int)(ac:LX)(k:LI)(aa ae:Int)(ad:LX):Bm:=
if(Ch ae (Ac w))then
(getI w ae).bind fun _=>
(getI w ae).bind fun aj=>
if(Ch (Ac a) (Ad aa aj))then
some (0,0,0,([]:LX),24)
else
(getI k ae).bind fun _=>
(Bv a aa (Ad aa aj)).bind fun av=>
(getI k ae).bind fun aw=>
(deframe_Decode b f ac aw av).bind fun(am,ak)=>
j24 aa aj ak ae am ad
else
j26 a aa b f h ad
def Qs(a:LB)(w:LI)(m b f h o p n g y ab:Int)(ac:LX)(k:LI):Nat→Int→Int→LX→Bm
|0,_,_,_=>none
|q+1,aa,ae,ad=>Acj (Akc (Qs a w m b f h o p n g y ab ac k q) a w m b f h o p n g y ab ac k) Ame a w m b f h o p n g y ab ac k aa ae ad
def Awn a w m b f h o p n g y ab ac k:=Qs a w m b f h o p n g y ab ac k Al
def Av0(j21:LB→LI→Int→Int→Int→Int→Int→Int→Int→Int→Int→Int→LX→LI→Int→Int→LX→Bm)(a u:LB)(m b f h o p n g:Int)(k:LI)(an y ab:Int)(w:LI):Bm:=
if(Be an 0)then
some (0,0,0,([]:LX),an)
else
(Aau u).bind fun(ac,bc)=>
j21 a w m b f h o p n g y ab ac k y 0 ([]:LX)
def Ad1:=Av0 Awn
def Awr(j20:LB→LB→Int→Int→Int→Int→Int→Int→Int→Int→LI→Int→Int→Int→LI→Bm)(a u:LB)(v:LI)(m b f h o p n g af:Int)(k:LI):Bm:=
j20 a u m b f h o p n g k 0 (Ad (Ad g (Ar 4 (Ac v))) 4) af v
def Au3:=Awr Ad1
def Av9(j19:LB→LB→LI→Int→Int→Int→Int→Int→Int→Int→Int→Int→LI→Bm)(bk17:Int→Int→Bm)(v:LI)(a u:LB)(m b f h o p n g:Int)(k:LI)(ag af:Int):Bm:=
if(Ch ag (Ac v))then
(getI v ag).bind fun _=>
(getI v ag).bind fun ax=>
bk17 (Ad ag 1) (Ad af ax)
else
j19 a u v m b f h o p n g af k
def Akv(v:LI)(a u:LB)(m b f h o p n g:Int)(k:LI):Nat→Int→Int→Bm
|0,_,_=>none
|q+1,ag,af=>Av9 Au3 (Akv v a u m b f h o p n g k q) v a u m b f h o p n g k ag af
def Auc v a u m b f h o p n g k:=Akv v a u m b f h o p n g k Al
def Avp(j20:LB→LB→Int→Int→Int→Int→Int→Int→Int→Int→LI→Int→Int→Int→LI→Bm)(j17:LI→LB→LB→Int→Int→Int→Int→Int→Int→Int→Int→LI→Int→Int→Bm)(al:Int)(a u:LB)(m b f h o p n g ah ai:Int)(v k:LI):Bm:=
if(Be al 0)then
j20 a u m b f h o p n g k al ah ai ([]:LI)
else
j17 v a u m b f h o p n g k 0 (Ad (Ad g (Ar 4 (Ac v))) 4)
def Aur:=Avp Ad1 Auc
def Aug(j20:LB→LB→Int→Int→Int→Int→Int→Int→Int→Int→LI→Int→Int→Int→LI→Bm)(j16:Int→LB→LB→Int→Int→Int→Int→Int→Int→Int→Int→Int→Int→LI→LI→Bm)(a u:LB)(m b f h o p n g ah ai:Int)(k:LI):Bm:=
if(Ch (Ac a) g)then
j20 a u m b f h o p n g k 24 ah ai ([]:LI)
else
(Bv a g (Ac a)).bind fun ay=>
(Ama ay (Ac k)).bind fun(v,al)=>
j16 al a u m b f h o p n g ah ai v k
def Avx:=Aug Ad1 Aur
def Avi(j15:LB→LB→Int→Int→Int→Int→Int→Int→Int→Int→Int→Int→LI→Bm)(a u:LB)(m b f h o p n g ah ai:Int)(k:LI)(ao:Int):Bm:=
if(Be ao 0)then
some (0,0,0,([]:LX),ao)
else
j15 a u m b f h o p n g ah ai k
def Awe:=Avi Avx
def Ayl(j14:LB→LB→Int→Int→Int→Int→Int→Int→Int→Int→Int→Int→LI→Int→Bm)(a u:LB):Bm:=
if(Ga (Ac u) 64)then
some (0,0,0,([]:LX),2)
else
(Bea a).bind fun(m,b,f,h,o,p,n,g,ah,ai,k,ap)=>
if(Be ap 0)then
some (0,0,0,([]:LX),ap)
else
if((u==([]:LB)) !=(geq m 1))then
j14 a u m b f h o p n g ah ai k 26
else
if(geq m 1)then
j14 a u m b f h o p n g ah ai k 0
else
if(Ch (Ac a) g)then
j14 a u m b f h o p n g ah ai k 24
else
(Bv a n g).bind fun az=>
(Wl az u).bind fun(ba,bd)=>
if(!ba)then
j14 a u m b f h o p n g ah ai k 26
else
j14 a u m b f h o p n g ah ai k 0
def Bgz:=Ayl Awe
def Apa(a g b:Int):Option Int:=
(Eg a g).bind fun f=>
if(Be f 0)then
some f
else
if(Ch b 1)then
some 2
else
(Hm (Be a 0)).bind fun _=>
if(Ga b (Bg 4000 a))then
some 2
else
some 0
def Yx(a g b:Int):Option (LX×Int):=
(Apa a g b).bind fun f=>
if(Be f 0)then
some (([]:LX),f)
else
(mkI (Ar b a) (0:Int32)).bind fun h=>
(Hm (geq (Ar b a) (Ar b a))).bind fun _=>
some (h,0)
abbrev Ba:=Option (Int×Int×Int×LX×LI×Int)
def Uf(a b h ak:Int)(an:LI)(ah:LX):Ba:=
if(Be ak 0)then
some (0,0,0,([]:LX),([]:LI),ak)
else
if(geq (Ac ah) 0)then
some (0,0,0,([]:LX),([]:LI),6)
else
(
(
some (a,b,h,ah,an,0)))
def Gl:=Uf
def Amw(j40:Int→Int→Int→Int→LI→LX→Ba)(f g:LB)(n p u o v w y m a b h:Int)(aa ad:LI)(ac:LX):Ba:=
j40 a b h 0 ad ac
def Ani:=Amw Gl
def Ann(bk21:Int→LI→LX→Ba)(f g:LB)(k:LI)(n m a b h p u o v w y:Int)(aa:LI)(ab:Int)(ai:LI)(aj:LX):Ba:=
bk21 (Ad ab 1) ai aj
def Ab9 bk21:=Ann bk21
def Adx(j40:Int→Int→Int→Int→LI→LX→Ba)(j37:Int→LI→LX→Ba)(f g:LB)(k:LI)(n m a b h p u o v w y:Int)(aa:LI)(ab ao:Int)(ai:LI)(aj:LX):Ba:=
if(Be ao 0)then
j40 a b h ao ai aj
else
j37 ab ai aj
def Ku bk21 f g k n m a b h p u o v w y aa:=Adx Gl (Ab9 bk21 f g k n m a b h p u o v w y aa) f g k n m a b h p u o v w y aa
def Abz(j36:Int→Int→LI→LX→Ba)(f g:LB)(k:LI)(n a b h m p u o v w y:Int)(aa:LI)(ab af ae:Int)(al ag ac:LX)(am:LI):Ba:=
(Cg ac al).bind fun aw=>
j36 ab 0 am aw
def Aby bk21 f g k n a b h m p u o v w y aa:=Abz (Ku bk21 f g k n m a b h p u o v w y aa) f g k n a b h m p u o v w y aa
def Um(j36:Int→Int→LI→LX→Ba)(f g:LB)(k:LI)(n a b h m p u o v w y:Int)(aa:LI)(ab af ae:Int)(ag ac:LX)(ap:LI):Ba:=
(Cg ac ag).bind fun al=>
j36 ab 0 ap al
def Uo bk21 f g k n a b h m p u o v w y aa:=Um (Ku bk21 f g k n m a b h p u o v w y aa) f g k n a b h m p u o v w y aa
def Un(j36:Int→Int→LI→LX→Ba)(j34:Int→Int→Int→LX→LX→LX→LI→Ba)(j35:Int→Int→Int→LX→LX→LI→Ba)(f g:LB)(k:LI)(n m a b h p u o v w y:Int)(aa:LI)(ab af ae:Int)(ad:LI)(ac ag:LX):Ba:=
if(!(geq ae 0))then
(Cg ad ([ab]:LI)).bind fun am=>
if(geq m 2)then
(Yx a b af).bind fun(al,aq)=>
if(Be aq 0)then
j36 ab aq am ac
else
j34 ab af ae al ag ac am
else
j35 ab af ae ag ac am
else
j35 ab af ae ag ac ad
def Ul bk21 f g k n m a b h p u o v w y aa:=Un (Ku bk21 f g k n m a b h p u o v w y aa) (Aby bk21 f g k n a b h m p u o v w y aa) (Uo bk21 f g k n a b h m p u o v w y aa) f g k n m a b h p u o v w y aa
def Up(j40:Int→Int→Int→Int→LI→LX→Ba)(j33:Int→Int→Int→LI→LX→LX→Ba)(j39:LB→LB→Int→Int→Int→Int→Int→Int→Int→Int→Int→Int→Int→LI→LI→LX→Ba)(f g:LB)(k:LI)(n m a b h p u o v w y:Int)(aa:LI)(ab:Int)(ad:LI)(ac:LX):Ba:=
if(Ch ab (Ac k))then
(getI k ab).bind fun _=>
(getI k ab).bind fun af=>
(Wj f g ab).bind fun(ax,ae)=>
if(geq ae 0)then
(Te o ax).bind fun(ay,ar)=>
if(Be ar 0)then
j40 a b h ar ad ac
else
j33 ab af ae ad ac ay
else
j33 ab af ae ad ac ([]:LX)
else
j39 f g n p u o v w y m a b h aa ad ac
def Hv(f g:LB)(k:LI)(n m a b h p u o v w y:Int)(aa:LI):Nat→Int→LI→LX→Ba
|0,_,_,_=>none
|q+1,ab,ad,ac=>Up Gl (Ul (Hv f g k n m a b h p u o v w y aa q) f g k n m a b h p u o v w y aa) Ani f g k n m a b h p u o v w y aa ab ad ac
def Acm f g k n m a b h p u o v w y aa:=Hv f g k n m a b h p u o v w y aa Al
def Ae1(j40:Int→Int→Int→Int→LI→LX→Ba)(j21:LB→LB→LI→Int→Int→Int→Int→Int→Int→Int→Int→Int→Int→Int→LI→Int→LI→LX→Ba)(f g:LB)(m:Int):Ba:=
if((Ch m 0)||(Ga m 2))then
some (0,0,0,([]:LX),([]:LI),2)
else
if(geq m 0)then
(Bgz f g).bind fun(az,ba,bb,bc,bd)=>
some (az,ba,bb,bc,([]:LI),bd)
else
(seekto_Open f g).bind fun(be,a,b,h,bf,bg,bh,n)=>
if(Be n 0)then
some (0,0,0,([]:LX),([]:LI),n)
else
(seekto_Open f g).bind fun(p,u,o,v,w,y,aa,au)=>
if(Be au 0)then
j40 a b h au ([]:LI) ([]:LX)
else
(Me p u o v w).bind fun(k,av)=>
if(Be av 0)then
j40 a b h av ([]:LI) ([]:LX)
else
j21 f g k n m a b h p u o v w y aa 0 ([]:LI) ([]:LX)
def Fs:=Ae1 Gl Acm
def Aok:Option Bool:=
some true
def Xy:=Aok
def Jr(j6:Option Bool)(bk4:Int→Option Bool)(a b:LI)(f:Int):Option Bool:=
if(Ch f (Ac a))then
(getI a f).bind fun g=>
(getI b f).bind fun h=>
if(Be g h)then
some false
else
bk4 (Ad f 1)
else
j6
def Ei(a b:LI):Nat→Int→Option Bool
|0,_=>none
|q+1,f=>Jr Xy (Ei a b q) a b f
def Xv a b:=Ei a b Al
def Ou(j4:LI→LI→Int→Option Bool)(a b:LI):Option Bool:=
if(Be (Ac a) (Ac b))then
some false
else
j4 a b 0
def Ap:=Ou Xv
def Aun:Option Bool:=
some true
def Age:=Aun
def Of(j6:Option Bool)(bk4:Int→Option Bool)(a b:LX)(f:Int):Option Bool:=
if(Ch f (Ac a))then
(getI a f).bind fun g=>
(getI b f).bind fun h=>
if(Be g h)then
some false
else
bk4 (Ad f 1)
else
j6
def Hg(a b:LX):Nat→Int→Option Bool
|0,_=>none
|q+1,f=>Of Age (Hg a b q) a b f
def Ahu a b:=Hg a b Al
def Vj(j4:LX→LX→Int→Option Bool)(a b:LX):Option Bool:=
if(Be (Ac a) (Ac b))then
some false
else
j4 a b 0
def Uj:=Vj Ahu
def Bj(a b f:Int)(g:LX)(h k m:Int)(n:LX):Option Bool:=
if(((geq a h)&&(geq b k))&&(geq f m))then
(Uj g n).bind fun o=>
some o
else
some false
def Cv(k:LB)(m:Int)(n:LI)(a:LX):Option Bool:=
(Fs k ([]:LB) m).bind fun(b,f,g,h,o,p)=>
if(geq p 0)then
(Ap o n).bind fun u=>
if u then
(Bj b f g h 1 8 1 a).bind fun v=>
some v
else
some false
else
if false then
(Bj b f g h 1 8 1 a).bind fun w=>
some w
else
some false
def Rf:Option Bool:=
(Aly).bind fun(a,h)=>
if(!h)then
some false
else
(Wa a ([]:LB)).bind fun(k,m)=>
(Bv a 0 44).bind fun n=>
(Wa n ([]:LB)).bind fun(f,g)=>
(Fs a ([]:LB) 0).bind fun(aj,ak,al,am,an,b)=>
if(geq m 0)then
(Ap k ([(1:Int)]:LI)).bind fun o=>
if(o&&(geq g 0))then
(Ap f ([(1:Int),(2:Int)]:LI)).bind fun p=>
if(p&&(geq b 22))then
(Cv a 1 ([(1:Int)]:LI) ([(1:Int32),(3:Int32)]:LX)).bind fun u=>
if u then
(Cv a 2 ([(1:Int)]:LI) ([(1:Int32),(0:Int32),(3:Int32)]:LX)).bind fun v=>
some v
else
some false
else
if false then
(Cv a 2 ([(1:Int)]:LI) ([(1:Int32),(0:Int32),(3:Int32)]:LX)).bind fun w=>
some w
else
some false
else
if(false&&(geq b 22))then
(Cv a 1 ([(1:Int)]:LI) ([(1:Int32),(3:Int32)]:LX)).bind fun y=>
if y then
(Cv a 2 ([(1:Int)]:LI) ([(1:Int32),(0:Int32),(3:Int32)]:LX)).bind fun aa=>
some aa
else
some false
else
if false then
(Cv a 2 ([(1:Int)]:LI) ([(1:Int32),(0:Int32),(3:Int32)]:LX)).bind fun ab=>
some ab
else
some false
else
if(false&&(geq g 0))then
(Ap f ([(1:Int),(2:Int)]:LI)).bind fun ac=>
if(ac&&(geq b 22))then
(Cv a 1 ([(1:Int)]:LI) ([(1:Int32),(3:Int32)]:LX)).bind fun ad=>
if ad then
(Cv a 2 ([(1:Int)]:LI) ([(1:Int32),(0:Int32),(3:Int32)]:LX)).bind fun ae=>
some ae
else
some false
else
if false then
(Cv a 2 ([(1:Int)]:LI) ([(1:Int32),(0:Int32),(3:Int32)]:LX)).bind fun af=>
some af
else
some false
else
if(false&&(geq b 22))then
(Cv a 1 ([(1:Int)]:LI) ([(1:Int32),(3:Int32)]:LX)).bind fun ag=>
if ag then
(Cv a 2 ([(1:Int)]:LI) ([(1:Int32),(0:Int32),(3:Int32)]:LX)).bind fun ah=>
some ah
else
some false
else
if false then
(Cv a 2 ([(1:Int)]:LI) ([(1:Int32),(0:Int32),(3:Int32)]:LX)).bind fun ai=>
some ai
else
some false
def Gy(a b f:Int)(g:LX):Option (Int×Int):=
some (a,b)
def Gg(a:Int):Option Int:=
if(geq a 8)then
some 128
else
if(geq a 16)then
some 32768
else
if(geq a 24)then
some 8388608
else
some 0
def Ck(a b:Int):Option Int:=
if((Ch a 1)||(Ga a 6))then
some 2
else
(Gg b).bind fun f=>
if(geq f 0)then
some 2
else
some 0
def Atl:Option Int:=
some 0
def Aem:=Atl
def Cd(j6:Option Int)(bk4:Int→Option Int)(a:LX)(b f:Int):Option Int:=
if(Ch f (Ac a))then
(getI a f).bind fun g=>
if(Ch (Ae g:Int) (Bae b))then
some 16
else
(getI a f).bind fun h=>
if(Ly (Ae h:Int) b)then
some 16
else
bk4 (Ad f 1)
else
j6
def As(a:LX)(b:Int):Nat→Int→Option Int
|0,_=>none
|q+1,f=>Cd Aem (As a b q) a b f
def Aer a b:=As a b Al
def Cx(j4:LX→Int→Int→Option Int)(k:Int)(a:LX):Option Int:=
(Gg k).bind fun b=>
if(geq b 0)then
some 2
else
if(Ga (Ac a) 4000)then
some 4
else
j4 a b 0
def cadenzaref18_Check:=Cx Aer
def Bw(b f:Int)(a:LX):Option Int:=
(Ck b f).bind fun g=>
if(Be g 0)then
some 2
else
(cadenzaref18_Check f a).bind fun h=>
if(Be h 0)then
(cadenzaref18_Check f a).bind fun k=>
some k
else
if(Ch (Ac a) 1)then
some 2
else
(Hm (Be b 0)).bind fun _=>
if(Ga (Ff (Ac a) b) 0)then
some 2
else
some 0
def Cw(a f b:Int):Option Int:=
(Ck a f).bind fun g=>
if((Be g 0)||(Ch b 1))then
some 2
else
(Hm (Be a 0)).bind fun _=>
if(Ga b (Bg 4000 a))then
some 2
else
some 0
def Oh(a:Int):Option (Int×Int):=
if((Ch a 1)||(Ga a 1048576))then
some (0,2)
else
if(geq (Bg (Ar a 256) 245) 0)then
some (1,0)
else
some ((Bg (Ar a 256) 245),0)
abbrev Gz:=Option (LI×Int)
def Ai4(a:LI):Gz:=
if(Ga (Ac a) 1000)then
some (([]:LI),4)
else
some (a,0)
def Xc:=Ai4
def Pq(j6:LI→Gz)(bk4:Int→LI→Gz)(b f:Int)(a:LI):Gz:=
if(Ga f 0)then
(Cg a ([(Dx f b)]:LI)).bind fun h=>
bk4 (Ah f (Dx f b)) h
else
j6 a
def Ib(b:Int):Nat→Int→LI→Gz
|0,_,_=>none
|q+1,f,a=>Pq Xc (Ib b q) b f a
def Wy b:=Ib b Al
def Pr(j4:Int→Int→LI→Gz)(k g:Int):Gz:=
(Oh k).bind fun(b,m)=>
if(((Be m 0)||(Ch g 1))||(Ga g 4000))then
some (([]:LI),2)
else
j4 b g ([]:LI)
def Wd:=Pr Wy
def Jf(a b:Int):Option (Int×Int):=
(Wd a b).bind fun(f,g)=>
some ((Ac f),g)
def Acb(f g a:Int)(h:LX)(b:Int):Option Bool:=
(Gy f g a h).bind fun(k,m)=>
(Cw k m b).bind fun n=>
if(Be n 0)then
some false
else
(Jf a b).bind fun(p,o)=>
some (geq o 0)
def Cj(a f g:Int)(b:LX):Option Int:=
(Gy a f g b).bind fun(h,k)=>
(Bw h k b).bind fun m=>
if(Be m 0)then
some 8
else
(Hm (Be a 0)).bind fun _=>
(Acb a f g b (Bg (Ac b) a)).bind fun n=>
if(!n)then
some 8
else
some 0
def Nz(a:Int):Option Int:=
some (At3 1 (Bg (Ar 256 a) 245))
def Na(a:LI):Option (LI):=
some a
def Im:=Na
def Gm(j6:LI→Option (LI))(bk4:Int→LI→Option (LI))(b f:Int)(a:LI):Option (LI):=
if(Ga f 0)then
(Nz b).bind fun g=>
(Cg a ([(Dx f g)]:LI)).bind fun h=>
(Nz b).bind fun k=>
bk4 (Ah f k) h
else
j6 a
def Dn(b:Int):Nat→Int→LI→Option (LI)
|0,_,_=>none
|q+1,f,a=>Gm Im (Dn b q) b f a
def To b:=Dn b Al
def Ua(j4:Int→Int→LI→Option (LI))(b m:Int):Option (LI):=
j4 b m ([]:LI)
def Gw:=Ua To
def Bz(a b f:Int)(h g:LX):Option (Int×Int×Int×LX):=
some (a,b,f,g)
def Sj(bk5:Int→Int→Int→Option Bool)(ap:LB)(h:Bool)(b g f:Int)(a:LX)(ar:LB)(ay az ba bb bc aq:Int)(m ax:LI)(bf ah k:Int):Option Bool:=
(getI ax ah).bind fun _=>
(getI ax ah).bind fun fk=>
(getI m ah).bind fun _=>
(getI m ah).bind fun fl=>
bk5 (Ah bf (At3 1 fk)) (Ad ah 1) (Ad k fl)
def Kz bk5:=Sj bk5
def Gf(h:Bool)(u b g f:Int)(a:LX)(o:LI)(v w y:Int)(af:LI)(bg aa:LX):Option Bool:=
if(h&&(geq u 0))then
(Ap af o).bind fun da=>
(
if da then
(Bz b g f a bg).bind fun(db,n,dc,dd)=>
(Bj v w y aa db n dc dd).bind fun bu=>
some bu
else
some false)
else
(
if false then
(Bz b g f a bg).bind fun(de,df,bm,dg)=>
(Bj v w y aa de df bm dg).bind fun dh=>
some dh
else
some false)
def Kc:=Gf
def Gh(j14:Bool→Int→Int→Int→Int→LX→LI→Int→Int→Int→LI→LX→LX→Option Bool)(h:Bool)(u k b aj g f:Int)(a:LX)(m o:LI)(v w y:Int)(af:LI)(aa:LX):Option Bool:=
if(geq (Ac m) 1)then
some (h&&(geq u 6))
else
(
(
(Bv a 0 (Ar k b)).bind fun bk=>
(
(Cg ([]:LX) bk).bind fun bv=>
(Bv a (Ar (Ad k aj) b) (Ac a)).bind fun bw=>
(Cg bv bw).bind fun bg=>
j14 h u b g f a o v w y af bg aa)))
def Jv:=Gh Kc
def Gi(j13:Bool→Int→Int→Int→Int→Int→Int→LX→LI→LI→Int→Int→Int→LI→LX→Option Bool)(h:Bool)(u k b aj g f:Int)(a:LX)(m o:LI)(au av aw v w y:Int)(af:LI)(bd al aa:LX):Option Bool:=
(
(Bz b g f a bd).bind fun(am,an,ao,ai)=>
(Bj au av aw al am an ao ai).bind fun di=>
if(!di)then
some false
else
j13 h u k b aj g f a m o v w y af aa)
def Du:=Gi Jv
def Gj(j12:Bool→Int→Int→Int→Int→Int→Int→LX→LI→LI→Int→Int→Int→Int→Int→Int→LI→LX→LX→LX→Option Bool)(bk10:Int→LX→Option Bool)(h:Bool)(u k b aj g f:Int)(a:LX)(m o:LI)(au av aw v w y:Int)(af:LI)(al aa:LX)(bi:Int)(bd:LX):Option Bool:=
if(Ch bi (Ar (Ad k aj) b))then
(getI bd bi).bind fun _=>
(Ji bd bi 0).bind fun fm=>
bk10 (Ad bi 1) fm
else
j12 h u k b aj g f a m o au av aw v w y af bd al aa
def Bi(h:Bool)(u k b aj g f:Int)(a:LX)(m o:LI)(au av aw v w y:Int)(af:LI)(al aa:LX):Nat→Int→LX→Option Bool
|0,_,_=>none
|q+1,bi,bd=>Gj Du (Bi h u k b aj g f a m o au av aw v w y af al aa q) h u k b aj g f a m o au av aw v w y af al aa bi bd
def Jy h u k b aj g f a m o au av aw v w y af al aa:=Bi h u k b aj g f a m o au av aw v w y af al aa Al
def Lb(j10:Bool→Int→Int→Int→Int→Int→Int→LX→LI→LI→Int→Int→Int→Int→Int→Int→LI→LX→LX→Int→LX→Option Bool)(h:Bool)(ah k u b g f:Int)(a:LX)(m o:LI)(au av aw v w y:Int)(af:LI)(al aa:LX):Option Bool:=
(getI m ah).bind fun _=>
(getI m ah).bind fun aj=>
(Cg ([]:LX) a).bind fun fn=>
j10 h u k b aj g f a m o au av aw v w y af al aa (Ar k b) fn
def Bn:=Lb Jy
def Kk(h:Bool)(n b g f:Int)(a:LX)(p:LI)(ab ac ad:Int)(ag:LI)(bh ae:LX):Option Bool:=
if(h&&(geq n 0))then
(Ap ag p).bind fun dj=>
(
if dj then
(Bz b g f a bh).bind fun(dk,dl,dm,dn)=>
(Bj ab ac ad ae dk dl dm dn).bind fun dp=>
some dp
else
some false)
else
(
if false then
(Bz b g f a bh).bind fun(dq,dr,ds,dt)=>
(Bj ab ac ad ae dq dr ds dt).bind fun du=>
some du
else
some false)
def Qy:=Kk
def Kf(j20:Bool→Int→Int→Int→Int→LX→LI→Int→Int→Int→LI→LX→LX→Option Bool)(h:Bool)(n k b ak g f:Int)(a:LX)(m p:LI)(ab ac ad:Int)(ag:LI)(ae:LX):Option Bool:=
if(geq (Ac m) 1)then
some (h&&(geq n 6))
else
(
(
(Bv a 0 (Ar k b)).bind fun bl=>
(
(Cg ([]:LX) bl).bind fun bx=>
(Bv a (Ar (Ad k ak) b) (Ac a)).bind fun bz=>
(Cg bx bz).bind fun bh=>
j20 h n b g f a p ab ac ad ag bh ae)))
def Qw:=Kf Qy
def Kg(j19:Bool→Int→Int→Int→Int→Int→Int→LX→LI→LI→Int→Int→Int→LI→LX→Option Bool)(h:Bool)(n k b ak g f:Int)(a:LX)(m p:LI)(am an ao ab ac ad:Int)(ag:LI)(be ai ae:LX):Option Bool:=
(
(Bz b g f a be).bind fun(bm,dv,dw,dx)=>
(Bj am an ao ai bm dv dw dx).bind fun dy=>
if(!dy)then
some false
else
j19 h n k b ak g f a m p ab ac ad ag ae)
def Rc:=Kg Qw
def Qz(j18:Bool→Int→Int→Int→Int→Int→Int→LX→LI→LI→Int→Int→Int→Int→Int→Int→LI→LX→LX→LX→Option Bool)(bk16:Int→LX→Option Bool)(h:Bool)(n k b ak g f:Int)(a:LX)(m p:LI)(am an ao ab ac ad:Int)(ag:LI)(ai ae:LX)(bj:Int)(be:LX):Option Bool:=
if(Ch bj (Ar (Ad k ak) b))then
(getI be bj).bind fun _=>
(Ji be bj 0).bind fun fo=>
bk16 (Ad bj 1) fo
else
j18 h n k b ak g f a m p am an ao ab ac ad ag be ai ae
def Cz(h:Bool)(n k b ak g f:Int)(a:LX)(m p:LI)(am an ao ab ac ad:Int)(ag:LI)(ai ae:LX):Nat→Int→LX→Option Bool
|0,_,_=>none
|q+1,bj,be=>Qz Rc (Cz h n k b ak g f a m p am an ao ab ac ad ag ai ae q) h n k b ak g f a m p am an ao ab ac ad ag ai ae bj be
def Kb h n k b ak g f a m p am an ao ab ac ad ag ai ae:=Cz h n k b ak g f a m p am an ao ab ac ad ag ai ae Al
def Rb(j16:Bool→Int→Int→Int→Int→Int→Int→LX→LI→LI→Int→Int→Int→Int→Int→Int→LI→LX→LX→Int→LX→Option Bool)(h:Bool)(ah k n b g f:Int)(a:LX)(m p:LI)(am an ao ab ac ad:Int)(ag:LI)(ai ae:LX):Option Bool:=
(getI m ah).bind fun _=>
(getI m ah).bind fun ak=>
(Cg ([]:LX) a).bind fun fp=>
j16 h n k b ak g f a m p am an ao ab ac ad ag ai ae (Ar k b) fp
def Gk:=Rb Kb
def Gt(j7:Int→Int→Int→Option Bool)(j9:Bool→Int→Int→Int→Int→Int→Int→LX→LI→LI→Int→Int→Int→Int→Int→Int→LI→LX→LX→Option Bool)(j15:Bool→Int→Int→Int→Int→Int→Int→LX→LI→LI→Int→Int→Int→Int→Int→Int→LI→LX→LX→Option Bool)(ap:LB)(h:Bool)(b g f:Int)(a:LX)(ar:LB)(ay az ba bb bc aq:Int)(m ax:LI)(bf ah k:Int):Option Bool:=
if(Ch ah (Ah (Ac m) 1))then
(getI ax ah).bind fun _=>
(getI ax ah).bind fun fq=>
if(Ly bf fq)then
j7 bf ah k
else
(Wa ar ap).bind fun(o,fs)=>
(Fs ar ap 2).bind fun(au,av,aw,al,dz,ft)=>
(Fs ar ap 1).bind fun(v,w,y,aa,af,u)=>
if((Be fs 0)||(Be ft 0))then
if true then
if(true||(Be (Ac al) (Ac a)))then
some false
else
j9 h ah k u b g f a m o au av aw v w y af al aa
else
(Ap dz o).bind fun fu=>
if((!fu)||(Be (Ac al) (Ac a)))then
some false
else
j9 h ah k u b g f a m o au av aw v w y af al aa
else
(Ap o ([ah]:LI)).bind fun fv=>
if(!fv)then
if(true||(Be (Ac al) (Ac a)))then
some false
else
j9 h ah k u b g f a m o au av aw v w y af al aa
else
(Ap dz o).bind fun fw=>
if((!fw)||(Be (Ac al) (Ac a)))then
some false
else
j9 h ah k u b g f a m o au av aw v w y af al aa
else
(Wa ar ap).bind fun(p,fx)=>
(Fs ar ap 2).bind fun(am,an,ao,ai,fa,fy)=>
(Fs ar ap 1).bind fun(ab,ac,ad,ae,ag,n)=>
if((Be fx 0)||(Be fy 0))then
if true then
if(true||(Be (Ac ai) (Ac a)))then
some false
else
j15 h ah k n b g f a m p am an ao ab ac ad ag ai ae
else
(Ap fa p).bind fun fz=>
if((!fz)||(Be (Ac ai) (Ac a)))then
some false
else
j15 h ah k n b g f a m p am an ao ab ac ad ag ai ae
else
(Ap p ([ah]:LI)).bind fun ga=>
if(!ga)then
if(true||(Be (Ac ai) (Ac a)))then
some false
else
j15 h ah k n b g f a m p am an ao ab ac ad ag ai ae
else
(Ap fa p).bind fun bu=>
if((!bu)||(Be (Ac ai) (Ac a)))then
some false
else
j15 h ah k n b g f a m p am an ao ab ac ad ag ai ae
def Dd(ap:LB)(h:Bool)(b g f:Int)(a:LX)(ar:LB)(ay az ba bb bc aq:Int)(m ax:LI):Nat→Int→Int→Int→Option Bool
|0,_,_,_=>none
|q+1,bf,ah,k=>Gt (Kz (Dd ap h b g f a ar ay az ba bb bc aq m ax q) ap h b g f a ar ay az ba bb bc aq m ax) Bn Gk ap h b g f a ar ay az ba bb bc aq m ax bf ah k
def Le ap h b g f a ar ay az ba bb bc aq m ax:=Dd ap h b g f a ar ay az ba bb bc aq m ax Al
def Lg(j5:LB→Bool→Int→Int→Int→LX→LB→Int→Int→Int→Int→Int→Int→LI→LI→Int→Int→Int→Option Bool)(b g f:Int)(a:LX)(ap:LB)(bn:Int)(fb:UInt8):Option Bool:=
(Rf).bind fun h=>
(Cj b g f a).bind fun gb=>
if((((((Be gb 0)||(Ga (Ac a) 400))||(Ga (Ac ap) 64))||(Ch bn 0))||(geq fb 0))||(!h))then
some h
else
(Ahf b g f a ap).bind fun(bp,gc)=>
(seekto_Open bp ap).bind fun(ay,az,ba,bb,bc,aq,ax,gd)=>
(Hm (Be b 0)).bind fun _=>
(Gw f (Bg (Ac a) b)).bind fun m=>
if(((((Be gc 0)||(Be gd 0))||(Ch aq 0))||(Ga aq (Ac bp)))||(Be (Ac ax) (Ac m)))then
some false
else
if(Ly bn (Ah (Ac bp) aq))then
some h
else
(getI bp (Ad aq bn)).bind fun _=>
(getI bp (Ad aq bn)).bind fun ge=>
(getI bp (Ad aq bn)).bind fun _=>
(Ji bp (Ad aq bn) (Pk ge fb)).bind fun ar=>
j5 ap h b g f a ar ay az ba bb bc aq m ax bn 0 0
def Il:=Lg Le
def Xm(f g b a h:Int):Option Bool:=
if((((geq f 1)||(geq f 2))&&(Ly g 1))&&(gle g 6))then
some ((((((geq b 8)||(geq b 16))||(geq b 24))&&(Ly a 1))&&(gle a 1048576))&&(Ly h 1))
else
some (((false&&(Ly a 1))&&(gle a 1048576))&&(Ly h 1))
def Abm(h a k f b:Int):Option Bool:=
(
(Hm (Be a 0)).bind fun _=>
(
if(Ga b (Bg 4000 a))then
some true
else
(Gw f b).bind fun g=>
some (Ga (Ac g) 1000)))
def Abw(b:Int):Option Int:=
if(Ga b 100000)then
some 8
else
some 0
def Adl:=Abw
def Ael(bk6:Int→Int→Option Int)(a:LI)(b f:Int):Option Int:=
(getI a f).bind fun g=>
bk6 (Ad b g) (Ad f 1)
def Ad7 bk6:=Ael bk6
def Tm(j8:Int→Int→Option Int)(j10:Int→Option Int)(a:LI)(b f:Int):Option Int:=
if(Ch f (Ac a))then
(getI a f).bind fun h=>
if(Ch h 5)then
some 8
else
(getI a f).bind fun k=>
if(Ga k 100000)then
some 8
else
j8 b f
else
j10 b
def Iy(a:LI):Nat→Int→Int→Option Int
|0,_,_=>none
|q+1,b,f=>Tm (Ad7 (Iy a q) a) Adl a b f
def Aek a:=Iy a Al
def Tn(j6:LI→Int→Int→Option Int)(a:LI):Option Int:=
if((Ch (Ac a) 1)||(Ga (Ac a) 1000))then
some 8
else
j6 a 0 0
def Je:=Tn Aek
abbrev Fp:=Option (Int×Int)
def Ati(a:Int):Fp:=
some (a,0)
def Atx:=Ati
def Uc(j6:Int→Fp)(bk4:Int→Int→Fp)(b:LB)(a f:Int):Fp:=
if(Ch f 4)then
(getI b f).bind fun g=>
if(Ly g 128)then
some (0,12)
else
(getI b f).bind fun h=>
bk4 (Ad (Ar 128 a) (Ae h:Int)) (Ad f 1)
else
j6 a
def Iw(b:LB):Nat→Int→Int→Fp
|0,_,_=>none
|q+1,a,f=>Uc Atx (Iw b q) b a f
def Aeq b:=Iw b Al
def Ad8(j4:LB→Int→Int→Fp)(b:LB):Fp:=
if(Be (Ac b) 4)then
some (0,2)
else
j4 b 0 0
def Zo:=Ad8 Aeq
abbrev Gc:=Option (Int×Int)
def Agj(a:LB)(g:Int):Gc:=
if(Ga g 4000)then
some (0,4)
else
if(Ch (Ac a) g)then
some (0,24)
else
(getI a 5).bind fun h=>
if(geq h 16)then
(Bv a (Ah g 10) g).bind fun k=>
(Bv a 3 10).bind fun m=>
(Cg ([51,68,73]:LB) m).bind fun n=>
if(k !=n)then
some (0,12)
else
some (g,0)
else
some (g,0)
def Vn:=Agj
def Ahv(j6:LB→Int→Gc)(a:LB)(b:Int):Gc:=
(getI a 5).bind fun o=>
if(geq o 16)then
j6 a (Ad (Ad 10 b) 10)
else
j6 a (Ad 10 b)
def Vq:=Ahv Vn
def Ahn(j5:LB→Int→Gc)(a:LB):Gc:=
if(Ch (Ac a) 10)then
some (0,24)
else
(Bv a 6 10).bind fun p=>
(Zo p).bind fun(b,f)=>
(getI a 3).bind fun u=>
if(Ch u 2)then
if true then
if true then
if(true||(Be f 0))then
some (0,12)
else
j5 a b
else
(getI a 5).bind fun v=>
if(Be v 0)then
(getI a 5).bind fun w=>
if(Be w 16)then
if(true||(Be f 0))then
some (0,12)
else
j5 a b
else
(getI a 3).bind fun y=>
if((Be y 4)||(Be f 0))then
some (0,12)
else
j5 a b
else
if(false||(Be f 0))then
some (0,12)
else
j5 a b
else
(getI a 4).bind fun aa=>
if(Be aa 0)then
if(true||(Be f 0))then
some (0,12)
else
j5 a b
else
(getI a 5).bind fun ab=>
if(Be ab 0)then
(getI a 5).bind fun ac=>
if(Be ac 16)then
if(true||(Be f 0))then
some (0,12)
else
j5 a b
else
(getI a 3).bind fun ad=>
if((Be ad 4)||(Be f 0))then
some (0,12)
else
j5 a b
else
if(false||(Be f 0))then
some (0,12)
else
j5 a b
else
(getI a 3).bind fun ae=>
if(Ga ae 4)then
if true then
if(true||(Be f 0))then
some (0,12)
else
j5 a b
else
(getI a 5).bind fun af=>
if(Be af 0)then
(getI a 5).bind fun ag=>
if(Be ag 16)then
if(true||(Be f 0))then
some (0,12)
else
j5 a b
else
(getI a 3).bind fun ah=>
if((Be ah 4)||(Be f 0))then
some (0,12)
else
j5 a b
else
if(false||(Be f 0))then
some (0,12)
else
j5 a b
else
(getI a 4).bind fun ai=>
if(Be ai 0)then
if(true||(Be f 0))then
some (0,12)
else
j5 a b
else
(getI a 5).bind fun aj=>
if(Be aj 0)then
(getI a 5).bind fun ak=>
if(Be ak 16)then
if(true||(Be f 0))then
some (0,12)
else
j5 a b
else
(getI a 3).bind fun al=>
if((Be al 4)||(Be f 0))then
some (0,12)
else
j5 a b
else
if(false||(Be f 0))then
some (0,12)
else
j5 a b
def Ahd:=Ahn Vq
def Aha(j4:LB→Gc)(a:LB):Gc:=
if(Ch (Ac a) 3)then
some (0,6)
else
(Bv a 0 3).bind fun am=>
if(am !=([73,68,51]:LB))then
some (0,6)
else
j4 a
def Acr:=Aha Ahd
def Akx(a:UInt64):Option UInt64:=
some a
def Alc:=Akx
def Zg(j6:UInt64→Option UInt64)(bk4:UInt64→Int→Option UInt64)(b:LB)(a:UInt64)(f:Int):Option UInt64:=
if(Ly f 0)then
(getI b f).bind fun g=>
bk4 (Ad (Ar 256 a) (Ae g:UInt64)) (Ah f 1)
else
j6 a
def Ms(b:LB):Nat→UInt64→Int→Option UInt64
|0,_,_=>none
|q+1,a,f=>Zg Alc (Ms b q) b a f
def Aj7 b:=Ms b Al
def Alm(j4:LB→UInt64→Int→Option UInt64)(b:LB):Option UInt64:=
j4 b 0 (Ah (Ac b) 1)
def Dc:=Alm Aj7
def Ab1(b:LB):Option (Int×Int×Bool):=
(Bv b 12 16).bind fun g=>
(Dc g).bind fun a=>
(Bv b 16 20).bind fun h=>
(Dc h).bind fun f=>
if(((Ch a 32)||(Ga a 3032))||(Ga f 1000))then
some (0,0,false)
else
some ((Ah (Ae a:Int) 32),(Ae f:Int),true)
def Aay(a:LB):Option (LB):=
some a
def Aan:=Aay
def Qb(j6:LB→Option (LB))(bk4:UInt64→Int→LB→Option (LB))(b:Int)(f:UInt64)(g:Int)(a:LB):Option (LB):=
if(Ch g b)then
(Cg a ([(Ae (Aa5 f 256):UInt8)]:LB)).bind fun h=>
bk4 (Bg f 256) (Ad g 1) h
else
j6 a
def Hi(b:Int):Nat→UInt64→Int→LB→Option (LB)
|0,_,_,_=>none
|q+1,f,g,a=>Qb Aan (Hi b q) b f g a
def Zz b:=Hi b Al
def Aao(j4:Int→UInt64→Int→LB→Option (LB))(k:UInt64)(b:Int):Option (LB):=
j4 b k 0 ([]:LB)
def Dw:=Aao Zz
def Qr(a b:Int)(f:UInt64):Option (LB):=
(Dw 2000 4).bind fun g=>
(Cg ([(65:UInt8),(80:UInt8),(69:UInt8),(84:UInt8),(65:UInt8),(71:UInt8),(69:UInt8),(88:UInt8)]:LB) g).bind fun h=>
(Dw (Ae (Ad a 32):UInt64) 4).bind fun k=>
(Cg h k).bind fun m=>
(Dw (Ae b:UInt64) 4).bind fun n=>
(Cg m n).bind fun o=>
(Dw f 4).bind fun p=>
(Cg o p).bind fun u=>
(mkI (8:Int) (0:UInt8)).bind fun v=>
(Cg u v).bind fun w=>
some w
def Ana(a b:Int):Option (LB):=
(Qr a b 2684354560).bind fun f=>
some f
def Am8(a b:Int)(f:Bool):Option (LB):=
if f then
(Qr a b 2147483648).bind fun g=>
some g
else
(Qr a b 0).bind fun h=>
some h
abbrev Kj:=Option (Int×Int)
def Aeb(a:LB)(b f:Int):Kj:=
if(Ch (Ac a) (Ad 64 b))then
some (0,24)
else
(Bv a (Ah (Ad 64 b) 32) (Ad 64 b)).bind fun g=>
(Am8 b f true).bind fun h=>
if(g !=h)then
some (0,12)
else
some ((Ad 64 b),0)
def Aed:=Aeb
def Aeu(j4:LB→Int→Int→Kj)(a:LB):Kj:=
if(Ch (Ac a) 32)then
some (0,24)
else
(Bv a 0 32).bind fun k=>
(Ab1 k).bind fun(b,f,m)=>
if(!m)then
some (0,12)
else
(Bv a 0 32).bind fun n=>
(Ana b f).bind fun o=>
if(n !=o)then
some (0,12)
else
j4 a b f
def Aeh:=Aeu Aed
def Aea(j3:LB→Kj)(a:LB):Kj:=
if(Ch (Ac a) 8)then
some (0,6)
else
(Bv a 0 8).bind fun p=>
if(p !=([65,80,69,84,65,71,69,88]:LB))then
some (0,6)
else
j3 a
def Zd:=Aea Aeh
abbrev Fi:=Option (LI×Int)
def Ad9(bk6:Int→LI→Fi)(a:LB)(b:Int)(f:LI)(g h:Int):Fi:=
if(geq h 6)then
some (f,0)
else
if(Be h 0)then
some (([]:LI),h)
else
if(Ga (Ad b g) 4000)then
some (([]:LI),4)
else
(Cg f ([g]:LI)).bind fun m=>
bk6 (Ad b g) m
def Nc bk6:=Ad9 bk6
def Ub(j9:Int→LI→Int→Int→Fi)(a:LB)(b:Int)(f:LI):Fi:=
(Bv a b (Ac a)).bind fun n=>
(Acr n).bind fun(o,k)=>
if(geq k 6)then
(Bv a b (Ac a)).bind fun p=>
(Zd p).bind fun(u,v)=>
j9 b f u v
else
j9 b f o k
def Nf(a:LB):Nat→Int→LI→Fi
|0,_,_=>none
|q+1,b,f=>Ub (Nc (Nf a q) a) a b f
def Atq a:=Nf a Al
def Ate(j6:LB→Int→LI→Fi)(a:LB):Fi:=
j6 a 0 ([]:LI)
def Ak3:=Ate Atq
abbrev Fk:=Option (Int×Int)
def Aen(a b:Int):Fk:=
some (b,a)
def Aep:=Aen
def Tx(j6:Int→Int→Fk)(bk4:Int→Int→Fk)(a:Int)(f:LI)(b g:Int):Fk:=
if(Ch g (Ac f))then
(getI f g).bind fun _=>
(getI f g).bind fun h=>
bk4 (Ad b h) (Ad g 1)
else
j6 a b
def It(a:Int)(f:LI):Nat→Int→Int→Fk
|0,_,_=>none
|q+1,b,g=>Tx Aep (It a f q) a f b g
def Ty a f:=It a f Al
def Aec(j4:Int→LI→Int→Int→Fk)(k:LB):Fk:=
(Ak3 k).bind fun(f,a)=>
j4 a f 0 0
def Zl:=Aec Ty
def Ahe(a:UInt32)(b:Bool):Option UInt32:=
if b then
some (Pk (Bg a 2) 3988292384)
else
some (Bg a 2)
def Ags:=Ahe
def Ahh(j2:UInt32→Bool→Option UInt32)(a:UInt32)(f:Int):Option UInt32:=
if(geq f 1)then
j2 a (!(geq (Aa5 a 2) 1))
else
j2 a (geq (Aa5 a 2) 1)
def Ab4:=Ahh Ags
def Ag7(a:UInt32):Option UInt32:=
some a
def Agm:=Ag7
def Vs(j6:UInt32→Option UInt32)(bk4:UInt32→UInt8→Int→Option UInt32)(a:UInt32)(b:UInt8)(f:Int):Option UInt32:=
if(Ch f 8)then
(Ab4 a (Ae (Aa5 b 2):Int)).bind fun g=>
bk4 g (Bg b 2) (Ad f 1)
else
j6 a
def Ka:Nat→UInt32→UInt8→Int→Option UInt32
|0,_,_,_=>none
|q+1,a,b,f=>Vs Agm (Ka q) a b f
def Auh:=Ka Al
def Au5(j4:UInt32→UInt8→Int→Option UInt32)(h:UInt32)(k:UInt8):Option UInt32:=
j4 h k 0
def Anq:=Au5 Auh
def Abf(a:UInt32):Option UInt32:=
some a
def Acw:=Abf
def Rr(j6:UInt32→Option UInt32)(bk4:UInt32→Int→Option UInt32)(b:LB)(a:UInt32)(f:Int):Option UInt32:=
if(Ch f (Ac b))then
(getI b f).bind fun g=>
(Anq a g).bind fun h=>
bk4 h (Ad f 1)
else
j6 a
def Ia(b:LB):Nat→UInt32→Int→Option UInt32
|0,_,_=>none
|q+1,a,f=>Rr Acw (Ia b q) b a f
def Adn b:=Ia b Al
def Ab8(j4:LB→UInt32→Int→Option UInt32)(k:UInt32)(b:LB):Option UInt32:=
j4 b k 0
def Aiu:=Ab8 Adn
def Sn(a:LB):Option UInt32:=
(Aiu 4294967295 a).bind fun b=>
some (Ah 4294967295 b)
abbrev Gb:=Option (Int×Int×Int×Int×Int×Int)
def Agl(k h g f b:UInt64):Gb:=
(Xm (Ae k:Int) (Ae h:Int) (Ae g:Int) (Ae f:Int) (Ae b:Int)).bind fun v=>
if(!v)then
some (0,0,0,0,0,12)
else
(Abm (Ae k:Int) (Ae h:Int) (Ae g:Int) (Ae f:Int) (Ae b:Int)).bind fun w=>
if w then
some (0,0,0,0,0,4)
else
some ((Ae k:Int),(Ae h:Int),(Ae g:Int),(Ae f:Int),(Ae b:Int),0)
def Ago:=Agl
def Agp(j6:UInt64→UInt64→UInt64→UInt64→UInt64→Gb)(a:LB):Gb:=
(Bv a 4 6).bind fun u=>
(Bv a 6 8).bind fun p=>
(Bv a 8 10).bind fun o=>
(Bv a 10 14).bind fun n=>
(Bv a 14 18).bind fun m=>
(
(Dc u).bind fun k=>
(
(Dc p).bind fun h=>
(
(Dc o).bind fun g=>
(
(Dc n).bind fun f=>
(
(Dc m).bind fun b=>
(
j6 k h g f b))))))
def Agh:=Agp Ago
def Ahi(j5:LB→Gb)(a:LB):Gb:=
if(Ch (Ac a) 22)then
some (0,0,0,0,0,24)
else
(Bv a 18 22).bind fun y=>
(Bv a 0 18).bind fun aa=>
(Dc y).bind fun ab=>
(Sn aa).bind fun ac=>
if(Be ab (Ae ac:UInt64))then
some (0,0,0,0,0,22)
else
j5 a
def Ag8:=Ahi Agh
def Agc(j4:LB→Gb)(a:LB):Gb:=
(Bv a 0 (Dx 4 (Ac a))).bind fun ad=>
(Bv ([84,84,65,49]:LB) 0 (Dx 4 (Ac a))).bind fun ae=>
if(ad !=ae)then
some (0,0,0,0,0,12)
else
j4 a
def Adf:=Agc Ag8
def Ag5(a:UInt64)(b:Bool):Option UInt64:=
if b then
some (Pk (Ar a 2) 4823603603198064275)
else
some (Ar a 2)
def Vo:=Ag5
def Agx(j2:UInt64→Bool→Option UInt64)(a:UInt64)(f:Int):Option UInt64:=
if(geq f 1)then
j2 a (!(Ly a 9223372036854775808))
else
j2 a (Ly a 9223372036854775808)
def Ab3:=Agx Vo
def Ahs(a:UInt64):Option UInt64:=
some a
def Agd:=Ahs
def Va(j6:UInt64→Option UInt64)(bk4:UInt64→Int→Option UInt64)(b:UInt8)(a:UInt64)(f:Int):Option UInt64:=
if(Ga f 0)then
(Hm (Be f 0)).bind fun _=>
(Ab3 a (Ff (Bg (Ae b:Int) f) 2)).bind fun g=>
bk4 g (Bg f 2)
else
j6 a
def Ki(b:UInt8):Nat→UInt64→Int→Option UInt64
|0,_,_=>none
|q+1,a,f=>Va Agd (Ki b q) b a f
def Aup b:=Ki b Al
def Avo(j4:UInt8→UInt64→Int→Option UInt64)(h:UInt64)(b:UInt8):Option UInt64:=
j4 b h 128
def Anh:=Avo Aup
def Abr(a:UInt64):Option UInt64:=
some a
def Aa9:=Abr
def Rn(j6:UInt64→Option UInt64)(bk4:UInt64→Int→Option UInt64)(b:LB)(a:UInt64)(f:Int):Option UInt64:=
if(Ch f (Ac b))then
(getI b f).bind fun g=>
(Anh a g).bind fun h=>
bk4 h (Ad f 1)
else
j6 a
def Hz(b:LB):Nat→UInt64→Int→Option UInt64
|0,_,_=>none
|q+1,a,f=>Rn Aa9 (Hz b q) b a f
def Ar3 b:=Hz b Al
def Ass(j4:LB→UInt64→Int→Option UInt64)(k:UInt64)(b:LB):Option UInt64:=
j4 b k 0
def Wz:=Ass Ar3
def An1(a:LB):Option UInt64:=
(Wz 0 a).bind fun b=>
some b
def Uv(a:LB):Option (LB):=
(An1 a).bind fun b=>
(Dw b 8).bind fun f=>
some f
abbrev Dp:=Option (LI×Int)
def Ahq(f:LI):Dp:=
(Je f).bind fun h=>
if(Be h 0)then
some (([]:LI),12)
else
some (f,0)
def Vl:=Ahq
def Vz(j8:LI→Dp)(bk6:Int→LI→Dp)(b:LB)(a g:Int)(f:LI):Dp:=
if(Ch g a)then
(Bv b (Ar 4 g) (Ad (Ar 4 g) 4)).bind fun k=>
(Dc k).bind fun m=>
(Cg f ([(Ae m:Int)]:LI)).bind fun n=>
bk6 (Ad g 1) n
else
j8 f
def Jz(b:LB)(a:Int):Nat→Int→LI→Dp
|0,_,_=>none
|q+1,g,f=>Vz Vl (Jz b a q) b a g f
def Agn b a:=Jz b a Al
def Ahg(j6:LB→Int→Int→LI→Dp)(b:LB)(a:Int):Dp:=
j6 b a 0 ([]:LI)
def Ag9:=Ahg Agn
def Ahl(j5:LB→Int→Dp)(b:LB)(a:Int):Dp:=
if((Ch a 1)||(Ga a 1000))then
some (([]:LI),2)
else
if(Ch (Ac b) (Ad (Ar 4 a) 4))then
some (([]:LI),24)
else
(Bv b (Ar 4 a) (Ad (Ar 4 a) 4)).bind fun o=>
(Bv b 0 (Ar 4 a)).bind fun p=>
(Dc o).bind fun u=>
(Sn p).bind fun v=>
if(Be u (Ae v:UInt64))then
some (([]:LI),22)
else
j5 b a
def Acg:=Ahl Ag9
def Anc(b:UInt64)(a:LB):Option (UInt64×Int):=
if(Ga (Ac a) 100000)then
some (0,4)
else
(Wz b a).bind fun f=>
some (f,0)
def Ap0(a:LB):Option (UInt64×Int):=
(Anc 0 a).bind fun(b,f)=>
some (b,f)
def Axo(a:LX):Option (LX):=
some a
def Axn:=Axo
def Ak7(bk6:UInt64→Int→LX→Option (LX))(b:UInt64)(f:Int)(a:LX)(g:Int32):Option (LX):=
(getI a f).bind fun _=>
(Ji a f g).bind fun h=>
bk6 (Bg b 256) (Ad f 1) h
def Zm bk6:=Ak7 bk6
def Zv(j8:UInt64→Int→LX→Int32→Option (LX))(j10:LX→Option (LX))(b:UInt64)(f:Int)(a:LX):Option (LX):=
if(Ch f 8)then
if(Ga (Ae (Aa5 b 256):Int32) 127)then
j8 b f a (Ah (Ae (Aa5 b 256):Int32) 256)
else
j8 b f a (Ae (Aa5 b 256):Int32)
else
j10 a
def Jj:Nat→UInt64→Int→LX→Option (LX)
|0,_,_,_=>none
|q+1,b,f,a=>Zv (Zm (Jj q)) Axn b f a
def Azc:=Jj Al
def Ayw(j6:UInt64→Int→LX→Option (LX))(k:UInt64):Option (LX):=
j6 k 0 (List.replicate 16 (0:Int32))
def Asz:=Ayw Azc
def Abh(a:LB):Option (LX×Int):=
if(Ga (Ac a) 64)then
some (([(0:Int32),(0:Int32),(0:Int32),(0:Int32),(0:Int32),(0:Int32),(0:Int32),(0:Int32),(0:Int32),(0:Int32),(0:Int32),(0:Int32),(0:Int32),(0:Int32),(0:Int32),(0:Int32)]:LX),2)
else
(Ap0 a).bind fun(b,g)=>
(Asz b).bind fun f=>
some (f,0)
def Xk(b:LB):Option (LB):=
(Sn b).bind fun a=>
(Cg ([]:LB) b).bind fun f=>
(Cg f ([(Ae a:UInt8),(Ae (Bo a (GI.toZ (8:UInt64)).toNat):UInt8),(Ae (Bo a (GI.toZ (16:UInt64)).toNat):UInt8),(Ae (Bo a (GI.toZ (24:UInt64)).toNat):UInt8)]:LB)).bind fun g=>
some g
def Ps(a:LB):Option Int:=
if(Ch (Ac a) 5)then
some 24
else
if(Ga (Ac a) 41254)then
some 4
else
(Bv a 0 (Ah (Ac a) 4)).bind fun b=>
(Xk b).bind fun f=>
if(f !=a)then
some 22
else
some 0
def Mw:Option (Int×Int×UInt64×UInt64):=
some (10,10,16384,16384)
def Ato(a:UInt64):Option UInt64:=
some a
def Ats:=Ato
def Tk(j6:UInt64→Option UInt64)(bk4:UInt64→Int→Option UInt64)(b:Int)(a:UInt64)(f:Int):Option UInt64:=
if(Ch f b)then
bk4 (Ar a 2) (Ad f 1)
else
j6 a
def Ir(b:Int):Nat→UInt64→Int→Option UInt64
|0,_,_=>none
|q+1,a,f=>Tk Ats (Ir b q) b a f
def At1 b:=Ir b Al
def Atf(j4:Int→UInt64→Int→Option UInt64)(b:Int):Option UInt64:=
j4 b 1 0
def Fl:=Atf At1
def Ae5(a g:Int)(h k:UInt64)(b:UInt32):Option Bool:=
(Fl a).bind fun f=>
some (Ch (Ae b:UInt64) f)
def Acd(a g:Int)(h k:UInt64)(b:UInt32):Option UInt32:=
(Fl a).bind fun f=>
some (Ae (Ah (Ae b:UInt64) f):UInt32)
abbrev Xs:=Option (Int×UInt64)
def Ahw(b:Int)(a f:UInt64):Xs:=
if(Ch b 24)then
(Fl (Ad b 5)).bind fun g=>
if(Ga (Ah (Ad a f) (Bg a 16)) g)then
some ((Ad b 1),(Ah (Ad a f) (Bg a 16)))
else
some (b,(Ah (Ad a f) (Bg a 16)))
else
some (b,(Ah (Ad a f) (Bg a 16)))
def Wb:=Ahw
def Agk(j2:Int→UInt64→UInt64→Xs)(b:Int)(a f:UInt64):Xs:=
if(Ga b 0)then
(Fl (Ad b 4)).bind fun h=>
if(Ch (Ah (Ad a f) (Bg a 16)) h)then
some ((Ah b 1),(Ah (Ad a f) (Bg a 16)))
else
j2 b a f
else
j2 b a f
def Us:=Agk Wb
abbrev Tz:=Option (Int×Int×UInt64×UInt64)
def Adi(h:UInt32)(f a:Int)(g b:UInt64)(o:Int)(p:UInt64):Tz:=
(Us f g (Ae h:UInt64)).bind fun(aa,ab)=>
some (aa,o,ab,p)
def Rl:=Adi
def Adv(j2:UInt32→Int→Int→UInt64→UInt64→Int→UInt64→Tz)(f a:Int)(g b:UInt64)(h:UInt32):Tz:=
(Ae5 f a g b h).bind fun u=>
if(!u)then
(
(
(Acd f a g b h).bind fun k=>
(Us a b (Ae k:UInt64)).bind fun(m,n)=>
j2 h f a g b m n))
else
j2 h f a g b a b
def Xn:=Adv Rl
abbrev Et:=Option (Int×Int×UInt64×UInt64)
def Asn(a b:Int)(f g:UInt64):Et:=
some (a,b,f,g)
def Ar6:=Asn
def Acu(j6:Int→Int→UInt64→UInt64→Et)(bk4:Int→Int→Int→UInt64→UInt64→Et)(h:Int)(k:LU)(m a b:Int)(f g:UInt64):Et:=
if(Ch m (Ac k))then
(getI k m).bind fun n=>
(Xn a b f g n).bind fun(o,p,u,v)=>
bk4 (Ad m h) o p u v
else
j6 a b f g
def Lt(h:Int)(k:LU):Nat→Int→Int→Int→UInt64→UInt64→Et
|0,_,_,_,_,_=>none
|q+1,m,a,b,f,g=>Acu Ar6 (Lt h k q) h k m a b f g
def Asq h k:=Lt h k Al
def Acx(j4:Int→LU→Int→Int→Int→UInt64→UInt64→Et)(h:Int)(k:LU):Et:=
(Mw).bind fun(w,y,aa,ab)=>
(Hm (Be h 0)).bind fun _=>
j4 h k (Ff (Ac k) h) w y aa ab
def Pm:=Acx Asq
def Aj4(a:Int):Option Int:=
some (Ff a 2)
def Alx:=Aj4
def Zb(j6:Int→Option Int)(bk4:Int→Int→Option Int)(b a f:Int):Option Int:=
if(Ch f (Ff b 8))then
bk4 (Bg a 2) (Ad f 1)
else
j6 a
def Mx(b:Int):Nat→Int→Int→Option Int
|0,_,_=>none
|q+1,a,f=>Zb Alx (Mx b q) b a f
def Alk b:=Mx b Al
def Akt(j4:Int→Int→Int→Option Int)(g:LB)(k b:Int):Option Int:=
(getI g (Bg b 8)).bind fun h=>
j4 b (Ae h:Int) 0
def Lh:=Akt Alk
abbrev Dz:=Option (LB×Int)
def Ai8(b g a:Int)(f:LB):Dz:=
(getI f (Bg a 8)).bind fun _=>
(getI f (Bg a 8)).bind fun m=>
(getI f (Bg a 8)).bind fun _=>
(Ji f (Bg a 8) (Ad m (Ae (Ar b g):UInt8))).bind fun n=>
some (n,(Ad a 1))
def Wt:=Ai8
def Xi(j8:Int→Int→Int→LB→Dz)(bk6:Int→Int→Dz)(b a:Int)(f:LB)(g h:Int):Dz:=
if(Ch h (Ff a 8))then
bk6 (Ar g 2) (Ad h 1)
else
j8 b g a f
def Li(b a:Int)(f:LB):Nat→Int→Int→Dz
|0,_,_=>none
|q+1,g,h=>Xi Wt (Li b a f q) b a f g h
def Aiv b a f:=Li b a f Al
def Ai6(j6:Int→Int→LB→Int→Int→Dz)(b a:Int)(f:LB):Dz:=
j6 b a f 1 0
def Wu:=Ai6 Aiv
def Aiy(j5:Int→Int→LB→Dz)(k:LB)(a b:Int):Dz:=
if(geq (Ff a 8) 0)then
(Cg k ([(0:UInt8)]:LB)).bind fun o=>
j5 b a o
else
j5 b a k
def Wi:=Aiy Wu
abbrev Ea:=Option (LB×Int)
def Apy(a:Int)(b:LB):Ea:=
some (b,a)
def Apg:=Apy
def Py(j6:Int→LB→Ea)(bk4:Int→Int→LB→Ea)(f:Int)(g:LB)(h k a:Int)(b:LB):Ea:=
if(Ch k f)then
(Lh g h k).bind fun m=>
(Wi b a m).bind fun(n,o)=>
bk4 (Ad k 1) o n
else
j6 a b
def Hf(f:Int)(g:LB)(h:Int):Nat→Int→Int→LB→Ea
|0,_,_,_=>none
|q+1,k,a,b=>Py Apg (Hf f g h q) f g h k a b
def Ap9 f g h:=Hf f g h Al
def Api(j4:Int→LB→Int→Int→Int→LB→Ea)(g:LB)(h p f:Int):Ea:=
j4 f g h p 0 ([]:LB)
def Agf:=Api Ap9
def Atp(a:UInt64):Option UInt64:=
some a
def Aty:=Atp
def Tv(j6:UInt64→Option UInt64)(bk4:UInt64→Int→Option UInt64)(b:Int)(f:LB)(g:Int)(a:UInt64)(h:Int):Option UInt64:=
if(Ly h 0)then
(Lh f g (Ad b h)).bind fun k=>
bk4 (Ad (Ar 2 a) (Ae k:UInt64)) (Ah h 1)
else
j6 a
def Is(b:Int)(f:LB)(g:Int):Nat→UInt64→Int→Option UInt64
|0,_,_=>none
|q+1,a,h=>Tv Aty (Is b f g q) b f g a h
def Ad6 b f g:=Is b f g Al
def Aeg(j4:Int→LB→Int→UInt64→Int→Option UInt64)(f:LB)(g b m:Int):Option UInt64:=
j4 b f g 0 (Ah m 1)
def Ro:=Aeg Ad6
abbrev Gv:=Option (Int×Int)
def Ai1(b a:Int)(g:LB)(f:Int):Gv:=
if(geq a 48)then
some (a,(Ad b a))
else
if(Ly (Ad b a) f)then
some ((-1:Int),0)
else
some (a,(Ad (Ad b a) 1))
def Xd:=Ai1
def Xe(j6:Int→Int→LB→Int→Gv)(bk4:Int→Gv)(b:Int)(g:LB)(f a:Int):Gv:=
if((Ch (Ad b a) f)&&(Ch a 48))then
(Lh g f (Ad b a)).bind fun h=>
if(geq h 1)then
bk4 (Ad a 1)
else
j6 b a g f
else
j6 b a g f
def Ll(b:Int)(g:LB)(f:Int):Nat→Int→Gv
|0,_=>none
|q+1,a=>Xe Xd (Ll b g f q) b g f a
def Axm b g f:=Ll b g f Al
def Axu(j4:Int→LB→Int→Int→Gv)(g:LB)(f b:Int):Gv:=
j4 b g f 0
def Aqr:=Axu Axm
def Abn(b:UInt32)(f:Int):Option Int:=
(Fl f).bind fun a=>
(Hm (Be a 0)).bind fun _=>
some (Ae (Dx 48 (Bg (Ae b:UInt64) a)):Int)
abbrev Yz:=Option (UInt32×Int×Int)
def Wx(g a b:Int)(h:LB)(f k:Int):Yz:=
if((Ch a 0)||(Ch (Ah f b) k))then
some (0,0,24)
else
(Ro h f b k).bind fun m=>
if(Ch a 48)then
(Fl g).bind fun o=>
some ((Ae (Ad (Ar (Ae a:UInt64) o) m):UInt32),(Ad b k),0)
else
(Abn (Ae m:UInt32) g).bind fun p=>
if(Ch p a)then
some (0,0,12)
else
some ((Ae m:UInt32),(Ad b k),0)
def Xr:=Wx
def Aix(j2:Int→Int→Int→LB→Int→Int→Yz)(h:LB)(f n g:Int):Yz:=
if(Ly n f)then
some (0,0,24)
else
(Aqr h f n).bind fun(a,b)=>
if(geq a 48)then
j2 g a b h f 32
else
j2 g a b h f g
def Afh:=Aix Xr
def Afq(g:LB)(b a f n:Int)(v w:UInt64):Option (UInt32×Int×Int):=
if(Ly a b)then
some (0,0,24)
else
(Lh g b a).bind fun o=>
if(geq o 0)then
if(Ch (Ah (Ah b a) 1) f)then
some (0,0,24)
else
(Ro g b (Ad a 1) f).bind fun p=>
some ((Ae p:UInt32),(Ad (Ad a 1) f),0)
else
(Afh g b (Ad a 1) n).bind fun(h,u,k)=>
if(Be k 0)then
some (0,0,k)
else
(Fl f).bind fun m=>
if(Ga (Ad (Ae h:UInt64) m) 4294967295)then
some (0,0,12)
else
some ((Ae (Ad (Ae h:UInt64) m):UInt32),u,0)
abbrev Bh:=Option (LU×Int)
def Atn(b:LU):Bh:=
some (b,0)
def Att:=Atn
def Tp(j18:LU→Bh)(bk16:Int→Bh)(a:LB)(b:LU)(m:Int):Bh:=
if(Ch m (Ar 8 (Ac a)))then
(Lh a (Ar 8 (Ac a)) m).bind fun n=>
if(Be n 0)then
some (b,12)
else
bk16 (Ad m 1)
else
j18 b
def Io(a:LB)(b:LU):Nat→Int→Bh
|0,_=>none
|q+1,m=>Tp Att (Io a b q) a b m
def Aei a b:=Io a b Al
def Aej(j16:LB→LU→Int→Bh)(f:Int)(a:LB)(b:LU):Bh:=
if(Ga (Ah (Ar 8 (Ac a)) f) 7)then
some (b,12)
else
j16 a b f
def Tu:=Aej Aei
def Aef(bk10:Int→Int→LU→Bh)(g h:Int)(a:LB)(f k:Int)(b:LU)(o p:Int)(u v:UInt64):Bh:=
(Agf a (Ar 8 (Ac a)) f (Dx (Ad f 81) (Ar 8 (Ac a)))).bind fun(y,aa)=>
(Afq y aa 0 o p u v).bind fun(ab,ac,w)=>
if(Be w 0)then
some (b,w)
else
(Cg b ([ab]:LU)).bind fun ad=>
bk10 (Ad f ac) (Ad k 1) ad
def Iu bk10:=Aef bk10
def Aes(j13:Int→Int→LU→Int→Int→UInt64→UInt64→Bh)(j15:Int→LB→LU→Bh)(g h:Int)(a:LB)(f k:Int)(b:LU):Bh:=
if(Ch k (Ar h g))then
(Mw).bind fun(n,ae,af,ag)=>
if(Ly k g)then
(Pm g b).bind fun(ah,ai,aj,ak)=>
j13 f k b ah ai aj ak
else
j13 f k b n ae af ag
else
j15 f a b
def Eu(g h:Int)(a:LB):Nat→Int→Int→LU→Bh
|0,_,_,_=>none
|q+1,f,k,b=>Aes (Iu (Eu g h a q) g h a) Tu g h a f k b
def At0 g h a:=Eu g h a Al
def Agi(j10:Int→Int→LB→Int→Int→LU→Bh)(g h:Int)(a:LB):Bh:=
j10 g h a 0 0 ([]:LU)
def Abl:=Agi At0
def Azv(a:Int):Option (Int×Int):=
if(geq a 8)then
some (4,0)
else
if((geq a 16)||(geq a 24))then
some (5,0)
else
some (0,2)
def Bc2(a:Int)(b:LX):Option (Int×LX×LX×Int):=
(Azv a).bind fun(g,f)=>
if(Be f 0)then
some (0,(List.replicate 16 (0:Int32)),(List.replicate 16 (0:Int32)),2)
else
if(geq a 16)then
some (9,b,(List.replicate 16 (0:Int32)),0)
else
some (10,b,(List.replicate 16 (0:Int32)),0)
def Ap5(a:Int)(b:LX):Option (Int×Int32×Int×LX×LX×Int):=
(Bc2 a b).bind fun(f,g,h,k)=>
if(Be k 0)then
some (0,0,0,(List.replicate 16 (0:Int32)),(List.replicate 16 (0:Int32)),2)
else
some (a,0,f,g,h,0)
def Aco(a:UInt32):Option Int32:=
if(geq (Aa5 a 2) 0)then
some (Ae (Bg a 2):Int32)
else
some (Ae (Bg (Bae (Ad (Ae a:Int) 1)) 2):Int32)
def Ci(a:Int):Option Int32:=
some (Ae (Ae (Ae a:UInt64):UInt32):Int32)
def Ai2(a:Int):Option Int32:=
some (Ae a:Int32)
def Ai7:=Ai2
def Xb(j6:Int→Option Int32)(bk4:Int→Int→Option Int32)(h:Int)(f g:LX)(a b:Int):Option Int32:=
if(Ch b 16)then
(getI f b).bind fun _=>
(getI g b).bind fun _=>
(getI f b).bind fun k=>
(getI g b).bind fun m=>
(Ci (Ar (Ae k:Int) (Ae m:Int))).bind fun n=>
(Ci (Ad a (Ae n:Int))).bind fun o=>
bk4 (Ae o:Int) (Ad b 1)
else
j6 a
def Lk(h:Int)(f g:LX):Nat→Int→Int→Option Int32
|0,_,_=>none
|q+1,a,b=>Xb Ai7 (Lk h f g q) h f g a b
def Axs h f g:=Lk h f g Al
def Axt(j4:Int→LX→LX→Int→Int→Option Int32)(h:Int)(f g:LX):Option Int32:=
j4 h f g 0 0
def Apr:=Axt Axs
def Ag6(b:Int)(f g:LX)(a:Int):Option Int32:=
(Apr b f g).bind fun k=>
(Ci (Ad (Ae k:Int) (Bg a 2))).bind fun h=>
(Hm (Be a 0)).bind fun _=>
(Hm (Be a 0)).bind fun _=>
if(Ch (Ff (Ae h:Int) a) 0)then
some (Ae (Ah (Bg (Ae h:Int) a) 1):Int32)
else
some (Ae (Bg (Ae h:Int) a):Int32)
def Vx:=Ag6
def Ahb(j2:Int→LX→LX→Int→Option Int32)(b:Int)(f g:LX):Option Int32:=
if(geq b 9)then
j2 b f g 512
else
j2 b f g 1024
def Ac8:=Ahb Vx
def Ab0(a:Int):Option Int32:=
if(geq a 0)then
some 4
else
if(gle a 3)then
some 2
else
some 1
def Ud(a:Int32):Option Int32:=
if(Ch a 0)then
some (-1:Int32)
else
if(Ga a 0)then
some 1
else
some 0
abbrev Ed:=Option (Int×LX×LX)
def Apw(g:Int)(b a:LX):Ed:=
some (g,b,a)
def Apn:=Apw
def Qk(j6:Int→LX→LX→Ed)(bk4:Int→LX→Ed)(h:Int32)(g:Int)(a:LX)(f:Int)(b:LX):Ed:=
if(Ch f 16)then
(getI b f).bind fun _=>
(getI a f).bind fun _=>
(getI b f).bind fun k=>
(getI a f).bind fun m=>
(Ab0 f).bind fun n=>
(Ud m).bind fun o=>
(Ud h).bind fun p=>
(getI b f).bind fun _=>
(Ji b f (Ad k (Ar (Ar n o) p))).bind fun u=>
bk4 (Ad f 1) u
else
j6 g b a
def He(h:Int32)(g:Int)(a:LX):Nat→Int→LX→Ed
|0,_,_=>none
|q+1,f,b=>Qk Apn (He h g a q) h g a f b
def Apq h g a:=He h g a Al
def Aqg(j4:Int32→Int→LX→Int→LX→Ed)(g:Int)(v a:LX)(h:Int32):Ed:=
j4 h g a 0 v
def Ahr:=Aqg Apq
abbrev Er:=Option (Int×LX×LX)
def Ab7(b:Int32)(f:Int)(g a:LX):Er:=
(getI a 0).bind fun _=>
(Ji a 0 b).bind fun k=>
some (f,g,k)
def Abb:=Ab7
def Rz(j6:Int32→Int→LX→LX→Er)(bk4:Int→LX→Er)(b:Int32)(f:Int)(g:LX)(h:Int)(a:LX):Er:=
if(Ga h 0)then
(getI a (Ah h 1)).bind fun _=>
(getI a (Ah h 1)).bind fun m=>
(getI a h).bind fun _=>
(Ji a h m).bind fun n=>
bk4 (Ah h 1) n
else
j6 b f g a
def Hu(b:Int32)(f:Int)(g:LX):Nat→Int→LX→Er
|0,_,_=>none
|q+1,h,a=>Rz Abb (Hu b f g q) b f g h a
def Asd b f g:=Hu b f g Al
def Art(j4:Int32→Int→LX→Int→LX→Er)(f:Int)(g o:LX)(b:Int32):Er:=
j4 b f g 15 o
def Ai9:=Art Asd
def Vh(a:Int)(b f:LX)(g:Int32):Option (Int32×Int×LX×LX):=
(Ac8 a b f).bind fun k=>
(Ci (Ad (Ae g:Int) (Ae k:Int))).bind fun h=>
(Ahr a b f g).bind fun(m,n,o)=>
(Ai9 m n o h).bind fun(p,u,v)=>
some (h,p,u,v)
def Abk(b:Int32)(a:Int):Option Int32:=
(Hm (Be a 0)).bind fun _=>
(Hm (Be a 0)).bind fun _=>
if(Ch (Ff (Ar (Ah a 1) (Ae b:Int)) a) 0)then
some (Ae (Ah (Bg (Ar (Ah a 1) (Ae b:Int)) a) 1):Int32)
else
some (Ae (Bg (Ar (Ah a 1) (Ae b:Int)) a):Int32)
def Ru:=Abk
def Abq(j2:Int32→Int→Option Int32)(f:Int)(b:Int32):Option Int32:=
if(geq f 5)then
j2 b 32
else
j2 b 16
def Pp:=Abq Ru
def Xo(b:Int)(a:Int32)(h:Int)(k m:LX):Option Int:=
if(geq b 8)then
(Pp 4 a).bind fun f=>
some (Ae f:Int)
else
(Pp 5 a).bind fun g=>
some (Ae g:Int)
def Uz(a:Int)(k:Int32)(b:Int)(f g:LX)(m:Int32):Option (Int32×Int×Int32×Int×LX×LX):=
(Vh b f g m).bind fun(n,o,p,u)=>
(Xo a k b f g).bind fun v=>
(Ci (Ad (Ae n:Int) v)).bind fun h=>
some (h,a,h,o,p,u)
def Sd(a:Int)(b:LX):Option Int:=
if((Ch a 1)||(Ga a 6))then
some 2
else
if(Ga (Ac b) 4000)then
some 4
else
(Hm (Be a 0)).bind fun _=>
if(Ga (Ff (Ac b) a) 0)then
some 2
else
some 0
def Ap1(b:LX):Option (LX):=
some b
def Aqf:=Ap1
def Qp(j8:LX→Option (LX))(bk6:Int→LX→Option (LX))(a:LX)(f:Int)(b:LX):Option (LX):=
if(Ly f 0)then
(getI b (Ad f 1)).bind fun _=>
(getI a f).bind fun m=>
(getI b (Ad f 1)).bind fun n=>
(Ci (Ah (Ae n:Int) (Ae m:Int))).bind fun o=>
(getI b f).bind fun _=>
(Ji b f o).bind fun p=>
bk6 (Ah f 1) p
else
j8 b
def Hh(a:LX):Nat→Int→LX→Option (LX)
|0,_,_=>none
|q+1,f,b=>Qp Aqf (Hh a q) a f b
def Aph a:=Hh a Al
def Aaq(j6:LX→Int→LX→Option (LX))(a g:LX):Option (LX):=
j6 a (Ah (Ac a) 2) g
def Pz:=Aaq Aph
def Aah(j5:LX→LX→Option (LX))(a:LX):Option (LX):=
(mkI (Ac a) (0:Int32)).bind fun k=>
(Hm (geq (Ac a) (Ac a))).bind fun _=>
(getI a (Ah (Ac a) 1)).bind fun u=>
(getI k (Ah (Ac a) 1)).bind fun _=>
(Ji k (Ah (Ac a) 1) u).bind fun h=>
if(Ga (Ac a) 1)then
(getI a (Ah (Ac a) 1)).bind fun v=>
(getI a (Ah (Ac a) 2)).bind fun w=>
(Ci (Ad (Ae v:Int) (Bg (Ae w:Int) 2))).bind fun y=>
(getI h (Ah (Ac a) 1)).bind fun _=>
(Ji h (Ah (Ac a) 1) y).bind fun aa=>
j5 a aa
else
j5 a h
def Vv:=Aah Pz
abbrev Ge:=Option (LX×Int)
def Awq(f:LX):Ge:=
some (f,0)
def Awp:=Awq
def Agr(j6:LX→Ge)(bk4:Int→LX→Ge)(a:Int)(b:LX)(g:Int)(f:LX):Ge:=
if(Ch g (Ac b))then
(Bv b g (Ad g a)).bind fun h=>
(Vv h).bind fun k=>
(Cg f k).bind fun m=>
bk4 (Ad g a) m
else
j6 f
def Ny(a:Int)(b:LX):Nat→Int→LX→Ge
|0,_,_=>none
|q+1,g,f=>Agr Awp (Ny a b q) a b g f
def Awf a b:=Ny a b Al
def Agq(j4:Int→LX→Int→LX→Ge)(a:Int)(b:LX):Ge:=
(Sd a b).bind fun n=>
if(Be n 0)then
(Sd a b).bind fun o=>
some (([]:LX),o)
else
j4 a b 0 ([]:LX)
def Ado:=Agq Awf
def Aas(a f:Int)(w:LX):Option (LX):=
(Ado a w).bind fun(aj,ai)=>
some aj
def Qu:=Aas
def Aar(bk18:Int→LX→Option (LX))(b:LU)(a f:Int)(g:LX)(h:Int)(m:LX):Option (LX):=
bk18 (Ad h 1) m
def Aak bk18:=Aar bk18
def Aal(bk26:Int→LX→Int→Int32→Int→LX→LX→Option (LX))(b:LU)(h a f:Int)(g:LX)(k:Int)(af:LX)(y:Int)(aa:Int32)(ab:Int)(ac ad:LX):Option (LX):=
bk26 (Ad k a) af y aa ab ac ad
def Aat bk26:=Aal bk26
def Aaw(j30:Int→LX→Int→Int32→Int→LX→LX→Option (LX))(b:LU)(h a f:Int)(g:LX)(k:Int)(ae:Int32)(m:LX)(n:Int)(o:Int32)(p:Int)(u v:LX)(y:Int)(aa:Int32)(ab:Int)(ac ad:LX):Option (LX):=
(getI m k).bind fun _=>
(Ji m k ae).bind fun af=>
j30 k af y aa ab ac ad
def Aap bk26 b h a f g:=Aaw (Aat bk26 b h a f g) b h a f g
def Aaf(j29:Int→Int32→LX→Int→Int32→Int→LX→LX→Int→Int32→Int→LX→LX→Option (LX))(j32:Int→LX→Option (LX))(b:LU)(a f:Int)(g:LX)(h k:Int)(m:LX)(n:Int)(o:Int32)(p:Int)(u v:LX):Option (LX):=
if(Ch k (Ac b))then
(getI b k).bind fun ah=>
(
(Aco ah).bind fun ag=>
(
(Uz n o p u v ag).bind fun(ae,y,aa,ab,ac,ad)=>
j29 k ae m n o p u v y aa ab ac ad))
else
j32 h m
def Ko(bk18:Int→LX→Option (LX))(b:LU)(a f:Int)(g:LX)(h:Int):Nat→Int→LX→Int→Int32→Int→LX→LX→Option (LX)
|0,_,_,_,_,_,_,_=>none
|q+1,k,m,n,o,p,u,v=>Aaf (Aap (Ko bk18 b a f g h q) b h a f g) (Aak bk18 b a f g) b a f g h k m n o p u v
def Aag bk18 b a f g h:=Ko bk18 b a f g h Al
def Qi(j26:Int→Int→LX→Int→Int32→Int→LX→LX→Option (LX))(j34:Int→Int→LX→Option (LX))(b:LU)(a f:Int)(g:LX)(h:Int)(w:LX):Option (LX):=
if(Ch h a)then
(Ap5 f g).bind fun(ak,ai,al,am,an,aq)=>
j26 h h w ak ai al am an
else
j34 a f w
def Fb(b:LU)(a f:Int)(g:LX):Nat→Int→LX→Option (LX)
|0,_,_=>none
|q+1,h,w=>Qi (Aag (Fb b a f g q) b a f g) Qu b a f g h w
def Aa0 b a f g:=Fb b a f g Al
def Ab6(j18:LU→Int→Int→LX→Int→LX→Option (LX))(a f:Int)(g:LX)(b:LU):Option (LX):=
(mkI (Ac b) (0:Int32)).bind fun ao=>
(Hm (geq (Ac b) (Ac b))).bind fun _=>
j18 b a f g 0 ao
def Po:=Ab6 Aa0
def Pn(g f:Int)(a:LX):Option (LX×Int):=
(cadenzaref18_Check f a).bind fun b=>
if(Be b 0)then
some (([]:LX),b)
else
some (a,0)
abbrev Tl:=Option (LX×Int)
def Md(f a b:Int)(g:LX)(h:LU):Tl:=
if(Be f 0)then
some (([]:LX),f)
else
(
(
(Po a b g h).bind fun m=>
(Pn a b m).bind fun(n,o)=>
some (n,o)))
def Ls:=Md
def Lr(j2:Int→Int→Int→LX→LU→Tl)(a b:Int)(g:LX)(p:Int)(k:LB):Tl:=
(Cw a b p).bind fun y=>
if(Be y 0)then
some (([]:LX),2)
else
(Ps k).bind fun aa=>
if(Be aa 0)then
(Ps k).bind fun ab=>
some (([]:LX),ab)
else
(Bv k 0 (Ah (Ac k) 4)).bind fun ac=>
(Abl a p ac).bind fun(h,f)=>
j2 f a b g h
def cadenzaref21_Decode:=Lr Ls
def Xg(a b:Int):Option (LB):=
if(geq a 24)then
(Cg ([(Ae (Ff b 256):UInt8),(Ae (Ff (Bg b 256) 256):UInt8)]:LB) ([(Ae (Bg b 65536):UInt8)]:LB)).bind fun g=>
some g
else
some ([(Ae (Ff b 256):UInt8),(Ae (Ff (Bg b 256) 256):UInt8)]:LB)
def Lj:=Xg
def Aja(j2:Int→Int→Option (LB))(a:Int)(f:Int32):Option (LB):=
if(geq a 8)then
some ([(Ae (Ad (Ae f:Int) 128):UInt8)]:LB)
else
if(Ch (Ae f:Int) 0)then
(Gg a).bind fun h=>
j2 a (Ad (Ae f:Int) (Ar 2 h))
else
j2 a (Ae f:Int)
def Afu:=Aja Lj
abbrev Fg:=Option (LB×Int)
def At2(b:LB):Fg:=
some (b,0)
def Atv:=At2
def Ts(j6:LB→Fg)(bk4:Int→LB→Fg)(f:Int)(a:LX)(g:Int)(b:LB):Fg:=
if(Ch g (Ac a))then
(getI a g).bind fun h=>
(Afu f h).bind fun k=>
(Cg b k).bind fun m=>
bk4 (Ad g 1) m
else
j6 b
def Ip(f:Int)(a:LX):Nat→Int→LB→Fg
|0,_,_=>none
|q+1,g,b=>Ts Atv (Ip f a q) f a g b
def Atj f a:=Ip f a Al
def Aee(j4:Int→LX→Int→LB→Fg)(f:Int)(a:LX):Fg:=
(cadenzaref18_Check f a).bind fun n=>
if(Be n 0)then
(cadenzaref18_Check f a).bind fun o=>
some (([]:LB),o)
else
j4 f a 0 ([]:LB)
def Zs:=Aee Atj
abbrev Iv:=Option (Int×Int×Int×Int×Int×Int×LI×Int)
def Ad0(m n b h k f g:Int)(o:LI):Iv:=
if(Be n 0)then
some (0,0,0,0,0,0,([]:LI),n)
else
some (b,h,k,f,g,(Ad (Ad m (Ar 4 (Ac o))) 4),o,0)
def Adt:=Ad0
def Acy(j4:Int→Int→Int→Int→Int→Int→Int→LI→Iv)(a:LB)(b h k f g m:Int):Iv:=
(Bv a m (Ac a)).bind fun y=>
(Gw f g).bind fun aa=>
(Acg y (Ac aa)).bind fun(o,n)=>
j4 m n b h k f g o
def Lz:=Acy Adt
def Se(j3:LB→Int→Int→Int→Int→Int→Int→Iv)(a u:LB):Iv:=
if(Ga (Ac a) 100000)then
some (0,0,0,0,0,0,([]:LI),4)
else
(Zl a).bind fun(p,v)=>
if(Be v 0)then
some (0,0,0,0,0,0,([]:LI),v)
else
(Bv a p (Ac a)).bind fun ab=>
(Adf ab).bind fun(b,h,k,f,g,w)=>
if(Be w 0)then
some (0,0,0,0,0,0,([]:LI),w)
else
if((u==([]:LB)) !=(geq b 1))then
some (0,0,0,0,0,0,([]:LI),26)
else
if(geq b 2)then
if(Ch (Ah (Ac a) (Ad p 22)) 8)then
some (0,0,0,0,0,0,([]:LI),24)
else
(Bv a (Ad p 22) (Ad (Ad p 22) 8)).bind fun ac=>
(Uv u).bind fun ad=>
if(ac !=ad)then
some (0,0,0,0,0,0,([]:LI),26)
else
j3 a b h k f g (Ad (Ad p 22) 8)
else
j3 a b h k f g (Ad p 22)
def cadenzaref40_Opened:=Se Lz
def Atz(a:Int):Option Int:=
some a
def Atm:=Atz
def Tt(j6:Int→Option Int)(bk4:Int→Int→Option Int)(b h k m n o f:Int)(g:LI)(a p:Int):Option Int:=
if(Ch p b)then
(getI g p).bind fun u=>
bk4 (Ad a u) (Ad p 1)
else
j6 a
def Iq(b h k m n o f:Int)(g:LI):Nat→Int→Int→Option Int
|0,_,_=>none
|q+1,a,p=>Tt Atm (Iq b h k m n o f g q) b h k m n o f g a p
def Atr b h k m n o f g:=Iq b h k m n o f g Al
def Ath(j4:Int→Int→Int→Int→Int→Int→Int→LI→Int→Int→Option Int)(h k m n o f:Int)(g:LI)(b:Int):Option Int:=
j4 b h k m n o f g f 0
def Alz:=Ath Atr
abbrev Zu:=Option (LB×Int)
def Xl(p:LX)(m n g b h k o:Int)(a:LI):Zu:=
if(Be m 0)then
some (([]:LB),m)
else
(Zs b p).bind fun(af,ai)=>
some (af,0)
def Xf:=Xl
def Xq(j2:LX→Int→Int→Int→Int→Int→Int→Int→LI→Zu)(v y:LB)(n g b h k o:Int)(a:LI)(f:Int):Zu:=
(Alz n g b h k o a f).bind fun u=>
(getI a f).bind fun aa=>
if(Ch (Ah (Ac v) u) aa)then
some (([]:LB),24)
else
(Abh y).bind fun(ab,ag)=>
(getI a f).bind fun ac=>
(Bv v u (Ad u ac)).bind fun ad=>
(
(Gw h k).bind fun w=>
(getI w f).bind fun _=>
(getI w f).bind fun ae=>
(cadenzaref21_Decode g b ab ae ad).bind fun(p,m)=>
j2 p m n g b h k o a)
def cadenzaref40_Got:=Xq Xf
abbrev Az:=Option (LX×Int)
def Aoh(h:LX):Az:=
some (h,0)
def Aop:=Aoh
def Xt(bk16:Int→LX→Az)(a:Int)(b:LB)(f g:Int)(n:LX):Az:=
bk16 (Ad g (Bg a 8)) n
def Oq bk16:=Xt bk16
def Yg(j28:Int→LX→Az)(a:Int)(b:LB)(f g k:Int)(h:LX):Az:=
if(geq a 8)then
(Cg h ([(Ae (Ah k 128):Int32)]:LX)).bind fun o=>
j28 g o
else
if(Ly k f)then
(Cg h ([(Ae (Ah k (Ar 2 f)):Int32)]:LX)).bind fun p=>
j28 g p
else
(Cg h ([(Ae k:Int32)]:LX)).bind fun u=>
j28 g u
def Js bk16 a b f:=Yg (Oq bk16 a b f) a b f
def Pa(j27:Int→Int→LX→Az)(bk25:Int→Int→Az)(a:Int)(b:LB)(f g:Int)(h:LX)(k m:Int):Az:=
if(Ly m 0)then
(getI b (Ad g m)).bind fun v=>
bk25 (Ad (Ar 256 k) (Ae v:Int)) (Ah m 1)
else
j27 g k h
def Dh(bk16:Int→LX→Az)(a:Int)(b:LB)(f g:Int)(h:LX):Nat→Int→Int→Az
|0,_,_=>none
|q+1,k,m=>Pa (Js bk16 a b f) (Dh bk16 a b f g h q) a b f g h k m
def Xx bk16 a b f g h:=Dh bk16 a b f g h Al
def Pe(j25:Int→LX→Int→Int→Az)(j30:LX→Az)(a:Int)(b:LB)(f g:Int)(h:LX):Az:=
if(Ch g (Ac b))then
j25 g h 0 (Ah (Bg a 8) 1)
else
j30 h
def Cs(a:Int)(b:LB)(f:Int):Nat→Int→LX→Az
|0,_,_=>none
|q+1,g,h=>Pe (Xx (Cs a b f q) a b f) Aop a b f g h
def Xw a b f:=Cs a b f Al
def Aai(j16:Int→LB→Int→Int→LX→Az)(a:Int)(b:LB):Az:=
(Gg a).bind fun f=>
if(geq f 0)then
some (([]:LX),2)
else
(Hm (Be (Bg a 8) 0)).bind fun _=>
if(Ga (Ff (Ac b) (Bg a 8)) 0)then
some (([]:LX),12)
else
(Hm (Be (Bg a 8) 0)).bind fun _=>
if(Ga (Bg (Ac b) (Bg a 8)) 4000)then
some (([]:LX),4)
else
j16 a b f 0 ([]:LX)
def Uw:=Aai Xw
end Go.Pl
