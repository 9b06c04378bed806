/- A part of the proof of a statement of this seat (see the text that ends in Proof): PsPure. No conditions of its own. -/
import Derived.Test.YtkkcakakemjdeaaGreatDoorPsBA
set_option linter.unusedVariables false
namespace Go.Pl
open Go Go.Lv
abbrev LB:=List UInt8
abbrev LI:=List Int
abbrev LX:=List Int32
abbrev LU:=List UInt32
abbrev LQ:=List UInt64
def Avc(a b f:Int)(g:LX):Option (Int×Int):=
some (a,b)
abbrev Alb:=Option (Int32×Int32×Int)
def Bf9(a:Int)(b:Bool):Alb:=
if b then
(Gs (Kl (Ah a 1) 0)).bind fun _=>
some ((Ax6 (Cn (1:Int32) (GI.toZ (Ah a 1)).toNat)),(Ah (Cn (1:Int32) (GI.toZ (Ah a 1)).toNat) 1),0)
else
some (0,0,2)
def Aqj:=Bf9
def Aql(j2:Int→Bool→Alb)(a:Int):Alb:=
if(geq a 8)then
j2 a (geq a 8)
else
if(geq a 16)then
j2 a (geq a 16)
else
j2 a (geq a 24)
def Sn:=Aql Aqj
def Ik(a b:Int):Option Int:=
(Sn b).bind fun(g,h,f)=>
if(((Ba f 0)||(Bv a 1))||(Ff a 6))then
some 2
else
some 0
def Aba(a:Int):Option (Int×Int):=
if((Bv a 1)||(Ff a 1048576))then
some (0,2)
else
some ((Atx 1 (Bf (Ay 256 a) 245)),0)
def Pm(g b:Int):Option (Int×Int):=
(Aba g).bind fun(a,f)=>
if(Ba f 0)then
some (0,f)
else
if((Bv b 1)||(Ff b 4000))then
some (0,2)
else
(Gs (Ba a 0)).bind fun _=>
if(Ff (Bf (Ah (Ae b a) 1) a) 1000)then
some (0,4)
else
some ((Bf (Ah (Ae b a) 1) a),0)
def Bgy(a g f:Int)(h:LX)(b:Int):Option Int:=
(Avc a g f h).bind fun(k,m)=>
(Ik k m).bind fun n=>
if((Ba n 0)||(Bv b 1))then
some 8
else
(Gs (Ba a 0)).bind fun _=>
if(Ff b (Bf 4000 a))then
some 8
else
(Pm f b).bind fun(p,o)=>
if(Ba o 0)then
some 8
else
some 0
def Bct:Option Int:=
some 0
def Arp:=Bct
def Ze(j6:Option Int)(bk4:Int→Option Int)(b f:Int32)(a:LX)(g:Int):Option Int:=
if(Bv g (Ac a))then
(getI a g).bind fun h=>
if((Bv h b)||(Ff h f))then
some 16
else
bk4 (Ae g 1)
else
j6
def Nc(b f:Int32)(a:LX):Nat→Int→Option Int
|0,_=>none
|q+1,g=>Ze Arp (Nc b f a q) b f a g
def Aqn b f a:=Nc b f a Am
def Ai5(j4:Int32→Int32→LX→Int→Option Int)(m:Int)(a:LX):Option Int:=
(Sn m).bind fun(b,f,k)=>
if(Ba k 0)then
some k
else
if(Ff (Ac a) 4000)then
some 4
else
j4 b f a 0
def Ti:=Ai5 Aqn
def Ac1(a f h:Int)(b:LX):Option Int:=
if(Bv a 1)then
some 8
else
(Gs (Ba a 0)).bind fun _=>
if(Ba (Ey (Ac b) a) 0)then
some 8
else
(Gs (Ba a 0)).bind fun _=>
(Bgy a f h b (Bf (Ac b) a)).bind fun g=>
if(Ba g 0)then
some g
else
(Ti f b).bind fun k=>
if(Ba k 0)then
some 8
else
some 0
abbrev Ali:=Option (Int×Int×Int×Int×Int×Int)
def Ben(h:LB)(a b f:Int)(g:LX):Ali:=
if(h !=([]:LB))then
some (2,a,b,f,(Bf (Ac g) a),0)
else
some (1,a,b,f,(Bf (Ac g) a),0)
def Asz:=Ben
def Aif(j2:LB→Int→Int→Int→LX→Ali)(a b f:Int)(g:LX)(h:LB):Ali:=
(Ac1 a b f g).bind fun k=>
if(Ba k 0)then
some (0,0,0,0,0,k)
else
if(Ff (Ac h) 64)then
some (0,0,0,0,0,2)
else
(Gs (Ba a 0)).bind fun _=>
(
j2 h a b f g)
def Bat:=Aif Asz
abbrev Bk:=Option (UInt64×Int)
def Aq5(h:UInt64):Bk:=
some (h,0)
def Ahd:=Aq5
def Ahm(j30:UInt64→Bk)(h b:UInt64)(a:LB)(f:LQ):Bk:=
j30 h
def Ah5:=Ahm Ahd
def Zp(j29:UInt64→UInt64→LB→LQ→Bk)(bk27:UInt64→Int→Bk)(a:LB)(b:UInt64)(f:LQ)(h:UInt64)(m:Int):Bk:=
if(Bv m (Ac a))then
(getI a m).bind fun p=>
Option.bind (getI f (GI.toZ (To (Ad (Bn h (GI.toZ (56:UInt64)).toNat):UInt8) p))) fun _=>
Option.bind (getI f (GI.toZ (To (Ad (Bn h (GI.toZ (56:UInt64)).toNat):UInt8) p))) fun u=>
bk27 (To (Cn h (GI.toZ (8:UInt64)).toNat) u) (Ae m 1)
else
j29 h b a f
def Nv(a:LB)(b:UInt64)(f:LQ):Nat→UInt64→Int→Bk
|0,_,_=>none
|q+1,h,m=>Zp Ah5 (Nv a b f q) a b f h m
def Aja a b f:=Nv a b f Am
def Ahf(j27:LB→UInt64→LQ→UInt64→Int→Bk)(b:UInt64)(a:LB)(f:LQ):Bk:=
j27 a b f b 0
def Zy:=Ahf Aja
def Arb(bk16:Int→LQ→Bk)(b:UInt64)(a:LB)(g:Int)(o:LQ):Bk:=
bk16 (Ae g 1) o
def Ahw bk16:=Arb bk16
def Ahv(j24:Int→LQ→Bk)(b:UInt64)(a:LB)(g:Int)(k:UInt64)(f:LQ):Bk:=
(getI f g).bind fun _=>
(Jl f g k).bind fun o=>
j24 g o
def Zk bk16 b a:=Ahv (Ahw bk16 b a) b a
def Zv(j23:Int→UInt64→LQ→Bk)(bk21:UInt64→Int→Bk)(b:UInt64)(a:LB)(g:Int)(f:LQ)(k:UInt64)(n:Int):Bk:=
if(Bv n 8)then
bk21 (To (Cn k (GI.toZ (1:UInt64)).toNat) (Ay 4823603603198064275 (Bn k (GI.toZ (63:UInt64)).toNat))) (Ae n 1)
else
j23 g k f
def Ni(bk16:Int→LQ→Bk)(b:UInt64)(a:LB)(g:Int)(f:LQ):Nat→UInt64→Int→Bk
|0,_,_=>none
|q+1,k,n=>Zv (Zk bk16 b a) (Ni bk16 b a g f q) b a g f k n
def Ag9 bk16 b a g f:=Ni bk16 b a g f Am
def Yz(j21:Int→LQ→UInt64→Int→Bk)(j26:UInt64→LB→LQ→Bk)(b:UInt64)(a:LB)(g:Int)(f:LQ):Bk:=
if(Bv g 256)then
j21 g f (Cn (Ad g:UInt64) (GI.toZ (56:UInt64)).toNat) 0
else
j26 b a f
def Ko(b:UInt64)(a:LB):Nat→Int→LQ→Bk
|0,_,_=>none
|q+1,g,f=>Yz (Ag9 (Ko b a q) b a) Zy b a g f
def Ais b a:=Ko b a Am
def Ak1(j16:UInt64→LB→Int→LQ→Bk)(b:UInt64)(a:LB):Bk:=
if(Ff (Ac a) 100000)then
some (0,4)
else
j16 b a 0 (List.replicate 256 (0:UInt64))
def Aoo:=Ak1 Ais
def Alp(a:LB):Option (UInt64×Int):=
(Aoo 0 a).bind fun(b,f)=>
some (b,f)
def Bop(a:LX):Option (LX):=
some a
def Bef:=Bop
def Am9(j6:LX→Option (LX))(bk4:Int→LX→Option (LX))(f:UInt64)(b:Int)(a:LX):Option (LX):=
if(Bv b 8)then
(Gs (Kl (Ay 8 b) 0)).bind fun _=>
(getI a b).bind fun _=>
(Jl a b (Ad (Ad (Bn f (GI.toZ (Ay 8 b)).toNat):Int8):Int32)).bind fun g=>
bk4 (Ae b 1) g
else
j6 a
def Ace(f:UInt64):Nat→Int→LX→Option (LX)
|0,_,_=>none
|q+1,b,a=>Am9 Bef (Ace f q) f b a
def Bfw f:=Ace f Am
def Bde(j4:UInt64→Int→LX→Option (LX))(f:UInt64):Option (LX):=
j4 f 0 (List.replicate 16 (0:Int32))
def Biz:=Bde Bfw
def Xu(a:LB):Option (LX×Int):=
if(Ff (Ac a) 64)then
some (([(0:Int32),(0:Int32),(0:Int32),(0:Int32),(0:Int32),(0:Int32),(0:Int32),(0:Int32),(0:Int32),(0:Int32),(0:Int32),(0:Int32),(0:Int32),(0:Int32),(0:Int32),(0:Int32)]:LX),2)
else
(Alp a).bind fun(f,b)=>
if(Ba b 0)then
some (([(0:Int32),(0:Int32),(0:Int32),(0:Int32),(0:Int32),(0:Int32),(0:Int32),(0:Int32),(0:Int32),(0:Int32),(0:Int32),(0:Int32),(0:Int32),(0:Int32),(0:Int32),(0:Int32)]:LX),b)
else
(Biz f).bind fun g=>
some (g,0)
def Afp(a b:UInt64):Option (UInt64×UInt64):=
some ((Ae (Ae (Ay (Bn a (GI.toZ (32:UInt64)).toNat) (Bn b (GI.toZ (32:UInt64)).toNat)) (Bn (Ae (Ay (Bn a (GI.toZ (32:UInt64)).toNat) (Dg b 4294967295)) (Bn (Ay (Dg a 4294967295) (Dg b 4294967295)) (GI.toZ (32:UInt64)).toNat)) (GI.toZ (32:UInt64)).toNat)) (Bn (Ae (Dg (Ae (Ay (Bn a (GI.toZ (32:UInt64)).toNat) (Dg b 4294967295)) (Bn (Ay (Dg a 4294967295) (Dg b 4294967295)) (GI.toZ (32:UInt64)).toNat)) 4294967295) (Ay (Dg a 4294967295) (Bn b (GI.toZ (32:UInt64)).toNat))) (GI.toZ (32:UInt64)).toNat)),(Ay a b))
def Adf(a b:UInt64):Option (UInt64×UInt64):=
(Afp a b).bind fun(f,g)=>
some (f,g)
def Ln(a:LI):Option (LI):=
some a
def Hn:=Ln
def Fx(j10:LI→Option (LI))(bk8:Int→LI→Option (LI))(b:Int)(a:LI):Option (LI):=
if(Bv b (Ac a))then
(
(vwI (Ac a) b (Ac a)).bind fun _=>
(vwI (Ac a) 0 b).bind fun _=>
bk8 (Ae b (Ag5 ((Ac a)-b) (Akr a 0 (b-(0:Int))).length)) (Qa a b ((Ac a)-b) (Akr a 0 (b-(0:Int)))))
else
j10 a
def Dw:Nat→Int→LI→Option (LI)
|0,_,_=>none
|q+1,b,a=>Fx Hn (Dw q) b a
def Mj:=Dw Am
def Mr(j8:Int→LI→Option (LI))(f:LI)(g:UInt64):Option (LI):=
(mkI (Ad g:Int) (0:Int)).bind fun k=>
(Gs (geq (Ad g:Int) (Ad g:Int))).bind fun _=>
j8 (Ag5 (Ac k) f.length) (Bcy k f)
def Mq:=Mr Mj
def Mk(j7:LI→UInt64→Option (LI))(f:LI)(h:Int):Option (LI):=
(Adf (Ad (Ac f):UInt64) (Ad h:UInt64)).bind fun(m,g)=>
if((Ff m 0)||(Ff g 9223372036854775807))then
none
else
j7 f g
def Mo:=Mk Mq
def Ml(j6:LI→Int→Option (LI))(f:LI)(h:Int):Option (LI):=
if(Bv h 0)then
none
else
j6 f h
def Lk:=Ml Mo
def Aji(f:LI):Option (LI):=
some f
def Ud:=Aji
def Fg(j16:LI→Option (LI))(bk14:Int→LI→Option (LI))(a:List LI)(g:Int)(f:LI):Option (LI):=
if(Bv g (Ac a))then
(getI a g).bind fun o=>
(Dx f o).bind fun p=>
bk14 (Ae g 1) p
else
j16 f
def Dd(a:List LI):Nat→Int→LI→Option (LI)
|0,_,_=>none
|q+1,g,f=>Fg Ud (Dd a q) a g f
def Lt a:=Dd a Am
def Lr(j14:(List LI)→Int→LI→Option (LI))(a:List LI)(k:LI):Option (LI):=
j14 a 0 k
def Hm:=Lr Lt
def Ls(j13:(List LI)→LI→Option (LI))(b:Int)(a:List LI):Option (LI):=
if(Ff (Ah b (Ah (0:Int) (0:Int))) 0)then
(vwI 0 0 0).bind fun _=>
(mkI (Ah b (Ah (0:Int) (0:Int))) (0:Int)).bind fun u=>
(Dx ([]:LI) u).bind fun m=>
(vwI (Ac m) 0 0).bind fun _=>
j13 a (Akr m 0 ((0:Int)-(0:Int)))
else
j13 a ([]:LI)
def Lo:=Ls Hm
def Lu(j12:Int→(List LI)→Option (LI))(a:List LI)(b:Int):Option (LI):=
if(Bv b 0)then
none
else
j12 b a
def Lq:=Lu Lo
def Fv(j11:(List LI)→Int→Option (LI))(bk9:Int→Int→Option (LI))(a:List LI)(b h:Int):Option (LI):=
if(Bv h (Ac a))then
(getI a h).bind fun n=>
if(Bv (Ae b (Ac n)) 0)then
none
else
bk9 (Ae b (Ac n)) (Ae h 1)
else
j11 a b
def Dr(a:List LI):Nat→Int→Int→Option (LI)
|0,_,_=>none
|q+1,b,h=>Fv Lq (Dr a q) a b h
def Mp a:=Dr a Am
def Mh(j9:(List LI)→Int→Int→Option (LI))(a:List LI):Option (LI):=
j9 a 0 0
def Ll:=Mh Mp
def Ag3(a b:LI):Option (LI):=
(Ll ([a,b]:List LI)).bind fun f=>
some f
def Tl(a b:Int):Option (LI×Int):=
(Pm a b).bind fun(f,g)=>
if(Ba g 0)then
some (([]:LI),g)
else
(Aba a).bind fun(h,n)=>
(Lk ([h]:LI) (Ah f 1)).bind fun k=>
(Ag3 k ([(Ah b (Ay (Ah f 1) h))]:LI)).bind fun m=>
some (m,0)
def Au8(a f:Int)(b:LX):Option Int:=
(Ik a f).bind fun g=>
if(Ba g 0)then
some g
else
(Ti f b).bind fun h=>
if(Ba h 0)then
some h
else
if(geq (Ac b) 0)then
some 2
else
(Gs (Ba a 0)).bind fun _=>
if(Ba (Ey (Ac b) a) 0)then
some 2
else
some 0
def Ami(a:Int)(b:LX):Option Int:=
if((Bv a 1)||(Ff a 6))then
some 2
else
if(Ff (Ac b) 4000)then
some 4
else
(Gs (Ba a 0)).bind fun _=>
if(Ba (Ey (Ac b) a) 0)then
some 2
else
some 0
def Dt(a:LX):Option (LX):=
(
(Dx ([]:LX) a).bind fun b=>
some b)
abbrev Hg:=Option (LX×Int)
def Bm4(f:LX):Hg:=
some (f,0)
def Ban:=Bm4
def Blu(bk12:Int→LX→Hg)(b a:Int)(k:LX):Hg:=
bk12 (Ae a b) k
def Baz bk12:=Blu bk12
def Az8(j20:Int→LX→Hg)(b a:Int)(g:LX):Hg:=
if(Ff (Ah ((Ae a b)-a) 1) 0)then
(Gs (decide (0≤(Ah ((Ae a b)-a) 1)∧(Ah ((Ae a b)-a) 1)<((Ae a b)-a)))).bind fun _=>
Option.bind (Gs (decide (0≤(Ah (Ah ((Ae a b)-a) 1) 1)∧(Ah (Ah ((Ae a b)-a) 1) 1)<((Ae a b)-a)))) fun _=>
(getI g (a+(Ah ((Ae a b)-a) 1))).bind fun m=>
(getI g (a+(Ah (Ah ((Ae a b)-a) 1) 1))).bind fun n=>
(Gs (decide (0≤(Ah ((Ae a b)-a) 1)∧(Ah ((Ae a b)-a) 1)<((Ae a b)-a)))).bind fun _=>
(Jl g (a+(Ah ((Ae a b)-a) 1)) (Ah m (Bf n 2))).bind fun o=>
j20 a o
else
j20 a g
def Ba9 bk12 b:=Az8 (Baz bk12 b) b
def Azv(j19:Int→LX→Hg)(bk17:Int→LX→Hg)(b a h:Int)(g:LX):Hg:=
if(Bv h (Ah ((Ae a b)-a) 1))then
(Gs (decide (0≤(Ae h 1)∧(Ae h 1)<((Ae a b)-a)))).bind fun _=>
(Gs (decide (0≤h∧h<((Ae a b)-a)))).bind fun _=>
(getI g (a+(Ae h 1))).bind fun m=>
(getI g (a+h)).bind fun n=>
(Gs (decide (0≤h∧h<((Ae a b)-a)))).bind fun _=>
(Jl g (a+h) (Ah m n)).bind fun o=>
bk17 (Ae h 1) o
else
j19 a g
def Asf(bk12:Int→LX→Hg)(b a:Int):Nat→Int→LX→Hg
|0,_,_=>none
|q+1,h,g=>Azv (Ba9 bk12 b) (Asf bk12 b a q) b a h g
def Bad bk12 b a:=Asf bk12 b a Am
def Bap(j17:Int→Int→LX→Hg)(j22:LX→Hg)(b a:Int)(f:LX):Hg:=
if(Bv a (Ac f))then
(vwI (Ac f) a (Ae a b)).bind fun _=>
j17 a 0 f
else
j22 f
def Aqz(b:Int):Nat→Int→LX→Hg
|0,_,_=>none
|q+1,a,f=>Bap (Bad (Aqz b q) b) Ban b a f
def Ba7 b:=Aqz b Am
def Bdq(j12:Int→Int→LX→Hg)(b:Int)(p:LX):Hg:=
(Ami b p).bind fun u=>
if(Ba u 0)then
some (([]:LX),u)
else
(Dt p).bind fun v=>
j12 b 0 v
def Bpx:=Bdq Ba7
abbrev Avy:=Option (Int×LX×LX×Int)
def Bmm(a:Int)(b:LX)(f:Bool):Avy:=
if f then
some (10,b,(List.replicate 16 (0:Int32)),0)
else
if(geq a 16)then
some (9,b,(List.replicate 16 (0:Int32)),0)
else
some (0,(List.replicate 16 (0:Int32)),(List.replicate 16 (0:Int32)),2)
def Ba3:=Bmm
def Az9(j2:Int→LX→Bool→Avy)(a:Int)(b:LX):Avy:=
if(geq a 8)then
j2 a b (geq a 8)
else
j2 a b (geq a 24)
def Axi:=Az9 Ba3
def Azf(a:Int)(f:LX):Option (Int×Int32×Int×LX×LX×Int):=
(Axi a f).bind fun(g,h,k,b)=>
if(Ba b 0)then
some (0,0,0,(List.replicate 16 (0:Int32)),(List.replicate 16 (0:Int32)),b)
else
some (a,0,g,h,k,0)
def So(a:Int)(k:Int32)(b:Int)(f m:LX):Option Int:=
(Axi a f).bind fun(g,n,o,h)=>
if((Ba h 0)||(Ba g b))then
some 8
else
some 0
def Aqb(a:Int):Option (Int×Int):=
if(geq a 8)then
some (4,0)
else
if(geq a 16)then
if(geq a 16)then
some (5,0)
else
some (0,2)
else
if(geq a 24)then
some (5,0)
else
some (0,2)
def Aj9(a:Int)(b:Int32):Option Int32:=
(Gs (Kl a 0)).bind fun _=>
(Gs (Kl a 0)).bind fun _=>
some (Ad (Bir (Ah (Cn (Ad b:Int) (GI.toZ a).toNat) (Ad b:Int)) (GI.toZ a).toNat):Int32)
def Sy(b:Int)(f:Int32):Option (Int32×Int):=
(Aqb b).bind fun(g,a)=>
if(Ba a 0)then
some (0,a)
else
(Aj9 g f).bind fun h=>
some (h,0)
def Ac6(a:Int)(b f:LX):Option Int:=
if((Ba a 9)&&(Ba a 10))then
some 8
else
some 0
abbrev Oz:=Option (Int32×Int)
def Au7(g:Int32)(a:Int)(b f:LX):Oz:=
(Gs (Kl a 0)).bind fun _=>
some ((Bn g (GI.toZ a).toNat),0)
def Ala:=Au7
def Adr(j6:Int32→Int→LX→LX→Oz)(bk4:Int32→Int→Oz)(b:LX)(a:Int)(f:LX)(g:Int32)(h:Int):Oz:=
if(Bv h 16)then
(getI b h).bind fun m=>
(getI f h).bind fun _=>
(getI f h).bind fun n=>
bk4 (Ae g (Ay m n)) (Ae h 1)
else
j6 g a b f
def Po(b:LX)(a:Int)(f:LX):Nat→Int32→Int→Oz
|0,_,_=>none
|q+1,g,h=>Adr Ala (Po b a f q) b a f g h
def Ak4 b a f:=Po b a f Am
def Akz(j4:LX→Int→LX→Int32→Int→Oz)(a:Int)(b f:LX):Oz:=
(Ac6 a b f).bind fun k=>
if(Ba k 0)then
some (0,k)
else
(Gs (Kl (Ah a 1) 0)).bind fun _=>
j4 b a f (Cn (1:Int32) (GI.toZ (Ah a 1)).toNat) 0
def Ahp:=Akz Ak4
def Amu(a:Int):Option Int32:=
if(geq a 0)then
some 4
else
if(Bv a 4)then
some 2
else
some 1
abbrev Om:=Option (Int×LX×LX×Int)
def Bge(g:Int)(b f:LX):Om:=
some (g,b,f,0)
def Aun:=Bge
def Adk(j6:Int→LX→LX→Om)(bk4:Int→LX→Om)(h:Int32)(f:LX)(g a:Int)(b:LX):Om:=
if(Bv a 16)then
(getI f a).bind fun m=>
if(geq m 0)then
bk4 (Ae a 1) b
else
if((Bv m 0)==(Bv h 0))then
(getI b a).bind fun _=>
(getI b a).bind fun o=>
(Amu a).bind fun p=>
(getI b a).bind fun _=>
(Jl b a (Ae o p)).bind fun u=>
bk4 (Ae a 1) u
else
(getI b a).bind fun _=>
(getI b a).bind fun v=>
(Amu a).bind fun w=>
(getI b a).bind fun _=>
(Jl b a (Ah v w)).bind fun y=>
bk4 (Ae a 1) y
else
j6 g b f
def Pn(h:Int32)(f:LX)(g:Int):Nat→Int→LX→Om
|0,_,_=>none
|q+1,a,b=>Adk Aun (Pn h f g q) h f g a b
def Auw h f g:=Pn h f g Am
def Akv(j4:Int32→LX→Int→Int→LX→Om)(g:Int)(k f:LX)(h:Int32):Om:=
(Ac6 g k f).bind fun n=>
if(Ba n 0)then
some (0,(List.replicate 16 (0:Int32)),(List.replicate 16 (0:Int32)),n)
else
if(geq h 0)then
some (g,k,f,0)
else
j4 h f g 0 k
def Aol:=Akv Auw
abbrev Asw:=Option (Int×LX×LX×Int)
def Axf(g:Int32)(b:Int)(f a:LX):Asw:=
(getI (Qa a 1 ((16:Int)-(1:Int)) (Akr a 0 ((16:Int)-(0:Int)))) 0).bind fun _=>
(Jl (Qa a 1 ((16:Int)-(1:Int)) (Akr a 0 ((16:Int)-(0:Int)))) 0 g).bind fun k=>
some (b,f,k,0)
def An6:=Axf
def Agi(j2:Int32→Int→LX→LX→Asw)(b:Int)(f a:LX)(g:Int32):Asw:=
(Ac6 b f a).bind fun h=>
if(Ba h 0)then
some (0,(List.replicate 16 (0:Int32)),(List.replicate 16 (0:Int32)),h)
else
(
(vwI 16 1 16).bind fun _=>
(vwI 16 0 16).bind fun _=>
j2 g b f a)
def Atn:=Agi An6
def Ana(a:Int)(b f:LX)(g h:Int32):Option (Int×LX×LX):=
(Aol a b f h).bind fun(k,m,n,v)=>
(Atn k m n g).bind fun(o,p,u,w)=>
some (o,p,u)
def Asy(b:Int)(f g:LX)(a:Int32):Option (Int32×Int×LX×LX×Int):=
(Ahp b f g).bind fun(h,k)=>
if(Ba k 0)then
some (0,0,(List.replicate 16 (0:Int32)),(List.replicate 16 (0:Int32)),k)
else
(Ana b f g a (Ah a h)).bind fun(m,n,o)=>
some ((Ah a h),m,n,o,0)
def Adh(a:Int)(b:Int32)(f:Int)(g h:LX)(k:Int32):Option (Int32×Int×Int32×Int×LX×LX×Int):=
(So a b f g h).bind fun m=>
if(Ba m 0)then
some (0,0,0,0,(List.replicate 16 (0:Int32)),(List.replicate 16 (0:Int32)),m)
else
(Sy a b).bind fun(n,y)=>
(Asy f g h (Ah k n)).bind fun(o,p,u,v,w)=>
(
some (o,a,k,p,u,v,w))
def Bg4(a:Int32):Option UInt32:=
some (To (Cn (Ad a:UInt32) (GI.toZ (1:UInt64)).toNat) (Ad (Bn a (GI.toZ (31:UInt64)).toNat):UInt32))
abbrev Ce:=Option (LU×Int)
def Avx(k:LU):Ce:=
some (k,0)
def Ahq:=Avx
def Ai4(j12:LU→Ce)(bk10:Int→(List (Int×Int32×(Int×LX×LX×Unit)×Unit))→LU→Ce)(b:LX)(a f g:Int)(o:List (Int×Int32×(Int×LX×LX×Unit)×Unit))(k:LU):Ce:=
if(Bv g (Ac b))then
(getI b g).bind fun _=>
(getI b g).bind fun ac=>
(Gs (Ba a 0)).bind fun _=>
(getI o (Ey g a)).bind fun _=>
(getI o (Ey g a)).bind fun p=>
(Adh p.1 p.2.1 p.2.2.1.1 p.2.2.1.2.1 p.2.2.1.2.2.1 ac).bind fun(u,ad,ae,v,af,ag,w)=>
if(Ba w 0)then
some (([]:LU),w)
else
(Jl o (Ey g a) (ad,ae,(v,af,ag,()),())).bind fun ah=>
(Bg4 u).bind fun ai=>
(Dx k ([ai]:LU)).bind fun aj=>
bk10 (Ae g 1) ah aj
else
j12 k
def Xb(b:LX)(a f:Int):Nat→Int→(List (Int×Int32×(Int×LX×LX×Unit)×Unit))→LU→Ce
|0,_,_,_=>none
|q+1,g,o,k=>Ai4 Ahq (Xb b a f q) b a f g o k
def Ag0 b a f:=Xb b a f Am
def Ajs(j10:LX→Int→Int→Int→(List (Int×Int32×(Int×LX×LX×Unit)×Unit))→LU→Ce)(a f:Int)(b:LX)(h:List (Int×Int32×(Int×LX×LX×Unit)×Unit)):Ce:=
j10 b a f 0 h ([]:LU)
def Aj6:=Ajs Ag0
def Akf(j9:Int→Int→LX→(List (Int×Int32×(Int×LX×LX×Unit)×Unit))→Ce)(bk7:Int→(List (Int×Int32×(Int×LX×LX×Unit)×Unit))→Ce)(a f:Int)(m b:LX)(n:Int)(h:List (Int×Int32×(Int×LX×LX×Unit)×Unit)):Ce:=
if(Bv n 6)then
(Azf f m).bind fun(ak,al,u,am,an,v)=>
(getI h n).bind fun _=>
(Jl h n (ak,al,(u,am,an,()),())).bind fun ao=>
bk7 (Ae n 1) ao
else
j9 a f b h
def Zs(a f:Int)(m b:LX):Nat→Int→(List (Int×Int32×(Int×LX×LX×Unit)×Unit))→Ce
|0,_,_=>none
|q+1,n,h=>Akf Aj6 (Zs a f m b q) a f m b n h
def Ajz a f m b:=Zs a f m b Am
def Aj8(j7:Int→Int→LX→LX→Int→(List (Int×Int32×(Int×LX×LX×Unit)×Unit))→Ce)(a f:Int)(m y:LX):Ce:=
(Au8 a f y).bind fun aa=>
if(Ba aa 0)then
some (([]:LU),aa)
else
(Bpx a y).bind fun(b,ab)=>
if(Ba ab 0)then
some (([]:LU),ab)
else
j7 a f m b 0 (List.replicate 6 ((0:Int),(0:Int32),((0:Int),(List.replicate 16 (0:Int32)),(List.replicate 16 (0:Int32)),()),()))
def Art:=Aj8 Ajz
def Avn:Option (Int×Int×UInt64×UInt64):=
some (10,10,16384,16384)
abbrev Hz:=Option ((List (Int×Int×UInt64×UInt64×Unit)))
def Ayf(a:List (Int×Int×UInt64×UInt64×Unit)):Hz:=
some a
def Ajt:=Ayf
def Ajv(j6:(List (Int×Int×UInt64×UInt64×Unit))→Hz)(bk4:Int→(List (Int×Int×UInt64×UInt64×Unit))→Hz)(b:Int)(a:List (Int×Int×UInt64×UInt64×Unit)):Hz:=
if(Bv b 6)then
(Avn).bind fun(f,g,h,k)=>
(getI a b).bind fun _=>
(Jl a b (f,g,h,k,())).bind fun m=>
bk4 (Ae b 1) m
else
j6 a
def Abd:Nat→Int→(List (Int×Int×UInt64×UInt64×Unit))→Hz
|0,_,_=>none
|q+1,b,a=>Ajv Ajt (Abd q) b a
def Aju:=Abd Am
def Ajw(j4:Int→(List (Int×Int×UInt64×UInt64×Unit))→Hz):Hz:=
j4 0 (List.replicate 6 ((0:Int),(0:Int),(0:UInt64),(0:UInt64),()))
def As1:=Ajw Aju
def Ii(b:LB)(a:Int):Option Int:=
if(((Bv a 0)||(Ff a 330000))||(Ba (Ac b) (Bir (Ae a 7) (GI.toZ (3:UInt64)).toNat)))then
some 8
else
if(Ff (Dg a 7) 0)then
(getI b (Ah (Ac b) 1)).bind fun f=>
(Gs (Kl (Dg a 7) 0)).bind fun _=>
if(Ba (Bn f (GI.toZ (Dg a 7)).toNat) 0)then
some 8
else
some 0
else
some 0
def Aul(a b:Int)(f g:UInt64):Option Int:=
if(!((geq (Dj (Atx a 0) 24) a)&&((geq (Dj (Atx b 0) 24) b)&&((geq (Dj f 68719476735) f)&&((geq (Dj g 68719476735) g)&&true)))))then
some 8
else
some 0
def Aky:=Aul
def Adm(j4:Int→Int→UInt64→UInt64→Option Int)(a b:Int)(f g:UInt64):Option Int:=
(
(
j4 a b f g))
def Akq:=Adm Aky
def Adg(j3:Int→Int→UInt64→UInt64→Option Int)(a b:Int)(f g:UInt64):Option Int:=
(
(
j3 a b f g))
def Ag1:=Adg Akq
def Ac9(a f:Int)(g h:UInt64)(b:UInt32):Option (Int×UInt32):=
(Gs (Kl a 0)).bind fun _=>
if(geq (Bn b (GI.toZ a).toNat) 0)then
some (0,b)
else
(Gs (Kl a 0)).bind fun _=>
some (1,(Ah b (Cn (1:UInt32) (GI.toZ a).toNat)))
def Ez(a:LB):Option (LB):=
(
(Dx ([]:LB) a).bind fun b=>
some b)
def Azi(a:LB)(b:Int):Option (LB×Int):=
(Ez a).bind fun f=>
some (f,b)
abbrev Cu:=Option (LB×Int×Int)
def Bie(f:Int)(o:LB):Cu:=
some (o,f,0)
def Ax4:=Bie
def Bje(bk15:UInt64→Int→Int→LB→Cu)(b:UInt64)(a:Int)(m:UInt64)(h f:Int)(w:LB):Cu:=
(Gs (Kl (Dj h (Ah 8 (Dg f 7))) 0)).bind fun _=>
bk15 (Bn m (GI.toZ (Dj h (Ah 8 (Dg f 7)))).toNat) (Ah h (Dj h (Ah 8 (Dg f 7)))) (Ae f (Dj h (Ah 8 (Dg f 7)))) w
def Axt bk15:=Bje bk15
def Axz(j19:UInt64→Int→Int→LB→Cu)(b:UInt64)(a:Int)(m:UInt64)(h f:Int)(u:LB):Cu:=
(getI u (Ah (Ac u) 1)).bind fun _=>
(Gs (Kl (Dj h (Ah 8 (Dg f 7))) 0)).bind fun _=>
(Gs (Kl (Dg f 7) 0)).bind fun _=>
(getI u (Ah (Ac u) 1)).bind fun ad=>
(getI u (Ah (Ac u) 1)).bind fun _=>
Option.bind (Jl u (Ah (Ac u) 1) (gor ad (Cn (Ad (Dg m (Ah (Cn (1:UInt64) (GI.toZ (Dj h (Ah 8 (Dg f 7)))).toNat) 1)):UInt8) (GI.toZ (Dg f 7)).toNat))) fun w=>
j19 m h f w
def Ax9 bk15 b a:=Axz (Axt bk15 b a) b a
def Awj(j18:UInt64→Int→Int→LB→Cu)(j21:Int→LB→Cu)(b:UInt64)(a:Int)(m:UInt64)(h f:Int)(o:LB):Cu:=
if(Ff h 0)then
if(geq (Dg f 7) 0)then
(Dx o ([(0:UInt8)]:LB)).bind fun ab=>
j18 m h f ab
else
j18 m h f o
else
j21 f o
def Ani(b:UInt64)(a:Int):Nat→UInt64→Int→Int→LB→Cu
|0,_,_,_,_=>none
|q+1,m,h,f,o=>Awj (Ax9 (Ani b a q) b a) Ax4 b a m h f o
def Axr b a:=Ani b a Am
def Bjn(g:Int)(p:LB):Cu:=
some (p,g,0)
def Ayc:=Bjn
def Bit(bk22:UInt64→Int→Int→LB→Cu)(b:UInt64)(a:Int)(n:UInt64)(k g:Int)(y:LB):Cu:=
(Gs (Kl (Dj k (Ah 8 (Dg g 7))) 0)).bind fun _=>
bk22 (Bn n (GI.toZ (Dj k (Ah 8 (Dg g 7)))).toNat) (Ah k (Dj k (Ah 8 (Dg g 7)))) (Ae g (Dj k (Ah 8 (Dg g 7)))) y
def Awy bk22:=Bit bk22
def Awq(j26:UInt64→Int→Int→LB→Cu)(b:UInt64)(a:Int)(n:UInt64)(k g:Int)(v:LB):Cu:=
(getI v (Ah (Ac v) 1)).bind fun _=>
(Gs (Kl (Dj k (Ah 8 (Dg g 7))) 0)).bind fun _=>
(Gs (Kl (Dg g 7) 0)).bind fun _=>
(getI v (Ah (Ac v) 1)).bind fun ae=>
(getI v (Ah (Ac v) 1)).bind fun _=>
Option.bind (Jl v (Ah (Ac v) 1) (gor ae (Cn (Ad (Dg n (Ah (Cn (1:UInt64) (GI.toZ (Dj k (Ah 8 (Dg g 7)))).toNat) 1)):UInt8) (GI.toZ (Dg g 7)).toNat))) fun y=>
j26 n k g y
def Axy bk22 b a:=Awq (Awy bk22 b a) b a
def Aw5(j25:UInt64→Int→Int→LB→Cu)(j28:Int→LB→Cu)(b:UInt64)(a:Int)(n:UInt64)(k g:Int)(p:LB):Cu:=
if(Ff k 0)then
if(geq (Dg g 7) 0)then
(Dx p ([(0:UInt8)]:LB)).bind fun w=>
j25 n k g w
else
j25 n k g p
else
j28 g p
def Aop(b:UInt64)(a:Int):Nat→UInt64→Int→Int→LB→Cu
|0,_,_,_,_=>none
|q+1,n,k,g,p=>Aw5 (Axy (Aop b a q) b a) Ayc b a n k g p
def Awo b a:=Aop b a Am
def Bbc(j15:UInt64→Int→UInt64→Int→Int→LB→Cu)(j22:UInt64→Int→UInt64→Int→Int→LB→Cu)(ac:LB)(aa:Int)(b:UInt64)(a:Int):Cu:=
(Ii ac aa).bind fun af=>
if(Ba af 0)then
some (([]:LB),0,8)
else
if((Bv a 0)||(Ff a 64))then
some (([]:LB),0,2)
else
if(Bv a 64)then
(Gs (Kl a 0)).bind fun _=>
if(Ba (Bn b (GI.toZ a).toNat) 0)then
some (([]:LB),0,16)
else
if(Ff (Ae aa a) 330000)then
some (([]:LB),0,18)
else
(Azi ac aa).bind fun(ag,ah)=>
j15 b a b a ah ag
else
if(Ff (Ae aa a) 330000)then
some (([]:LB),0,18)
else
(Azi ac aa).bind fun(ab,ai)=>
j22 b a b a ai ab
def Aqq:=Bbc Axr Awo
def Agc(b:UInt32)(a:Int):Option Bool:=
(Gs (Kl a 0)).bind fun _=>
some (Kl (Bn b (GI.toZ a).toNat) 48)
def Ayd(a:Int):Option (Int×Int):=
if((Bv a 0)||(Ff a 48))then
some (0,2)
else
some ((Dj (Ae a 1) 48),0)
def Bba(b:LB)(f a:Int):Option (LB×Int×Int):=
(Ii b f).bind fun g=>
if(Ba g 0)then
some (([]:LB),0,g)
else
(Ayd a).bind fun(k,h)=>
if(Ba h 0)then
some (([]:LB),0,h)
else
(Gs (Kl a 0)).bind fun _=>
(Aqq b f (Ah (Cn (1:UInt64) (GI.toZ a).toNat) 1) k).bind fun(m,n,o)=>
some (m,n,o)
abbrev Anv:=Option (LB×Int×Int)
def Bgf(b:LB)(f h:Int)(k:UInt32)(m:Int):Anv:=
(Bba b f h).bind fun(p,u,n)=>
if(Ba n 0)then
some (([]:LB),0,n)
else
(Aqq p u (Ad k:UInt64) m).bind fun(v,w,y)=>
some (v,w,y)
def Aux:=Bgf
def Aug(j2:LB→Int→Int→UInt32→Int→Anv)(b:LB)(f:Int)(g:UInt32)(a:Int):Anv:=
(Ii b f).bind fun o=>
if(Ba o 0)then
some (([]:LB),0,o)
else
if((Bv a 0)||(Ff a 24))then
some (([]:LB),0,2)
else
(Gs (Kl a 0)).bind fun _=>
(Gs (Kl a 0)).bind fun _=>
(Agc g a).bind fun aa=>
if aa then
j2 b f 48 g 32
else
j2 b f (Ad (Bn g (GI.toZ a).toNat):Int) (Dg g (Ah (Cn (1:UInt32) (GI.toZ a).toNat) 1)) a
def Bcl:=Aug Aux
abbrev Gw:=Option (LB×Int×Int×Int×UInt64×UInt64×Int)
def Aib(k u n:Int)(a:UInt64)(b:UInt32)(o:UInt64)(m:LB):Gw:=
(
(
some (m,k,u,n,(Ae a (Ah (Ad b:UInt64) (Bn a (GI.toZ (4:UInt64)).toNat))),o,0)))
def Aqy:=Aib
def Aud(j10:Int→Int→Int→UInt64→UInt32→UInt64→LB→Gw)(b:UInt32)(k n:Int)(a o:UInt64)(m:LB)(u:Int):Gw:=
j10 k u n a b o m
def At7:=Aud Aqy
def Auz(j9:UInt32→Int→Int→UInt64→UInt64→LB→Int→Gw)(b:UInt32)(f:Int)(a:UInt64)(k:Int)(m:LB)(n:Int)(o:UInt64):Gw:=
if(Ff f 0)then
(Gs (Kl f 0)).bind fun _=>
if(Bv (Ae a (Ah (Ad b:UInt64) (Bn a (GI.toZ (4:UInt64)).toNat))) (Cn (16:UInt64) (GI.toZ f).toNat))then
j9 b k n a o m (Ah f 1)
else
if(Bv f 24)then
(Gs (Kl f 0)).bind fun _=>
if(Ff (Ae a (Ah (Ad b:UInt64) (Bn a (GI.toZ (4:UInt64)).toNat))) (Cn (32:UInt64) (GI.toZ f).toNat))then
j9 b k n a o m (Ae f 1)
else
j9 b k n a o m f
else
j9 b k n a o m f
else
if(Bv f 24)then
(Gs (Kl f 0)).bind fun _=>
if(Ff (Ae a (Ah (Ad b:UInt64) (Bn a (GI.toZ (4:UInt64)).toNat))) (Cn (32:UInt64) (GI.toZ f).toNat))then
j9 b k n a o m (Ae f 1)
else
j9 b k n a o m f
else
j9 b k n a o m f
def Auu:=Auz At7
def Au5(j8:UInt32→Int→UInt64→Int→LB→Int→UInt64→Gw)(b:UInt32)(f h:Int)(a g:UInt64)(y k:Int)(m:LB):Gw:=
if(Ba y 0)then
some (([]:LB),0,0,0,0,0,y)
else
(Ac9 f h a g b).bind fun(ag,p)=>
if(geq ag 1)then
if(Ff h 0)then
(Gs (Kl h 0)).bind fun _=>
if(Bv (Ae g (Ah (Ad p:UInt64) (Bn g (GI.toZ (4:UInt64)).toNat))) (Cn (16:UInt64) (GI.toZ h).toNat))then
j8 b f a k m (Ah h 1) (Ae g (Ah (Ad p:UInt64) (Bn g (GI.toZ (4:UInt64)).toNat)))
else
if(Bv h 24)then
(Gs (Kl h 0)).bind fun _=>
if(Ff (Ae g (Ah (Ad p:UInt64) (Bn g (GI.toZ (4:UInt64)).toNat))) (Cn (32:UInt64) (GI.toZ h).toNat))then
j8 b f a k m (Ae h 1) (Ae g (Ah (Ad p:UInt64) (Bn g (GI.toZ (4:UInt64)).toNat)))
else
j8 b f a k m h (Ae g (Ah (Ad p:UInt64) (Bn g (GI.toZ (4:UInt64)).toNat)))
else
j8 b f a k m h (Ae g (Ah (Ad p:UInt64) (Bn g (GI.toZ (4:UInt64)).toNat)))
else
if(Bv h 24)then
(Gs (Kl h 0)).bind fun _=>
if(Ff (Ae g (Ah (Ad p:UInt64) (Bn g (GI.toZ (4:UInt64)).toNat))) (Cn (32:UInt64) (GI.toZ h).toNat))then
j8 b f a k m (Ae h 1) (Ae g (Ah (Ad p:UInt64) (Bn g (GI.toZ (4:UInt64)).toNat)))
else
j8 b f a k m h (Ae g (Ah (Ad p:UInt64) (Bn g (GI.toZ (4:UInt64)).toNat)))
else
j8 b f a k m h (Ae g (Ah (Ad p:UInt64) (Bn g (GI.toZ (4:UInt64)).toNat)))
else
j8 b f a k m h g
def Aub:=Au5 Auu
def Auk(j7:UInt32→Int→Int→UInt64→UInt64→Int→Int→LB→Gw)(b:UInt32)(v:LB)(w f h:Int)(a g:UInt64):Gw:=
(Ac9 f h a g b).bind fun(ad,ae)=>
(Aqq v w (Ad ad:UInt64) 1).bind fun(aa,ab,ac)=>
if((geq ac 0)&&(geq ad 0))then
(Aqq aa ab (Ad ae:UInt64) f).bind fun(ah,ai,aj)=>
j7 b f h a g aj ai ah
else
if(geq ac 0)then
(Bcl aa ab ae h).bind fun(ak,al,am)=>
j7 b f h a g am al ak
else
j7 b f h a g ac ab aa
def Au6:=Auk Aub
def At9(j6:UInt32→LB→Int→Int→Int→UInt64→UInt64→Gw)(v:LB)(w f h:Int)(a g:UInt64)(b:UInt32):Gw:=
(Ii v w).bind fun an=>
if(Ba an 0)then
some (([]:LB),0,0,0,0,0,8)
else
(Ag1 f h a g).bind fun ao=>
if(Ba ao 0)then
some (([]:LB),0,0,0,0,0,8)
else
j6 b v w f h a g
def Bd5:=At9 Au6
abbrev Bl:=Option (UInt32×Int)
def Asd(h:UInt32):Bl:=
some (h,0)
def Ag7:=Asd
def Aar(j30:UInt32→Bl)(bk28:UInt32→Int→Bl)(a:LB)(b:LU)(h:UInt32)(m:Int):Bl:=
if(Bv m (Ac a))then
(getI a m).bind fun p=>
(getI b (GI.toZ (To (Ad h:UInt8) p))).bind fun _=>
(getI b (GI.toZ (To (Ad h:UInt8) p))).bind fun u=>
bk28 (To (Bn h (GI.toZ (8:UInt64)).toNat) u) (Ae m 1)
else
j30 h
def Nn(a:LB)(b:LU):Nat→UInt32→Int→Bl
|0,_,_=>none
|q+1,h,m=>Aar Ag7 (Nn a b q) a b h m
def Ahn a b:=Nn a b Am
def Aiw(j28:LB→LU→UInt32→Int→Bl)(f:UInt32)(a:LB)(b:LU):Bl:=
j28 a b f 0
def Ah8:=Aiw Ahn
def Ah3(j27:UInt32→LB→LU→Bl)(f:UInt32)(a:LB)(b:LU):Bl:=
j27 f a b
def Yy:=Ah3 Ah8
def Aq8(bk16:Int→LU→Bl)(f:UInt32)(a:LB)(g:Int)(o:LU):Bl:=
bk16 (Ae g 1) o
def Aha bk16:=Aq8 bk16
def Aio(j24:Int→LU→Bl)(f:UInt32)(a:LB)(g:Int)(k:UInt32)(b:LU):Bl:=
(getI b g).bind fun _=>
(Jl b g k).bind fun o=>
j24 g o
def Aa8 bk16 f a:=Aio (Aha bk16 f a) f a
def Aap(j23:Int→UInt32→LU→Bl)(bk21:UInt32→Int→Bl)(f:UInt32)(a:LB)(g:Int)(b:LU)(k:UInt32)(n:Int):Bl:=
if(Bv n 8)then
bk21 (To (Bn k (GI.toZ (1:UInt64)).toNat) (Ay 3988292384 (Dg k 1))) (Ae n 1)
else
j23 g k b
def Nm(bk16:Int→LU→Bl)(f:UInt32)(a:LB)(g:Int)(b:LU):Nat→UInt32→Int→Bl
|0,_,_=>none
|q+1,k,n=>Aap (Aa8 bk16 f a) (Nm bk16 f a g b q) f a g b k n
def Ahc bk16 f a g b:=Nm bk16 f a g b Am
def Zh(j21:Int→LU→UInt32→Int→Bl)(j26:UInt32→LB→LU→Bl)(f:UInt32)(a:LB)(g:Int)(b:LU):Bl:=
if(Bv g 256)then
j21 g b (Ad g:UInt32) 0
else
j26 f a b
def Kn(f:UInt32)(a:LB):Nat→Int→LU→Bl
|0,_,_=>none
|q+1,g,b=>Zh (Ahc (Kn f a q) f a) Yy f a g b
def Ahz f a:=Kn f a Am
def Ald(j16:UInt32→LB→Int→LU→Bl)(f:UInt32)(a:LB):Bl:=
if(Ff (Ac a) 100000)then
some (0,4)
else
j16 f a 0 (List.replicate 256 (0:UInt32))
def Aoj:=Ald Ahz
def Tv(b:LB):Option (UInt32×Int):=
(Aoj 4294967295 b).bind fun(f,a)=>
if(Ba a 0)then
some (0,a)
else
some ((Bc0 f),0)
def Bb5(b:UInt64)(a:Int):Option Bool:=
if(geq a 8)then
some true
else
(Gs (Kl (Ay 8 a) 0)).bind fun _=>
some (geq (Bn b (GI.toZ (Ay 8 a)).toNat) 0)
abbrev Ww:=Option (LB×Int)
def Azw(a:LB):Ww:=
some (a,0)
def Asn:=Azw
def Akj(j6:LB→Ww)(bk4:Int→LB→Ww)(f:UInt64)(g:LB)(b:Int)(a:LB):Ww:=
if(Bv b (Ac g))then
(Gs (Kl (Ay 8 b) 0)).bind fun _=>
(getI a b).bind fun _=>
(Jl a b (Ad (Bn f (GI.toZ (Ay 8 b)).toNat):UInt8)).bind fun k=>
bk4 (Ae b 1) k
else
j6 a
def Yc(f:UInt64)(g:LB):Nat→Int→LB→Ww
|0,_,_=>none
|q+1,b,a=>Akj Asn (Yc f g q) f g b a
def As6 f g:=Yc f g Am
def Asu(j4:UInt64→LB→Int→LB→Ww)(f:UInt64)(h:Int):Ww:=
if((Bv h 1)||(Ff h 8))then
some (([]:LB),2)
else
(Bb5 f h).bind fun m=>
if(!m)then
some (([]:LB),16)
else
(mkI h (0:UInt8)).bind fun g=>
(Gs (geq h h)).bind fun _=>
j4 f g 0 g
def Vi:=Asu As6
def Agp(f:LB):Option (LB):=
some f
def Rg:=Agp
def Qy(j16:LB→Option (LB))(bk14:Int→LB→Option (LB))(a:List LB)(g:Int)(f:LB):Option (LB):=
if(Bv g (Ac a))then
(getI a g).bind fun o=>
(Dx f o).bind fun p=>
bk14 (Ae g 1) p
else
j16 f
def Kc(a:List LB):Nat→Int→LB→Option (LB)
|0,_,_=>none
|q+1,g,f=>Qy Rg (Kc a q) a g f
def Rk a:=Kc a Am
def Qr(j14:(List LB)→Int→LB→Option (LB))(a:List LB)(k:LB):Option (LB):=
j14 a 0 k
def Rl:=Qr Rk
def Ro(j13:(List LB)→LB→Option (LB))(b:Int)(a:List LB):Option (LB):=
if(Ff (Ah b (Ah (0:Int) (0:Int))) 0)then
(vwI 0 0 0).bind fun _=>
(mkI (Ah b (Ah (0:Int) (0:Int))) (0:UInt8)).bind fun u=>
(Dx ([]:LB) u).bind fun m=>
(vwI (Ac m) 0 0).bind fun _=>
j13 a (Akr m 0 ((0:Int)-(0:Int)))
else
j13 a ([]:LB)
def Qv:=Ro Rl
def Qz(j12:Int→(List LB)→Option (LB))(a:List LB)(b:Int):Option (LB):=
if(Bv b 0)then
none
else
j12 b a
def Qq:=Qz Qv
def Tk(j11:(List LB)→Int→Option (LB))(bk9:Int→Int→Option (LB))(a:List LB)(b h:Int):Option (LB):=
if(Bv h (Ac a))then
(getI a h).bind fun n=>
if(Bv (Ae b (Ac n)) 0)then
none
else
bk9 (Ae b (Ac n)) (Ae h 1)
else
j11 a b
def Kr(a:List LB):Nat→Int→Int→Option (LB)
|0,_,_=>none
|q+1,b,h=>Tk Qq (Kr a q) a b h
def Rt a:=Kr a Am
def Rr(j9:(List LB)→Int→Int→Option (LB))(a:List LB):Option (LB):=
j9 a 0 0
def Yb:=Rr Rt
abbrev Bd:=Option (LB×Int)
def Awf(u:Int)(p:LB):Bd:=
(Tv p).bind fun(af,ac)=>
if(Ba ac 0)then
some (([]:LB),ac)
else
(Vi (Ad af:UInt64) 4).bind fun(m,h)=>
if(Ba h 0)then
some (([]:LB),h)
else
(Yb ([p,m]:List LB)).bind fun ag=>
some (ag,0)
def Ahs:=Awf
def Awe(bk27:Int→(List (Int×Int×UInt64×UInt64×Unit))→Int→LB→Bd)(a:LU)(b f g:Int)(k:List (Int×Int×UInt64×UInt64×Unit))(n:Int)(v:LB):Bd:=
bk27 (Ae g 1) k n v
def Aht bk27:=Awe bk27
def Av5(bk44:Int→Int→LB→Bd)(h:Int)(a:LU)(g b f:Int)(k:List (Int×Int×UInt64×UInt64×Unit))(m:LB)(o n:Int)(aa:LB):Bd:=
bk44 (Ae o 1) (Ae n 1) aa
def Ajh bk44:=Av5 bk44
def Ai3(j48:Int→Int→LB→Bd)(h:Int)(a:LU)(g b f:Int)(k:List (Int×Int×UInt64×UInt64×Unit))(m:LB)(o n:Int)(y:LB):Bd:=
(getI m (Bf o 8)).bind fun _=>
(getI m (Bf o 8)).bind fun ah=>
(Gs (Kl (Ey o 8) 0)).bind fun _=>
(getI y (Bf n 8)).bind fun _=>
(Gs (Kl (Ey n 8) 0)).bind fun _=>
(getI y (Bf n 8)).bind fun ai=>
(getI y (Bf n 8)).bind fun _=>
Option.bind (Jl y (Bf n 8) (gor ai (Cn (Dg (Bn ah (GI.toZ (Ey o 8)).toNat) 1) (GI.toZ (Ey n 8)).toNat))) fun aa=>
j48 o n aa
def Ai7 bk44 h a g b f k m:=Ai3 (Ajh bk44 h a g b f k m) h a g b f k m
def Air(j47:Int→Int→LB→Bd)(j50:Int→(List (Int×Int×UInt64×UInt64×Unit))→Int→LB→Bd)(a:LU)(b f h g:Int)(k:List (Int×Int×UInt64×UInt64×Unit))(m:LB)(o n:Int)(v:LB):Bd:=
if(Bv o h)then
if(geq (Ey n 8) 0)then
(Dx v ([(0:UInt8)]:LB)).bind fun aj=>
j47 o n aj
else
j47 o n v
else
j50 g k n v
def Xe(bk27:Int→(List (Int×Int×UInt64×UInt64×Unit))→Int→LB→Bd)(a:LU)(b f h g:Int)(k:List (Int×Int×UInt64×UInt64×Unit))(m:LB):Nat→Int→Int→LB→Bd
|0,_,_,_=>none
|q+1,o,n,v=>Air (Ai7 (Xe bk27 a b f h g k m q) h a g b f k m) (Aht bk27 a b f) a b f h g k m o n v
def Ah4 bk27 a b f h g k m:=Xe bk27 a b f h g k m Am
def Ai8(j44:Int→Int→(List (Int×Int×UInt64×UInt64×Unit))→LB→Int→Int→LB→Bd)(j52:Int→LB→Bd)(a:LU)(b f g:Int)(w:List (Int×Int×UInt64×UInt64×Unit))(u:Int)(p:LB):Bd:=
if(Bv g (Ac a))then
(getI a g).bind fun _=>
(getI a g).bind fun ak=>
(Gs (Ba b 0)).bind fun _=>
(getI w (Ey g b)).bind fun _=>
(getI w (Ey g b)).bind fun ab=>
(Bd5 ([]:LB) 0 ab.1 ab.2.1 ab.2.2.1 ab.2.2.2.1 ak).bind fun(m,h,al,am,an,ao,ad)=>
if(Ba ad 0)then
some (([]:LB),ad)
else
(Gs (Ba b 0)).bind fun _=>
(getI w (Ey g b)).bind fun _=>
(Jl w (Ey g b) (al,am,an,ao,())).bind fun k=>
j44 h g k m 0 u p
else
j52 u p
def Xc(a:LU)(b f:Int):Nat→Int→(List (Int×Int×UInt64×UInt64×Unit))→Int→LB→Bd
|0,_,_,_,_=>none
|q+1,g,w,u,p=>Ai8 (Ah4 (Xc a b f q) a b f) Ahs a b f g w u p
def Aiu a b f:=Xc a b f Am
def Akl(j27:LU→Int→Int→Int→(List (Int×Int×UInt64×UInt64×Unit))→Int→LB→Bd)(b f:Int)(ap aq:LX):Bd:=
(Art b f ap aq).bind fun(a,ae)=>
if(Ba ae 0)then
some (([]:LB),ae)
else
(As1).bind fun ar=>
j27 a b f 0 ar 0 ([]:LB)
def Aae:=Akl Aiu
def Ry(a:Int)(b:LX):LI→Int→Option (List LX)
  |[],_=>some []
  |n::l,x=>Option.bind (Ca b x (Ae x (Ay n a))) fun p=>Option.bind (Ry a b l (Ae x (Ay n a))) fun ps=>some (p::ps)
def Adq(a f:Int)(t:LX):List LX→List LB→Option (List LB×Int)
  |[],o=>some (o,0)
  |x::xs,o=>Option.bind (Aae a f t x) fun y=>
    if(Ba y.2 0)=true then some ([],y.2)
    else Option.bind (Dx o [y.1]) fun o'=>Adq a f t xs o'
def Ar0(a h:Int)(b:LX):Option (List LX):=
  Option.bind (Gs (Ba a 0)) fun _=>Option.bind (Tl h (Bf (Ac b) a)) fun l=>Option.bind (Gs (decide (Ac l.1≤17179869184))) fun _=>Ry a b l.1 0
def Ar9(a f h:Int)(b:LX)(p:LB):Option (List LB×Int):=
  Option.bind (Ac1 a f h b) fun e=>
    if(Ba e 0)=true then some ([],e)
    else Option.bind (Xu p) fun t=>
      if(Ba t.2 0)=true then some ([],t.2)
      else Option.bind (Ar0 a h b) fun xs=>Adq a f t.1 xs []
def Am1(b f a g h:Int):Option Bool:=
some (((((((geq b 1)||(geq b 2))&&(Ff f 0))&&(gle f 6))&&(Ff g 0))&&(gle g 1048576))&&(Ff h 0))
def Tn:=Am1
def Aci(j2:Int→Int→Int→Int→Int→Option Bool)(b f a g h:Int):Option Bool:=
if(geq a 8)then
if(geq a 8)then
j2 b f a g h
else
some false
else
if(geq a 16)then
if(geq a 16)then
j2 b f a g h
else
some false
else
if(geq a 24)then
j2 b f a g h
else
some false
def Vw:=Aci Tn
def Ae5(k a m f b:Int):Option Bool:=
(Gs (Ba a 0)).bind fun _=>
if(Ff b (Bf 4000 a))then
some false
else
(Pm f b).bind fun(g,h)=>
some ((geq h 0)&&(gle g 1000))
def Zq(a b f g h:Int):Option Int:=
(Vw a b f g h).bind fun k=>
if(!k)then
some 8
else
(Ae5 a b f g h).bind fun m=>
if(!m)then
some 8
else
some 0
abbrev Lb:=Option (LB×Int)
def Bbm(a:LB):Lb:=
(Tv a).bind fun(u,aa)=>
(Vi (Ad u:UInt64) 4).bind fun(n,v)=>
(Dx a n).bind fun o=>
some (o,0)
def Ao4:=Bbm
def Aoz(j6:LB→Lb)(bk4:Int→LB→Lb)(b f g h k m:Int)(a:LB):Lb:=
if(Bv m 5)then
(getI ([b,f,g,h,k]:LI) m).bind fun w=>
(getI ([(2:Int),(2:Int),(2:Int),(4:Int),(4:Int)]:LI) m).bind fun y=>
(Vi (Ad w:UInt64) y).bind fun(n,v)=>
(Dx a n).bind fun o=>
bk4 (Ae m 1) o
else
j6 a
def Afr(b f g h k:Int):Nat→Int→LB→Lb
|0,_,_=>none
|q+1,m,a=>Aoz Ao4 (Afr b f g h k q) b f g h k m a
def Ao7 b f g h k:=Afr b f g h k Am
def Ao5(j4:Int→Int→Int→Int→Int→Int→LB→Lb)(b f g h k:Int):Lb:=
(Zq b f g h k).bind fun p=>
if(Ba p 0)then
some (([]:LB),p)
else
j4 b f g h k 0 ([(84:UInt8),(84:UInt8),(65:UInt8),(49:UInt8)]:LB)
def Axq:=Ao5 Ao7
def Aza(a:LB):Option (UInt64×Int):=
if(Ff (Ac a) 64)then
some (0,2)
else
(Alp a).bind fun(b,f)=>
some (b,0)
def Aa6(b:LB):Option (LB×Int):=
(Aza b).bind fun(f,a)=>
if(Ba a 0)then
some (([]:LB),a)
else
(Vi f 8).bind fun(g,h)=>
some (g,h)
def Bfd:Option Int:=
some 0
def Arl:=Bfd
def Zi(j6:Option Int)(bk4:Int→Int→Option Int)(a:LI)(f b:Int):Option Int:=
if(Bv b (Ac a))then
(getI a b).bind fun g=>
if((Bv g 5)||(Ff g f))then
some 8
else
bk4 (Ah f g) (Ae b 1)
else
j6
def Ng(a:LI):Nat→Int→Int→Option Int
|0,_,_=>none
|q+1,f,b=>Zi Arl (Ng a q) a f b
def Ah7 a:=Ng a Am
def Aa3(j4:LI→Int→Int→Option Int)(a:LI):Option Int:=
if((geq (Ac a) 0)||(Ff (Ac a) 1000))then
some 8
else
j4 a 100000 0
def Ly:=Aa3 Ah7
abbrev Fw:=Option (LB×Int)
def Bbk(g:LB):Fw:=
some (g,0)
def Ao9:=Bbk
def Apa(j14:LB→Fw)(b:LB):Fw:=
(Tv b).bind fun(m,u)=>
(Vi (Ad m:UInt64) 4).bind fun(n,v)=>
(Dx b n).bind fun g=>
j14 g
def Ape:=Apa Ao9
def Bbe(bk8:Int→LB→Fw)(a:LI)(f:Int)(h:LB):Fw:=
bk8 (Ae f 1) h
def Apd bk8:=Bbe bk8
def Ar6(j11:Int→LB→Fw)(j13:LB→Fw)(a:LI)(f:Int)(b:LB):Fw:=
if(Bv f (Ac a))then
(getI a f).bind fun o=>
(Vi (Ad o:UInt64) 4).bind fun(p,w)=>
(Dx b p).bind fun h=>
j11 f h
else
j13 b
def Aiq(a:LI):Nat→Int→LB→Fw
|0,_,_=>none
|q+1,f,b=>Ar6 (Apd (Aiq a q) a) Ape a f b
def Aqg a:=Aiq a Am
def Aqx(j8:LI→Int→LB→Fw)(a:LI):Fw:=
(Ly a).bind fun k=>
if(Ba k 0)then
some (([]:LB),k)
else
j8 a 0 ([]:LB)
def Bae:=Aqx Aqg
def Auq(a:LB):Option Int:=
some (Ac a)
def Bdm(a:LB):Option (LB):=
some a
def Aq4:=Bdm
def Aqd(j6:LB→Option (LB))(bk4:Int→LB→Option (LB))(b:List LB)(f:Int)(a:LB):Option (LB):=
if(Bv f (Ac b))then
(getI b f).bind fun g=>
(Dx a g).bind fun h=>
bk4 (Ae f 1) h
else
j6 a
def Ain(b:List LB):Nat→Int→LB→Option (LB)
|0,_,_=>none
|q+1,f,a=>Aqd Aq4 (Ain b q) b f a
def Arv b:=Ain b Am
def Arj(j4:(List LB)→Int→LB→Option (LB))(b:List LB):Option (LB):=
j4 b 0 ([]:LB)
def Bau:=Arj Arv
abbrev Dq:=Option (LB×Int)
def Bbj(k:Int)(a:List LB)(b f n:LB):Dq:=
if(Ba k 0)then
some (([]:LB),k)
else
(Dx ([b,f,n]:List LB) a).bind fun m=>
(Bau m).bind fun ad=>
some (ad,0)
def Aou:=Bbj
def Apf(j14:Int→(List LB)→LB→LB→LB→Dq)(h:LI)(a:List LB)(b f:LB):Dq:=
(Bae h).bind fun(n,k)=>
j14 k a b f n
def Apc:=Apf Aou
def Bbi(bk9:Int→LI→Dq)(a:List LB)(b f:LB)(g:Int)(m:LI):Dq:=
bk9 (Ae g 1) m
def Aph bk9:=Bbi bk9
def As3(j11:Int→LI→Dq)(j13:LI→(List LB)→LB→LB→Dq)(a:List LB)(b f:LB)(g:Int)(h:LI):Dq:=
if(Bv g (Ac a))then
(getI a g).bind fun _=>
(getI a g).bind fun ae=>
(Auq ae).bind fun k=>
(getI h g).bind fun _=>
(Jl h g k).bind fun m=>
j11 g m
else
j13 h a b f
def Ai6(a:List LB)(b f:LB):Nat→Int→LI→Dq
|0,_,_=>none
|q+1,g,h=>As3 (Aph (Ai6 a b f q) a b f) Apc a b f g h
def Aqh a b f:=Ai6 a b f Am
def Aq9(j9:(List LB)→LB→LB→Int→LI→Dq)(a:List LB)(b f:LB):Dq:=
(mkI (Ac a) (0:Int)).bind fun af=>
(Gs (geq (Ac a) (Ac a))).bind fun _=>
j9 a b f 0 af
def Ari:=Aq9 Aqh
def Aq6(j8:(List LB)→LB→LB→Dq)(p u v:Int)(w:LX)(o:LB):Dq:=
(Bat p u v w o).bind fun(y,ag,ah,ai,aj,aa)=>
if(Ba aa 0)then
some (([]:LB),aa)
else
(Ar9 p u v w o).bind fun(a,ab)=>
if(Ba ab 0)then
some (([]:LB),ab)
else
(Axq y ag ah ai aj).bind fun(b,ac)=>
if(Ba ac 0)then
some (([]:LB),ac)
else
if(geq y 2)then
(Aa6 o).bind fun(ak,al)=>
j8 a b ak
else
j8 a b ([]:LB)
def Az5:=Aq6 Ari
def Aij:Option (LB×Bool):=
(Az5 1 8 1 ([(1:Int32),(2:Int32),(3:Int32)]:LX) ([]:LB)).bind fun(a,b)=>
if((Ba b 0)||(Ba (Ac a) 56))then
some (([]:LB),false)
else
(getI a 45).bind fun _=>
(getI a 45).bind fun f=>
(getI a 45).bind fun _=>
(Jl a 45 (To f 1)).bind fun g=>
some (g,true)
def Hj(a b:LB):Option Bool:=
some (a==b)
def Jk(b a:LB):Option Bool:=
if(Kl (Ac b) (Ac a))then
(Ca b 0 (Ac a)).bind fun f=>
(Hj f a).bind fun g=>
some g
else
some false
abbrev Jh:=Option (Int×Int)
def Ays(b:Int):Jh:=
some (b,0)
def Amt:=Ays
def Tw(j6:Int→Jh)(bk4:Int→Int→Jh)(a:LB)(b f:Int):Jh:=
if(Bv f (Ac a))then
(getI a f).bind fun g=>
if(Ff g 127)then
some (0,12)
else
bk4 (gor (Cn b (GI.toZ (7:UInt64)).toNat) (Ad g:Int)) (Ae f 1)
else
j6 b
def Kj(a:LB):Nat→Int→Int→Jh
|0,_,_=>none
|q+1,b,f=>Tw Amt (Kj a q) a b f
def Acf a:=Kj a Am
def Acq(j4:LB→Int→Int→Jh)(a:LB):Jh:=
if(Ba (Ac a) 4)then
some (0,2)
else
j4 a 0 0
def Adn:=Acq Acf
abbrev Ha:=Option (Int×Int)
def Ao0(a:LB)(b:UInt8)(h:Int):Ha:=
if(Ff h 4000)then
some (0,4)
else
if(Bv (Ac a) h)then
some (0,24)
else
if(geq b 16)then
(Ca a (Ah h 10) h).bind fun k=>
(Ca k 0 3).bind fun u=>
if(u !=([51,68,73]:LB))then
some (0,12)
else
(Ca k 3 (Ac k)).bind fun v=>
(Ca a 3 10).bind fun w=>
(Hj v w).bind fun y=>
if(!y)then
some (0,12)
else
some (h,0)
else
some (h,0)
def We:=Ao0
def Afa(j8:LB→UInt8→Int→Ha)(a:LB)(g:Int)(b:UInt8):Ha:=
if(geq b 16)then
j8 a b (Ae (Ae g 10) 10)
else
j8 a b (Ae g 10)
def Wg:=Afa We
def Ae8(j7:LB→Int→UInt8→Ha)(a:LB)(g:Int)(b:UInt8)(m:Bool):Ha:=
if m then
some (0,12)
else
j7 a g b
def Afu:=Ae8 Wg
def Afe(j6:LB→Int→UInt8→Bool→Ha)(a:LB)(f b:UInt8):Ha:=
(Ca a 6 10).bind fun aa=>
(Adn aa).bind fun(g,ab)=>
if(Ba ab 0)then
if true then
j6 a g b true
else
if(geq b 0)then
j6 a g b (!((Kl f 2)&&(gle f 4)))
else
if(geq b 16)then
j6 a g b (!(geq f 4))
else
j6 a g b (!false)
else
(getI a 4).bind fun ac=>
if(Ba ac 0)then
j6 a g b true
else
if(geq b 0)then
j6 a g b (!((Kl f 2)&&(gle f 4)))
else
if(geq b 16)then
j6 a g b (!(geq f 4))
else
j6 a g b (!false)
def Aff:=Afe Afu
def Wf(j5:LB→UInt8→UInt8→Ha)(a:LB):Ha:=
(Jk a ([(73:UInt8),(68:UInt8),(51:UInt8)]:LB)).bind fun n=>
if(!n)then
some (0,6)
else
if(Bv (Ac a) 10)then
some (0,24)
else
(getI a 3).bind fun f=>
(getI a 5).bind fun b=>
(
(
(
j5 a f b)))
def Ago:=Wf Aff
abbrev Xf:=Option (UInt64×Int)
def Bl7(b:UInt64):Xf:=
some (b,0)
def Ba8:=Bl7
def Aj7(j6:UInt64→Xf)(bk4:UInt64→Int→Xf)(a:LB)(b:UInt64)(f:Int):Xf:=
if(Bv f (Ac a))then
(getI a f).bind fun g=>
(Gs (Kl (Ay 8 f) 0)).bind fun _=>
bk4 (gor b (Cn (Ad g:UInt64) (GI.toZ (Ay 8 f)).toNat)) (Ae f 1)
else
j6 b
def Xp(a:LB):Nat→UInt64→Int→Xf
|0,_,_=>none
|q+1,b,f=>Aj7 Ba8 (Xp a q) a b f
def Aqw a:=Xp a Am
def Are(j4:LB→UInt64→Int→Xf)(a:LB):Xf:=
if((Bv (Ac a) 1)||(Ff (Ac a) 8))then
some (0,2)
else
j4 a 0 0
def Aqv:=Are Aqw
def Amv(f:LB)(a b:Int):Option (UInt64×Int):=
if(((Bv b 1)||(Ff b 8))||(Bv a 0))then
some (0,2)
else
if(Ff a (Ah (Ac f) b))then
some (0,24)
else
(Ca f a (Ae a b)).bind fun g=>
(Aqv g).bind fun(h,k)=>
some (h,k)
def Bdd(g:LB):Option (LB):=
some g
def Avw:=Bdd
def An1(j6:LB→Option (LB))(bk4:Int→LB→Option (LB))(a b:Int)(f:UInt64)(h:Int)(g:LB):Option (LB):=
if(Bv h (Ac ([(2000:UInt64),(Ad (Ae a 32):UInt64),(Ad b:UInt64),f,(0:UInt64),(0:UInt64)]:LQ)))then
(getI ([(2000:UInt64),(Ad (Ae a 32):UInt64),(Ad b:UInt64),f,(0:UInt64),(0:UInt64)]:LQ) h).bind fun _=>
(getI ([(2000:UInt64),(Ad (Ae a 32):UInt64),(Ad b:UInt64),f,(0:UInt64),(0:UInt64)]:LQ) h).bind fun k=>
(Vi k 4).bind fun(m,o)=>
(Dx g m).bind fun n=>
bk4 (Ae h 1) n
else
j6 g
def Wj(a b:Int)(f:UInt64):Nat→Int→LB→Option (LB)
|0,_,_=>none
|q+1,h,g=>An1 Avw (Wj a b f q) a b f h g
def Avk a b f:=Wj a b f Am
def Avi(j4:Int→Int→UInt64→Int→LB→Option (LB))(a b:Int)(f:UInt64):Option (LB):=
j4 a b f 0 ([(65:UInt8),(80:UInt8),(69:UInt8),(84:UInt8),(65:UInt8),(71:UInt8),(69:UInt8),(88:UInt8)]:LB)
def Att:=Avi Avk
def Ags(b:LB)(g:UInt64):Option (Int×Int×Bool):=
(Amv b 12 4).bind fun(a,m)=>
(Amv b 16 4).bind fun(f,n)=>
if(((Bv a 32)||(Ff a 3032))||(Ff f 1000))then
some (0,0,false)
else
(Att (Ah (Ad a:Int) 32) (Ad f:Int) g).bind fun h=>
(Hj b h).bind fun k=>
some ((Ah (Ad a:Int) 32),(Ad f:Int),k)
def Atq(a:LB):Option (Int×Int):=
(Jk a ([(65:UInt8),(80:UInt8),(69:UInt8),(84:UInt8),(65:UInt8),(71:UInt8),(69:UInt8),(88:UInt8)]:LB)).bind fun f=>
if(!f)then
some (0,6)
else
if(Bv (Ac a) 32)then
some (0,24)
else
(Ca a 0 32).bind fun g=>
(Ags g 2684354560).bind fun(b,h,k)=>
if(!k)then
some (0,12)
else
if(Bv (Ac a) (Ae b 64))then
some (0,24)
else
(Ca a (Ah (Ae b 64) 32) (Ae b 64)).bind fun m=>
(Att b h 2147483648).bind fun n=>
(Hj m n).bind fun o=>
if(!o)then
some (0,12)
else
some ((Ae b 64),0)
def Tg(a:LB):Option (Int×Int):=
(Ago a).bind fun(f,b)=>
if(Ba b 6)then
some (f,b)
else
(Atq a).bind fun(g,h)=>
some (g,h)
def Ps(b:List UInt8):Nat→Int→Option (Int×Int)
  |0,_=>none
  |q+1,x=>Option.bind (Ca b x (Ac b)) fun s=>Option.bind (Tg s) fun r=>
    if geq r.2 (6:Int)=true then some (x,0)
    else if(geq r.2 (0:Int)&&Ff (Ae x r.1) (4000:Int))=true then some (0,4)
    else if Ba r.2 (0:Int)=true then some (0,r.2)
    else Ps b q (Ae x r.1)
def Sk(b:List UInt8):Option (Int×Int):=Ps b Am 0
def Ic(b a:LB):Option Bool:=
if(Kl (Ac b) (Ac a))then
(Ca b 0 (Ac a)).bind fun f=>
some (f==a)
else
some false
def Ri(a b:LB):Option Bool:=
(Ic a b).bind fun f=>
some f
abbrev Mg:=Option (Int×Int×Int×Int×Int×Int)
def Arf(a:LI):Mg:=
(getI a 0).bind fun _=>
(getI a 0).bind fun h=>
(getI a 1).bind fun _=>
(getI a 1).bind fun k=>
(getI a 2).bind fun _=>
(getI a 2).bind fun m=>
(getI a 3).bind fun _=>
(getI a 3).bind fun n=>
(getI a 4).bind fun _=>
(getI a 4).bind fun o=>
(Vw h k m n o).bind fun p=>
if(!p)then
some (0,0,0,0,0,12)
else
(Ae5 h k m n o).bind fun u=>
if(!u)then
some (0,0,0,0,0,4)
else
some (h,k,m,n,o,0)
def Aak:=Arf
def Aaa(j6:LI→Mg)(bk4:Int→Int→LI→Mg)(b:LB)(g f:Int)(a:LI):Mg:=
if(Bv f 5)then
(getI ([(2:Int),(2:Int),(2:Int),(4:Int),(4:Int)]:LI) f).bind fun h=>
(Amv b g h).bind fun(v,ae)=>
(getI a f).bind fun _=>
(Jl a f (Ad v:Int)).bind fun w=>
bk4 (Ae g h) (Ae f 1) w
else
j6 a
def Lc(b:LB):Nat→Int→Int→LI→Mg
|0,_,_,_=>none
|q+1,g,f,a=>Aaa Aak (Lc b q) b g f a
def Aaf b:=Lc b Am
def Ag4(j4:LB→Int→Int→LI→Mg)(b:LB):Mg:=
(Ca b 0 (Dj 4 (Ac b))).bind fun y=>
(Ri ([84,84,65,49]:LB) y).bind fun aa=>
if(!aa)then
some (0,0,0,0,0,12)
else
if(Bv (Ac b) 22)then
some (0,0,0,0,0,24)
else
(Amv b 18 4).bind fun(ab,af)=>
(Ca b 0 18).bind fun ac=>
(Tv ac).bind fun(ad,ag)=>
if(Ba (Ad ad:UInt64) ab)then
some (0,0,0,0,0,22)
else
j4 b 4 0 (List.replicate 5 (0:Int))
def Aee:=Ag4 Aaf
def Agd(a f:LB):Option (Bool×Int):=
(Aa6 f).bind fun(b,g)=>
if((Ba g 0)||(Ba (Ac a) (Ac b)))then
some (false,2)
else
(Hj a b).bind fun h=>
some (h,0)
def Kg(g h k a b:Int):Option (LI×Int):=
(Zq g h k a b).bind fun f=>
if(Ba f 0)then
some (([]:LI),f)
else
(Tl a b).bind fun(m,n)=>
some (m,n)
abbrev Ot:=Option (LI×Int)
def Au1(a:LI):Ot:=
(Ly a).bind fun k=>
if(Ba k 0)then
some (([]:LI),12)
else
some (a,0)
def Adj:=Au1
def Adp(j6:LI→Ot)(bk4:Int→LI→Ot)(b:LB)(f:LI)(g:Int)(a:LI):Ot:=
if(Bv g (Ac f))then
(Amv b (Ay 4 g) 4).bind fun(k,u)=>
(getI a g).bind fun _=>
(Jl a g (Ad k:Int)).bind fun m=>
bk4 (Ae g 1) m
else
j6 a
def Pp(b:LB)(f:LI):Nat→Int→LI→Ot
|0,_,_=>none
|q+1,g,a=>Adp Adj (Pp b f q) b f g a
def Ak8 b f:=Pp b f Am
def Aku(j4:LB→LI→Int→LI→Ot)(b:LB)(h:Int):Ot:=
if((Bv h 1)||(Ff h 1000))then
some (([]:LI),2)
else
if(Bv (Ac b) (Ae (Ay 4 h) 4))then
some (([]:LI),24)
else
(Amv b (Ay 4 h) 4).bind fun(n,v)=>
(Ca b 0 (Ay 4 h)).bind fun o=>
(Tv o).bind fun(p,w)=>
if(Ba (Ad p:UInt64) n)then
some (([]:LI),22)
else
(mkI h (0:Int)).bind fun f=>
(Gs (geq h h)).bind fun _=>
j4 b f 0 f
def Ag8:=Aku Ak8
abbrev Ak9:=Option (Int×Int×Int×Int×Int×Int×LI×Int)
def Ard(a:LB)(b f g h k n:Int):Ak9:=
(Kg b f g h k).bind fun(ab,p)=>
if(Ba p 0)then
some (0,0,0,0,0,0,([]:LI),p)
else
(Ca a n (Ac a)).bind fun ac=>
(Ag8 ac (Ac ab)).bind fun(u,v)=>
if(Ba v 0)then
some (0,0,0,0,0,0,([]:LI),v)
else
some (b,f,g,h,k,(Ae (Ae n (Ay 4 (Ac u))) 4),u,0)
def Se:=Ard
def Abc(j2:LB→Int→Int→Int→Int→Int→Int→Ak9)(a o:LB):Ak9:=
if(Ff (Ac o) 64)then
some (0,0,0,0,0,0,([]:LI),2)
else
if(Ff (Ac a) 100000)then
some (0,0,0,0,0,0,([]:LI),4)
else
(Sk a).bind fun(m,w)=>
if(Ba w 0)then
some (0,0,0,0,0,0,([]:LI),w)
else
(Ca a m (Ac a)).bind fun ad=>
(Aee ad).bind fun(b,f,g,h,k,y)=>
if(Ba y 0)then
some (0,0,0,0,0,0,([]:LI),y)
else
if((o==([]:LB)) !=(geq b 1))then
some (0,0,0,0,0,0,([]:LI),26)
else
if(o !=([]:LB))then
if(Bv (Ac a) (Ae (Ae m 22) 8))then
some (0,0,0,0,0,0,([]:LI),24)
else
(Ca a (Ae m 22) (Ae (Ae m 22) 8)).bind fun ae=>
(Agd ae o).bind fun(af,aa)=>
if(Ba aa 0)then
some (0,0,0,0,0,0,([]:LI),aa)
else
if(!af)then
some (0,0,0,0,0,0,([]:LI),26)
else
j2 a b f g h k (Ae (Ae m 22) 8)
else
j2 a b f g h k (Ae m 22)
def seekto_Open:=Abc Se
abbrev Fz:=Option (LI×Int)
def Ax7(f:LI):Fz:=
some (f,0)
def Aj2:=Ax7
def Amy(bk6:Int→Int→LI→Fz)(a:LI)(b g h:Int)(k:LI):Fz:=
bk6 (Ae b 1) (Ae g h) k
def Ac2 bk6:=Amy bk6
def Tp(j8:Int→Int→Int→LI→Fz)(j10:LI→Fz)(a:LI)(b g:Int)(f:LI):Fz:=
if(Bv b (Ac a))then
(getI a b).bind fun h=>
(Dx f ([(Ae g h)]:LI)).bind fun k=>
j8 b g h k
else
j10 f
def Ki(a:LI):Nat→Int→Int→LI→Fz
|0,_,_,_=>none
|q+1,b,g,f=>Tp (Ac2 (Ki a q) a) Aj2 a b g f
def Amb a:=Ki a Am
def Acw(j6:LI→Int→Int→LI→Fz)(a:LI):Fz:=
(Ly a).bind fun m=>
if(Ba m 0)then
some (([]:LI),m)
else
j6 a 0 0 ([(0:Int)]:LI)
def Adl:=Acw Amb
def Aa2(a:LB):Option (LB×Int):=
if(Bv (Ac a) 5)then
some (([]:LB),24)
else
if(Ff (Ac a) 41254)then
some (([]:LB),4)
else
(Ca a 0 (Ah (Ac a) 4)).bind fun f=>
(Tv f).bind fun(g,b)=>
if(Ba b 0)then
some (([]:LB),b)
else
(Ca a (Ah (Ac a) 4) (Ac a)).bind fun h=>
(Aqv h).bind fun(k,m)=>
if((Ba m 0)||(Ba k (Ad g:UInt64)))then
some (([]:LB),22)
else
(Ca a 0 (Ah (Ac a) 4)).bind fun n=>
some (n,0)
def Bij(a:LB):Option (LB×Int×Int):=
if(Ff (Ac a) 41250)then
some (([]:LB),0,4)
else
(Ez a).bind fun b=>
some (b,(Ay 8 (Ac a)),0)
def Bmy(g:UInt64):Option UInt64:=
some g
def Azx:=Bmy
def Arh(j6:UInt64→Option UInt64)(bk4:UInt64→Int→Option UInt64)(b f:Int)(h:LB)(k:Int)(g:UInt64)(a:Int):Option UInt64:=
if(Bv a f)then
(getI h (Bir (Ae b a) (GI.toZ (3:UInt64)).toNat)).bind fun m=>
(Gs (Kl (Dg (Ae b a) 7) 0)).bind fun _=>
(Gs (Kl (Dj (Ah f a) (Ah 8 (Dg (Ae b a) 7))) 0)).bind fun _=>
(Gs (Kl a 0)).bind fun _=>
bk4 (gor g (Cn (Ad (Dg (Bn m (GI.toZ (Dg (Ae b a) 7)).toNat) (Ah (Cn (1:UInt8) (GI.toZ (Dj (Ah f a) (Ah 8 (Dg (Ae b a) 7)))).toNat) 1)):UInt64) (GI.toZ a).toNat)) (Ae a (Dj (Ah f a) (Ah 8 (Dg (Ae b a) 7))))
else
j6 g
def Ad6(b f:Int)(h:LB)(k:Int):Nat→UInt64→Int→Option UInt64
|0,_,_=>none
|q+1,g,a=>Arh Azx (Ad6 b f h k q) b f h k g a
def Azz b f h k:=Ad6 b f h k Am
def Azu(j4:Int→Int→LB→Int→UInt64→Int→Option UInt64)(h:LB)(k b f:Int):Option UInt64:=
j4 b f h k 0 0
def Awz:=Azu Azz
abbrev Ec:=Option (LB×Int×Int)
def Axk(o:Int)(p:LB):Ec:=
some (p,o,0)
def Aod:=Axk
def Axx(bk27:Int→Int→LB→Ec)(a:Int)(g:LB)(f b h:Int)(u:LB):Ec:=
bk27 (Ae b 64) h u
def Agr bk27:=Axx bk27
def Aw7(bk44:UInt64→Int→Int→LB→Ec)(a b:Int)(g:LB)(f:Int)(k n:UInt64)(m h:Int)(w:LB):Ec:=
(Gs (Kl (Dj m (Ah 8 (Dg h 7))) 0)).bind fun _=>
bk44 (Bn n (GI.toZ (Dj m (Ah 8 (Dg h 7)))).toNat) (Ah m (Dj m (Ah 8 (Dg h 7)))) (Ae h (Dj m (Ah 8 (Dg h 7)))) w
def Aob bk44:=Aw7 bk44
def Am8(j48:UInt64→Int→Int→LB→Ec)(a b:Int)(g:LB)(f:Int)(k n:UInt64)(m h:Int)(v:LB):Ec:=
(getI v (Ah (Ac v) 1)).bind fun _=>
(Gs (Kl (Dj m (Ah 8 (Dg h 7))) 0)).bind fun _=>
(Gs (Kl (Dg h 7) 0)).bind fun _=>
(getI v (Ah (Ac v) 1)).bind fun aa=>
(getI v (Ah (Ac v) 1)).bind fun _=>
Option.bind (Jl v (Ah (Ac v) 1) (gor aa (Cn (Ad (Dg n (Ah (Cn (1:UInt64) (GI.toZ (Dj m (Ah 8 (Dg h 7)))).toNat) 1)):UInt8) (GI.toZ (Dg h 7)).toNat))) fun w=>
j48 n m h w
def Agl bk44 a b g f k:=Am8 (Aob bk44 a b g f k) a b g f k
def Agj(j47:UInt64→Int→Int→LB→Ec)(j50:Int→Int→LB→Ec)(a:Int)(g:LB)(f b:Int)(k n:UInt64)(m h:Int)(u:LB):Ec:=
if(Ff m 0)then
if(geq (Dg h 7) 0)then
(Dx u ([(0:UInt8)]:LB)).bind fun ab=>
j47 n m h ab
else
j47 n m h u
else
j50 b h u
def Md(bk27:Int→Int→LB→Ec)(a:Int)(g:LB)(f b:Int)(k:UInt64):Nat→UInt64→Int→Int→LB→Ec
|0,_,_,_,_=>none
|q+1,n,m,h,u=>Agj (Agl (Md bk27 a g f b k q) a b g f k) (Agr bk27 a g f) a g f b k n m h u
def Aof bk27 a g f b k:=Md bk27 a g f b k Am
def Anb(j44:Int→UInt64→UInt64→Int→Int→LB→Ec)(j52:Int→LB→Ec)(a:Int)(g:LB)(f b o:Int)(p:LB):Ec:=
if(Bv b a)then
(Awz g f b (Dj 64 (Ah a b))).bind fun k=>
j44 b k k (Dj 64 (Ah a b)) o p
else
j52 o p
def Tt(a:Int)(g:LB)(f:Int):Nat→Int→Int→LB→Ec
|0,_,_,_=>none
|q+1,b,o,p=>Anb (Aof (Tt a g f q) a g f) Aod a g f b o p
def Ano a g f:=Tt a g f Am
def Ar1(j27:Int→LB→Int→Int→Int→LB→Ec)(g:LB)(f y a:Int):Ec:=
(Ii g f).bind fun ac=>
if(Ba ac 0)then
some (([]:LB),0,8)
else
if(((Bv y 0)||(Ff y a))||(Ff a f))then
some (([]:LB),0,2)
else
j27 a g f y 0 ([]:LB)
def Ass:=Ar1 Ano
def Yv(g:LB)(b f a:Int):Option (UInt64×Int):=
(Ii g b).bind fun h=>
if(Ba h 0)then
some (0,8)
else
if(((Bv a 0)||(Ff a 64))||(Bv f 0))then
some (0,2)
else
if(Ff f (Ah b a))then
some (0,24)
else
(Awz g b f a).bind fun k=>
some (k,0)
def Fh(a:UInt64):Option Int:=
if(geq a 0)then
some 64
else
(getI ([(0:UInt8),(1:UInt8),(56:UInt8),(2:UInt8),(57:UInt8),(49:UInt8),(28:UInt8),(3:UInt8),(61:UInt8),(58:UInt8),(42:UInt8),(50:UInt8),(38:UInt8),(29:UInt8),(17:UInt8),(4:UInt8),(62:UInt8),(47:UInt8),(59:UInt8),(36:UInt8),(45:UInt8),(43:UInt8),(51:UInt8),(22:UInt8),(53:UInt8),(39:UInt8),(33:UInt8),(30:UInt8),(24:UInt8),(18:UInt8),(12:UInt8),(5:UInt8),(63:UInt8),(55:UInt8),(48:UInt8),(27:UInt8),(60:UInt8),(41:UInt8),(37:UInt8),(16:UInt8),(46:UInt8),(35:UInt8),(44:UInt8),(21:UInt8),(52:UInt8),(32:UInt8),(23:UInt8),(11:UInt8),(54:UInt8),(26:UInt8),(40:UInt8),(15:UInt8),(34:UInt8),(20:UInt8),(31:UInt8),(10:UInt8),(25:UInt8),(14:UInt8),(19:UInt8),(9:UInt8),(13:UInt8),(8:UInt8),(7:UInt8),(6:UInt8)]:LB) (GI.toZ (Bn (Ay (Dg a (Ax6 a)) 285870213051353865) (GI.toZ (58:UInt64)).toNat))).bind fun b=>
some (Ad b:Int)
abbrev Hb:=Option (Int×Int×Int)
def Bfm:Hb:=
some (0,0,24)
def Asp:=Bfm
def Aus(j10:Hb):Hb:=
j10
def Aua:=Aus Asp
def Ak6(j9:Hb)(f a:Int):Hb:=
if(geq f 48)then
some (f,(Ae 0 (Ae a f)),0)
else
j9
def Akx:=Ak6 Aua
def Alk(j8:Int→Int→Hb)(f b a:Int):Hb:=
if(Bv f (Dj 48 (Ah b a)))then
some (f,(Ae (Ae (0:Int) (1:Int)) (Ae a f)),0)
else
j8 f a
def Alh:=Alk Akx
def All(j7:Int→Int→Int→Hb)(h:Int)(k:UInt64)(a:Int)(g:LB)(b:Int):Hb:=
if(Ba h 0)then
some (0,0,h)
else
(Fh (Bc0 k)).bind fun f=>
j7 f b a
def Alf:=All Alh
def Vo(j6:Int→UInt64→Int→LB→Int→Hb)(g:LB)(b a:Int):Hb:=
(Ii g b).bind fun m=>
if(Ba m 0)then
some (0,0,m)
else
if(Bv a 0)then
some (0,0,2)
else
if(Kl a b)then
some (0,0,24)
else
(
(
(Yv g b a (Dj 48 (Ah b a))).bind fun(k,h)=>
j6 h k a g b))
def Acs:=Vo Alf
abbrev Ap9:=Option (UInt32×Int×Int)
def Anm(a b f:Int)(g:LB)(h k:Int):Ap9:=
(Yv g h b k).bind fun(m,n)=>
if(Ba n 0)then
some (0,0,n)
else
if(Bv f 48)then
(Gs (Kl a 0)).bind fun _=>
some ((gor (Cn (Ad f:UInt32) (GI.toZ a).toNat) (Ad m:UInt32)),(Ae b k),0)
else
(Agc (Ad m:UInt32) a).bind fun u=>
if(!u)then
some (0,0,12)
else
some ((Ad m:UInt32),(Ae b k),0)
def Agf:=Anm
def Aoa(j2:Int→Int→Int→LB→Int→Int→Ap9)(g:LB)(h v a:Int):Ap9:=
(Ii g h).bind fun o=>
if(Ba o 0)then
some (0,0,o)
else
if((Bv a 0)||(Ff a 24))then
some (0,0,2)
else
(Acs g h v).bind fun(f,b,p)=>
if(Ba p 0)then
some (0,0,p)
else
if(geq f 48)then
j2 a b f g h 32
else
j2 a b f g h a
def Atg:=Aoa Agf
abbrev Iu:=Option (UInt32×Int×Int×Int×UInt64×UInt64×Int)
def At8(f:UInt32)(k w m:Int)(a n:UInt64):Iu:=
some (f,k,w,m,(Ae a (Ah (Ad f:UInt64) (Bn a (GI.toZ (4:UInt64)).toNat))),n,0)
def Ak3:=At8
def Aor(j10:UInt32→Int→Int→Int→UInt64→UInt64→Iu)(f:UInt32)(k m:Int)(a n:UInt64)(w:Int):Iu:=
j10 f k w m a n
def Am3:=Aor Ak3
def Aog(j9:UInt32→Int→Int→UInt64→UInt64→Int→Iu)(f:UInt32)(k b:Int)(a:UInt64)(m:Int)(n:UInt64):Iu:=
if(Ff b 0)then
(Gs (Kl b 0)).bind fun _=>
if(Bv (Ae a (Ah (Ad f:UInt64) (Bn a (GI.toZ (4:UInt64)).toNat))) (Cn (16:UInt64) (GI.toZ b).toNat))then
j9 f k m a n (Ah b 1)
else
if(Bv b 24)then
(Gs (Kl b 0)).bind fun _=>
if(Ff (Ae a (Ah (Ad f:UInt64) (Bn a (GI.toZ (4:UInt64)).toNat))) (Cn (32:UInt64) (GI.toZ b).toNat))then
j9 f k m a n (Ae b 1)
else
j9 f k m a n b
else
j9 f k m a n b
else
if(Bv b 24)then
(Gs (Kl b 0)).bind fun _=>
if(Ff (Ae a (Ah (Ad f:UInt64) (Bn a (GI.toZ (4:UInt64)).toNat))) (Cn (32:UInt64) (GI.toZ b).toNat))then
j9 f k m a n (Ae b 1)
else
j9 f k m a n b
else
j9 f k m a n b
def Yt:=Aog Am3
def Anw(j8:UInt32→Int→Int→UInt64→Int→UInt64→Iu)(b h:Int)(a g:UInt64)(f:UInt32)(k:Int):Iu:=
(Ac9 b h a g f).bind fun(ad,o)=>
if(geq ad 1)then
if(Ff h 0)then
(Gs (Kl h 0)).bind fun _=>
if(Bv (Ae g (Ah (Ad o:UInt64) (Bn g (GI.toZ (4:UInt64)).toNat))) (Cn (16:UInt64) (GI.toZ h).toNat))then
j8 f k b a (Ah h 1) (Ae g (Ah (Ad o:UInt64) (Bn g (GI.toZ (4:UInt64)).toNat)))
else
if(Bv h 24)then
(Gs (Kl h 0)).bind fun _=>
if(Ff (Ae g (Ah (Ad o:UInt64) (Bn g (GI.toZ (4:UInt64)).toNat))) (Cn (32:UInt64) (GI.toZ h).toNat))then
j8 f k b a (Ae h 1) (Ae g (Ah (Ad o:UInt64) (Bn g (GI.toZ (4:UInt64)).toNat)))
else
j8 f k b a h (Ae g (Ah (Ad o:UInt64) (Bn g (GI.toZ (4:UInt64)).toNat)))
else
j8 f k b a h (Ae g (Ah (Ad o:UInt64) (Bn g (GI.toZ (4:UInt64)).toNat)))
else
if(Bv h 24)then
(Gs (Kl h 0)).bind fun _=>
if(Ff (Ae g (Ah (Ad o:UInt64) (Bn g (GI.toZ (4:UInt64)).toNat))) (Cn (32:UInt64) (GI.toZ h).toNat))then
j8 f k b a (Ae h 1) (Ae g (Ah (Ad o:UInt64) (Bn g (GI.toZ (4:UInt64)).toNat)))
else
j8 f k b a h (Ae g (Ah (Ad o:UInt64) (Bn g (GI.toZ (4:UInt64)).toNat)))
else
j8 f k b a h (Ae g (Ah (Ad o:UInt64) (Bn g (GI.toZ (4:UInt64)).toNat)))
else
j8 f k b a h g
def Agk:=Anw Yt
def Anh(j7:Int→Int→UInt64→UInt64→UInt32→Int→Iu)(p:Int)(u:LB)(v b h:Int)(a g:UInt64):Iu:=
(Yv u v p 1).bind fun(ae,aa)=>
if(Ba aa 0)then
some (0,0,0,0,0,0,aa)
else
if(geq ae 0)then
(Yv u v (Ae p 1) b).bind fun(af,ab)=>
if(Ba ab 0)then
some (0,0,0,0,0,0,ab)
else
j7 b h a g (Ad af:UInt32) (Ae (Ae p 1) b)
else
(Atg u v (Ae p 1) h).bind fun(y,ag,ac)=>
if(Ba ac 0)then
some (0,0,0,0,0,0,ac)
else
(Gs (Kl b 0)).bind fun _=>
if(Bv (Ae y (Cn (1:UInt32) (GI.toZ b).toNat)) y)then
some (0,0,0,0,0,0,12)
else
j7 b h a g (Ae y (Cn (1:UInt32) (GI.toZ b).toNat)) ag
def Am2:=Anh Agk
def Am7(j6:Int→LB→Int→Int→Int→UInt64→UInt64→Iu)(u:LB)(v p b h:Int)(a g:UInt64):Iu:=
(Ii u v).bind fun ah=>
if(Ba ah 0)then
some (0,0,0,0,0,0,8)
else
(Ag1 b h a g).bind fun ai=>
if(Ba ai 0)then
some (0,0,0,0,0,0,8)
else
j6 p u v b h a g
def Acy:=Am7 Am2
abbrev Bj:=Option (LU×Int×Int)
def Awc(k:Int)(m:LU):Bj:=
some (m,k,0)
def Aih:=Awc
def Aia(bk16:Int→Int→(List (Int×Int×UInt64×UInt64×Unit))→LU→Bj)(a f:Int)(g:LB)(b k v:Int)(w:UInt32)(h:Int)(ag:List (Int×Int×UInt64×UInt64×Unit))(m:LU):Bj:=
(Dx m ([w]:LU)).bind fun ak=>
bk16 (Ae k v) (Ae h 1) ag ak
def Ws bk16:=Aia bk16
def Ox(j22:Int→Int→UInt32→Int→(List (Int×Int×UInt64×UInt64×Unit))→LU→Bj)(a f:Int)(g:LB)(b k h y:Int)(w:UInt32)(v:Int)(n:List (Int×Int×UInt64×UInt64×Unit))(m:LU)(aa ab:Int)(ac ad:UInt64):Bj:=
if(Ba y 0)then
some (([]:LU),0,y)
else
(Gs (Ba a 0)).bind fun _=>
(getI n (Ey h a)).bind fun _=>
(Jl n (Ey h a) (aa,ab,ac,ad,())).bind fun ag=>
j22 k v w h ag m
def Ou bk16 a f g b:=Ox (Ws bk16 a f g b) a f g b
def Pd(j21:Int→Int→Int→UInt32→Int→(List (Int×Int×UInt64×UInt64×Unit))→LU→Int→Int→UInt64→UInt64→Bj)(j24:Int→LU→Bj)(a f:Int)(g:LB)(b k h:Int)(n:List (Int×Int×UInt64×UInt64×Unit))(m:LU):Bj:=
if(Bv h (Ay f a))then
(Ass g b k (Dj (Ae k 81) b)).bind fun(ah,ae,af)=>
if(Ba af 0)then
some (([]:LU),0,af)
else
(Gs (Ba a 0)).bind fun _=>
(getI n (Ey h a)).bind fun _=>
(
(
(getI n (Ey h a)).bind fun p=>
(
(Acy ah ae 0 p.1 p.2.1 p.2.2.1 p.2.2.2.1).bind fun(w,v,aa,ab,ac,ad,y)=>
j21 k h y w v n m aa ab ac ad)))
else
j24 k m
def Kv(a f:Int)(g:LB)(b:Int):Nat→Int→Int→(List (Int×Int×UInt64×UInt64×Unit))→LU→Bj
|0,_,_,_,_=>none
|q+1,k,h,n,m=>Pd (Ou (Kv a f g b q) a f g b) Aih a f g b k h n m
def Ahy a f g b:=Kv a f g b Am
def Ahx(j16:Int→Int→LB→Int→Int→Int→(List (Int×Int×UInt64×UInt64×Unit))→LU→Bj)(a f:Int)(g:LB)(b:Int)(o:List (Int×Int×UInt64×UInt64×Unit)):Bj:=
j16 a f g b 0 0 o ([]:LU)
def Wr:=Ahx Ahy
def Aix(j15:Int→Int→LB→Int→(List (Int×Int×UInt64×UInt64×Unit))→Bj)(bk13:Int→(List (Int×Int×UInt64×UInt64×Unit))→Bj)(a f:Int)(g:LB)(b u:Int)(o:List (Int×Int×UInt64×UInt64×Unit)):Bj:=
if(Bv u 6)then
(Avn).bind fun(al,ae,af,am)=>
(getI o u).bind fun _=>
(Jl o u (al,ae,af,am,())).bind fun an=>
bk13 (Ae u 1) an
else
j15 a f g b o
def Xd(a f:Int)(g:LB)(b:Int):Nat→Int→(List (Int×Int×UInt64×UInt64×Unit))→Bj
|0,_,_=>none
|q+1,u,o=>Aix Wr (Xd a f g b q) a f g b u o
def Pe a f g b:=Xd a f g b Am
def Aam(j13:Int→Int→LB→Int→Int→(List (Int×Int×UInt64×UInt64×Unit))→Bj)(a f:Int)(g:LB)(b:Int):Bj:=
j13 a f g b 0 (List.replicate 6 ((0:Int),(0:Int),(0:UInt64),(0:UInt64),()))
def Aah:=Aam Pe
def Tz(a:UInt32):Option Int32:=
some (To (Ad (Bn a (GI.toZ (1:UInt64)).toNat):Int32) (Ax6 (Ad (Dg a 1):Int32)))
def Ar2(b:Int)(f g:LX)(a:Int32):Option (Int32×Int×LX×LX×Int):=
(Ahp b f g).bind fun(h,k)=>
if(Ba k 0)then
some (0,0,(List.replicate 16 (0:Int32)),(List.replicate 16 (0:Int32)),k)
else
(Ana b f g (Ae a h) a).bind fun(m,n,o)=>
some ((Ae a h),m,n,o,0)
def Jn(a:Int)(b:Int32)(f:Int)(g h:LX)(o:Int32):Option (Int32×Int×Int32×Int×LX×LX×Int):=
(So a b f g h).bind fun k=>
if(Ba k 0)then
some (0,0,0,0,(List.replicate 16 (0:Int32)),(List.replicate 16 (0:Int32)),k)
else
(Sy a b).bind fun(m,y)=>
(Ar2 f g h o).bind fun(n,p,u,v,w)=>
(
some ((Ae n m),a,(Ae n m),p,u,v,w))
abbrev Fl:=Option (LX×Int)
def Bj5(f:LX):Fl:=
some (f,0)
def Aw1:=Bj5
def Axu(bk12:Int→LX→Fl)(b a:Int)(h:LX):Fl:=
bk12 (Ae a b) h
def An4 bk12:=Axu bk12
def Agg(j20:Int→LX→Fl)(bk18:Int→LX→Fl)(b a g:Int)(h:LX):Fl:=
if(Kl g 0)then
(Gs (decide (0≤(Ae g 1)∧(Ae g 1)<((Ae a b)-a)))).bind fun _=>
(Gs (decide (0≤g∧g<((Ae a b)-a)))).bind fun _=>
(getI h (a+(Ae g 1))).bind fun o=>
(getI h (a+g)).bind fun p=>
(Gs (decide (0≤g∧g<((Ae a b)-a)))).bind fun _=>
(Jl h (a+g) (Ah o p)).bind fun u=>
bk18 (Ah g 1) u
else
j20 a h
def Tx(bk12:Int→LX→Fl)(b a:Int):Nat→Int→LX→Fl
|0,_,_=>none
|q+1,g,h=>Agg (An4 bk12 b) (Tx bk12 b a q) b a g h
def Anc bk12 b a:=Tx bk12 b a Am
def An2(j18:Int→Int→LX→Fl)(b a:Int)(k:LX):Fl:=
j18 a (Ah (Ah ((Ae a b)-a) 1) 1) k
def Agm bk12 b:=An2 (Anc bk12 b) b
def Anx(j17:Int→LX→Fl)(j22:LX→Fl)(b a:Int)(f:LX):Fl:=
if(Bv a (Ac f))then
(vwI (Ac f) a (Ae a b)).bind fun _=>
if(Ff (Ah ((Ae a b)-a) 1) 0)then
(Gs (decide (0≤(Ah ((Ae a b)-a) 1)∧(Ah ((Ae a b)-a) 1)<((Ae a b)-a)))).bind fun _=>
Option.bind (Gs (decide (0≤(Ah (Ah ((Ae a b)-a) 1) 1)∧(Ah (Ah ((Ae a b)-a) 1) 1)<((Ae a b)-a)))) fun _=>
(getI f (a+(Ah ((Ae a b)-a) 1))).bind fun v=>
(getI f (a+(Ah (Ah ((Ae a b)-a) 1) 1))).bind fun w=>
(Gs (decide (0≤(Ah ((Ae a b)-a) 1)∧(Ah ((Ae a b)-a) 1)<((Ae a b)-a)))).bind fun _=>
(Jl f (a+(Ah ((Ae a b)-a) 1)) (Ae v (Bf w 2))).bind fun y=>
j17 a y
else
j17 a f
else
j22 f
def Oj(b:Int):Nat→Int→LX→Fl
|0,_,_=>none
|q+1,a,f=>Anx (Agm (Oj b q) b) Aw1 b a f
def Ans b:=Oj b Am
def Ark(j12:Int→Int→LX→Fl)(b:Int)(m:LX):Fl:=
(Ami b m).bind fun n=>
if(Ba n 0)then
some (([]:LX),n)
else
(Dt m).bind fun aa=>
j12 b 0 aa
def Awk:=Ark Ans
abbrev Bm:=Option (LX×Int)
def Aga(a b:Int)(k:LX):Bm:=
(Awk a k).bind fun(ah,af)=>
if(Ba af 0)then
some (([]:LX),af)
else
(Ti b ah).bind fun ae=>
if(Ba ae 0)then
some (([]:LX),ae)
else
some (ah,0)
def Jw:=Aga
def Afx(bk13:Int→(List (Int×Int32×(Int×LX×LX×Unit)×Unit))→LX→Bm)(a:Int)(f:LU)(b g:Int)(w:Int32)(u:Int)(h:List (Int×Int32×(Int×LX×LX×Unit)×Unit))(k:LX)(y:Int)(v:Int32)(aa:Int)(ab ac:LX):Bm:=
if(Ba u 0)then
some (([]:LX),u)
else
(Jl h (Ey g a) (y,v,(aa,ab,ac,()),())).bind fun ai=>
(Dx k ([w]:LX)).bind fun aj=>
bk13 (Ae g 1) ai aj
def Ur bk13:=Afx bk13
def Jt(j16:Int→Int32→Int→(List (Int×Int32×(Int×LX×LX×Unit)×Unit))→LX→Int→Int32→Int→LX→LX→Bm)(j18:Int→Int→LX→Bm)(f:LU)(a b g:Int)(h:List (Int×Int32×(Int×LX×LX×Unit)×Unit))(k:LX):Bm:=
if(Bv g (Ac f))then
(getI f g).bind fun ag=>
(Gs (Ba a 0)).bind fun _=>
(getI h (Ey g a)).bind fun _=>
(
(getI h (Ey g a)).bind fun m=>
(
(Tz ag).bind fun ae=>
(
(Jn m.1 m.2.1 m.2.2.1.1 m.2.2.1.2.1 m.2.2.1.2.2.1 ae).bind fun(w,y,v,aa,ab,ac,u)=>
j16 g w u h k y v aa ab ac)))
else
j18 a b k
def Hf(f:LU)(a b:Int):Nat→Int→(List (Int×Int32×(Int×LX×LX×Unit)×Unit))→LX→Bm
|0,_,_,_=>none
|q+1,g,h,k=>Jt (Ur (Hf f a b q) a f b) Jw f a b g h k
def Af4 f a b:=Hf f a b Am
def Af5(j13:LU→Int→Int→Int→(List (Int×Int32×(Int×LX×LX×Unit)×Unit))→LX→Bm)(f:LU)(a b:Int)(n:List (Int×Int32×(Int×LX×LX×Unit)×Unit)):Bm:=
j13 f a b 0 n ([]:LX)
def Uu:=Af5 Af4
def Af7(j12:LU→Int→Int→(List (Int×Int32×(Int×LX×LX×Unit)×Unit))→Bm)(bk10:Int→(List (Int×Int32×(Int×LX×LX×Unit)×Unit))→Bm)(f:LU)(a b:Int)(o:LX)(p:Int)(n:List (Int×Int32×(Int×LX×LX×Unit)×Unit)):Bm:=
if(Bv p 6)then
(Azf b o).bind fun(ak,af,ae,al,am,v)=>
(getI n p).bind fun _=>
(Jl n p (ak,af,(ae,al,am,()),())).bind fun an=>
bk10 (Ae p 1) an
else
j12 f a b n
def Um(f:LU)(a b:Int)(o:LX):Nat→Int→(List (Int×Int32×(Int×LX×LX×Unit)×Unit))→Bm
|0,_,_=>none
|q+1,p,n=>Af7 Uu (Um f a b o q) f a b o p n
def Mw f a b o:=Um f a b o Am
def Wx(j10:LU→Int→Int→LX→Int→(List (Int×Int32×(Int×LX×LX×Unit)×Unit))→Bm)(a b:Int)(o:LX)(f:LU):Bm:=
j10 f a b o 0 (List.replicate 6 ((0:Int),(0:Int32),((0:Int),(List.replicate 16 (0:Int32)),(List.replicate 16 (0:Int32)),()),()))
def Ph:=Wx Mw
def deframe_Decode(a h:Int)(u:LX)(f:Int)(v:LB):Option (LX×Int):=
(Ik a h).bind fun k=>
if(Ba k 0)then
some (([]:LX),k)
else
if(Bv f 1)then
some (([]:LX),2)
else
(Gs (Ba a 0)).bind fun _=>
if(Ff f (Bf 4000 a))then
some (([]:LX),2)
else
(Aa2 v).bind fun(w,m)=>
if(Ba m 0)then
some (([]:LX),m)
else
(Bij w).bind fun(n,b,o)=>
if(Ba o 0)then
some (([]:LX),o)
else
(Aah a f n b).bind fun(y,g,p)=>
if(Ba p 0)then
some (([]:LX),p)
else
if(Kl (Ah b g) 8)then
some (([]:LX),12)
else
(Yv n b g (Ah b g)).bind fun(aa,ab)=>
if((Ba ab 0)||(Ba aa 0))then
some (([]:LX),12)
else
(Ph a h u y).bind fun(ac,ad)=>
some (ac,ad)
abbrev Ck:=Option (LB×Int)
def Bbh(g:LB):Ck:=
some (g,0)
def Aox:=Bbh
def Ao8(bk16:Int→LB→Ck)(b:Int)(a:LX)(f:Int)(h:LB):Ck:=
bk16 (Ae f 1) h
def Afv bk16:=Ao8 bk16
def Wd(j28:Int→LB→Ck)(bk26:Int→LB→Ck)(b:Int)(a:LX)(k:Int32)(f m:Int)(h:LB):Ck:=
if(Bv m (Bf b 8))then
(Gs (Kl (Ay 8 m) 0)).bind fun _=>
(Dx h ([(Ad (Bn k (GI.toZ (Ay 8 m)).toNat):UInt8)]:LB)).bind fun p=>
bk26 (Ae m 1) p
else
j28 f h
def Hi(bk16:Int→LB→Ck)(b:Int)(a:LX)(k:Int32)(f:Int):Nat→Int→LB→Ck
|0,_,_=>none
|q+1,m,h=>Wd (Afv bk16 b a) (Hi bk16 b a k f q) b a k f m h
def Afi bk16 b a k f:=Hi bk16 b a k f Am
def Afh(j26:Int32→Int→Int→LB→Ck)(b:Int)(a:LX)(f:Int)(g:LB)(k:Int32):Ck:=
j26 k f 0 g
def Jp bk16 b a:=Afh (Afi bk16 b a) b a
def Wb(j25:Int→LB→Int32→Ck)(j30:LB→Ck)(b:Int)(a:LX)(f:Int)(g:LB):Ck:=
if(Bv f (Ac a))then
(getI a f).bind fun n=>
if(geq b 8)then
j25 f g (Ae n 128)
else
j25 f g n
else
j30 g
def Ew(b:Int)(a:LX):Nat→Int→LB→Ck
|0,_,_=>none
|q+1,f,g=>Wb (Jp (Ew b a q) b a) Aox b a f g
def Ao2 b a:=Ew b a Am
def Ahb(j16:Int→LX→Int→LB→Ck)(b:Int)(a:LX):Ck:=
(Ti b a).bind fun o=>
if(Ba o 0)then
some (([]:LB),o)
else
j16 b a 0 ([]:LB)
def width_Bytes:=Ahb Ao2
abbrev Dn:=Option (LB×Int)
def Bbf(a ac:Int):Dn:=
if(Ba ac 0)then
some (([]:LB),ac)
else
if((Bv a 0)||(Kl a 0))then
some (([]:LB),2)
else
none
def Apg:=Bbf
def Azq(ad:Int)(ae:LB):Dn:=
some (ae,ad)
def Ac5:=Azq
def Afb(j10:Int→LB→Dn)(w a h b:Int)(aa:LX)(n o p k:Int)(m:LB)(u:LX)(v f g:LI):Dn:=
if(Ba w 0)then
j10 w ([]:LB)
else
(width_Bytes b aa).bind fun(ak,al)=>
j10 al ak
def Afj:=Afb Ac5
def Afo(j10:Int→LB→Dn)(j9:Int→Int→Int→Int→LX→Int→Int→Int→Int→LB→LX→LI→LI→LI→Dn)(a k ab y:Int)(m:LB)(h b:Int)(u:LX)(n o p:Int)(g v f:LI):Dn:=
if(Ff (Ae k y) (Ac m))then
j10 24 ([]:LB)
else
(getI g a).bind fun _=>
(Ca m (Ae k ab) (Ae k y)).bind fun am=>
(getI g a).bind fun an=>
(deframe_Decode h b u an am).bind fun(aa,w)=>
j9 w a h b aa n o p k m u v f g
def Afm:=Afo Ac5 Afj
def Aft(j8:Int→Int→Int→Int→LB→Int→Int→LX→Int→Int→Int→LI→LI→LI→Dn)(a:Int)(g:LI)(n h b o p k:Int)(m:LB)(u:LX)(v f:LI):Dn:=
if(Ba (0:Int) (0:Int))then
some (([]:LB),0)
else
if((Bv a 0)||(Kl a (Ac g)))then
some (([]:LB),2)
else
(getI f a).bind fun _=>
(getI f (Ae a 1)).bind fun _=>
(getI f a).bind fun ab=>
(getI f (Ae a 1)).bind fun y=>
j8 a k ab y m h b u n o p g v f
def Pg:=Aft Afm
def Afl(j6:Int→Int→Dn)(j7:Int→LI→Int→Int→Int→Int→Int→Int→LB→LX→LI→LI→Dn)(m af:LB)(a:Int):Dn:=
(seekto_Open m af).bind fun(n,h,b,o,p,k,v,ag)=>
if(Ba ag 0)then
j6 a ag
else
(Kg n h b o p).bind fun(g,ah)=>
if(Ba ah 0)then
j6 a ah
else
(Adl v).bind fun(f,ai)=>
if(Ba ai 0)then
j6 a ai
else
(Xu af).bind fun(u,aj)=>
if(Ba aj 0)then
j6 a aj
else
(getI f (Ac g)).bind fun _=>
(getI f (Ac g)).bind fun ao=>
j7 a g n h b o p k m u v f
def Lz:=Afl Apg Pg
abbrev Bq:=Option (LX×Int)
def Axp(g:LX):Bq:=
some (g,0)
def Ajp:=Axp
def Rm(bk16:Int→LX→Bq)(a:Int)(b:LB)(f:Int)(m:LX):Bq:=
bk16 (Ae f (Bf a 8)) m
def Hc bk16:=Rm bk16
def Ra(j28:Int→LX→Bq)(a:Int)(b:LB)(f:Int)(h:Int32)(g:LX):Bq:=
(Gs (Kl (Ah 32 a) 0)).bind fun _=>
(Gs (Kl (Ah 32 a) 0)).bind fun _=>
(Dx g ([(Bn (Cn h (GI.toZ (Ah 32 a)).toNat) (GI.toZ (Ah 32 a)).toNat)]:LX)).bind fun p=>
j28 f p
def Rc bk16 a b:=Ra (Hc bk16 a b) a b
def Ei(j27:Int→Int32→LX→Bq)(bk25:Int32→Int→Bq)(a:Int)(b:LB)(f:Int)(g:LX)(h:Int32)(k:Int):Bq:=
if(Bv k (Bf a 8))then
(getI b (Ae f k)).bind fun n=>
(Gs (Kl (Ay 8 k) 0)).bind fun _=>
bk25 (gor h (Cn (Ad n:Int32) (GI.toZ (Ay 8 k)).toNat)) (Ae k 1)
else
j27 f h g
def Da(bk16:Int→LX→Bq)(a:Int)(b:LB)(f:Int)(g:LX):Nat→Int32→Int→Bq
|0,_,_=>none
|q+1,h,k=>Ei (Rc bk16 a b) (Da bk16 a b f g q) a b f g h k
def Jb bk16 a b f g:=Da bk16 a b f g Am
def Ee(j28:Int→LX→Bq)(j25:Int→LX→Int32→Int→Bq)(j30:LX→Bq)(a:Int)(b:LB)(f:Int)(g:LX):Bq:=
if(Bv f (Ac b))then
if(geq a 8)then
(getI b f).bind fun n=>
(Dx g ([(Ah (Ad n:Int32) 128)]:LX)).bind fun u=>
j28 f u
else
j25 f g 0 0
else
j30 g
def Cr(a:Int)(b:LB):Nat→Int→LX→Bq
|0,_,_=>none
|q+1,f,g=>Ee (Hc (Cr a b q) a b) (Jb (Cr a b q) a b) Ajp a b f g
def Zx a b:=Cr a b Am
def Acl(j16:Int→LB→Int→LX→Bq)(a:Int)(b:LB):Bq:=
(Sn a).bind fun(v,w,o)=>
if(Ba o 0)then
some (([]:LX),o)
else
(Gs (Ba (Bf a 8) 0)).bind fun _=>
if(Ba (Ey (Ac b) (Bf a 8)) 0)then
some (([]:LX),12)
else
(Gs (Ba (Bf a 8) 0)).bind fun _=>
if(Ff (Bf (Ac b) (Bf a 8)) 4000)then
some (([]:LX),4)
else
j16 a b 0 ([]:LX)
def Pr:=Acl Zx
abbrev Cj:=Option (LI×Int)
def Ajb(ab:Int)(ac:LI):Cj:=
if(Ba ab 0)then
some (([]:LI),ab)
else
some (ac,0)
def Ld:=Ajb
def Ah0(j26:Int→LI→Cj)(a b:LB)(h k g m n o:Int)(p v:LI):Cj:=
j26 0 v
def Ahu:=Ah0 Ld
def Aqm(bk14:Int→LI→Cj)(a b:LB)(f:LI)(h k g m n o:Int)(p:LI)(u:Int)(w:LI):Cj:=
bk14 (Ae u 1) w
def Aid bk14:=Aqm bk14
def Ah9(j26:Int→LI→Cj)(j23:Int→LI→Cj)(a b:LB)(f:LI)(h k g m n o:Int)(p:LI)(u:Int)(w:LI):Cj:=
if(Ba (0:Int) (0:Int))then
j26 0 w
else
j23 u w
def Yr bk14 a b f h k g m n o p:=Ah9 Ld (Aid bk14 a b f h k g m n o p) a b f h k g m n o p
def Aa7(j22:Int→LI→Cj)(a b:LB)(f:LI)(h k g m n o:Int)(p:LI)(u aa y:Int)(v:LI)(ad:LX):Cj:=
if(!(geq y 0))then
(Dx v ([u]:LI)).bind fun ah=>
j22 u ah
else
j22 u v
def Aa0 bk14 a b f h k g m n o p:=Aa7 (Yr bk14 a b f h k g m n o p) a b f h k g m n o p
def Aaz(j26:Int→LI→Cj)(j21:Int→Int→Int→LI→LX→Cj)(j25:LB→LB→Int→Int→Int→Int→Int→Int→LI→LI→Cj)(a b:LB)(f:LI)(h k g m n o:Int)(p:LI)(u:Int)(v:LI):Cj:=
if(Bv u (Ac f))then
(getI f u).bind fun _=>
(getI f u).bind fun aa=>
(Lz a b u).bind fun(ai,y)=>
if(geq y 0)then
(Pr g ai).bind fun(aj,ae)=>
if(Ba ae 0)then
j26 ae v
else
j21 u aa y v aj
else
j21 u aa y v ([]:LX)
else
j25 a b h k g m n o p v
def Kq(a b:LB)(f:LI)(h k g m n o:Int)(p:LI):Nat→Int→LI→Cj
|0,_,_=>none
|q+1,u,v=>Aaz Ld (Aa0 (Kq a b f h k g m n o p q) a b f h k g m n o p) Ahu a b f h k g m n o p u v
def Aqi a b f h k g m n o p:=Kq a b f h k g m n o p Am
def Adi(j26:Int→LI→Cj)(j14:LB→LB→LI→Int→Int→Int→Int→Int→Int→LI→Int→LI→Cj)(a b:LB):Cj:=
(seekto_Open a b).bind fun(h,k,g,m,n,o,p,af)=>
if(Ba af 0)then
j26 af ([]:LI)
else
(Kg h k g m n).bind fun(f,ag)=>
if(Ba ag 0)then
j26 ag ([]:LI)
else
j14 a b f h k g m n o p 0 ([]:LI)
def Rz:=Adi Ld Aqi
def Az3(f:LB):Option (Int×Int×Int×Int×Int×Int×Int×Int×Int×Int×LI×Int):=
if(Ff (Ac f) 100000)then
some (0,0,0,0,0,0,0,0,0,0,([]:LI),4)
else
(Sk f).bind fun(a,n)=>
if(Ba n 0)then
some (0,0,0,0,0,0,0,0,0,0,([]:LI),n)
else
(Ca f a (Ac f)).bind fun u=>
(Aee u).bind fun(b,g,h,k,m,o)=>
if(Ba o 0)then
some (b,g,h,k,m,0,0,0,0,0,([]:LI),o)
else
(Kg b g h k m).bind fun(p,v)=>
if(geq b 2)then
some (b,g,h,k,m,a,(Ae a 22),(Ae (Ae a 22) 8),0,0,p,0)
else
some (b,g,h,k,m,a,(Ae a 22),(Ae a 22),0,0,p,0)
abbrev Av9:=Option (Int×Int)
def Bay(a:LB):Av9:=
(Ca a (Ah (Ac a) 32) (Ac a)).bind fun g=>
(Ags g 0).bind fun(f,y,h)=>
if h then
if(Bv (Ah (Ac a) 32) f)then
some (0,24)
else
some ((Ae f 32),0)
else
(Ca a (Ah (Ac a) 32) (Ac a)).bind fun k=>
(Ags k 2147483648).bind fun(b,m,n)=>
if(!n)then
some (0,12)
else
if(Bv (Ac a) (Ae b 64))then
some (0,24)
else
(Ca a (Ah (Ac a) (Ae b 64)) (Ae (Ah (Ac a) (Ae b 64)) 32)).bind fun o=>
(Att b m 2684354560).bind fun p=>
(Hj o p).bind fun u=>
if(!u)then
some (0,12)
else
some ((Ae b 64),0)
def Arn:=Bay
def Aso(j2:LB→Av9)(a:LB):Av9:=
if(Bv (Ah (Ac a) 32) 0)then
some (0,6)
else
(Ca a (Ah (Ac a) 32) (Ac a)).bind fun v=>
(Jk v ([(65:UInt8),(80:UInt8),(69:UInt8),(84:UInt8),(65:UInt8),(71:UInt8),(69:UInt8),(88:UInt8)]:LB)).bind fun w=>
if(!w)then
some (0,6)
else
j2 a
def Axd:=Aso Arn
abbrev Ep:=Option (Int×Int)
def Azp(a:Int):Ep:=
some (a,0)
def Amm:=Azp
def Amf(bk8:Int→LB→Ep)(a:Int)(g:LB):Ep:=
bk8 (Ae a 1) g
def Acr bk8:=Amf bk8
def Ada(j12:Int→LB→Ep)(a f:Int)(b:LB):Ep:=
if(geq f 0)then
some (0,38)
else
(Ca b 0 (Ah (Ac b) f)).bind fun g=>
j12 a g
def Acp bk8:=Ada (Acr bk8)
def Afq(j11:Int→Int→LB→Ep)(j14:Int→Ep)(a:Int)(b:LB):Ep:=
if(Ff (Ac b) 0)then
(Axd b).bind fun(f,k)=>
j11 a f b
else
j14 a
def Pk:Nat→Int→LB→Ep
|0,_,_=>none
|q+1,a,b=>Afq (Acp (Pk q)) Amm a b
def Aov:=Pk Am
def Afk(j8:Int→LB→Ep)(h:LB):Ep:=
if(Ff (Ac h) 4000)then
some (0,38)
else
j8 0 h
def Agh:=Afk Aov
abbrev Bg:=Option (Int×Int×Int×LX×Int)
def Asm(a:LB)(aa b f h:Int)(ad:LX):Bg:=
(Ca a aa (Ac a)).bind fun aq=>
(Agh aq).bind fun(bb,ar)=>
if(Ba ar 0)then
some (0,0,0,([]:LX),38)
else
some (b,f,h,ad,0)
def Ail:=Asm
def Arz(bk21:Int→Int→LX→Bg)(a:LB)(w:LI)(m b f h o p n g y ab:Int)(ac:LX)(k:LI)(aa aj ak ae:Int)(am ad:LX):Bg:=
if(Ba ak 0)then
some (0,0,0,([]:LX),ak)
else
(Dx ad am).bind fun au=>
bk21 (Ae aa aj) (Ae ae 1) au
def Ah1 bk21:=Arz bk21
def Aay(j24:Int→Int→Int→Int→LX→LX→Bg)(j26:LB→Int→Int→Int→Int→LX→Bg)(a:LB)(w:LI)(m b f h o p n g y ab:Int)(ac:LX)(k:LI)(aa ae:Int)(ad:LX):Bg:=
if(Bv ae (Ac w))then
(getI w ae).bind fun _=>
(getI w ae).bind fun aj=>
if(Bv (Ac a) (Ae aa aj))then
some (0,0,0,([]:LX),24)
else
(getI k ae).bind fun _=>
(Ca a aa (Ae aa aj)).bind fun av=>
(getI k ae).bind fun aw=>
(deframe_Decode b f ac aw av).bind fun(am,ak)=>
j24 aa aj ak ae am ad
else
j26 a aa b f h ad
def Nd(a:LB)(w:LI)(m b f h o p n g y ab:Int)(ac:LX)(k:LI):Nat→Int→Int→LX→Bg
|0,_,_,_=>none
|q+1,aa,ae,ad=>Aay (Ah1 (Nd a w m b f h o p n g y ab ac k q) a w m b f h o p n g y ab ac k) Ail a w m b f h o p n g y ab ac k aa ae ad
def Aqt a w m b f h o p n g y ab ac k:=Nd a w m b f h o p n g y ab ac k Am
def Asb(j21:LB→LI→Int→Int→Int→Int→Int→Int→Int→Int→Int→Int→LX→LI→Int→Int→LX→Bg)(a u:LB)(m b f h o p n g:Int)(k:LI)(an y ab:Int)(w:LI):Bg:=
if(Ba an 0)then
some (0,0,0,([]:LX),an)
else
(Xu u).bind fun(ac,bc)=>
j21 a w m b f h o p n g y ab ac k y 0 ([]:LX)
def Aas:=Asb Aqt
def Aq2(j20:LB→LB→Int→Int→Int→Int→Int→Int→Int→Int→LI→Int→Int→Int→LI→Bg)(a u:LB)(v:LI)(m b f h o p n g af:Int)(k:LI):Bg:=
j20 a u m b f h o p n g k 0 (Ae (Ae g (Ay 4 (Ac v))) 4) af v
def Ary:=Aq2 Aas
def Asj(j19:LB→LB→LI→Int→Int→Int→Int→Int→Int→Int→Int→Int→LI→Bg)(bk17:Int→Int→Bg)(v:LI)(a u:LB)(m b f h o p n g:Int)(k:LI)(ag af:Int):Bg:=
if(Bv ag (Ac v))then
(getI v ag).bind fun _=>
(getI v ag).bind fun ax=>
bk17 (Ae ag 1) (Ae af ax)
else
j19 a u v m b f h o p n g af k
def Aik(v:LI)(a u:LB)(m b f h o p n g:Int)(k:LI):Nat→Int→Int→Bg
|0,_,_=>none
|q+1,ag,af=>Asj Ary (Aik v a u m b f h o p n g k q) v a u m b f h o p n g k ag af
def Asq v a u m b f h o p n g k:=Aik v a u m b f h o p n g k Am
def Arq(j20:LB→LB→Int→Int→Int→Int→Int→Int→Int→Int→LI→Int→Int→Int→LI→Bg)(j17:LI→LB→LB→Int→Int→Int→Int→Int→Int→Int→Int→LI→Int→Int→Bg)(al:Int)(a u:LB)(m b f h o p n g ah ai:Int)(v k:LI):Bg:=
if(Ba al 0)then
j20 a u m b f h o p n g k al ah ai ([]:LI)
else
j17 v a u m b f h o p n g k 0 (Ae (Ae g (Ay 4 (Ac v))) 4)
def Aq7:=Arq Aas Asq
def Asv(j20:LB→LB→Int→Int→Int→Int→Int→Int→Int→Int→LI→Int→Int→Int→LI→Bg)(j16:Int→LB→LB→Int→Int→Int→Int→Int→Int→Int→Int→Int→Int→LI→LI→Bg)(a u:LB)(m b f h o p n g ah ai:Int)(k:LI):Bg:=
if(Bv (Ac a) g)then
j20 a u m b f h o p n g k 24 ah ai ([]:LI)
else
(Ca a g (Ac a)).bind fun ay=>
(Ag8 ay (Ac k)).bind fun(v,al)=>
j16 al a u m b f h o p n g ah ai v k
def Aqp:=Asv Aas Aq7
def As4(j15:LB→LB→Int→Int→Int→Int→Int→Int→Int→Int→Int→Int→LI→Bg)(a u:LB)(m b f h o p n g ah ai:Int)(k:LI)(ao:Int):Bg:=
if(Ba ao 0)then
some (0,0,0,([]:LX),ao)
else
j15 a u m b f h o p n g ah ai k
def Aqs:=As4 Aqp
def Aur(j14:LB→LB→Int→Int→Int→Int→Int→Int→Int→Int→Int→Int→LI→Int→Bg)(a u:LB):Bg:=
if(Ff (Ac u) 64)then
some (0,0,0,([]:LX),2)
else
(Az3 a).bind fun(m,b,f,h,o,p,n,g,ah,ai,k,ap)=>
if(Ba ap 0)then
some (0,0,0,([]:LX),ap)
else
if((u==([]:LB)) !=(geq m 1))then
j14 a u m b f h o p n g ah ai k 26
else
if(geq m 1)then
j14 a u m b f h o p n g ah ai k 0
else
if(Bv (Ac a) g)then
j14 a u m b f h o p n g ah ai k 24
else
(Ca a n g).bind fun az=>
(Agd az u).bind fun(ba,bd)=>
if(!ba)then
j14 a u m b f h o p n g ah ai k 26
else
j14 a u m b f h o p n g ah ai k 0
def Bfo:=Aur Aqs
def Ako(a g b:Int):Option Int:=
(Ik a g).bind fun f=>
if(Ba f 0)then
some f
else
if(Bv b 1)then
some 2
else
(Gs (Ba a 0)).bind fun _=>
if(Ff b (Bf 4000 a))then
some 2
else
some 0
def Vz(a g b:Int):Option (LX×Int):=
(Ako a g b).bind fun f=>
if(Ba f 0)then
some (([]:LX),f)
else
(mkI (Ay b a) (0:Int32)).bind fun h=>
(Gs (geq (Ay b a) (Ay b a))).bind fun _=>
some (h,0)
abbrev Au:=Option (Int×Int×Int×LX×LI×Int)
def Rb(a b h ak:Int)(an:LI)(ah:LX):Au:=
if(Ba ak 0)then
some (0,0,0,([]:LX),([]:LI),ak)
else
if(geq (Ac ah) 0)then
some (0,0,0,([]:LX),([]:LI),6)
else
(
(
some (a,b,h,ah,an,0)))
def Fq:=Rb
def Ajk(j40:Int→Int→Int→Int→LI→LX→Au)(f g:LB)(n p u o v w y m a b h:Int)(aa ad:LI)(ac:LX):Au:=
j40 a b h 0 ad ac
def Aka:=Ajk Fq
def Ajm(bk21:Int→LI→LX→Au)(f g:LB)(k:LI)(n m a b h p u o v w y:Int)(aa:LI)(ab:Int)(ai:LI)(aj:LX):Au:=
bk21 (Ae ab 1) ai aj
def Aau bk21:=Ajm bk21
def Yp(j40:Int→Int→Int→Int→LI→LX→Au)(j37:Int→LI→LX→Au)(f g:LB)(k:LI)(n m a b h p u o v w y:Int)(aa:LI)(ab ao:Int)(ai:LI)(aj:LX):Au:=
if(Ba ao 0)then
j40 a b h ao ai aj
else
j37 ab ai aj
def Je bk21 f g k n m a b h p u o v w y aa:=Yp Fq (Aau bk21 f g k n m a b h p u o v w y aa) f g k n m a b h p u o v w y aa
def Zl(j36:Int→Int→LI→LX→Au)(f g:LB)(k:LI)(n a b h m p u o v w y:Int)(aa:LI)(ab af ae:Int)(al ag ac:LX)(am:LI):Au:=
(Dx ac al).bind fun aw=>
j36 ab 0 am aw
def Abk bk21 f g k n a b h m p u o v w y aa:=Zl (Je bk21 f g k n m a b h p u o v w y aa) f g k n a b h m p u o v w y aa
def Rj(j36:Int→Int→LI→LX→Au)(f g:LB)(k:LI)(n a b h m p u o v w y:Int)(aa:LI)(ab af ae:Int)(ag ac:LX)(ap:LI):Au:=
(Dx ac ag).bind fun al=>
j36 ab 0 ap al
def Qx bk21 f g k n a b h m p u o v w y aa:=Rj (Je bk21 f g k n m a b h p u o v w y aa) f g k n a b h m p u o v w y aa
def Qw(j36:Int→Int→LI→LX→Au)(j34:Int→Int→Int→LX→LX→LX→LI→Au)(j35:Int→Int→Int→LX→LX→LI→Au)(f g:LB)(k:LI)(n m a b h p u o v w y:Int)(aa:LI)(ab af ae:Int)(ad:LI)(ac ag:LX):Au:=
if(!(geq ae 0))then
(Dx ad ([ab]:LI)).bind fun am=>
if(geq m 2)then
(Vz a b af).bind fun(al,aq)=>
if(Ba aq 0)then
j36 ab aq am ac
else
j34 ab af ae al ag ac am
else
j35 ab af ae ag ac am
else
j35 ab af ae ag ac ad
def Qs bk21 f g k n m a b h p u o v w y aa:=Qw (Je bk21 f g k n m a b h p u o v w y aa) (Abk bk21 f g k n a b h m p u o v w y aa) (Qx bk21 f g k n a b h m p u o v w y aa) f g k n m a b h p u o v w y aa
def Qt(j40:Int→Int→Int→Int→LI→LX→Au)(j33:Int→Int→Int→LI→LX→LX→Au)(j39:LB→LB→Int→Int→Int→Int→Int→Int→Int→Int→Int→Int→Int→LI→LI→LX→Au)(f g:LB)(k:LI)(n m a b h p u o v w y:Int)(aa:LI)(ab:Int)(ad:LI)(ac:LX):Au:=
if(Bv ab (Ac k))then
(getI k ab).bind fun _=>
(getI k ab).bind fun af=>
(Lz f g ab).bind fun(ax,ae)=>
if(geq ae 0)then
(Pr o ax).bind fun(ay,ar)=>
if(Ba ar 0)then
j40 a b h ar ad ac
else
j33 ab af ae ad ac ay
else
j33 ab af ae ad ac ([]:LX)
else
j39 f g n p u o v w y m a b h aa ad ac
def He(f g:LB)(k:LI)(n m a b h p u o v w y:Int)(aa:LI):Nat→Int→LI→LX→Au
|0,_,_,_=>none
|q+1,ab,ad,ac=>Qt Fq (Qs (He f g k n m a b h p u o v w y aa q) f g k n m a b h p u o v w y aa) Aka f g k n m a b h p u o v w y aa ab ad ac
def Zw f g k n m a b h p u o v w y aa:=He f g k n m a b h p u o v w y aa Am
def Tq(j40:Int→Int→Int→Int→LI→LX→Au)(j21:LB→LB→LI→Int→Int→Int→Int→Int→Int→Int→Int→Int→Int→Int→LI→Int→LI→LX→Au)(f g:LB)(m:Int):Au:=
if((Bv m 0)||(Ff m 2))then
some (0,0,0,([]:LX),([]:LI),2)
else
if(geq m 0)then
(Bfo f g).bind fun(az,ba,bb,bc,bd)=>
some (az,ba,bb,bc,([]:LI),bd)
else
(seekto_Open f g).bind fun(be,a,b,h,bf,bg,bh,n)=>
if(Ba n 0)then
some (0,0,0,([]:LX),([]:LI),n)
else
(seekto_Open f g).bind fun(p,u,o,v,w,y,aa,au)=>
if(Ba au 0)then
j40 a b h au ([]:LI) ([]:LX)
else
(Kg p u o v w).bind fun(k,av)=>
if(Ba av 0)then
j40 a b h av ([]:LI) ([]:LX)
else
j21 f g k n m a b h p u o v w y aa 0 ([]:LI) ([]:LX)
def Du:=Tq Fq Zw
def Alj:Option Bool:=
some true
def Vs:=Alj
def Il(j6:Option Bool)(bk4:Int→Option Bool)(a b:LI)(f:Int):Option Bool:=
if(Bv f (Ac a))then
(getI a f).bind fun g=>
(getI b f).bind fun h=>
if(Ba g h)then
some false
else
bk4 (Ae f 1)
else
j6
def Dp(a b:LI):Nat→Int→Option Bool
|0,_=>none
|q+1,f=>Il Vs (Dp a b q) a b f
def Vp a b:=Dp a b Am
def Mi(j4:LI→LI→Int→Option Bool)(a b:LI):Option Bool:=
if(Ba (Ac a) (Ac b))then
some false
else
j4 a b 0
def By:=Mi Vp
def Asc:Option Bool:=
some true
def Aej:=Asc
def Mb(j6:Option Bool)(bk4:Int→Option Bool)(a b:LX)(f:Int):Option Bool:=
if(Bv f (Ac a))then
(getI a f).bind fun g=>
(getI b f).bind fun h=>
if(Ba g h)then
some false
else
bk4 (Ae f 1)
else
j6
def Gi(a b:LX):Nat→Int→Option Bool
|0,_=>none
|q+1,f=>Mb Aej (Gi a b q) a b f
def Aef a b:=Gi a b Am
def Rw(j4:LX→LX→Int→Option Bool)(a b:LX):Option Bool:=
if(Ba (Ac a) (Ac b))then
some false
else
j4 a b 0
def Rn:=Rw Aef
def Eg(a b f:Int)(g:LX)(h k m:Int)(n:LX):Option Bool:=
if(((geq a h)&&(geq b k))&&(geq f m))then
(Rn g n).bind fun o=>
some o
else
some false
def Cg(k:LB)(m:Int)(n:LI)(a:LX):Option Bool:=
(Du k ([]:LB) m).bind fun(b,f,g,h,o,p)=>
if(geq p 0)then
(By o n).bind fun u=>
if u then
(Eg b f g h 1 8 1 a).bind fun v=>
some v
else
some false
else
if false then
(Eg b f g h 1 8 1 a).bind fun w=>
some w
else
some false
def Oo:Option Bool:=
(Aij).bind fun(a,h)=>
if(!h)then
some false
else
(Rz a ([]:LB)).bind fun(k,m)=>
(Ca a 0 44).bind fun n=>
(Rz n ([]:LB)).bind fun(f,g)=>
(Du a ([]:LB) 0).bind fun(aj,ak,al,am,an,b)=>
if(geq m 0)then
(By k ([(1:Int)]:LI)).bind fun o=>
if(o&&(geq g 0))then
(By f ([(1:Int),(2:Int)]:LI)).bind fun p=>
if(p&&(geq b 22))then
(Cg a 1 ([(1:Int)]:LI) ([(1:Int32),(3:Int32)]:LX)).bind fun u=>
if u then
(Cg a 2 ([(1:Int)]:LI) ([(1:Int32),(0:Int32),(3:Int32)]:LX)).bind fun v=>
some v
else
some false
else
if false then
(Cg a 2 ([(1:Int)]:LI) ([(1:Int32),(0:Int32),(3:Int32)]:LX)).bind fun w=>
some w
else
some false
else
if(false&&(geq b 22))then
(Cg a 1 ([(1:Int)]:LI) ([(1:Int32),(3:Int32)]:LX)).bind fun y=>
if y then
(Cg a 2 ([(1:Int)]:LI) ([(1:Int32),(0:Int32),(3:Int32)]:LX)).bind fun aa=>
some aa
else
some false
else
if false then
(Cg a 2 ([(1:Int)]:LI) ([(1:Int32),(0:Int32),(3:Int32)]:LX)).bind fun ab=>
some ab
else
some false
else
if(false&&(geq g 0))then
(By f ([(1:Int),(2:Int)]:LI)).bind fun ac=>
if(ac&&(geq b 22))then
(Cg a 1 ([(1:Int)]:LI) ([(1:Int32),(3:Int32)]:LX)).bind fun ad=>
if ad then
(Cg a 2 ([(1:Int)]:LI) ([(1:Int32),(0:Int32),(3:Int32)]:LX)).bind fun ae=>
some ae
else
some false
else
if false then
(Cg a 2 ([(1:Int)]:LI) ([(1:Int32),(0:Int32),(3:Int32)]:LX)).bind fun af=>
some af
else
some false
else
if(false&&(geq b 22))then
(Cg a 1 ([(1:Int)]:LI) ([(1:Int32),(3:Int32)]:LX)).bind fun ag=>
if ag then
(Cg a 2 ([(1:Int)]:LI) ([(1:Int32),(0:Int32),(3:Int32)]:LX)).bind fun ah=>
some ah
else
some false
else
if false then
(Cg a 2 ([(1:Int)]:LI) ([(1:Int32),(0:Int32),(3:Int32)]:LX)).bind fun ai=>
some ai
else
some false
def Abg(a:LB):Option Bool:=
some (((Ff (Ac a) 5000)&&(Bv (Ac a) 12000))||(Ff (Ac a) 12100))
def Jq(f g b a h:Int):Option Bool:=
if((((geq f 1)||(geq f 2))&&(Kl g 1))&&(gle g 6))then
some ((((((geq b 8)||(geq b 16))||(geq b 24))&&(Kl a 1))&&(gle a 1048576))&&(Kl h 1))
else
some (((false&&(Kl a 1))&&(gle a 1048576))&&(Kl h 1))
def Me(a:Int):Option Int:=
some (Atx 1 (Bf (Ay 256 a) 245))
def Lh(a:LI):Option (LI):=
some a
def Hx:=Lh
def Fu(j6:LI→Option (LI))(bk4:Int→LI→Option (LI))(b f:Int)(a:LI):Option (LI):=
if(Ff f 0)then
(Me b).bind fun g=>
(Dx a ([(Dj f g)]:LI)).bind fun h=>
(Me b).bind fun k=>
bk4 (Ah f k) h
else
j6 a
def Cx(b:Int):Nat→Int→LI→Option (LI)
|0,_,_=>none
|q+1,f,a=>Fu Hx (Cx b q) b f a
def Py b:=Cx b Am
def Pz(j4:Int→Int→LI→Option (LI))(b m:Int):Option (LI):=
j4 b m ([]:LI)
def Er:=Pz Py
def Gv(h a k f b:Int):Option Bool:=
(
(Gs (Ba a 0)).bind fun _=>
(
if(Ff b (Bf 4000 a))then
some true
else
(Er f b).bind fun g=>
some (Ff (Ac g) 1000)))
def Kt(a b f g h:Int):Option Int:=
(Jq a b f g h).bind fun k=>
if(!k)then
some 8
else
(Gv a b f g h).bind fun m=>
if m then
some 8
else
some 0
def Ks(a b f:Int)(g:LX):Option (Int×Int):=
some (a,b)
def Jd(a:Int):Option Int:=
if(geq a 8)then
some 128
else
if(geq a 16)then
some 32768
else
if(geq a 24)then
some 8388608
else
some 0
def Ig(a b:Int):Option Int:=
if((Bv a 1)||(Ff a 6))then
some 2
else
(Jd b).bind fun f=>
if(geq f 0)then
some 2
else
some 0
def Apx:Option Int:=
some 0
def Ab6:=Apx
def Ci(j6:Option Int)(bk4:Int→Option Int)(a:LX)(b f:Int):Option Int:=
if(Bv f (Ac a))then
(getI a f).bind fun g=>
if(Bv (Ad g:Int) (Ax6 b))then
some 16
else
(getI a f).bind fun h=>
if(Kl (Ad h:Int) b)then
some 16
else
bk4 (Ae f 1)
else
j6
def Az(a:LX)(b:Int):Nat→Int→Option Int
|0,_=>none
|q+1,f=>Ci Ab6 (Az a b q) a b f
def Ab2 a b:=Az a b Am
def Ft(j4:LX→Int→Int→Option Int)(k:Int)(a:LX):Option Int:=
(Jd k).bind fun b=>
if(geq b 0)then
some 2
else
if(Ff (Ac a) 4000)then
some 4
else
j4 a b 0
def cadenzaref18_Check:=Ft Ab2
def Of(b f:Int)(a:LX):Option Int:=
(Ig b f).bind fun g=>
if(Ba g 0)then
some 2
else
(cadenzaref18_Check f a).bind fun h=>
if(Ba h 0)then
(cadenzaref18_Check f a).bind fun k=>
some k
else
if(Bv (Ac a) 1)then
some 2
else
(Gs (Ba b 0)).bind fun _=>
if(Ff (Ey (Ac a) b) 0)then
some 2
else
some 0
def Gf(a f b:Int):Option Int:=
(Ig a f).bind fun g=>
if((Ba g 0)||(Bv b 1))then
some 2
else
(Gs (Ba a 0)).bind fun _=>
if(Ff b (Bf 4000 a))then
some 2
else
some 0
def Re(a:Int):Option (Int×Int):=
if((Bv a 1)||(Ff a 1048576))then
some (0,2)
else
if(geq (Bf (Ay a 256) 245) 0)then
some (1,0)
else
some ((Bf (Ay a 256) 245),0)
abbrev Gh:=Option (LI×Int)
def Uh(a:LI):Gh:=
if(Ff (Ac a) 1000)then
some (([]:LI),4)
else
some (a,0)
def Nb:=Uh
def Jy(j6:LI→Gh)(bk4:Int→LI→Gh)(b f:Int)(a:LI):Gh:=
if(Ff f 0)then
(Dx a ([(Dj f b)]:LI)).bind fun h=>
bk4 (Ah f (Dj f b)) h
else
j6 a
def Fj(b:Int):Nat→Int→LI→Gh
|0,_,_=>none
|q+1,f,a=>Jy Nb (Fj b q) b f a
def Ue b:=Fj b Am
def Va(j4:Int→Int→LI→Gh)(k g:Int):Gh:=
(Re k).bind fun(b,m)=>
if(((Ba m 0)||(Bv g 1))||(Ff g 4000))then
some (([]:LI),2)
else
j4 b g ([]:LI)
def Aco:=Va Ue
def Pb(a b:Int):Option (Int×Int):=
(Aco a b).bind fun(f,g)=>
some ((Ac f),g)
def Aac(f g a:Int)(h:LX)(b:Int):Option Bool:=
(Ks f g a h).bind fun(k,m)=>
(Gf k m b).bind fun n=>
if(Ba n 0)then
some false
else
(Pb a b).bind fun(p,o)=>
some (geq o 0)
def Bi(a f g:Int)(b:LX):Option Int:=
(Ks a f g b).bind fun(h,k)=>
(Of h k b).bind fun m=>
if(Ba m 0)then
some 8
else
(Gs (Ba a 0)).bind fun _=>
(Aac a f g b (Bf (Ac b) a)).bind fun n=>
if(!n)then
some 8
else
some 0
def Ja(a b f:Int)(h g:LX):Option (Int×Int×Int×LX):=
some (a,b,f,g)
def Dk(p:Bool)(u aj:Int)(k:LI)(m n o:Int)(a:LX)(b f g:Int)(w:LI)(ai h:LX):Option Bool:=
if(Ba aj (Ac k))then
some false
else
if(geq (Ac ai) 0)then
some (p&&(geq u 6))
else
if(p&&(geq u 0))then
(By w k).bind fun au=>
(
if au then
(Ja m n o a ai).bind fun(av,aw,an,ax)=>
(Eg b f g h av aw an ax).bind fun ay=>
if ay then
(Bi b f g h).bind fun ap=>
some (geq ap 0)
else
some false
else
if false then
(Bi b f g h).bind fun az=>
some (geq az 0)
else
some false)
else
(
if false then
(Ja m n o a ai).bind fun(ba,bb,bc,bd)=>
(Eg b f g h ba bb bc bd).bind fun be=>
if be then
(Bi b f g h).bind fun bf=>
some (geq bf 0)
else
some false
else
if false then
(Bi b f g h).bind fun bg=>
some (geq bg 0)
else
some false)
def Dm:=Dk
def Pj(bk12:Int→Int→Int→LX→Option Bool)(aa ab:LB)(p:Bool)(u ae v ac ad y af:Int)(k:LI)(m n o:Int)(a:LX)(b f g:Int)(w ag ah:LI)(h:LX)(al:Int)(am:LX)(aj ak an:Int)(ai:LX)(ao:LB):Option Bool:=
(width_Bytes ac am).bind fun(bm,ap)=>
if(((Ba an 0)||(Ba ap 0))||(ao !=bm))then
some false
else
(Dx ai am).bind fun bn=>
bk12 (Ae al (Ac am)) aj (Ae ak 1) bn
def Ga bk12:=Pj bk12
def Jj(j18:Int→LX→Int→Int→Int→LX→LB→Option Bool)(bk12:Int→Int→Int→LX→Option Bool)(aa ab:LB)(p:Bool)(u ae v ac ad y af:Int)(k:LI)(m n o:Int)(a:LX)(b f g:Int)(w ag ah:LI)(h:LX)(al aj ak:Int)(am ai:LX):Option Bool:=
(Lz aa ab ak).bind fun(ao,an)=>
if(Bv aj (Ac k))then
(getI k aj).bind fun _=>
(getI k aj).bind fun bp=>
if(geq bp ak)then
if(geq an 0)then
some false
else
bk12 (Ae al (Ac am)) (Ae aj 1) (Ae ak 1) ai
else
j18 al am aj ak an ai ao
else
j18 al am aj ak an ai ao
def Jo bk12 aa ab p u ae v ac ad y af k m n o a b f g w ag ah h:=Jj (Ga bk12 aa ab p u ae v ac ad y af k m n o a b f g w ag ah h) bk12 aa ab p u ae v ac ad y af k m n o a b f g w ag ah h
def Dl(j17:Int→Int→Int→LX→LX→Option Bool)(j20:Bool→Int→Int→LI→Int→Int→Int→LX→Int→Int→Int→LI→LX→LX→Option Bool)(aa ab:LB)(p:Bool)(u ae v ac ad y af:Int)(k:LI)(m n o:Int)(a:LX)(b f g:Int)(w ag ah:LI)(h:LX)(al aj ak:Int)(ai:LX):Option Bool:=
if(Bv ak (Ac ag))then
(getI ag ak).bind fun _=>
(
(
(getI ag ak).bind fun aq=>
(Ca a al (Ae al (Ay aq v))).bind fun am=>
j17 al aj ak am ai))
else
j20 p u aj k m n o a b f g w ai h
def Bz(aa ab:LB)(p:Bool)(u ae v ac ad y af:Int)(k:LI)(m n o:Int)(a:LX)(b f g:Int)(w ag ah:LI)(h:LX):Nat→Int→Int→Int→LX→Option Bool
|0,_,_,_,_=>none
|q+1,al,aj,ak,ai=>Dl (Jo (Bz aa ab p u ae v ac ad y af k m n o a b f g w ag ah h q) aa ab p u ae v ac ad y af k m n o a b f g w ag ah h) Dm aa ab p u ae v ac ad y af k m n o a b f g w ag ah h al aj ak ai
def Gd aa ab p u ae v ac ad y af k m n o a b f g w ag ah h:=Bz aa ab p u ae v ac ad y af k m n o a b f g w ag ah h Am
def Gc(j12:LB→LB→Bool→Int→Int→Int→Int→Int→Int→Int→LI→Int→Int→Int→LX→Int→Int→Int→LI→LI→LI→LX→Int→Int→Int→LX→Option Bool)(aa ab:LB)(p:Bool)(u ae v ac ad y af:Int)(k:LI)(m n o b f g:Int)(w ah:LI)(a h:LX):Option Bool:=
(Er ad y).bind fun ag=>
j12 aa ab p u ae v ac ad y af k m n o a b f g w ag ah h 0 0 0 ([]:LX)
def Gb:=Gc Gd
def Kb(j11:LB→LB→Bool→Int→Int→Int→Int→Int→Int→Int→LI→Int→Int→Int→Int→Int→Int→LI→LI→LX→LX→Option Bool)(aa ab:LB):Option Bool:=
(Oo).bind fun p=>
(Abg aa).bind fun bq=>
if((bq||(Ff (Ac ab) 64))||(!p))then
some p
else
(seekto_Open aa ab).bind fun(ae,v,ac,ad,y,af,ah,ar)=>
(Rz aa ab).bind fun(k,bh)=>
(Du aa ab 2).bind fun(m,n,o,a,br,bi)=>
(Du aa ab 1).bind fun(b,f,g,h,w,u)=>
if(Ba ar 0)then
some (((p&&(geq bh ar))&&(geq bi ar))&&(geq u ar))
else
if((Ba bh 0)||(Ba bi 0))then
if true then
if(true||(Ba (Ac a) (Ay y v)))then
some false
else
(Bi m n o a).bind fun bs=>
if(Ba bs 0)then
some false
else
j11 aa ab p u ae v ac ad y af k m n o b f g w ah a h
else
(Kt ae v ac ad y).bind fun bt=>
if((Ba bt 0)||(Ba (Ac a) (Ay y v)))then
some false
else
(Bi m n o a).bind fun bu=>
if(Ba bu 0)then
some false
else
j11 aa ab p u ae v ac ad y af k m n o b f g w ah a h
else
(By br k).bind fun bv=>
if(!bv)then
if(true||(Ba (Ac a) (Ay y v)))then
some false
else
(Bi m n o a).bind fun bw=>
if(Ba bw 0)then
some false
else
j11 aa ab p u ae v ac ad y af k m n o b f g w ah a h
else
(Kt ae v ac ad y).bind fun bx=>
if((Ba bx 0)||(Ba (Ac a) (Ay y v)))then
some false
else
(Bi m n o a).bind fun bz=>
if(Ba bz 0)then
some false
else
j11 aa ab p u ae v ac ad y af k m n o b f g w ah a h
def Ip:=Kb Gb
def Aaw(b:Int):Option Int:=
if(Ff b 100000)then
some 8
else
some 0
def Zr:=Aaw
def Ab7(bk6:Int→Int→Option Int)(a:LI)(b f:Int):Option Int:=
(getI a f).bind fun g=>
bk6 (Ae b g) (Ae f 1)
def Ab8 bk6:=Ab7 bk6
def Qp(j8:Int→Int→Option Int)(j10:Int→Option Int)(a:LI)(b f:Int):Option Int:=
if(Bv f (Ac a))then
(getI a f).bind fun h=>
if(Bv h 5)then
some 8
else
(getI a f).bind fun k=>
if(Ff k 100000)then
some 8
else
j8 b f
else
j10 b
def Ho(a:LI):Nat→Int→Int→Option Int
|0,_,_=>none
|q+1,b,f=>Qp (Ab8 (Ho a q) a) Zr a b f
def Abr a:=Ho a Am
def Qh(j6:LI→Int→Int→Option Int)(a:LI):Option Int:=
if((Bv (Ac a) 1)||(Ff (Ac a) 1000))then
some 8
else
j6 a 0 0
def Ie:=Qh Abr
abbrev Et:=Option (Int×Int)
def Apn(a:Int):Et:=
some (a,0)
def Apw:=Apn
def Qn(j6:Int→Et)(bk4:Int→Int→Et)(b:LB)(a f:Int):Et:=
if(Bv f 4)then
(getI b f).bind fun g=>
if(Kl g 128)then
some (0,12)
else
(getI b f).bind fun h=>
bk4 (Ae (Ay 128 a) (Ad h:Int)) (Ae f 1)
else
j6 a
def Hp(b:LB):Nat→Int→Int→Et
|0,_,_=>none
|q+1,a,f=>Qn Apw (Hp b q) b a f
def Ab4 b:=Hp b Am
def Abs(j4:LB→Int→Int→Et)(b:LB):Et:=
if(Ba (Ac b) 4)then
some (0,2)
else
j4 b 0 0
def Wi:=Abs Ab4
abbrev Fm:=Option (Int×Int)
def Aex(a:LB)(g:Int):Fm:=
if(Ff g 4000)then
some (0,4)
else
if(Bv (Ac a) g)then
some (0,24)
else
(getI a 5).bind fun h=>
if(geq h 16)then
(Ca a (Ah g 10) g).bind fun k=>
(Ca a 3 10).bind fun m=>
(Dx ([51,68,73]:LB) m).bind fun n=>
if(k !=n)then
some (0,12)
else
some (g,0)
else
some (g,0)
def Rv:=Aex
def Adv(j6:LB→Int→Fm)(a:LB)(b:Int):Fm:=
(getI a 5).bind fun o=>
if(geq o 16)then
j6 a (Ae (Ae 10 b) 10)
else
j6 a (Ae 10 b)
def Tm:=Adv Rv
def Aed(j5:LB→Int→Fm)(a:LB):Fm:=
if(Bv (Ac a) 10)then
some (0,24)
else
(Ca a 6 10).bind fun p=>
(Wi p).bind fun(b,f)=>
(getI a 3).bind fun u=>
if(Bv u 2)then
if true then
if true then
if(true||(Ba f 0))then
some (0,12)
else
j5 a b
else
(getI a 5).bind fun v=>
if(Ba v 0)then
(getI a 5).bind fun w=>
if(Ba w 16)then
if(true||(Ba f 0))then
some (0,12)
else
j5 a b
else
(getI a 3).bind fun y=>
if((Ba y 4)||(Ba f 0))then
some (0,12)
else
j5 a b
else
if(false||(Ba f 0))then
some (0,12)
else
j5 a b
else
(getI a 4).bind fun aa=>
if(Ba aa 0)then
if(true||(Ba f 0))then
some (0,12)
else
j5 a b
else
(getI a 5).bind fun ab=>
if(Ba ab 0)then
(getI a 5).bind fun ac=>
if(Ba ac 16)then
if(true||(Ba f 0))then
some (0,12)
else
j5 a b
else
(getI a 3).bind fun ad=>
if((Ba ad 4)||(Ba f 0))then
some (0,12)
else
j5 a b
else
if(false||(Ba f 0))then
some (0,12)
else
j5 a b
else
(getI a 3).bind fun ae=>
if(Ff ae 4)then
if true then
if(true||(Ba f 0))then
some (0,12)
else
j5 a b
else
(getI a 5).bind fun af=>
if(Ba af 0)then
(getI a 5).bind fun ag=>
if(Ba ag 16)then
if(true||(Ba f 0))then
some (0,12)
else
j5 a b
else
(getI a 3).bind fun ah=>
if((Ba ah 4)||(Ba f 0))then
some (0,12)
else
j5 a b
else
if(false||(Ba f 0))then
some (0,12)
else
j5 a b
else
(getI a 4).bind fun ai=>
if(Ba ai 0)then
if(true||(Ba f 0))then
some (0,12)
else
j5 a b
else
(getI a 5).bind fun aj=>
if(Ba aj 0)then
(getI a 5).bind fun ak=>
if(Ba ak 16)then
if(true||(Ba f 0))then
some (0,12)
else
j5 a b
else
(getI a 3).bind fun al=>
if((Ba al 4)||(Ba f 0))then
some (0,12)
else
j5 a b
else
if(false||(Ba f 0))then
some (0,12)
else
j5 a b
def Ad8:=Aed Tm
def Aen(j4:LB→Fm)(a:LB):Fm:=
if(Bv (Ac a) 3)then
some (0,6)
else
(Ca a 0 3).bind fun am=>
if(am !=([73,68,51]:LB))then
some (0,6)
else
j4 a
def Zb:=Aen Ad8
def Ahg(a:UInt64):Option UInt64:=
some a
def Ahl:=Ahg
def Wq(j6:UInt64→Option UInt64)(bk4:UInt64→Int→Option UInt64)(b:LB)(a:UInt64)(f:Int):Option UInt64:=
if(Kl f 0)then
(getI b f).bind fun g=>
bk4 (Ae (Ay 256 a) (Ad g:UInt64)) (Ah f 1)
else
j6 a
def Kw(b:LB):Nat→UInt64→Int→Option UInt64
|0,_,_=>none
|q+1,a,f=>Wq Ahl (Kw b q) b a f
def Aje b:=Kw b Am
def Ajg(j4:LB→UInt64→Int→Option UInt64)(b:LB):Option UInt64:=
j4 b 0 (Ah (Ac b) 1)
def Cp:=Ajg Aje
def Aaj(b:LB):Option (Int×Int×Bool):=
(Ca b 12 16).bind fun g=>
(Cp g).bind fun a=>
(Ca b 16 20).bind fun h=>
(Cp h).bind fun f=>
if(((Bv a 32)||(Ff a 3032))||(Ff f 1000))then
some (0,0,false)
else
some ((Ah (Ad a:Int) 32),(Ad f:Int),true)
def Yf(a:LB):Option (LB):=
some a
def Xy:=Yf
def Nr(j6:LB→Option (LB))(bk4:UInt64→Int→LB→Option (LB))(b:Int)(f:UInt64)(g:Int)(a:LB):Option (LB):=
if(Bv g b)then
(Dx a ([(Ad (Yk f 256):UInt8)]:LB)).bind fun h=>
bk4 (Bf f 256) (Ae g 1) h
else
j6 a
def Gl(b:Int):Nat→UInt64→Int→LB→Option (LB)
|0,_,_,_=>none
|q+1,f,g,a=>Nr Xy (Gl b q) b f g a
def Xo b:=Gl b Am
def Xg(j4:Int→UInt64→Int→LB→Option (LB))(k:UInt64)(b:Int):Option (LB):=
j4 b k 0 ([]:LB)
def Db:=Xg Xo
def Nj(a b:Int)(f:UInt64):Option (LB):=
(Db 2000 4).bind fun g=>
(Dx ([(65:UInt8),(80:UInt8),(69:UInt8),(84:UInt8),(65:UInt8),(71:UInt8),(69:UInt8),(88:UInt8)]:LB) g).bind fun h=>
(Db (Ad (Ae a 32):UInt64) 4).bind fun k=>
(Dx h k).bind fun m=>
(Db (Ad b:UInt64) 4).bind fun n=>
(Dx m n).bind fun o=>
(Db f 4).bind fun p=>
(Dx o p).bind fun u=>
(mkI (8:Int) (0:UInt8)).bind fun v=>
(Dx u v).bind fun w=>
some w
def Ajj(a b:Int):Option (LB):=
(Nj a b 2684354560).bind fun f=>
some f
def Aj0(a b:Int)(f:Bool):Option (LB):=
if f then
(Nj a b 2147483648).bind fun g=>
some g
else
(Nj a b 0).bind fun h=>
some h
abbrev Iq:=Option (Int×Int)
def Abn(a:LB)(b f:Int):Iq:=
if(Bv (Ac a) (Ae 64 b))then
some (0,24)
else
(Ca a (Ah (Ae 64 b) 32) (Ae 64 b)).bind fun g=>
(Aj0 b f true).bind fun h=>
if(g !=h)then
some (0,12)
else
some ((Ae 64 b),0)
def Abv:=Abn
def Ab5(j4:LB→Int→Int→Iq)(a:LB):Iq:=
if(Bv (Ac a) 32)then
some (0,24)
else
(Ca a 0 32).bind fun k=>
(Aaj k).bind fun(b,f,m)=>
if(!m)then
some (0,12)
else
(Ca a 0 32).bind fun n=>
(Ajj b f).bind fun o=>
if(n !=o)then
some (0,12)
else
j4 a b f
def Abx:=Ab5 Abv
def Abw(j3:LB→Iq)(a:LB):Iq:=
if(Bv (Ac a) 8)then
some (0,6)
else
(Ca a 0 8).bind fun p=>
if(p !=([65,80,69,84,65,71,69,88]:LB))then
some (0,6)
else
j3 a
def Wk:=Abw Abx
abbrev Eo:=Option (LI×Int)
def Abz(bk6:Int→LI→Eo)(a:LB)(b:Int)(f:LI)(g h:Int):Eo:=
if(geq h 6)then
some (f,0)
else
if(Ba h 0)then
some (([]:LI),h)
else
if(Ff (Ae b g) 4000)then
some (([]:LI),4)
else
(Dx f ([g]:LI)).bind fun m=>
bk6 (Ae b g) m
def Le bk6:=Abz bk6
def Qb(j9:Int→LI→Int→Int→Eo)(a:LB)(b:Int)(f:LI):Eo:=
(Ca a b (Ac a)).bind fun n=>
(Zb n).bind fun(o,k)=>
if(geq k 6)then
(Ca a b (Ac a)).bind fun p=>
(Wk p).bind fun(u,v)=>
j9 b f u v
else
j9 b f o k
def Li(a:LB):Nat→Int→LI→Eo
|0,_,_=>none
|q+1,b,f=>Qb (Le (Li a q) a) a b f
def Apm a:=Li a Am
def Ap4(j6:LB→Int→LI→Eo)(a:LB):Eo:=
j6 a 0 ([]:LI)
def Aho:=Ap4 Apm
abbrev Eu:=Option (Int×Int)
def Abq(a b:Int):Eu:=
some (b,a)
def Ab0:=Abq
def Qc(j6:Int→Int→Eu)(bk4:Int→Int→Eu)(a:Int)(f:LI)(b g:Int):Eu:=
if(Bv g (Ac f))then
(getI f g).bind fun _=>
(getI f g).bind fun h=>
bk4 (Ae b h) (Ae g 1)
else
j6 a b
def Hv(a:Int)(f:LI):Nat→Int→Int→Eu
|0,_,_=>none
|q+1,b,g=>Qc Ab0 (Hv a f q) a f b g
def Qf a f:=Hv a f Am
def Abu(j4:Int→LI→Int→Int→Eu)(k:LB):Eu:=
(Aho k).bind fun(f,a)=>
j4 a f 0 0
def Wv:=Abu Qf
def Ad4(a:UInt32)(b:Bool):Option UInt32:=
if b then
some (To (Bf a 2) 3988292384)
else
some (Bf a 2)
def Aes:=Ad4
def Ae0(j2:UInt32→Bool→Option UInt32)(a:UInt32)(f:Int):Option UInt32:=
if(geq f 1)then
j2 a (!(geq (Yk a 2) 1))
else
j2 a (geq (Yk a 2) 1)
def Aa9:=Ae0 Aes
def Aer(a:UInt32):Option UInt32:=
some a
def Aeg:=Aer
def Sg(j6:UInt32→Option UInt32)(bk4:UInt32→UInt8→Int→Option UInt32)(a:UInt32)(b:UInt8)(f:Int):Option UInt32:=
if(Bv f 8)then
(Aa9 a (Ad (Yk b 2):Int)).bind fun g=>
bk4 g (Bf b 2) (Ae f 1)
else
j6 a
def It:Nat→UInt32→UInt8→Int→Option UInt32
|0,_,_,_=>none
|q+1,a,b,f=>Sg Aeg (It q) a b f
def Asg:=It Am
def Aqr(j4:UInt32→UInt8→Int→Option UInt32)(h:UInt32)(k:UInt8):Option UInt32:=
j4 h k 0
def Ake:=Aqr Asg
def Aag(a:UInt32):Option UInt32:=
some a
def Ym:=Aag
def Oe(j6:UInt32→Option UInt32)(bk4:UInt32→Int→Option UInt32)(b:LB)(a:UInt32)(f:Int):Option UInt32:=
if(Bv f (Ac b))then
(getI b f).bind fun g=>
(Ake a g).bind fun h=>
bk4 h (Ae f 1)
else
j6 a
def Gu(b:LB):Nat→UInt32→Int→Option UInt32
|0,_,_=>none
|q+1,a,f=>Oe Ym (Gu b q) b a f
def Zt b:=Gu b Am
def Aat(j4:LB→UInt32→Int→Option UInt32)(k:UInt32)(b:LB):Option UInt32:=
j4 b k 0
def Af1:=Aat Zt
def Pf(a:LB):Option UInt32:=
(Af1 4294967295 a).bind fun b=>
some (Ah 4294967295 b)
abbrev Fk:=Option (Int×Int×Int×Int×Int×Int)
def Ael(k h g f b:UInt64):Fk:=
(Jq (Ad k:Int) (Ad h:Int) (Ad g:Int) (Ad f:Int) (Ad b:Int)).bind fun v=>
if(!v)then
some (0,0,0,0,0,12)
else
(Gv (Ad k:Int) (Ad h:Int) (Ad g:Int) (Ad f:Int) (Ad b:Int)).bind fun w=>
if w then
some (0,0,0,0,0,4)
else
some ((Ad k:Int),(Ad h:Int),(Ad g:Int),(Ad f:Int),(Ad b:Int),0)
def Ad7:=Ael
def Adz(j6:UInt64→UInt64→UInt64→UInt64→UInt64→Fk)(a:LB):Fk:=
(Ca a 4 6).bind fun u=>
(Ca a 6 8).bind fun p=>
(Ca a 8 10).bind fun o=>
(Ca a 10 14).bind fun n=>
(Ca a 14 18).bind fun m=>
(
(Cp u).bind fun k=>
(
(Cp p).bind fun h=>
(
(Cp o).bind fun g=>
(
(Cp n).bind fun f=>
(
(Cp m).bind fun b=>
(
j6 k h g f b))))))
def Ae4:=Adz Ad7
def Aet(j5:LB→Fk)(a:LB):Fk:=
if(Bv (Ac a) 22)then
some (0,0,0,0,0,24)
else
(Ca a 18 22).bind fun y=>
(Ca a 0 18).bind fun aa=>
(Cp y).bind fun ab=>
(Pf aa).bind fun ac=>
if(Ba ab (Ad ac:UInt64))then
some (0,0,0,0,0,22)
else
j5 a
def Adu:=Aet Ae4
def Adw(j4:LB→Fk)(a:LB):Fk:=
(Ca a 0 (Dj 4 (Ac a))).bind fun ad=>
(Ca ([84,84,65,49]:LB) 0 (Dj 4 (Ac a))).bind fun ae=>
if(ad !=ae)then
some (0,0,0,0,0,12)
else
j4 a
def Zn:=Adw Adu
def Aey(a:UInt64)(b:Bool):Option UInt64:=
if b then
some (To (Ay a 2) 4823603603198064275)
else
some (Ay a 2)
def Sp:=Aey
def Aew(j2:UInt64→Bool→Option UInt64)(a:UInt64)(f:Int):Option UInt64:=
if(geq f 1)then
j2 a (!(Kl a 9223372036854775808))
else
j2 a (Kl a 9223372036854775808)
def Zu:=Aew Sp
def Ady(a:UInt64):Option UInt64:=
some a
def Ad0:=Ady
def Td(j6:UInt64→Option UInt64)(bk4:UInt64→Int→Option UInt64)(b:UInt8)(a:UInt64)(f:Int):Option UInt64:=
if(Ff f 0)then
(Gs (Ba f 0)).bind fun _=>
(Zu a (Ey (Bf (Ad b:Int) f) 2)).bind fun g=>
bk4 g (Bf f 2)
else
j6 a
def Iy(b:UInt8):Nat→UInt64→Int→Option UInt64
|0,_,_=>none
|q+1,a,f=>Td Ad0 (Iy b q) b a f
def Ash b:=Iy b Am
def Aqk(j4:UInt8→UInt64→Int→Option UInt64)(h:UInt64)(b:UInt8):Option UInt64:=
j4 b h 128
def Ajx:=Aqk Ash
def Zj(a:UInt64):Option UInt64:=
some a
def Aa1:=Zj
def Oa(j6:UInt64→Option UInt64)(bk4:UInt64→Int→Option UInt64)(b:LB)(a:UInt64)(f:Int):Option UInt64:=
if(Bv f (Ac b))then
(getI b f).bind fun g=>
(Ajx a g).bind fun h=>
bk4 h (Ae f 1)
else
j6 a
def Gx(b:LB):Nat→UInt64→Int→Option UInt64
|0,_,_=>none
|q+1,a,f=>Oa Aa1 (Gx b q) b a f
def Anq b:=Gx b Am
def Ank(j4:LB→UInt64→Int→Option UInt64)(k:UInt64)(b:LB):Option UInt64:=
j4 b k 0
def Ul:=Ank Anq
def Akg(a:LB):Option UInt64:=
(Ul 0 a).bind fun b=>
some b
def Sd(a:LB):Option (LB):=
(Akg a).bind fun b=>
(Db b 8).bind fun f=>
some f
abbrev Cy:=Option (LI×Int)
def Ae1(f:LI):Cy:=
(Ie f).bind fun h=>
if(Ba h 0)then
some (([]:LI),12)
else
some (f,0)
def Sc:=Ae1
def Sa(j8:LI→Cy)(bk6:Int→LI→Cy)(b:LB)(a g:Int)(f:LI):Cy:=
if(Bv g a)then
(Ca b (Ay 4 g) (Ae (Ay 4 g) 4)).bind fun k=>
(Cp k).bind fun m=>
(Dx f ([(Ad m:Int)]:LI)).bind fun n=>
bk6 (Ae g 1) n
else
j8 f
def Ir(b:LB)(a:Int):Nat→Int→LI→Cy
|0,_,_=>none
|q+1,g,f=>Sa Sc (Ir b a q) b a g f
def Aep b a:=Ir b a Am
def Aev(j6:LB→Int→Int→LI→Cy)(b:LB)(a:Int):Cy:=
j6 b a 0 ([]:LI)
def Aea:=Aev Aep
def Ad5(j5:LB→Int→Cy)(b:LB)(a:Int):Cy:=
if((Bv a 1)||(Ff a 1000))then
some (([]:LI),2)
else
if(Bv (Ac b) (Ae (Ay 4 a) 4))then
some (([]:LI),24)
else
(Ca b (Ay 4 a) (Ae (Ay 4 a) 4)).bind fun o=>
(Ca b 0 (Ay 4 a)).bind fun p=>
(Cp o).bind fun u=>
(Pf p).bind fun v=>
if(Ba u (Ad v:UInt64))then
some (([]:LI),22)
else
j5 b a
def Ys:=Ad5 Aea
def Ajo(b:UInt64)(a:LB):Option (UInt64×Int):=
if(Ff (Ac a) 100000)then
some (0,4)
else
(Ul b a).bind fun f=>
some (f,0)
def Alz(a:LB):Option (UInt64×Int):=
(Ajo 0 a).bind fun(b,f)=>
some (b,f)
def Atw(a:LX):Option (LX):=
some a
def At3:=Atw
def Aie(bk6:UInt64→Int→LX→Option (LX))(b:UInt64)(f:Int)(a:LX)(g:Int32):Option (LX):=
(getI a f).bind fun _=>
(Jl a f g).bind fun h=>
bk6 (Bf b 256) (Ae f 1) h
def Wu bk6:=Aie bk6
def Wt(j8:UInt64→Int→LX→Int32→Option (LX))(j10:LX→Option (LX))(b:UInt64)(f:Int)(a:LX):Option (LX):=
if(Bv f 8)then
if(Ff (Ad (Yk b 256):Int32) 127)then
j8 b f a (Ah (Ad (Yk b 256):Int32) 256)
else
j8 b f a (Ad (Yk b 256):Int32)
else
j10 a
def Ij:Nat→UInt64→Int→LX→Option (LX)
|0,_,_,_=>none
|q+1,b,f,a=>Wt (Wu (Ij q)) At3 b f a
def Avv:=Ij Am
def Awd(j6:UInt64→Int→LX→Option (LX))(k:UInt64):Option (LX):=
j6 k 0 (List.replicate 16 (0:Int32))
def Apb:=Awd Avv
def Zd(a:LB):Option (LX×Int):=
if(Ff (Ac a) 64)then
some (([(0:Int32),(0:Int32),(0:Int32),(0:Int32),(0:Int32),(0:Int32),(0:Int32),(0:Int32),(0:Int32),(0:Int32),(0:Int32),(0:Int32),(0:Int32),(0:Int32),(0:Int32),(0:Int32)]:LX),2)
else
(Alz a).bind fun(b,g)=>
(Apb b).bind fun f=>
some (f,0)
def Up(b:LB):Option (LB):=
(Pf b).bind fun a=>
(Dx ([]:LB) b).bind fun f=>
(Dx f ([(Ad a:UInt8),(Ad (Bn a (GI.toZ (8:UInt64)).toNat):UInt8),(Ad (Bn a (GI.toZ (16:UInt64)).toNat):UInt8),(Ad (Bn a (GI.toZ (24:UInt64)).toNat):UInt8)]:LB)).bind fun g=>
some g
def My(a:LB):Option Int:=
if(Bv (Ac a) 5)then
some 24
else
if(Ff (Ac a) 41254)then
some 4
else
(Ca a 0 (Ah (Ac a) 4)).bind fun b=>
(Up b).bind fun f=>
if(f !=a)then
some 22
else
some 0
def Ku:Option (Int×Int×UInt64×UInt64):=
some (10,10,16384,16384)
def Ap1(a:UInt64):Option UInt64:=
some a
def Apl:=Ap1
def Qo(j6:UInt64→Option UInt64)(bk4:UInt64→Int→Option UInt64)(b:Int)(a:UInt64)(f:Int):Option UInt64:=
if(Bv f b)then
bk4 (Ay a 2) (Ae f 1)
else
j6 a
def Ht(b:Int):Nat→UInt64→Int→Option UInt64
|0,_,_=>none
|q+1,a,f=>Qo Apl (Ht b q) b a f
def Apu b:=Ht b Am
def Apv(j4:Int→UInt64→Int→Option UInt64)(b:Int):Option UInt64:=
j4 b 1 0
def Es:=Apv Apu
def Acm(a g:Int)(h k:UInt64)(b:UInt32):Option Bool:=
(Es a).bind fun f=>
some (Bv (Ad b:UInt64) f)
def Yx(a g:Int)(h k:UInt64)(b:UInt32):Option UInt32:=
(Es a).bind fun f=>
some (Ad (Ah (Ad b:UInt64) f):UInt32)
abbrev Vf:=Option (Int×UInt64)
def Aei(b:Int)(a f:UInt64):Vf:=
if(Bv b 24)then
(Es (Ae b 5)).bind fun g=>
if(Ff (Ah (Ae a f) (Bf a 16)) g)then
some ((Ae b 1),(Ah (Ae a f) (Bf a 16)))
else
some (b,(Ah (Ae a f) (Bf a 16)))
else
some (b,(Ah (Ae a f) (Bf a 16)))
def Ru:=Aei
def Aec(j2:Int→UInt64→UInt64→Vf)(b:Int)(a f:UInt64):Vf:=
if(Ff b 0)then
(Es (Ae b 4)).bind fun h=>
if(Bv (Ah (Ae a f) (Bf a 16)) h)then
some ((Ah b 1),(Ah (Ae a f) (Bf a 16)))
else
j2 b a f
else
j2 b a f
def Qu:=Aec Ru
abbrev Qj:=Option (Int×Int×UInt64×UInt64)
def Aao(h:UInt32)(f a:Int)(g b:UInt64)(o:Int)(p:UInt64):Qj:=
(Qu f g (Ad h:UInt64)).bind fun(aa,ab)=>
some (aa,o,ab,p)
def Pc:=Aao
def Aal(j2:UInt32→Int→Int→UInt64→UInt64→Int→UInt64→Qj)(f a:Int)(g b:UInt64)(h:UInt32):Qj:=
(Acm f a g b h).bind fun u=>
if(!u)then
(
(
(Yx f a g b h).bind fun k=>
(Qu a b (Ad k:UInt64)).bind fun(m,n)=>
j2 h f a g b m n))
else
j2 h f a g b a b
def Ut:=Aal Pc
abbrev Eb:=Option (Int×Int×UInt64×UInt64)
def An9(a b:Int)(f g:UInt64):Eb:=
some (a,b,f,g)
def Aos:=An9
def Yw(j6:Int→Int→UInt64→UInt64→Eb)(bk4:Int→Int→Int→UInt64→UInt64→Eb)(h:Int)(k:LU)(m a b:Int)(f g:UInt64):Eb:=
if(Bv m (Ac k))then
(getI k m).bind fun n=>
(Ut a b f g n).bind fun(o,p,u,v)=>
bk4 (Ae m h) o p u v
else
j6 a b f g
def Jz(h:Int)(k:LU):Nat→Int→Int→Int→UInt64→UInt64→Eb
|0,_,_,_,_,_=>none
|q+1,m,a,b,f,g=>Yw Aos (Jz h k q) h k m a b f g
def Anp h k:=Jz h k Am
def Aa4(j4:Int→LU→Int→Int→Int→UInt64→UInt64→Eb)(h:Int)(k:LU):Eb:=
(Ku).bind fun(w,y,aa,ab)=>
(Gs (Ba h 0)).bind fun _=>
j4 h k (Ey (Ac k) h) w y aa ab
def Na:=Aa4 Anp
def Aip(a:Int):Option Int:=
some (Ey a 2)
def Ajf:=Aip
def Wn(j6:Int→Option Int)(bk4:Int→Int→Option Int)(b a f:Int):Option Int:=
if(Bv f (Ey b 8))then
bk4 (Bf a 2) (Ae f 1)
else
j6 a
def La(b:Int):Nat→Int→Int→Option Int
|0,_,_=>none
|q+1,a,f=>Wn Ajf (La b q) b a f
def Ah2 b:=La b Am
def Ai2(j4:Int→Int→Int→Option Int)(g:LB)(k b:Int):Option Int:=
(getI g (Bf b 8)).bind fun h=>
j4 b (Ad h:Int) 0
def Jm:=Ai2 Ah2
abbrev Di:=Option (LB×Int)
def Af9(b g a:Int)(f:LB):Di:=
(getI f (Bf a 8)).bind fun _=>
(getI f (Bf a 8)).bind fun m=>
(getI f (Bf a 8)).bind fun _=>
(Jl f (Bf a 8) (Ae m (Ad (Ay b g):UInt8))).bind fun n=>
some (n,(Ae a 1))
def Uq:=Af9
def Ui(j8:Int→Int→Int→LB→Di)(bk6:Int→Int→Di)(b a:Int)(f:LB)(g h:Int):Di:=
if(Bv h (Ey a 8))then
bk6 (Ay g 2) (Ae h 1)
else
j8 b g a f
def Ju(b a:Int)(f:LB):Nat→Int→Int→Di
|0,_,_=>none
|q+1,g,h=>Ui Uq (Ju b a f q) b a f g h
def Afy b a f:=Ju b a f Am
def Agb(j6:Int→Int→LB→Int→Int→Di)(b a:Int)(f:LB):Di:=
j6 b a f 1 0
def Uz:=Agb Afy
def Af6(j5:Int→Int→LB→Di)(k:LB)(a b:Int):Di:=
if(geq (Ey a 8) 0)then
(Dx k ([(0:UInt8)]:LB)).bind fun o=>
j5 b a o
else
j5 b a k
def Tu:=Af6 Uz
abbrev Dh:=Option (LB×Int)
def Al7(a:Int)(b:LB):Dh:=
some (b,a)
def Al9:=Al7
def Nu(j6:Int→LB→Dh)(bk4:Int→Int→LB→Dh)(f:Int)(g:LB)(h k a:Int)(b:LB):Dh:=
if(Bv k f)then
(Jm g h k).bind fun m=>
(Tu b a m).bind fun(n,o)=>
bk4 (Ae k 1) o n
else
j6 a b
def Gk(f:Int)(g:LB)(h:Int):Nat→Int→Int→LB→Dh
|0,_,_,_=>none
|q+1,k,a,b=>Nu Al9 (Gk f g h q) f g h k a b
def Amw f g h:=Gk f g h Am
def Al0(j4:Int→LB→Int→Int→Int→LB→Dh)(g:LB)(h p f:Int):Dh:=
j4 f g h p 0 ([]:LB)
def Ad3:=Al0 Amw
def Ap7(a:UInt64):Option UInt64:=
some a
def Apo:=Ap7
def Px(j6:UInt64→Option UInt64)(bk4:UInt64→Int→Option UInt64)(b:Int)(f:LB)(g:Int)(a:UInt64)(h:Int):Option UInt64:=
if(Kl h 0)then
(Jm f g (Ae b h)).bind fun k=>
bk4 (Ae (Ay 2 a) (Ad k:UInt64)) (Ah h 1)
else
j6 a
def Hs(b:Int)(f:LB)(g:Int):Nat→UInt64→Int→Option UInt64
|0,_,_=>none
|q+1,a,h=>Px Apo (Hs b f g q) b f g a h
def Ab1 b f g:=Hs b f g Am
def Acb(j4:Int→LB→Int→UInt64→Int→Option UInt64)(f:LB)(g b m:Int):Option UInt64:=
j4 b f g 0 (Ah m 1)
def Nz:=Acb Ab1
abbrev Gg:=Option (Int×Int)
def Af2(b a:Int)(g:LB)(f:Int):Gg:=
if(geq a 48)then
some (a,(Ae b a))
else
if(Kl (Ae b a) f)then
some ((-1:Int),0)
else
some (a,(Ae (Ae b a) 1))
def Uf:=Af2
def Un(j6:Int→Int→LB→Int→Gg)(bk4:Int→Gg)(b:Int)(g:LB)(f a:Int):Gg:=
if((Bv (Ae b a) f)&&(Bv a 48))then
(Jm g f (Ae b a)).bind fun h=>
if(geq h 1)then
bk4 (Ae a 1)
else
j6 b a g f
else
j6 b a g f
def Jr(b:Int)(g:LB)(f:Int):Nat→Int→Gg
|0,_=>none
|q+1,a=>Un Uf (Jr b g f q) b g f a
def Atz b g f:=Jr b g f Am
def At5(j4:Int→LB→Int→Int→Gg)(g:LB)(f b:Int):Gg:=
j4 b g f 0
def Amp:=At5 Atz
def Aad(b:UInt32)(f:Int):Option Int:=
(Es f).bind fun a=>
(Gs (Ba a 0)).bind fun _=>
some (Ad (Dj 48 (Bf (Ad b:UInt64) a)):Int)
abbrev Wh:=Option (UInt32×Int×Int)
def Uv(g a b:Int)(h:LB)(f k:Int):Wh:=
if((Bv a 0)||(Bv (Ah f b) k))then
some (0,0,24)
else
(Nz h f b k).bind fun m=>
if(Bv a 48)then
(Es g).bind fun o=>
some ((Ad (Ae (Ay (Ad a:UInt64) o) m):UInt32),(Ae b k),0)
else
(Aad (Ad m:UInt32) g).bind fun p=>
if(Bv p a)then
some (0,0,12)
else
some ((Ad m:UInt32),(Ae b k),0)
def Uw:=Uv
def Afw(j2:Int→Int→Int→LB→Int→Int→Wh)(h:LB)(f n g:Int):Wh:=
if(Kl n f)then
some (0,0,24)
else
(Amp h f n).bind fun(a,b)=>
if(geq a 48)then
j2 g a b h f 32
else
j2 g a b h f g
def Ac8:=Afw Uw
def Acd(g:LB)(b a f n:Int)(v w:UInt64):Option (UInt32×Int×Int):=
if(Kl a b)then
some (0,0,24)
else
(Jm g b a).bind fun o=>
if(geq o 0)then
if(Bv (Ah (Ah b a) 1) f)then
some (0,0,24)
else
(Nz g b (Ae a 1) f).bind fun p=>
some ((Ad p:UInt32),(Ae (Ae a 1) f),0)
else
(Ac8 g b (Ae a 1) n).bind fun(h,u,k)=>
if(Ba k 0)then
some (0,0,k)
else
(Es f).bind fun m=>
if(Ff (Ae (Ad h:UInt64) m) 4294967295)then
some (0,0,12)
else
some ((Ad (Ae (Ad h:UInt64) m):UInt32),u,0)
abbrev Bb:=Option (LU×Int)
def Apt(b:LU):Bb:=
some (b,0)
def Ap5:=Apt
def Qd(j18:LU→Bb)(bk16:Int→Bb)(a:LB)(b:LU)(m:Int):Bb:=
if(Bv m (Ay 8 (Ac a)))then
(Jm a (Ay 8 (Ac a)) m).bind fun n=>
if(Ba n 0)then
some (b,12)
else
bk16 (Ae m 1)
else
j18 b
def Hr(a:LB)(b:LU):Nat→Int→Bb
|0,_=>none
|q+1,m=>Qd Ap5 (Hr a b q) a b m
def Abt a b:=Hr a b Am
def Abp(j16:LB→LU→Int→Bb)(f:Int)(a:LB)(b:LU):Bb:=
if(Ff (Ah (Ay 8 (Ac a)) f) 7)then
some (b,12)
else
j16 a b f
def Qg:=Abp Abt
def Abo(bk10:Int→Int→LU→Bb)(g h:Int)(a:LB)(f k:Int)(b:LU)(o p:Int)(u v:UInt64):Bb:=
(Ad3 a (Ay 8 (Ac a)) f (Dj (Ae f 81) (Ay 8 (Ac a)))).bind fun(y,aa)=>
(Acd y aa 0 o p u v).bind fun(ab,ac,w)=>
if(Ba w 0)then
some (b,w)
else
(Dx b ([ab]:LU)).bind fun ad=>
bk10 (Ae f ac) (Ae k 1) ad
def Hu bk10:=Abo bk10
def Ab9(j13:Int→Int→LU→Int→Int→UInt64→UInt64→Bb)(j15:Int→LB→LU→Bb)(g h:Int)(a:LB)(f k:Int)(b:LU):Bb:=
if(Bv k (Ay h g))then
(Ku).bind fun(n,ae,af,ag)=>
if(Kl k g)then
(Na g b).bind fun(ah,ai,aj,ak)=>
j13 f k b ah ai aj ak
else
j13 f k b n ae af ag
else
j15 f a b
def Dz(g h:Int)(a:LB):Nat→Int→Int→LU→Bb
|0,_,_,_=>none
|q+1,f,k,b=>Ab9 (Hu (Dz g h a q) g h a) Qg g h a f k b
def Ap3 g h a:=Dz g h a Am
def Ae7(j10:Int→Int→LB→Int→Int→LU→Bb)(g h:Int)(a:LB):Bb:=
j10 g h a 0 0 ([]:LU)
def Abe:=Ae7 Ap3
def Ave(a:Int):Option (Int×Int):=
if(geq a 8)then
some (4,0)
else
if((geq a 16)||(geq a 24))then
some (5,0)
else
some (0,2)
def Ayj(a:Int)(b:LX):Option (Int×LX×LX×Int):=
(Ave a).bind fun(g,f)=>
if(Ba f 0)then
some (0,(List.replicate 16 (0:Int32)),(List.replicate 16 (0:Int32)),2)
else
if(geq a 16)then
some (9,b,(List.replicate 16 (0:Int32)),0)
else
some (10,b,(List.replicate 16 (0:Int32)),0)
def Amg(a:Int)(b:LX):Option (Int×Int32×Int×LX×LX×Int):=
(Ayj a b).bind fun(f,g,h,k)=>
if(Ba k 0)then
some (0,0,0,(List.replicate 16 (0:Int32)),(List.replicate 16 (0:Int32)),2)
else
some (a,0,f,g,h,0)
def Zo(a:UInt32):Option Int32:=
if(geq (Yk a 2) 0)then
some (Ad (Bf a 2):Int32)
else
some (Ad (Bf (Ax6 (Ae (Ad a:Int) 1)) 2):Int32)
def Bw(a:Int):Option Int32:=
some (Ad (Ad (Ad a:UInt64):UInt32):Int32)
def Af8(a:Int):Option Int32:=
some (Ad a:Int32)
def Afz:=Af8
def Ux(j6:Int→Option Int32)(bk4:Int→Int→Option Int32)(h:Int)(f g:LX)(a b:Int):Option Int32:=
if(Bv b 16)then
(getI f b).bind fun _=>
(getI g b).bind fun _=>
(getI f b).bind fun k=>
(getI g b).bind fun m=>
(Bw (Ay (Ad k:Int) (Ad m:Int))).bind fun n=>
(Bw (Ae a (Ad n:Int))).bind fun o=>
bk4 (Ad o:Int) (Ae b 1)
else
j6 a
def Jv(h:Int)(f g:LX):Nat→Int→Int→Option Int32
|0,_,_=>none
|q+1,a,b=>Ux Afz (Jv h f g q) h f g a b
def Aty h f g:=Jv h f g Am
def At0(j4:Int→LX→LX→Int→Int→Option Int32)(h:Int)(f g:LX):Option Int32:=
j4 h f g 0 0
def Amc:=At0 Aty
def Aem(b:Int)(f g:LX)(a:Int):Option Int32:=
(Amc b f g).bind fun k=>
(Bw (Ae (Ad k:Int) (Bf a 2))).bind fun h=>
(Gs (Ba a 0)).bind fun _=>
(Gs (Ba a 0)).bind fun _=>
if(Bv (Ey (Ad h:Int) a) 0)then
some (Ad (Ah (Bf (Ad h:Int) a) 1):Int32)
else
some (Ad (Bf (Ad h:Int) a):Int32)
def Tc:=Aem
def Ad9(j2:Int→LX→LX→Int→Option Int32)(b:Int)(f g:LX):Option Int32:=
if(geq b 9)then
j2 b f g 512
else
j2 b f g 1024
def Aai:=Ad9 Tc
def Zf(a:Int):Option Int32:=
if(geq a 0)then
some 4
else
if(gle a 3)then
some 2
else
some 1
def Rf(a:Int32):Option Int32:=
if(Bv a 0)then
some (-1:Int32)
else
if(Ff a 0)then
some 1
else
some 0
abbrev Df:=Option (Int×LX×LX)
def Amq(g:Int)(b a:LX):Df:=
some (g,b,a)
def Al8:=Amq
def Nx(j6:Int→LX→LX→Df)(bk4:Int→LX→Df)(h:Int32)(g:Int)(a:LX)(f:Int)(b:LX):Df:=
if(Bv f 16)then
(getI b f).bind fun _=>
(getI a f).bind fun _=>
(getI b f).bind fun k=>
(getI a f).bind fun m=>
(Zf f).bind fun n=>
(Rf m).bind fun o=>
(Rf h).bind fun p=>
(getI b f).bind fun _=>
(Jl b f (Ae k (Ay (Ay n o) p))).bind fun u=>
bk4 (Ae f 1) u
else
j6 g b a
def Gn(h:Int32)(g:Int)(a:LX):Nat→Int→LX→Df
|0,_,_=>none
|q+1,f,b=>Nx Al8 (Gn h g a q) h g a f b
def Amh h g a:=Gn h g a Am
def Alv(j4:Int32→Int→LX→Int→LX→Df)(g:Int)(v a:LX)(h:Int32):Df:=
j4 h g a 0 v
def Aez:=Alv Amh
abbrev Ea:=Option (Int×LX×LX)
def Zc(b:Int32)(f:Int)(g a:LX):Ea:=
(getI a 0).bind fun _=>
(Jl a 0 b).bind fun k=>
some (f,g,k)
def Abb:=Zc
def Pa(j6:Int32→Int→LX→LX→Ea)(bk4:Int→LX→Ea)(b:Int32)(f:Int)(g:LX)(h:Int)(a:LX):Ea:=
if(Ff h 0)then
(getI a (Ah h 1)).bind fun _=>
(getI a (Ah h 1)).bind fun m=>
(getI a h).bind fun _=>
(Jl a h m).bind fun n=>
bk4 (Ah h 1) n
else
j6 b f g a
def Gz(b:Int32)(f:Int)(g:LX):Nat→Int→LX→Ea
|0,_,_=>none
|q+1,h,a=>Pa Abb (Gz b f g q) b f g h a
def Ane b f g:=Gz b f g Am
def An7(j4:Int32→Int→LX→Int→LX→Ea)(f:Int)(g o:LX)(b:Int32):Ea:=
j4 b f g 15 o
def Af0:=An7 Ane
def Sj(a:Int)(b f:LX)(g:Int32):Option (Int32×Int×LX×LX):=
(Aai a b f).bind fun k=>
(Bw (Ae (Ad g:Int) (Ad k:Int))).bind fun h=>
(Aez a b f g).bind fun(m,n,o)=>
(Af0 m n o h).bind fun(p,u,v)=>
some (h,p,u,v)
def Aab(b:Int32)(a:Int):Option Int32:=
(Gs (Ba a 0)).bind fun _=>
(Gs (Ba a 0)).bind fun _=>
if(Bv (Ey (Ay (Ah a 1) (Ad b:Int)) a) 0)then
some (Ad (Ah (Bf (Ay (Ah a 1) (Ad b:Int)) a) 1):Int32)
else
some (Ad (Bf (Ay (Ah a 1) (Ad b:Int)) a):Int32)
def Og:=Aab
def Zm(j2:Int32→Int→Option Int32)(f:Int)(b:Int32):Option Int32:=
if(geq f 5)then
j2 b 32
else
j2 b 16
def Mz:=Zm Og
def Vg(b:Int)(a:Int32)(h:Int)(k m:LX):Option Int:=
if(geq b 8)then
(Mz 4 a).bind fun f=>
some (Ad f:Int)
else
(Mz 5 a).bind fun g=>
some (Ad g:Int)
def Tj(a:Int)(k:Int32)(b:Int)(f g:LX)(m:Int32):Option (Int32×Int×Int32×Int×LX×LX):=
(Sj b f g m).bind fun(n,o,p,u)=>
(Vg a k b f g).bind fun v=>
(Bw (Ae (Ad n:Int) v)).bind fun h=>
some (h,a,h,o,p,u)
def Oh(a:Int)(b:LX):Option Int:=
if((Bv a 1)||(Ff a 6))then
some 2
else
if(Ff (Ac b) 4000)then
some 4
else
(Gs (Ba a 0)).bind fun _=>
if(Ff (Ey (Ac b) a) 0)then
some 2
else
some 0
def Amj(b:LX):Option (LX):=
some b
def Alq:=Amj
def Nf(j8:LX→Option (LX))(bk6:Int→LX→Option (LX))(a:LX)(f:Int)(b:LX):Option (LX):=
if(Kl f 0)then
(getI b (Ae f 1)).bind fun _=>
(getI a f).bind fun m=>
(getI b (Ae f 1)).bind fun n=>
(Bw (Ah (Ad n:Int) (Ad m:Int))).bind fun o=>
(getI b f).bind fun _=>
(Jl b f o).bind fun p=>
bk6 (Ah f 1) p
else
j8 b
def Gj(a:LX):Nat→Int→LX→Option (LX)
|0,_,_=>none
|q+1,f,b=>Nf Alq (Gj a q) a f b
def Al6 a:=Gj a Am
def Xi(j6:LX→Int→LX→Option (LX))(a g:LX):Option (LX):=
j6 a (Ah (Ac a) 2) g
def Nl:=Xi Al6
def Xk(j5:LX→LX→Option (LX))(a:LX):Option (LX):=
(mkI (Ac a) (0:Int32)).bind fun k=>
(Gs (geq (Ac a) (Ac a))).bind fun _=>
(getI a (Ah (Ac a) 1)).bind fun u=>
(getI k (Ah (Ac a) 1)).bind fun _=>
(Jl k (Ah (Ac a) 1) u).bind fun h=>
if(Ff (Ac a) 1)then
(getI a (Ah (Ac a) 1)).bind fun v=>
(getI a (Ah (Ac a) 2)).bind fun w=>
(Bw (Ae (Ad v:Int) (Bf (Ad w:Int) 2))).bind fun y=>
(getI h (Ah (Ac a) 1)).bind fun _=>
(Jl h (Ah (Ac a) 1) y).bind fun aa=>
j5 a aa
else
j5 a h
def Sr:=Xk Nl
abbrev Fo:=Option (LX×Int)
def Asx(f:LX):Fo:=
some (f,0)
def Aq3:=Asx
def Ae2(j6:LX→Fo)(bk4:Int→LX→Fo)(a:Int)(b:LX)(g:Int)(f:LX):Fo:=
if(Bv g (Ac b))then
(Ca b g (Ae g a)).bind fun h=>
(Sr h).bind fun k=>
(Dx f k).bind fun m=>
bk4 (Ae g a) m
else
j6 f
def Ma(a:Int)(b:LX):Nat→Int→LX→Fo
|0,_,_=>none
|q+1,g,f=>Ae2 Aq3 (Ma a b q) a b g f
def Aqc a b:=Ma a b Am
def Adt(j4:Int→LX→Int→LX→Fo)(a:Int)(b:LX):Fo:=
(Oh a b).bind fun n=>
if(Ba n 0)then
(Oh a b).bind fun o=>
some (([]:LX),o)
else
j4 a b 0 ([]:LX)
def Abf:=Adt Aqc
def Yd(a f:Int)(w:LX):Option (LX):=
(Abf a w).bind fun(aj,ai)=>
some aj
def Ns:=Yd
def Xt(bk18:Int→LX→Option (LX))(b:LU)(a f:Int)(g:LX)(h:Int)(m:LX):Option (LX):=
bk18 (Ae h 1) m
def Xs bk18:=Xt bk18
def Xx(bk26:Int→LX→Int→Int32→Int→LX→LX→Option (LX))(b:LU)(h a f:Int)(g:LX)(k:Int)(af:LX)(y:Int)(aa:Int32)(ab:Int)(ac ad:LX):Option (LX):=
bk26 (Ae k a) af y aa ab ac ad
def Yi bk26:=Xx bk26
def Xq(j30:Int→LX→Int→Int32→Int→LX→LX→Option (LX))(b:LU)(h a f:Int)(g:LX)(k:Int)(ae:Int32)(m:LX)(n:Int)(o:Int32)(p:Int)(u v:LX)(y:Int)(aa:Int32)(ab:Int)(ac ad:LX):Option (LX):=
(getI m k).bind fun _=>
(Jl m k ae).bind fun af=>
j30 k af y aa ab ac ad
def Xz bk26 b h a f g:=Xq (Yi bk26 b h a f g) b h a f g
def Xn(j29:Int→Int32→LX→Int→Int32→Int→LX→LX→Int→Int32→Int→LX→LX→Option (LX))(j32:Int→LX→Option (LX))(b:LU)(a f:Int)(g:LX)(h k:Int)(m:LX)(n:Int)(o:Int32)(p:Int)(u v:LX):Option (LX):=
if(Bv k (Ac b))then
(getI b k).bind fun ah=>
(
(Zo ah).bind fun ag=>
(
(Tj n o p u v ag).bind fun(ae,y,aa,ab,ac,ad)=>
j29 k ae m n o p u v y aa ab ac ad))
else
j32 h m
def Jc(bk18:Int→LX→Option (LX))(b:LU)(a f:Int)(g:LX)(h:Int):Nat→Int→LX→Int→Int32→Int→LX→LX→Option (LX)
|0,_,_,_,_,_,_,_=>none
|q+1,k,m,n,o,p,u,v=>Xn (Xz (Jc bk18 b a f g h q) b h a f g) (Xs bk18 b a f g) b a f g h k m n o p u v
def Xw bk18 b a f g h:=Jc bk18 b a f g h Am
def Nw(j26:Int→Int→LX→Int→Int32→Int→LX→LX→Option (LX))(j34:Int→Int→LX→Option (LX))(b:LU)(a f:Int)(g:LX)(h:Int)(w:LX):Option (LX):=
if(Bv h a)then
(Amg f g).bind fun(ak,ai,al,am,an,aq)=>
j26 h h w ak ai al am an
else
j34 a f w
def Ek(b:LU)(a f:Int)(g:LX):Nat→Int→LX→Option (LX)
|0,_,_=>none
|q+1,h,w=>Nw (Xw (Ek b a f g q) b a f g) Ns b a f g h w
def Yj b a f g:=Ek b a f g Am
def Yn(j18:LU→Int→Int→LX→Int→LX→Option (LX))(a f:Int)(g:LX)(b:LU):Option (LX):=
(mkI (Ac b) (0:Int32)).bind fun ao=>
(Gs (geq (Ac b) (Ac b))).bind fun _=>
j18 b a f g 0 ao
def Mv:=Yn Yj
def Uj(g f:Int)(a:LX):Option (LX×Int):=
(cadenzaref18_Check f a).bind fun b=>
if(Ba b 0)then
some (([]:LX),b)
else
some (a,0)
abbrev Pw:=Option (LX×Int)
def Ok(f a b:Int)(g:LX)(h:LU):Pw:=
if(Ba f 0)then
some (([]:LX),f)
else
(
(
(Mv a b g h).bind fun m=>
(Uj a b m).bind fun(n,o)=>
some (n,o)))
def Oq:=Ok
def Za(j2:Int→Int→Int→LX→LU→Pw)(a b:Int)(g:LX)(p:Int)(k:LB):Pw:=
(Gf a b p).bind fun y=>
if(Ba y 0)then
some (([]:LX),2)
else
(My k).bind fun aa=>
if(Ba aa 0)then
(My k).bind fun ab=>
some (([]:LX),ab)
else
(Ca k 0 (Ah (Ac k) 4)).bind fun ac=>
(Abe a p ac).bind fun(h,f)=>
j2 f a b g h
def cadenzaref21_Decode:=Za Oq
def Ug(a b:Int):Option (LB):=
if(geq a 24)then
(Dx ([(Ad (Ey b 256):UInt8),(Ad (Ey (Bf b 256) 256):UInt8)]:LB) ([(Ad (Bf b 65536):UInt8)]:LB)).bind fun g=>
some g
else
some ([(Ad (Ey b 256):UInt8),(Ad (Ey (Bf b 256) 256):UInt8)]:LB)
def Js:=Ug
def Af3(j2:Int→Int→Option (LB))(a:Int)(f:Int32):Option (LB):=
if(geq a 8)then
some ([(Ad (Ae (Ad f:Int) 128):UInt8)]:LB)
else
if(Bv (Ad f:Int) 0)then
(Jd a).bind fun h=>
j2 a (Ae (Ad f:Int) (Ay 2 h))
else
j2 a (Ad f:Int)
def Ach:=Af3 Js
abbrev Ev:=Option (LB×Int)
def Apk(b:LB):Ev:=
some (b,0)
def Apq:=Apk
def Qi(j6:LB→Ev)(bk4:Int→LB→Ev)(f:Int)(a:LX)(g:Int)(b:LB):Ev:=
if(Bv g (Ac a))then
(getI a g).bind fun h=>
(Ach f h).bind fun k=>
(Dx b k).bind fun m=>
bk4 (Ae g 1) m
else
j6 b
def Hq(f:Int)(a:LX):Nat→Int→LB→Ev
|0,_,_=>none
|q+1,g,b=>Qi Apq (Hq f a q) f a g b
def Ap2 f a:=Hq f a Am
def Ab3(j4:Int→LX→Int→LB→Ev)(f:Int)(a:LX):Ev:=
(cadenzaref18_Check f a).bind fun n=>
if(Ba n 0)then
(cadenzaref18_Check f a).bind fun o=>
some (([]:LB),o)
else
j4 f a 0 ([]:LB)
def Wy:=Ab3 Ap2
abbrev Hy:=Option (Int×Int×Int×Int×Int×Int×LI×Int)
def Abi(m n b h k f g:Int)(o:LI):Hy:=
if(Ba n 0)then
some (0,0,0,0,0,0,([]:LI),n)
else
some (b,h,k,f,g,(Ae (Ae m (Ay 4 (Ac o))) 4),o,0)
def Aa5:=Abi
def Aaq(j4:Int→Int→Int→Int→Int→Int→Int→LI→Hy)(a:LB)(b h k f g m:Int):Hy:=
(Ca a m (Ac a)).bind fun y=>
(Er f g).bind fun aa=>
(Ys y (Ac aa)).bind fun(o,n)=>
j4 m n b h k f g o
def Ke:=Aaq Aa5
def Od(j3:LB→Int→Int→Int→Int→Int→Int→Hy)(a u:LB):Hy:=
if(Ff (Ac a) 100000)then
some (0,0,0,0,0,0,([]:LI),4)
else
(Wv a).bind fun(p,v)=>
if(Ba v 0)then
some (0,0,0,0,0,0,([]:LI),v)
else
(Ca a p (Ac a)).bind fun ab=>
(Zn ab).bind fun(b,h,k,f,g,w)=>
if(Ba w 0)then
some (0,0,0,0,0,0,([]:LI),w)
else
if((u==([]:LB)) !=(geq b 1))then
some (0,0,0,0,0,0,([]:LI),26)
else
if(geq b 2)then
if(Bv (Ah (Ac a) (Ae p 22)) 8)then
some (0,0,0,0,0,0,([]:LI),24)
else
(Ca a (Ae p 22) (Ae (Ae p 22) 8)).bind fun ac=>
(Sd u).bind fun ad=>
if(ac !=ad)then
some (0,0,0,0,0,0,([]:LI),26)
else
j3 a b h k f g (Ae (Ae p 22) 8)
else
j3 a b h k f g (Ae p 22)
def cadenzaref40_Opened:=Od Ke
def Ap8(a:Int):Option Int:=
some a
def Apy:=Ap8
def Qe(j6:Int→Option Int)(bk4:Int→Int→Option Int)(b h k m n o f:Int)(g:LI)(a p:Int):Option Int:=
if(Bv p b)then
(getI g p).bind fun u=>
bk4 (Ae a u) (Ae p 1)
else
j6 a
def Hw(b h k m n o f:Int)(g:LI):Nat→Int→Int→Option Int
|0,_,_=>none
|q+1,a,p=>Qe Apy (Hw b h k m n o f g q) b h k m n o f g a p
def Aps b h k m n o f g:=Hw b h k m n o f g Am
def Apr(j4:Int→Int→Int→Int→Int→Int→Int→LI→Int→Int→Option Int)(h k m n o f:Int)(g:LI)(b:Int):Option Int:=
j4 b h k m n o f g f 0
def Aic:=Apr Aps
abbrev Wl:=Option (LB×Int)
def Uk(p:LX)(m n g b h k o:Int)(a:LI):Wl:=
if(Ba m 0)then
some (([]:LB),m)
else
(Wy b p).bind fun(af,ai)=>
some (af,0)
def Uy:=Uk
def Vh(j2:LX→Int→Int→Int→Int→Int→Int→Int→LI→Wl)(v y:LB)(n g b h k o:Int)(a:LI)(f:Int):Wl:=
(Aic n g b h k o a f).bind fun u=>
(getI a f).bind fun aa=>
if(Bv (Ah (Ac v) u) aa)then
some (([]:LB),24)
else
(Zd y).bind fun(ab,ag)=>
(getI a f).bind fun ac=>
(Ca v u (Ae u ac)).bind fun ad=>
(
(Er h k).bind fun w=>
(getI w f).bind fun _=>
(getI w f).bind fun ae=>
(cadenzaref21_Decode g b ab ae ad).bind fun(p,m)=>
j2 p m n g b h k o a)
def cadenzaref40_Got:=Vh Uy
abbrev As:=Option (LX×Int)
def Ak7(h:LX):As:=
some (h,0)
def Akp:=Ak7
def Vx(bk16:Int→LX→As)(a:Int)(b:LB)(f g:Int)(n:LX):As:=
bk16 (Ae g (Bf a 8)) n
def Mm bk16:=Vx bk16
def Vt(j28:Int→LX→As)(a:Int)(b:LB)(f g k:Int)(h:LX):As:=
if(geq a 8)then
(Dx h ([(Ad (Ah k 128):Int32)]:LX)).bind fun o=>
j28 g o
else
if(Kl k f)then
(Dx h ([(Ad (Ah k (Ay 2 f)):Int32)]:LX)).bind fun p=>
j28 g p
else
(Dx h ([(Ad k:Int32)]:LX)).bind fun u=>
j28 g u
def Io bk16 a b f:=Vt (Mm bk16 a b f) a b f
def Ms(j27:Int→Int→LX→As)(bk25:Int→Int→As)(a:Int)(b:LB)(f g:Int)(h:LX)(k m:Int):As:=
if(Kl m 0)then
(getI b (Ae g m)).bind fun v=>
bk25 (Ae (Ay 256 k) (Ad v:Int)) (Ah m 1)
else
j27 g k h
def Cs(bk16:Int→LX→As)(a:Int)(b:LB)(f g:Int)(h:LX):Nat→Int→Int→As
|0,_,_=>none
|q+1,k,m=>Ms (Io bk16 a b f) (Cs bk16 a b f g h q) a b f g h k m
def Vk bk16 a b f g h:=Cs bk16 a b f g h Am
def Mn(j25:Int→LX→Int→Int→As)(j30:LX→As)(a:Int)(b:LB)(f g:Int)(h:LX):As:=
if(Bv g (Ac b))then
j25 g h 0 (Ah (Bf a 8) 1)
else
j30 h
def Cd(a:Int)(b:LB)(f:Int):Nat→Int→LX→As
|0,_,_=>none
|q+1,g,h=>Mn (Vk (Cd a b f q) a b f) Akp a b f g h
def Vu a b f:=Cd a b f Am
def Yg(j16:Int→LB→Int→Int→LX→As)(a:Int)(b:LB):As:=
(Jd a).bind fun f=>
if(geq f 0)then
some (([]:LX),2)
else
(Gs (Ba (Bf a 8) 0)).bind fun _=>
if(Ff (Ey (Ac b) (Bf a 8)) 0)then
some (([]:LX),12)
else
(Gs (Ba (Bf a 8) 0)).bind fun _=>
if(Ff (Bf (Ac b) (Bf a 8)) 4000)then
some (([]:LX),4)
else
j16 a b f 0 ([]:LX)
def Rs:=Yg Vu
end Go.Pl
