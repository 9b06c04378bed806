/- A part of the proof of a statement of this seat (see the text that ends in Proof): SfPure. No conditions of its own. -/
import Derived.Test.YtkkcakakemjdeaaGreatDoorSfBA
set_option linter.unusedVariables false
namespace Go.Pl
open Go Go.Lv
abbrev LB:=List UInt8
abbrev LI:=List Int
abbrev LX:=List Int32
abbrev LU:=List UInt32
abbrev LQ:=List UInt64
def Ar1(a b f:Int)(g:LX):Option (Int×Int):=
some (a,b)
abbrev Ahv:=Option (Int32×Int32×Int)
def Azq(a:Int)(b:Bool):Ahv:=
if b then
(Gf (Ih (Ah a 1) 0)).bind fun _=>
some ((Ath (Cj (1:Int32) (GI.toZ (Ah a 1)).toNat)),(Ah (Cj (1:Int32) (GI.toZ (Ah a 1)).toNat) 1),0)
else
some (0,0,2)
def An8:=Azq
def Apo(j2:Int→Bool→Ahv)(a:Int):Ahv:=
if(geq a 8)then
j2 a (geq a 8)
else
if(geq a 16)then
j2 a (geq a 16)
else
j2 a (geq a 24)
def Aa4:=Apo An8
def Mu(a b:Int):Option Int:=
(Aa4 b).bind fun(g,h,f)=>
if(((Be f 0)||(Bq a 1))||(Ev a 6))then
some 2
else
some 0
def Qi(a:Int):Option (Int×Int):=
if((Bq a 1)||(Ev a 1048576))then
some (0,2)
else
some ((Aql 1 (Bt (Bg 256 a) 245)),0)
def Kf(g b:Int):Option (Int×Int):=
(Qi g).bind fun(a,f)=>
if(Be f 0)then
some (0,f)
else
if((Bq b 1)||(Ev b 4000))then
some (0,2)
else
(Gf (Be a 0)).bind fun _=>
if(Ev (Bt (Ah (Ae b a) 1) a) 1000)then
some (0,4)
else
some ((Bt (Ah (Ae b a) 1) a),0)
def Bed(a g f:Int)(h:LX)(b:Int):Option Int:=
(Ar1 a g f h).bind fun(k,m)=>
(Mu k m).bind fun n=>
if((Be n 0)||(Bq b 1))then
some 8
else
(Gf (Be a 0)).bind fun _=>
if(Ev b (Bt 4000 a))then
some 8
else
(Kf f b).bind fun(p,o)=>
if(Be o 0)then
some 8
else
some 0
def Bb6:Option Int:=
some 0
def An4:=Bb6
def Ye(j6:Option Int)(bk4:Int→Option Int)(b f:Int32)(a:LX)(g:Int):Option Int:=
if(Bq g (Ac a))then
(getI a g).bind fun h=>
if((Bq h b)||(Ev h f))then
some 16
else
bk4 (Ae g 1)
else
j6
def Kx(b f:Int32)(a:LX):Nat→Int→Option Int
|0,_=>none
|q+1,g=>Ye An4 (Kx b f a q) b f a g
def Aog b f a:=Kx b f a Ap
def Afx(j4:Int32→Int32→LX→Int→Option Int)(m:Int)(a:LX):Option Int:=
(Aa4 m).bind fun(b,f,k)=>
if(Be k 0)then
some k
else
if(Ev (Ac a) 4000)then
some 4
else
j4 b f a 0
def Pn:=Afx Aog
def Aaf(a f h:Int)(b:LX):Option Int:=
if(Bq a 1)then
some 8
else
(Gf (Be a 0)).bind fun _=>
if(Be (En (Ac b) a) 0)then
some 8
else
(Gf (Be a 0)).bind fun _=>
(Bed a f h b (Bt (Ac b) a)).bind fun g=>
if(Be g 0)then
some g
else
(Pn f b).bind fun k=>
if(Be k 0)then
some 8
else
some 0
abbrev Ah3:=Option (Int×Int×Int×Int×Int×Int)
def Azp(h:LB)(a b f:Int)(g:LX):Ah3:=
if(h !=([]:LB))then
some (2,a,b,f,(Bt (Ac g) a),0)
else
some (1,a,b,f,(Bt (Ac g) a),0)
def An5:=Azp
def Ae0(j2:LB→Int→Int→Int→LX→Ah3)(a b f:Int)(g:LX)(h:LB):Ah3:=
(Aaf a b f g).bind fun k=>
if(Be k 0)then
some (0,0,0,0,0,k)
else
if(Ev (Ac h) 64)then
some (0,0,0,0,0,2)
else
(Gf (Be a 0)).bind fun _=>
(
j2 h a b f g)
def Aw9:=Ae0 An5
abbrev Bc:=Option (UInt64×Int)
def Apa(h:UInt64):Bc:=
some (h,0)
def Afy:=Apa
def Afj(j30:UInt64→Bc)(h b:UInt64)(a:LB)(f:LQ):Bc:=
j30 h
def Afv:=Afj Afy
def Ww(j29:UInt64→UInt64→LB→LQ→Bc)(bk27:UInt64→Int→Bc)(a:LB)(b:UInt64)(f:LQ)(h:UInt64)(m:Int):Bc:=
if(Bq m (Ac a))then
(getI a m).bind fun p=>
Option.bind (getI f (GI.toZ (Qh (Ad (Bh h (GI.toZ (56:UInt64)).toNat):UInt8) p))) fun _=>
Option.bind (getI f (GI.toZ (Qh (Ad (Bh h (GI.toZ (56:UInt64)).toNat):UInt8) p))) fun u=>
bk27 (Qh (Cj h (GI.toZ (8:UInt64)).toNat) u) (Ae m 1)
else
j29 h b a f
def Ld(a:LB)(b:UInt64)(f:LQ):Nat→UInt64→Int→Bc
|0,_,_=>none
|q+1,h,m=>Ww Afv (Ld a b f q) a b f h m
def Aev a b f:=Ld a b f Ap
def Afz(j27:LB→UInt64→LQ→UInt64→Int→Bc)(b:UInt64)(a:LB)(f:LQ):Bc:=
j27 a b f b 0
def Yc:=Afz Aev
def An3(bk16:Int→LQ→Bc)(b:UInt64)(a:LB)(g:Int)(o:LQ):Bc:=
bk16 (Ae g 1) o
def Afk bk16:=An3 bk16
def Agg(j24:Int→LQ→Bc)(b:UInt64)(a:LB)(g:Int)(k:UInt64)(f:LQ):Bc:=
(getI f g).bind fun _=>
(Hl f g k).bind fun o=>
j24 g o
def Wz bk16 b a:=Agg (Afk bk16 b a) b a
def Wv(j23:Int→UInt64→LQ→Bc)(bk21:UInt64→Int→Bc)(b:UInt64)(a:LB)(g:Int)(f:LQ)(k:UInt64)(n:Int):Bc:=
if(Bq n 8)then
bk21 (Qh (Cj k (GI.toZ (1:UInt64)).toNat) (Bg 4823603603198064275 (Bh k (GI.toZ (63:UInt64)).toNat))) (Ae n 1)
else
j23 g k f
def Kw(bk16:Int→LQ→Bc)(b:UInt64)(a:LB)(g:Int)(f:LQ):Nat→UInt64→Int→Bc
|0,_,_=>none
|q+1,k,n=>Wv (Wz bk16 b a) (Kw bk16 b a g f q) b a g f k n
def Aes bk16 b a g f:=Kw bk16 b a g f Ap
def Vj(j21:Int→LQ→UInt64→Int→Bc)(j26:UInt64→LB→LQ→Bc)(b:UInt64)(a:LB)(g:Int)(f:LQ):Bc:=
if(Bq g 256)then
j21 g f (Cj (Ad g:UInt64) (GI.toZ (56:UInt64)).toNat) 0
else
j26 b a f
def Iu(b:UInt64)(a:LB):Nat→Int→LQ→Bc
|0,_,_=>none
|q+1,g,f=>Vj (Aes (Iu b a q) b a) Yc b a g f
def Aey b a:=Iu b a Ap
def Ain(j16:UInt64→LB→Int→LQ→Bc)(b:UInt64)(a:LB):Bc:=
if(Ev (Ac a) 100000)then
some (0,4)
else
j16 b a 0 (List.replicate 256 (0:UInt64))
def Ak6:=Ain Aey
def Ajh(a:LB):Option (UInt64×Int):=
(Ak6 0 a).bind fun(b,f)=>
some (b,f)
def Bkl(a:LX):Option (LX):=
some a
def Azt:=Bkl
def Aka(j6:LX→Option (LX))(bk4:Int→LX→Option (LX))(f:UInt64)(b:Int)(a:LX):Option (LX):=
if(Bq b 8)then
(Gf (Ih (Bg 8 b) 0)).bind fun _=>
(getI a b).bind fun _=>
(Hl a b (Ad (Ad (Bh f (GI.toZ (Bg 8 b)).toNat):Int8):Int32)).bind fun g=>
bk4 (Ae b 1) g
else
j6 a
def Zm(f:UInt64):Nat→Int→LX→Option (LX)
|0,_,_=>none
|q+1,b,a=>Aka Azt (Zm f q) f b a
def Ba5 f:=Zm f Ap
def Bav(j4:UInt64→Int→LX→Option (LX))(f:UInt64):Option (LX):=
j4 f 0 (List.replicate 16 (0:Int32))
def Bfv:=Bav Ba5
def Uw(a:LB):Option (LX×Int):=
if(Ev (Ac a) 64)then
some (([(0:Int32),(0:Int32),(0:Int32),(0:Int32),(0:Int32),(0:Int32),(0:Int32),(0:Int32),(0:Int32),(0:Int32),(0:Int32),(0:Int32),(0:Int32),(0:Int32),(0:Int32),(0:Int32)]:LX),2)
else
(Ajh a).bind fun(f,b)=>
if(Be b 0)then
some (([(0:Int32),(0:Int32),(0:Int32),(0:Int32),(0:Int32),(0:Int32),(0:Int32),(0:Int32),(0:Int32),(0:Int32),(0:Int32),(0:Int32),(0:Int32),(0:Int32),(0:Int32),(0:Int32)]:LX),b)
else
(Bfv f).bind fun g=>
some (g,0)
def Acu(a b:UInt64):Option (UInt64×UInt64):=
some ((Ae (Ae (Bg (Bh a (GI.toZ (32:UInt64)).toNat) (Bh b (GI.toZ (32:UInt64)).toNat)) (Bh (Ae (Bg (Bh a (GI.toZ (32:UInt64)).toNat) (Cq b 4294967295)) (Bh (Bg (Cq a 4294967295) (Cq b 4294967295)) (GI.toZ (32:UInt64)).toNat)) (GI.toZ (32:UInt64)).toNat)) (Bh (Ae (Cq (Ae (Bg (Bh a (GI.toZ (32:UInt64)).toNat) (Cq b 4294967295)) (Bh (Bg (Cq a 4294967295) (Cq b 4294967295)) (GI.toZ (32:UInt64)).toNat)) 4294967295) (Bg (Cq a 4294967295) (Bh b (GI.toZ (32:UInt64)).toNat))) (GI.toZ (32:UInt64)).toNat)),(Bg a b))
def Aay(a b:UInt64):Option (UInt64×UInt64):=
(Acu a b).bind fun(f,g)=>
some (f,g)
def Ji(a:LI):Option (LI):=
some a
def Fx:=Ji
def Ek(j10:LI→Option (LI))(bk8:Int→LI→Option (LI))(b:Int)(a:LI):Option (LI):=
if(Bq b (Ac a))then
(
(vwI (Ac a) b (Ac a)).bind fun _=>
(vwI (Ac a) 0 b).bind fun _=>
bk8 (Ae b (Aet ((Ac a)-b) (Aht a 0 (b-(0:Int))).length)) (Ng a b ((Ac a)-b) (Aht a 0 (b-(0:Int)))))
else
j10 a
def Cx:Nat→Int→LI→Option (LI)
|0,_,_=>none
|q+1,b,a=>Ek Fx (Cx q) b a
def Kb:=Cx Ap
def Ke(j8:Int→LI→Option (LI))(f:LI)(g:UInt64):Option (LI):=
(mkI (Ad g:Int) (0:Int)).bind fun k=>
(Gf (geq (Ad g:Int) (Ad g:Int))).bind fun _=>
j8 (Aet (Ac k) f.length) (Ba7 k f)
def Kk:=Ke Kb
def Kg(j7:LI→UInt64→Option (LI))(f:LI)(h:Int):Option (LI):=
(Aay (Ad (Ac f):UInt64) (Ad h:UInt64)).bind fun(m,g)=>
if((Ev m 0)||(Ev g 9223372036854775807))then
none
else
j7 f g
def Ki:=Kg Kk
def Kc(j6:LI→Int→Option (LI))(f:LI)(h:Int):Option (LI):=
if(Bq h 0)then
none
else
j6 f h
def Iy:=Kc Ki
def Ago(f:LI):Option (LI):=
some f
def Qj:=Ago
def Ec(j16:LI→Option (LI))(bk14:Int→LI→Option (LI))(a:List LI)(g:Int)(f:LI):Option (LI):=
if(Bq g (Ac a))then
(getI a g).bind fun o=>
(Et f o).bind fun p=>
bk14 (Ae g 1) p
else
j16 f
def Cl(a:List LI):Nat→Int→LI→Option (LI)
|0,_,_=>none
|q+1,g,f=>Ec Qj (Cl a q) a g f
def Jk a:=Cl a Ap
def Jp(j14:(List LI)→Int→LI→Option (LI))(a:List LI)(k:LI):Option (LI):=
j14 a 0 k
def Fu:=Jp Jk
def Jj(j13:(List LI)→LI→Option (LI))(b:Int)(a:List LI):Option (LI):=
if(Ev (Ah b (Ah (0:Int) (0:Int))) 0)then
(vwI 0 0 0).bind fun _=>
(mkI (Ah b (Ah (0:Int) (0:Int))) (0:Int)).bind fun u=>
(Et ([]:LI) u).bind fun m=>
(vwI (Ac m) 0 0).bind fun _=>
j13 a (Aht m 0 ((0:Int)-(0:Int)))
else
j13 a ([]:LI)
def Jr:=Jj Fu
def Jm(j12:Int→(List LI)→Option (LI))(a:List LI)(b:Int):Option (LI):=
if(Bq b 0)then
none
else
j12 b a
def Jl:=Jm Jr
def El(j11:(List LI)→Int→Option (LI))(bk9:Int→Int→Option (LI))(a:List LI)(b h:Int):Option (LI):=
if(Bq h (Ac a))then
(getI a h).bind fun n=>
if(Bq (Ae b (Ac n)) 0)then
none
else
bk9 (Ae b (Ac n)) (Ae h 1)
else
j11 a b
def Cy(a:List LI):Nat→Int→Int→Option (LI)
|0,_,_=>none
|q+1,b,h=>El Jl (Cy a q) a b h
def Kl a:=Cy a Ap
def Kh(j9:(List LI)→Int→Int→Option (LI))(a:List LI):Option (LI):=
j9 a 0 0
def Iz:=Kh Kl
def Af0(a b:LI):Option (LI):=
(Iz ([a,b]:List LI)).bind fun f=>
some f
def Pg(a b:Int):Option (LI×Int):=
(Kf a b).bind fun(f,g)=>
if(Be g 0)then
some (([]:LI),g)
else
(Qi a).bind fun(h,n)=>
(Iy ([h]:LI) (Ah f 1)).bind fun k=>
(Af0 k ([(Ah b (Bg (Ah f 1) h))]:LI)).bind fun m=>
some (m,0)
def Arn(a f:Int)(b:LX):Option Int:=
(Mu a f).bind fun g=>
if(Be g 0)then
some g
else
(Pn f b).bind fun h=>
if(Be h 0)then
some h
else
if(geq (Ac b) 0)then
some 2
else
(Gf (Be a 0)).bind fun _=>
if(Be (En (Ac b) a) 0)then
some 2
else
some 0
def Ajc(a:Int)(b:LX):Option Int:=
if((Bq a 1)||(Ev a 6))then
some 2
else
if(Ev (Ac b) 4000)then
some 4
else
(Gf (Be a 0)).bind fun _=>
if(Be (En (Ac b) a) 0)then
some 2
else
some 0
def Cw(a:LX):Option (LX):=
(
(Et ([]:LX) a).bind fun b=>
some b)
abbrev Fo:=Option (LX×Int)
def Bhr(f:LX):Fo:=
some (f,0)
def Awe:=Bhr
def Bjc(bk12:Int→LX→Fo)(b a:Int)(k:LX):Fo:=
bk12 (Ae a b) k
def Av3 bk12:=Bjc bk12
def Av4(j20:Int→LX→Fo)(b a:Int)(g:LX):Fo:=
if(Ev (Ah ((Ae a b)-a) 1) 0)then
(Gf (decide (0≤(Ah ((Ae a b)-a) 1)∧(Ah ((Ae a b)-a) 1)<((Ae a b)-a)))).bind fun _=>
Option.bind (Gf (decide (0≤(Ah (Ah ((Ae a b)-a) 1) 1)∧(Ah (Ah ((Ae a b)-a) 1) 1)<((Ae a b)-a)))) fun _=>
(getI g (a+(Ah ((Ae a b)-a) 1))).bind fun m=>
(getI g (a+(Ah (Ah ((Ae a b)-a) 1) 1))).bind fun n=>
(Gf (decide (0≤(Ah ((Ae a b)-a) 1)∧(Ah ((Ae a b)-a) 1)<((Ae a b)-a)))).bind fun _=>
(Hl g (a+(Ah ((Ae a b)-a) 1)) (Ah m (Bt n 2))).bind fun o=>
j20 a o
else
j20 a g
def Axh bk12 b:=Av4 (Av3 bk12 b) b
def Aw5(j19:Int→LX→Fo)(bk17:Int→LX→Fo)(b a h:Int)(g:LX):Fo:=
if(Bq h (Ah ((Ae a b)-a) 1))then
(Gf (decide (0≤(Ae h 1)∧(Ae h 1)<((Ae a b)-a)))).bind fun _=>
(Gf (decide (0≤h∧h<((Ae a b)-a)))).bind fun _=>
(getI g (a+(Ae h 1))).bind fun m=>
(getI g (a+h)).bind fun n=>
(Gf (decide (0≤h∧h<((Ae a b)-a)))).bind fun _=>
(Hl g (a+h) (Ah m n)).bind fun o=>
bk17 (Ae h 1) o
else
j19 a g
def Apq(bk12:Int→LX→Fo)(b a:Int):Nat→Int→LX→Fo
|0,_,_=>none
|q+1,h,g=>Aw5 (Axh bk12 b) (Apq bk12 b a q) b a h g
def Awg bk12 b a:=Apq bk12 b a Ap
def Awt(j17:Int→Int→LX→Fo)(j22:LX→Fo)(b a:Int)(f:LX):Fo:=
if(Bq a (Ac f))then
(vwI (Ac f) a (Ae a b)).bind fun _=>
j17 a 0 f
else
j22 f
def Apk(b:Int):Nat→Int→LX→Fo
|0,_,_=>none
|q+1,a,f=>Awt (Awg (Apk b q) b) Awe b a f
def Awl b:=Apk b Ap
def Ayo(j12:Int→Int→LX→Fo)(b:Int)(p:LX):Fo:=
(Ajc b p).bind fun u=>
if(Be u 0)then
some (([]:LX),u)
else
(Cw p).bind fun v=>
j12 b 0 v
def Bm0:=Ayo Awl
abbrev Asw:=Option (Int×LX×LX×Int)
def Bgv(a:Int)(b:LX)(f:Bool):Asw:=
if f then
some (10,b,(List.replicate 16 (0:Int32)),0)
else
if(geq a 16)then
some (9,b,(List.replicate 16 (0:Int32)),0)
else
some (0,(List.replicate 16 (0:Int32)),(List.replicate 16 (0:Int32)),2)
def Axa:=Bgv
def Axe(j2:Int→LX→Bool→Asw)(a:Int)(b:LX):Asw:=
if(geq a 8)then
j2 a b (geq a 8)
else
j2 a b (geq a 24)
def Atx:=Axe Axa
def Avs(a:Int)(f:LX):Option (Int×Int32×Int×LX×LX×Int):=
(Atx a f).bind fun(g,h,k,b)=>
if(Be b 0)then
some (0,0,0,(List.replicate 16 (0:Int32)),(List.replicate 16 (0:Int32)),b)
else
some (a,0,g,h,k,0)
def Pm(a:Int)(k:Int32)(b:Int)(f m:LX):Option Int:=
(Atx a f).bind fun(g,n,o,h)=>
if((Be h 0)||(Be g b))then
some 8
else
some 0
def Aok(a:Int):Option (Int×Int):=
if(geq a 8)then
some (4,0)
else
if(geq a 16)then
if(geq a 16)then
some (5,0)
else
some (0,2)
else
if(geq a 24)then
some (5,0)
else
some (0,2)
def Agr(a:Int)(b:Int32):Option Int32:=
(Gf (Ih a 0)).bind fun _=>
(Gf (Ih a 0)).bind fun _=>
some (Ad (Beu (Ah (Cj (Ad b:Int) (GI.toZ a).toNat) (Ad b:Int)) (GI.toZ a).toNat):Int32)
def Pj(b:Int)(f:Int32):Option (Int32×Int):=
(Aok b).bind fun(g,a)=>
if(Be a 0)then
some (0,a)
else
(Agr g f).bind fun h=>
some (h,0)
def Zt(a:Int)(b f:LX):Option Int:=
if((Be a 9)&&(Be a 10))then
some 8
else
some 0
abbrev Mi:=Option (Int32×Int)
def Aq4(g:Int32)(a:Int)(b f:LX):Mi:=
(Gf (Ih a 0)).bind fun _=>
some ((Bh g (GI.toZ a).toNat),0)
def Ah6:=Aq4
def Aas(j6:Int32→Int→LX→LX→Mi)(bk4:Int32→Int→Mi)(b:LX)(a:Int)(f:LX)(g:Int32)(h:Int):Mi:=
if(Bq h 16)then
(getI b h).bind fun m=>
(getI f h).bind fun _=>
(getI f h).bind fun n=>
bk4 (Ae g (Bg m n)) (Ae h 1)
else
j6 g a b f
def Mt(b:LX)(a:Int)(f:LX):Nat→Int32→Int→Mi
|0,_,_=>none
|q+1,g,h=>Aas Ah6 (Mt b a f q) b a f g h
def Ahs b a f:=Mt b a f Ap
def Ahq(j4:LX→Int→LX→Int32→Int→Mi)(a:Int)(b f:LX):Mi:=
(Zt a b f).bind fun k=>
if(Be k 0)then
some (0,k)
else
(Gf (Ih (Ah a 1) 0)).bind fun _=>
j4 b a f (Cj (1:Int32) (GI.toZ (Ah a 1)).toNat) 0
def Aer:=Ahq Ahs
def Ai8(a:Int):Option Int32:=
if(geq a 0)then
some 4
else
if(Bq a 4)then
some 2
else
some 1
abbrev Lt:=Option (Int×LX×LX×Int)
def Bcj(g:Int)(b f:LX):Lt:=
some (g,b,f,0)
def Arq:=Bcj
def Aap(j6:Int→LX→LX→Lt)(bk4:Int→LX→Lt)(h:Int32)(f:LX)(g a:Int)(b:LX):Lt:=
if(Bq a 16)then
(getI f a).bind fun m=>
if(geq m 0)then
bk4 (Ae a 1) b
else
if((Bq m 0)==(Bq h 0))then
(getI b a).bind fun _=>
(getI b a).bind fun o=>
(Ai8 a).bind fun p=>
(getI b a).bind fun _=>
(Hl b a (Ae o p)).bind fun u=>
bk4 (Ae a 1) u
else
(getI b a).bind fun _=>
(getI b a).bind fun v=>
(Ai8 a).bind fun w=>
(getI b a).bind fun _=>
(Hl b a (Ah v w)).bind fun y=>
bk4 (Ae a 1) y
else
j6 g b f
def Mw(h:Int32)(f:LX)(g:Int):Nat→Int→LX→Lt
|0,_,_=>none
|q+1,a,b=>Aap Arq (Mw h f g q) h f g a b
def Arp h f g:=Mw h f g Ap
def Aii(j4:Int32→LX→Int→Int→LX→Lt)(g:Int)(k f:LX)(h:Int32):Lt:=
(Zt g k f).bind fun n=>
if(Be n 0)then
some (0,(List.replicate 16 (0:Int32)),(List.replicate 16 (0:Int32)),n)
else
if(geq h 0)then
some (g,k,f,0)
else
j4 h f g 0 k
def Akm:=Aii Arp
abbrev Ao8:=Option (Int×LX×LX×Int)
def Atg(g:Int32)(b:Int)(f a:LX):Ao8:=
(getI (Ng a 1 ((16:Int)-(1:Int)) (Aht a 0 ((16:Int)-(0:Int)))) 0).bind fun _=>
(Hl (Ng a 1 ((16:Int)-(1:Int)) (Aht a 0 ((16:Int)-(0:Int)))) 0 g).bind fun k=>
some (b,f,k,0)
def Akk:=Atg
def Adu(j2:Int32→Int→LX→LX→Ao8)(b:Int)(f a:LX)(g:Int32):Ao8:=
(Zt b f a).bind fun h=>
if(Be h 0)then
some (0,(List.replicate 16 (0:Int32)),(List.replicate 16 (0:Int32)),h)
else
(
(vwI 16 1 16).bind fun _=>
(vwI 16 0 16).bind fun _=>
j2 g b f a)
def Apz:=Adu Akk
def Alq(a:Int)(b f:LX)(g h:Int32):Option (Int×LX×LX):=
(Akm a b f h).bind fun(k,m,n,v)=>
(Apz k m n g).bind fun(o,p,u,w)=>
some (o,p,u)
def Apu(b:Int)(f g:LX)(a:Int32):Option (Int32×Int×LX×LX×Int):=
(Aer b f g).bind fun(h,k)=>
if(Be k 0)then
some (0,0,(List.replicate 16 (0:Int32)),(List.replicate 16 (0:Int32)),k)
else
(Alq b f g a (Ah a h)).bind fun(m,n,o)=>
some ((Ah a h),m,n,o,0)
def Aal(a:Int)(b:Int32)(f:Int)(g h:LX)(k:Int32):Option (Int32×Int×Int32×Int×LX×LX×Int):=
(Pm a b f g h).bind fun m=>
if(Be m 0)then
some (0,0,0,0,(List.replicate 16 (0:Int32)),(List.replicate 16 (0:Int32)),m)
else
(Pj a b).bind fun(n,y)=>
(Apu f g h (Ah k n)).bind fun(o,p,u,v,w)=>
(
some (o,a,k,p,u,v,w))
def Bcy(a:Int32):Option UInt32:=
some (Qh (Cj (Ad a:UInt32) (GI.toZ (1:UInt64)).toNat) (Ad (Bh a (GI.toZ (31:UInt64)).toNat):UInt32))
abbrev Bu:=Option (LU×Int)
def Ass(k:LU):Bu:=
some (k,0)
def Af9:=Ass
def Aen(j12:LU→Bu)(bk10:Int→(List (Int×Int32×(Int×LX×LX×Unit)×Unit))→LU→Bu)(b:LX)(a f g:Int)(o:List (Int×Int32×(Int×LX×LX×Unit)×Unit))(k:LU):Bu:=
if(Bq g (Ac b))then
(getI b g).bind fun _=>
(getI b g).bind fun ac=>
(Gf (Be a 0)).bind fun _=>
(getI o (En g a)).bind fun _=>
(getI o (En g a)).bind fun p=>
(Aal p.1 p.2.1 p.2.2.1.1 p.2.2.1.2.1 p.2.2.1.2.2.1 ac).bind fun(u,ad,ae,v,af,ag,w)=>
if(Be w 0)then
some (([]:LU),w)
else
(Hl o (En g a) (ad,ae,(v,af,ag,()),())).bind fun ah=>
(Bcy u).bind fun ai=>
(Et k ([ai]:LU)).bind fun aj=>
bk10 (Ae g 1) ah aj
else
j12 k
def Tk(b:LX)(a f:Int):Nat→Int→(List (Int×Int32×(Int×LX×LX×Unit)×Unit))→LU→Bu
|0,_,_,_=>none
|q+1,g,o,k=>Aen Af9 (Tk b a f q) b a f g o k
def Af7 b a f:=Tk b a f Ap
def Ahd(j10:LX→Int→Int→Int→(List (Int×Int32×(Int×LX×LX×Unit)×Unit))→LU→Bu)(a f:Int)(b:LX)(h:List (Int×Int32×(Int×LX×LX×Unit)×Unit)):Bu:=
j10 b a f 0 h ([]:LU)
def Ahg:=Ahd Af7
def Aha(j9:Int→Int→LX→(List (Int×Int32×(Int×LX×LX×Unit)×Unit))→Bu)(bk7:Int→(List (Int×Int32×(Int×LX×LX×Unit)×Unit))→Bu)(a f:Int)(m b:LX)(n:Int)(h:List (Int×Int32×(Int×LX×LX×Unit)×Unit)):Bu:=
if(Bq n 6)then
(Avs f m).bind fun(ak,al,u,am,an,v)=>
(getI h n).bind fun _=>
(Hl h n (ak,al,(u,am,an,()),())).bind fun ao=>
bk7 (Ae n 1) ao
else
j9 a f b h
def Wt(a f:Int)(m b:LX):Nat→Int→(List (Int×Int32×(Int×LX×LX×Unit)×Unit))→Bu
|0,_,_=>none
|q+1,n,h=>Aha Ahg (Wt a f m b q) a f m b n h
def Ag8 a f m b:=Wt a f m b Ap
def Agz(j7:Int→Int→LX→LX→Int→(List (Int×Int32×(Int×LX×LX×Unit)×Unit))→Bu)(a f:Int)(m y:LX):Bu:=
(Arn a f y).bind fun aa=>
if(Be aa 0)then
some (([]:LU),aa)
else
(Bm0 a y).bind fun(b,ab)=>
if(Be ab 0)then
some (([]:LU),ab)
else
j7 a f m b 0 (List.replicate 6 ((0:Int),(0:Int32),((0:Int),(List.replicate 16 (0:Int32)),(List.replicate 16 (0:Int32)),()),()))
def Apw:=Agz Ag8
def Ar4:Option (Int×Int×UInt64×UInt64):=
some (10,10,16384,16384)
abbrev Gl:=Option ((List (Int×Int×UInt64×UInt64×Unit)))
def Aur(a:List (Int×Int×UInt64×UInt64×Unit)):Gl:=
some a
def Ahe:=Aur
def Ahh(j6:(List (Int×Int×UInt64×UInt64×Unit))→Gl)(bk4:Int→(List (Int×Int×UInt64×UInt64×Unit))→Gl)(b:Int)(a:List (Int×Int×UInt64×UInt64×Unit)):Gl:=
if(Bq b 6)then
(Ar4).bind fun(f,g,h,k)=>
(getI a b).bind fun _=>
(Hl a b (f,g,h,k,())).bind fun m=>
bk4 (Ae b 1) m
else
j6 a
def Wf:Nat→Int→(List (Int×Int×UInt64×UInt64×Unit))→Gl
|0,_,_=>none
|q+1,b,a=>Ahh Ahe (Wf q) b a
def Ags:=Wf Ap
def Ag2(j4:Int→(List (Int×Int×UInt64×UInt64×Unit))→Gl):Gl:=
j4 0 (List.replicate 6 ((0:Int),(0:Int),(0:UInt64),(0:UInt64),()))
def Ao0:=Ag2 Ags
def Gs(b:LB)(a:Int):Option Int:=
if(((Bq a 0)||(Ev a 330000))||(Be (Ac b) (Beu (Ae a 7) (GI.toZ (3:UInt64)).toNat)))then
some 8
else
if(Ev (Cq a 7) 0)then
(getI b (Ah (Ac b) 1)).bind fun f=>
(Gf (Ih (Cq a 7) 0)).bind fun _=>
if(Be (Bh f (GI.toZ (Cq a 7)).toNat) 0)then
some 8
else
some 0
else
some 0
def Arm(a b:Int)(f g:UInt64):Option Int:=
if(!((geq (Cu (Aql a 0) 24) a)&&((geq (Cu (Aql b 0) 24) b)&&((geq (Cu f 68719476735) f)&&((geq (Cu g 68719476735) g)&&true)))))then
some 8
else
some 0
def Ahx:=Arm
def Aax(j4:Int→Int→UInt64→UInt64→Option Int)(a b:Int)(f g:UInt64):Option Int:=
(
(
j4 a b f g))
def Ahz:=Aax Ahx
def Aaw(j3:Int→Int→UInt64→UInt64→Option Int)(a b:Int)(f g:UInt64):Option Int:=
(
(
j3 a b f g))
def Afa:=Aaw Ahz
def Zl(a f:Int)(g h:UInt64)(b:UInt32):Option (Int×UInt32):=
(Gf (Ih a 0)).bind fun _=>
if(geq (Bh b (GI.toZ a).toNat) 0)then
some (0,b)
else
(Gf (Ih a 0)).bind fun _=>
some (1,(Ah b (Cj (1:UInt32) (GI.toZ a).toNat)))
def Ea(a:LB):Option (LB):=
(
(Et ([]:LB) a).bind fun b=>
some b)
def Avy(a:LB)(b:Int):Option (LB×Int):=
(Ea a).bind fun f=>
some (f,b)
abbrev Cc:=Option (LB×Int×Int)
def Bf8(f:Int)(o:LB):Cc:=
some (o,f,0)
def Auo:=Bf8
def Be7(bk15:UInt64→Int→Int→LB→Cc)(b:UInt64)(a:Int)(m:UInt64)(h f:Int)(w:LB):Cc:=
(Gf (Ih (Cu h (Ah 8 (Cq f 7))) 0)).bind fun _=>
bk15 (Bh m (GI.toZ (Cu h (Ah 8 (Cq f 7)))).toNat) (Ah h (Cu h (Ah 8 (Cq f 7)))) (Ae f (Cu h (Ah 8 (Cq f 7)))) w
def Aue bk15:=Be7 bk15
def Auu(j19:UInt64→Int→Int→LB→Cc)(b:UInt64)(a:Int)(m:UInt64)(h f:Int)(u:LB):Cc:=
(getI u (Ah (Ac u) 1)).bind fun _=>
(Gf (Ih (Cu h (Ah 8 (Cq f 7))) 0)).bind fun _=>
(Gf (Ih (Cq f 7) 0)).bind fun _=>
(getI u (Ah (Ac u) 1)).bind fun ad=>
(getI u (Ah (Ac u) 1)).bind fun _=>
Option.bind (Hl u (Ah (Ac u) 1) (gor ad (Cj (Ad (Cq m (Ah (Cj (1:UInt64) (GI.toZ (Cu h (Ah 8 (Cq f 7)))).toNat) 1)):UInt8) (GI.toZ (Cq f 7)).toNat))) fun w=>
j19 m h f w
def Ats bk15 b a:=Auu (Aue bk15 b a) b a
def Aui(j18:UInt64→Int→Int→LB→Cc)(j21:Int→LB→Cc)(b:UInt64)(a:Int)(m:UInt64)(h f:Int)(o:LB):Cc:=
if(Ev h 0)then
if(geq (Cq f 7) 0)then
(Et o ([(0:UInt8)]:LB)).bind fun ab=>
j18 m h f ab
else
j18 m h f o
else
j21 f o
def Alp(b:UInt64)(a:Int):Nat→UInt64→Int→Int→LB→Cc
|0,_,_,_,_=>none
|q+1,m,h,f,o=>Aui (Ats (Alp b a q) b a) Auo b a m h f o
def As6 b a:=Alp b a Ap
def Be2(g:Int)(p:LB):Cc:=
some (p,g,0)
def Ato:=Be2
def Bex(bk22:UInt64→Int→Int→LB→Cc)(b:UInt64)(a:Int)(n:UInt64)(k g:Int)(y:LB):Cc:=
(Gf (Ih (Cu k (Ah 8 (Cq g 7))) 0)).bind fun _=>
bk22 (Bh n (GI.toZ (Cu k (Ah 8 (Cq g 7)))).toNat) (Ah k (Cu k (Ah 8 (Cq g 7)))) (Ae g (Cu k (Ah 8 (Cq g 7)))) y
def Aux bk22:=Bex bk22
def Aul(j26:UInt64→Int→Int→LB→Cc)(b:UInt64)(a:Int)(n:UInt64)(k g:Int)(v:LB):Cc:=
(getI v (Ah (Ac v) 1)).bind fun _=>
(Gf (Ih (Cu k (Ah 8 (Cq g 7))) 0)).bind fun _=>
(Gf (Ih (Cq g 7) 0)).bind fun _=>
(getI v (Ah (Ac v) 1)).bind fun ae=>
(getI v (Ah (Ac v) 1)).bind fun _=>
Option.bind (Hl v (Ah (Ac v) 1) (gor ae (Cj (Ad (Cq n (Ah (Cj (1:UInt64) (GI.toZ (Cu k (Ah 8 (Cq g 7)))).toNat) 1)):UInt8) (GI.toZ (Cq g 7)).toNat))) fun y=>
j26 n k g y
def Atz bk22 b a:=Aul (Aux bk22 b a) b a
def Atp(j25:UInt64→Int→Int→LB→Cc)(j28:Int→LB→Cc)(b:UInt64)(a:Int)(n:UInt64)(k g:Int)(p:LB):Cc:=
if(Ev k 0)then
if(geq (Cq g 7) 0)then
(Et p ([(0:UInt8)]:LB)).bind fun w=>
j25 n k g w
else
j25 n k g p
else
j28 g p
def Akz(b:UInt64)(a:Int):Nat→UInt64→Int→Int→LB→Cc
|0,_,_,_,_=>none
|q+1,n,k,g,p=>Atp (Atz (Akz b a q) b a) Ato b a n k g p
def Atm b a:=Akz b a Ap
def Axb(j15:UInt64→Int→UInt64→Int→Int→LB→Cc)(j22:UInt64→Int→UInt64→Int→Int→LB→Cc)(ac:LB)(aa:Int)(b:UInt64)(a:Int):Cc:=
(Gs ac aa).bind fun af=>
if(Be af 0)then
some (([]:LB),0,8)
else
if((Bq a 0)||(Ev a 64))then
some (([]:LB),0,2)
else
if(Bq a 64)then
(Gf (Ih a 0)).bind fun _=>
if(Be (Bh b (GI.toZ a).toNat) 0)then
some (([]:LB),0,16)
else
if(Ev (Ae aa a) 330000)then
some (([]:LB),0,18)
else
(Avy ac aa).bind fun(ag,ah)=>
j15 b a b a ah ag
else
if(Ev (Ae aa a) 330000)then
some (([]:LB),0,18)
else
(Avy ac aa).bind fun(ab,ai)=>
j22 b a b a ai ab
def Anw:=Axb As6 Atm
def Ad7(b:UInt32)(a:Int):Option Bool:=
(Gf (Ih a 0)).bind fun _=>
some (Ih (Bh b (GI.toZ a).toNat) 48)
def Atl(a:Int):Option (Int×Int):=
if((Bq a 0)||(Ev a 48))then
some (0,2)
else
some ((Cu (Ae a 1) 48),0)
def Aw7(b:LB)(f a:Int):Option (LB×Int×Int):=
(Gs b f).bind fun g=>
if(Be g 0)then
some (([]:LB),0,g)
else
(Atl a).bind fun(k,h)=>
if(Be h 0)then
some (([]:LB),0,h)
else
(Gf (Ih a 0)).bind fun _=>
(Anw b f (Ah (Cj (1:UInt64) (GI.toZ a).toNat) 1) k).bind fun(m,n,o)=>
some (m,n,o)
abbrev All:=Option (LB×Int×Int)
def Bci(b:LB)(f h:Int)(k:UInt32)(m:Int):All:=
(Aw7 b f h).bind fun(p,u,n)=>
if(Be n 0)then
some (([]:LB),0,n)
else
(Anw p u (Ad k:UInt64) m).bind fun(v,w,y)=>
some (v,w,y)
def Arj:=Bci
def Arh(j2:LB→Int→Int→UInt32→Int→All)(b:LB)(f:Int)(g:UInt32)(a:Int):All:=
(Gs b f).bind fun o=>
if(Be o 0)then
some (([]:LB),0,o)
else
if((Bq a 0)||(Ev a 24))then
some (([]:LB),0,2)
else
(Gf (Ih a 0)).bind fun _=>
(Gf (Ih a 0)).bind fun _=>
(Ad7 g a).bind fun aa=>
if aa then
j2 b f 48 g 32
else
j2 b f (Ad (Bh g (GI.toZ a).toNat):Int) (Cq g (Ah (Cj (1:UInt32) (GI.toZ a).toNat) 1)) a
def Ay3:=Arh Arj
abbrev Fl:=Option (LB×Int×Int×Int×UInt64×UInt64×Int)
def Afu(k u n:Int)(a:UInt64)(b:UInt32)(o:UInt64)(m:LB):Fl:=
(
(
some (m,k,u,n,(Ae a (Ah (Ad b:UInt64) (Bh a (GI.toZ (4:UInt64)).toNat))),o,0)))
def Ao4:=Afu
def Arc(j10:Int→Int→Int→UInt64→UInt32→UInt64→LB→Fl)(b:UInt32)(k n:Int)(a o:UInt64)(m:LB)(u:Int):Fl:=
j10 k u n a b o m
def Ara:=Arc Ao4
def Art(j9:UInt32→Int→Int→UInt64→UInt64→LB→Int→Fl)(b:UInt32)(f:Int)(a:UInt64)(k:Int)(m:LB)(n:Int)(o:UInt64):Fl:=
if(Ev f 0)then
(Gf (Ih f 0)).bind fun _=>
if(Bq (Ae a (Ah (Ad b:UInt64) (Bh a (GI.toZ (4:UInt64)).toNat))) (Cj (16:UInt64) (GI.toZ f).toNat))then
j9 b k n a o m (Ah f 1)
else
if(Bq f 24)then
(Gf (Ih f 0)).bind fun _=>
if(Ev (Ae a (Ah (Ad b:UInt64) (Bh a (GI.toZ (4:UInt64)).toNat))) (Cj (32:UInt64) (GI.toZ f).toNat))then
j9 b k n a o m (Ae f 1)
else
j9 b k n a o m f
else
j9 b k n a o m f
else
if(Bq f 24)then
(Gf (Ih f 0)).bind fun _=>
if(Ev (Ae a (Ah (Ad b:UInt64) (Bh a (GI.toZ (4:UInt64)).toNat))) (Cj (32:UInt64) (GI.toZ f).toNat))then
j9 b k n a o m (Ae f 1)
else
j9 b k n a o m f
else
j9 b k n a o m f
def Aq1:=Art Ara
def Aqz(j8:UInt32→Int→UInt64→Int→LB→Int→UInt64→Fl)(b:UInt32)(f h:Int)(a g:UInt64)(y k:Int)(m:LB):Fl:=
if(Be y 0)then
some (([]:LB),0,0,0,0,0,y)
else
(Zl f h a g b).bind fun(ag,p)=>
if(geq ag 1)then
if(Ev h 0)then
(Gf (Ih h 0)).bind fun _=>
if(Bq (Ae g (Ah (Ad p:UInt64) (Bh g (GI.toZ (4:UInt64)).toNat))) (Cj (16:UInt64) (GI.toZ h).toNat))then
j8 b f a k m (Ah h 1) (Ae g (Ah (Ad p:UInt64) (Bh g (GI.toZ (4:UInt64)).toNat)))
else
if(Bq h 24)then
(Gf (Ih h 0)).bind fun _=>
if(Ev (Ae g (Ah (Ad p:UInt64) (Bh g (GI.toZ (4:UInt64)).toNat))) (Cj (32:UInt64) (GI.toZ h).toNat))then
j8 b f a k m (Ae h 1) (Ae g (Ah (Ad p:UInt64) (Bh g (GI.toZ (4:UInt64)).toNat)))
else
j8 b f a k m h (Ae g (Ah (Ad p:UInt64) (Bh g (GI.toZ (4:UInt64)).toNat)))
else
j8 b f a k m h (Ae g (Ah (Ad p:UInt64) (Bh g (GI.toZ (4:UInt64)).toNat)))
else
if(Bq h 24)then
(Gf (Ih h 0)).bind fun _=>
if(Ev (Ae g (Ah (Ad p:UInt64) (Bh g (GI.toZ (4:UInt64)).toNat))) (Cj (32:UInt64) (GI.toZ h).toNat))then
j8 b f a k m (Ae h 1) (Ae g (Ah (Ad p:UInt64) (Bh g (GI.toZ (4:UInt64)).toNat)))
else
j8 b f a k m h (Ae g (Ah (Ad p:UInt64) (Bh g (GI.toZ (4:UInt64)).toNat)))
else
j8 b f a k m h (Ae g (Ah (Ad p:UInt64) (Bh g (GI.toZ (4:UInt64)).toNat)))
else
j8 b f a k m h g
def Aqy:=Aqz Aq1
def Ard(j7:UInt32→Int→Int→UInt64→UInt64→Int→Int→LB→Fl)(b:UInt32)(v:LB)(w f h:Int)(a g:UInt64):Fl:=
(Zl f h a g b).bind fun(ad,ae)=>
(Anw v w (Ad ad:UInt64) 1).bind fun(aa,ab,ac)=>
if((geq ac 0)&&(geq ad 0))then
(Anw aa ab (Ad ae:UInt64) f).bind fun(ah,ai,aj)=>
j7 b f h a g aj ai ah
else
if(geq ac 0)then
(Ay3 aa ab ae h).bind fun(ak,al,am)=>
j7 b f h a g am al ak
else
j7 b f h a g ac ab aa
def Aro:=Ard Aqy
def Aq5(j6:UInt32→LB→Int→Int→Int→UInt64→UInt64→Fl)(v:LB)(w f h:Int)(a g:UInt64)(b:UInt32):Fl:=
(Gs v w).bind fun an=>
if(Be an 0)then
some (([]:LB),0,0,0,0,0,8)
else
(Afa f h a g).bind fun ao=>
if(Be ao 0)then
some (([]:LB),0,0,0,0,0,8)
else
j6 b v w f h a g
def Azo:=Aq5 Aro
abbrev Bb:=Option (UInt32×Int)
def Anj(h:UInt32):Bb:=
some (h,0)
def Ae8:=Anj
def Wn(j30:UInt32→Bb)(bk28:UInt32→Int→Bb)(a:LB)(b:LU)(h:UInt32)(m:Int):Bb:=
if(Bq m (Ac a))then
(getI a m).bind fun p=>
(getI b (GI.toZ (Qh (Ad h:UInt8) p))).bind fun _=>
(getI b (GI.toZ (Qh (Ad h:UInt8) p))).bind fun u=>
bk28 (Qh (Bh h (GI.toZ (8:UInt64)).toNat) u) (Ae m 1)
else
j30 h
def Ky(a:LB)(b:LU):Nat→UInt32→Int→Bb
|0,_,_=>none
|q+1,h,m=>Wn Ae8 (Ky a b q) a b h m
def Aeg a b:=Ky a b Ap
def Age(j28:LB→LU→UInt32→Int→Bb)(f:UInt32)(a:LB)(b:LU):Bb:=
j28 a b f 0
def Afr:=Age Aeg
def Afn(j27:UInt32→LB→LU→Bb)(f:UInt32)(a:LB)(b:LU):Bb:=
j27 f a b
def Yf:=Afn Afr
def Apr(bk16:Int→LU→Bb)(f:UInt32)(a:LB)(g:Int)(o:LU):Bb:=
bk16 (Ae g 1) o
def Agn bk16:=Apr bk16
def Afc(j24:Int→LU→Bb)(f:UInt32)(a:LB)(g:Int)(k:UInt32)(b:LU):Bb:=
(getI b g).bind fun _=>
(Hl b g k).bind fun o=>
j24 g o
def Vu bk16 f a:=Afc (Agn bk16 f a) f a
def Xo(j23:Int→UInt32→LU→Bb)(bk21:UInt32→Int→Bb)(f:UInt32)(a:LB)(g:Int)(b:LU)(k:UInt32)(n:Int):Bb:=
if(Bq n 8)then
bk21 (Qh (Bh k (GI.toZ (1:UInt64)).toNat) (Bg 3988292384 (Cq k 1))) (Ae n 1)
else
j23 g k b
def Lf(bk16:Int→LU→Bb)(f:UInt32)(a:LB)(g:Int)(b:LU):Nat→UInt32→Int→Bb
|0,_,_=>none
|q+1,k,n=>Xo (Vu bk16 f a) (Lf bk16 f a g b q) f a g b k n
def Aeo bk16 f a g b:=Lf bk16 f a g b Ap
def Wq(j21:Int→LU→UInt32→Int→Bb)(j26:UInt32→LB→LU→Bb)(f:UInt32)(a:LB)(g:Int)(b:LU):Bb:=
if(Bq g 256)then
j21 g b (Ad g:UInt32) 0
else
j26 f a b
def Ii(f:UInt32)(a:LB):Nat→Int→LU→Bb
|0,_,_=>none
|q+1,g,b=>Wq (Aeo (Ii f a q) f a) Yf f a g b
def Afl f a:=Ii f a Ap
def Ah2(j16:UInt32→LB→Int→LU→Bb)(f:UInt32)(a:LB):Bb:=
if(Ev (Ac a) 100000)then
some (0,4)
else
j16 f a 0 (List.replicate 256 (0:UInt32))
def Alf:=Ah2 Afl
def Pz(b:LB):Option (UInt32×Int):=
(Alf 4294967295 b).bind fun(f,a)=>
if(Be a 0)then
some (0,a)
else
some ((Azm f),0)
def Ayb(b:UInt64)(a:Int):Option Bool:=
if(geq a 8)then
some true
else
(Gf (Ih (Bg 8 a) 0)).bind fun _=>
some (geq (Bh b (GI.toZ (Bg 8 a)).toNat) 0)
abbrev Tq:=Option (LB×Int)
def Awr(a:LB):Tq:=
some (a,0)
def Ans:=Awr
def Agu(j6:LB→Tq)(bk4:Int→LB→Tq)(f:UInt64)(g:LB)(b:Int)(a:LB):Tq:=
if(Bq b (Ac g))then
(Gf (Ih (Bg 8 b) 0)).bind fun _=>
(getI a b).bind fun _=>
(Hl a b (Ad (Bh f (GI.toZ (Bg 8 b)).toNat):UInt8)).bind fun k=>
bk4 (Ae b 1) k
else
j6 a
def Us(f:UInt64)(g:LB):Nat→Int→LB→Tq
|0,_,_=>none
|q+1,b,a=>Agu Ans (Us f g q) f g b a
def An6 f g:=Us f g Ap
def An1(j4:UInt64→LB→Int→LB→Tq)(f:UInt64)(h:Int):Tq:=
if((Bq h 1)||(Ev h 8))then
some (([]:LB),2)
else
(Ayb f h).bind fun m=>
if(!m)then
some (([]:LB),16)
else
(mkI h (0:UInt8)).bind fun g=>
(Gf (geq h h)).bind fun _=>
j4 f g 0 g
def Sd:=An1 An6
def Ad6(f:LB):Option (LB):=
some f
def Oj:=Ad6
def Oi(j16:LB→Option (LB))(bk14:Int→LB→Option (LB))(a:List LB)(g:Int)(f:LB):Option (LB):=
if(Bq g (Ac a))then
(getI a g).bind fun o=>
(Et f o).bind fun p=>
bk14 (Ae g 1) p
else
j16 f
def Ib(a:List LB):Nat→Int→LB→Option (LB)
|0,_,_=>none
|q+1,g,f=>Oi Oj (Ib a q) a g f
def Nv a:=Ib a Ap
def Oa(j14:(List LB)→Int→LB→Option (LB))(a:List LB)(k:LB):Option (LB):=
j14 a 0 k
def Nx:=Oa Nv
def Od(j13:(List LB)→LB→Option (LB))(b:Int)(a:List LB):Option (LB):=
if(Ev (Ah b (Ah (0:Int) (0:Int))) 0)then
(vwI 0 0 0).bind fun _=>
(mkI (Ah b (Ah (0:Int) (0:Int))) (0:UInt8)).bind fun u=>
(Et ([]:LB) u).bind fun m=>
(vwI (Ac m) 0 0).bind fun _=>
j13 a (Aht m 0 ((0:Int)-(0:Int)))
else
j13 a ([]:LB)
def Oe:=Od Nx
def Oc(j12:Int→(List LB)→Option (LB))(a:List LB)(b:Int):Option (LB):=
if(Bq b 0)then
none
else
j12 b a
def Nw:=Oc Oe
def Ot(j11:(List LB)→Int→Option (LB))(bk9:Int→Int→Option (LB))(a:List LB)(b h:Int):Option (LB):=
if(Bq h (Ac a))then
(getI a h).bind fun n=>
if(Bq (Ae b (Ac n)) 0)then
none
else
bk9 (Ae b (Ac n)) (Ae h 1)
else
j11 a b
def Io(a:List LB):Nat→Int→Int→Option (LB)
|0,_,_=>none
|q+1,b,h=>Ot Nw (Io a q) a b h
def Oy a:=Io a Ap
def Pp(j9:(List LB)→Int→Int→Option (LB))(a:List LB):Option (LB):=
j9 a 0 0
def Ue:=Pp Oy
abbrev Ay:=Option (LB×Int)
def Asg(u:Int)(p:LB):Ay:=
(Pz p).bind fun(af,ac)=>
if(Be ac 0)then
some (([]:LB),ac)
else
(Sd (Ad af:UInt64) 4).bind fun(m,h)=>
if(Be h 0)then
some (([]:LB),h)
else
(Ue ([p,m]:List LB)).bind fun ag=>
some (ag,0)
def Agi:=Asg
def Asv(bk27:Int→(List (Int×Int×UInt64×UInt64×Unit))→Int→LB→Ay)(a:LU)(b f g:Int)(k:List (Int×Int×UInt64×UInt64×Unit))(n:Int)(v:LB):Ay:=
bk27 (Ae g 1) k n v
def Agj bk27:=Asv bk27
def Asl(bk44:Int→Int→LB→Ay)(h:Int)(a:LU)(g b f:Int)(k:List (Int×Int×UInt64×UInt64×Unit))(m:LB)(o n:Int)(aa:LB):Ay:=
bk44 (Ae o 1) (Ae n 1) aa
def Aeh bk44:=Asl bk44
def Afg(j48:Int→Int→LB→Ay)(h:Int)(a:LU)(g b f:Int)(k:List (Int×Int×UInt64×UInt64×Unit))(m:LB)(o n:Int)(y:LB):Ay:=
(getI m (Bt o 8)).bind fun _=>
(getI m (Bt o 8)).bind fun ah=>
(Gf (Ih (En o 8) 0)).bind fun _=>
(getI y (Bt n 8)).bind fun _=>
(Gf (Ih (En n 8) 0)).bind fun _=>
(getI y (Bt n 8)).bind fun ai=>
(getI y (Bt n 8)).bind fun _=>
Option.bind (Hl y (Bt n 8) (gor ai (Cj (Cq (Bh ah (GI.toZ (En o 8)).toNat) 1) (GI.toZ (En n 8)).toNat))) fun aa=>
j48 o n aa
def Aeq bk44 h a g b f k m:=Afg (Aeh bk44 h a g b f k m) h a g b f k m
def Aga(j47:Int→Int→LB→Ay)(j50:Int→(List (Int×Int×UInt64×UInt64×Unit))→Int→LB→Ay)(a:LU)(b f h g:Int)(k:List (Int×Int×UInt64×UInt64×Unit))(m:LB)(o n:Int)(v:LB):Ay:=
if(Bq o h)then
if(geq (En n 8) 0)then
(Et v ([(0:UInt8)]:LB)).bind fun aj=>
j47 o n aj
else
j47 o n v
else
j50 g k n v
def Ts(bk27:Int→(List (Int×Int×UInt64×UInt64×Unit))→Int→LB→Ay)(a:LU)(b f h g:Int)(k:List (Int×Int×UInt64×UInt64×Unit))(m:LB):Nat→Int→Int→LB→Ay
|0,_,_,_=>none
|q+1,o,n,v=>Aga (Aeq (Ts bk27 a b f h g k m q) h a g b f k m) (Agj bk27 a b f) a b f h g k m o n v
def Agf bk27 a b f h g k m:=Ts bk27 a b f h g k m Ap
def Ae7(j44:Int→Int→(List (Int×Int×UInt64×UInt64×Unit))→LB→Int→Int→LB→Ay)(j52:Int→LB→Ay)(a:LU)(b f g:Int)(w:List (Int×Int×UInt64×UInt64×Unit))(u:Int)(p:LB):Ay:=
if(Bq g (Ac a))then
(getI a g).bind fun _=>
(getI a g).bind fun ak=>
(Gf (Be b 0)).bind fun _=>
(getI w (En g b)).bind fun _=>
(getI w (En g b)).bind fun ab=>
(Azo ([]:LB) 0 ab.1 ab.2.1 ab.2.2.1 ab.2.2.2.1 ak).bind fun(m,h,al,am,an,ao,ad)=>
if(Be ad 0)then
some (([]:LB),ad)
else
(Gf (Be b 0)).bind fun _=>
(getI w (En g b)).bind fun _=>
(Hl w (En g b) (al,am,an,ao,())).bind fun k=>
j44 h g k m 0 u p
else
j52 u p
def Ti(a:LU)(b f:Int):Nat→Int→(List (Int×Int×UInt64×UInt64×Unit))→Int→LB→Ay
|0,_,_,_,_=>none
|q+1,g,w,u,p=>Ae7 (Agf (Ti a b f q) a b f) Agi a b f g w u p
def Agk a b f:=Ti a b f Ap
def Agy(j27:LU→Int→Int→Int→(List (Int×Int×UInt64×UInt64×Unit))→Int→LB→Ay)(b f:Int)(ap aq:LX):Ay:=
(Apw b f ap aq).bind fun(a,ae)=>
if(Be ae 0)then
some (([]:LB),ae)
else
(Ao0).bind fun ar=>
j27 a b f 0 ar 0 ([]:LB)
def Xe:=Agy Agk
def Ph(a:Int)(b:LX):LI→Int→Option (List LX)
  |[],_=>some []
  |n::l,x=>Option.bind (Bv b x (Ae x (Bg n a))) fun p=>Option.bind (Ph a b l (Ae x (Bg n a))) fun ps=>some (p::ps)
def Aaz(a f:Int)(t:LX):List LX→List LB→Option (List LB×Int)
  |[],o=>some (o,0)
  |x::xs,o=>Option.bind (Xe a f t x) fun y=>
    if(Be y.2 0)=true then some ([],y.2)
    else Option.bind (Et o [y.1]) fun o'=>Aaz a f t xs o'
def Aot(a h:Int)(b:LX):Option (List LX):=
  Option.bind (Gf (Be a 0)) fun _=>Option.bind (Pg h (Bt (Ac b) a)) fun l=>Option.bind (Gf (decide (Ac l.1≤17179869184))) fun _=>Ph a b l.1 0
def Aom(a f h:Int)(b:LX)(p:LB):Option (List LB×Int):=
  Option.bind (Aaf a f h b) fun e=>
    if(Be e 0)=true then some ([],e)
    else Option.bind (Uw p) fun t=>
      if(Be t.2 0)=true then some ([],t.2)
      else Option.bind (Aot a h b) fun xs=>Aaz a f t.1 xs []
def Ai6(b f a g h:Int):Option Bool:=
some (((((((geq b 1)||(geq b 2))&&(Ev f 0))&&(gle f 6))&&(Ev g 0))&&(gle g 1048576))&&(Ev h 0))
def Qg:=Ai6
def Zz(j2:Int→Int→Int→Int→Int→Option Bool)(b f a g h:Int):Option Bool:=
if(geq a 8)then
if(geq a 8)then
j2 b f a g h
else
some false
else
if(geq a 16)then
if(geq a 16)then
j2 b f a g h
else
some false
else
if(geq a 24)then
j2 b f a g h
else
some false
def Rt:=Zz Qg
def Abt(k a m f b:Int):Option Bool:=
(Gf (Be a 0)).bind fun _=>
if(Ev b (Bt 4000 a))then
some false
else
(Kf f b).bind fun(g,h)=>
some ((geq h 0)&&(gle g 1000))
def Xx(a b f g h:Int):Option Int:=
(Rt a b f g h).bind fun k=>
if(!k)then
some 8
else
(Abt a b f g h).bind fun m=>
if(!m)then
some 8
else
some 0
abbrev Ir:=Option (LB×Int)
def Axp(a:LB):Ir:=
(Pz a).bind fun(u,aa)=>
(Sd (Ad u:UInt64) 4).bind fun(n,v)=>
(Et a n).bind fun o=>
some (o,0)
def Al6:=Axp
def Alz(j6:LB→Ir)(bk4:Int→LB→Ir)(b f g h k m:Int)(a:LB):Ir:=
if(Bq m 5)then
(getI ([b,f,g,h,k]:LI) m).bind fun w=>
(getI ([(2:Int),(2:Int),(2:Int),(4:Int),(4:Int)]:LI) m).bind fun y=>
(Sd (Ad w:UInt64) y).bind fun(n,v)=>
(Et a n).bind fun o=>
bk4 (Ae m 1) o
else
j6 a
def Ac1(b f g h k:Int):Nat→Int→LB→Ir
|0,_,_=>none
|q+1,m,a=>Alz Al6 (Ac1 b f g h k q) b f g h k m a
def Amh b f g h k:=Ac1 b f g h k Ap
def Amc(j4:Int→Int→Int→Int→Int→Int→LB→Ir)(b f g h k:Int):Ir:=
(Xx b f g h k).bind fun p=>
if(Be p 0)then
some (([]:LB),p)
else
j4 b f g h k 0 ([(84:UInt8),(84:UInt8),(65:UInt8),(49:UInt8)]:LB)
def At1:=Amc Amh
def Au7(a:LB):Option (UInt64×Int):=
if(Ev (Ac a) 64)then
some (0,2)
else
(Ajh a).bind fun(b,f)=>
some (b,0)
def Wu(b:LB):Option (LB×Int):=
(Au7 b).bind fun(f,a)=>
if(Be a 0)then
some (([]:LB),a)
else
(Sd f 8).bind fun(g,h)=>
some (g,h)
def Ayz:Option Int:=
some 0
def Aoh:=Ayz
def Xp(j6:Option Int)(bk4:Int→Int→Option Int)(a:LI)(f b:Int):Option Int:=
if(Bq b (Ac a))then
(getI a b).bind fun g=>
if((Bq g 5)||(Ev g f))then
some 8
else
bk4 (Ah f g) (Ae b 1)
else
j6
def Lj(a:LI):Nat→Int→Int→Option Int
|0,_,_=>none
|q+1,f,b=>Xp Aoh (Lj a q) a f b
def Af1 a:=Lj a Ap
def Vx(j4:LI→Int→Int→Option Int)(a:LI):Option Int:=
if((geq (Ac a) 0)||(Ev (Ac a) 1000))then
some 8
else
j4 a 100000 0
def Jw:=Vx Af1
abbrev Em:=Option (LB×Int)
def Axo(g:LB):Em:=
some (g,0)
def Aly:=Axo
def Alv(j14:LB→Em)(b:LB):Em:=
(Pz b).bind fun(m,u)=>
(Sd (Ad m:UInt64) 4).bind fun(n,v)=>
(Et b n).bind fun g=>
j14 g
def Al9:=Alv Aly
def Axn(bk8:Int→LB→Em)(a:LI)(f:Int)(h:LB):Em:=
bk8 (Ae f 1) h
def Amd bk8:=Axn bk8
def Ao2(j11:Int→LB→Em)(j13:LB→Em)(a:LI)(f:Int)(b:LB):Em:=
if(Bq f (Ac a))then
(getI a f).bind fun o=>
(Sd (Ad o:UInt64) 4).bind fun(p,w)=>
(Et b p).bind fun h=>
j11 f h
else
j13 b
def Ae9(a:LI):Nat→Int→LB→Em
|0,_,_=>none
|q+1,f,b=>Ao2 (Amd (Ae9 a q) a) Al9 a f b
def Ao6 a:=Ae9 a Ap
def Apl(j8:LI→Int→LB→Em)(a:LI):Em:=
(Jw a).bind fun k=>
if(Be k 0)then
some (([]:LB),k)
else
j8 a 0 ([]:LB)
def Awp:=Apl Ao6
def Arw(a:LB):Option Int:=
some (Ac a)
def Bbu(a:LB):Option (LB):=
some a
def Ang:=Bbu
def Aod(j6:LB→Option (LB))(bk4:Int→LB→Option (LB))(b:List LB)(f:Int)(a:LB):Option (LB):=
if(Bq f (Ac b))then
(getI b f).bind fun g=>
(Et a g).bind fun h=>
bk4 (Ae f 1) h
else
j6 a
def Af2(b:List LB):Nat→Int→LB→Option (LB)
|0,_,_=>none
|q+1,f,a=>Aod Ang (Af2 b q) b f a
def Aps b:=Af2 b Ap
def Aph(j4:(List LB)→Int→LB→Option (LB))(b:List LB):Option (LB):=
j4 b 0 ([]:LB)
def Awj:=Aph Aps
abbrev Cz:=Option (LB×Int)
def Axl(k:Int)(a:List LB)(b f n:LB):Cz:=
if(Be k 0)then
some (([]:LB),k)
else
(Et ([b,f,n]:List LB) a).bind fun m=>
(Awj m).bind fun ad=>
some (ad,0)
def Alw:=Axl
def Al4(j14:Int→(List LB)→LB→LB→LB→Cz)(h:LI)(a:List LB)(b f:LB):Cz:=
(Awp h).bind fun(n,k)=>
j14 k a b f n
def Amn:=Al4 Alw
def Axm(bk9:Int→LI→Cz)(a:List LB)(b f:LB)(g:Int)(m:LI):Cz:=
bk9 (Ae g 1) m
def Al8 bk9:=Axm bk9
def Aon(j11:Int→LI→Cz)(j13:LI→(List LB)→LB→LB→Cz)(a:List LB)(b f:LB)(g:Int)(h:LI):Cz:=
if(Bq g (Ac a))then
(getI a g).bind fun _=>
(getI a g).bind fun ae=>
(Arw ae).bind fun k=>
(getI h g).bind fun _=>
(Hl h g k).bind fun m=>
j11 g m
else
j13 h a b f
def Af4(a:List LB)(b f:LB):Nat→Int→LI→Cz
|0,_,_=>none
|q+1,g,h=>Aon (Al8 (Af4 a b f q) a b f) Amn a b f g h
def Aoi a b f:=Af4 a b f Ap
def Aox(j9:(List LB)→LB→LB→Int→LI→Cz)(a:List LB)(b f:LB):Cz:=
(mkI (Ac a) (0:Int)).bind fun af=>
(Gf (geq (Ac a) (Ac a))).bind fun _=>
j9 a b f 0 af
def Apc:=Aox Aoi
def Ao9(j8:(List LB)→LB→LB→Cz)(p u v:Int)(w:LX)(o:LB):Cz:=
(Aw9 p u v w o).bind fun(y,ag,ah,ai,aj,aa)=>
if(Be aa 0)then
some (([]:LB),aa)
else
(Aom p u v w o).bind fun(a,ab)=>
if(Be ab 0)then
some (([]:LB),ab)
else
(At1 y ag ah ai aj).bind fun(b,ac)=>
if(Be ac 0)then
some (([]:LB),ac)
else
if(geq y 2)then
(Wu o).bind fun(ak,al)=>
j8 a b ak
else
j8 a b ([]:LB)
def Awb:=Ao9 Apc
def Afm:Option (LB×Bool):=
(Awb 1 8 1 ([(1:Int32),(2:Int32)]:LX) ([]:LB)).bind fun(a,b)=>
some (a,((geq b 0)&&(geq (Ac a) 46)))
def Fp(a b:LB):Option Bool:=
some (a==b)
def Hj(b a:LB):Option Bool:=
if(Ih (Ac b) (Ac a))then
(Bv b 0 (Ac a)).bind fun f=>
(Fp f a).bind fun g=>
some g
else
some false
abbrev Hq:=Option (Int×Int)
def Avk(b:Int):Hq:=
some (b,0)
def Ajp:=Avk
def Qe(j6:Int→Hq)(bk4:Int→Int→Hq)(a:LB)(b f:Int):Hq:=
if(Bq f (Ac a))then
(getI a f).bind fun g=>
if(Ev g 127)then
some (0,12)
else
bk4 (gor (Cj b (GI.toZ (7:UInt64)).toNat) (Ad g:Int)) (Ae f 1)
else
j6 b
def Ie(a:LB):Nat→Int→Int→Hq
|0,_,_=>none
|q+1,b,f=>Qe Ajp (Ie a q) a b f
def Aag a:=Ie a Ap
def Zw(j4:LB→Int→Int→Hq)(a:LB):Hq:=
if(Be (Ac a) 4)then
some (0,2)
else
j4 a 0 0
def Aav:=Zw Aag
abbrev Fj:=Option (Int×Int)
def Alu(a:LB)(b:UInt8)(h:Int):Fj:=
if(Ev h 4000)then
some (0,4)
else
if(Bq (Ac a) h)then
some (0,24)
else
if(geq b 16)then
(Bv a (Ah h 10) h).bind fun k=>
(Bv k 0 3).bind fun u=>
if(u !=([51,68,73]:LB))then
some (0,12)
else
(Bv k 3 (Ac k)).bind fun v=>
(Bv a 3 10).bind fun w=>
(Fp v w).bind fun y=>
if(!y)then
some (0,12)
else
some (h,0)
else
some (h,0)
def So:=Alu
def Acf(j8:LB→UInt8→Int→Fj)(a:LB)(g:Int)(b:UInt8):Fj:=
if(geq b 16)then
j8 a b (Ae (Ae g 10) 10)
else
j8 a b (Ae g 10)
def Sm:=Acf So
def Ac3(j7:LB→Int→UInt8→Fj)(a:LB)(g:Int)(b:UInt8)(m:Bool):Fj:=
if m then
some (0,12)
else
j7 a g b
def Ac4:=Ac3 Sm
def Ac6(j6:LB→Int→UInt8→Bool→Fj)(a:LB)(f b:UInt8):Fj:=
(Bv a 6 10).bind fun aa=>
(Aav aa).bind fun(g,ab)=>
if(Be ab 0)then
if true then
j6 a g b true
else
if(geq b 0)then
j6 a g b (!((Ih f 2)&&(gle f 4)))
else
if(geq b 16)then
j6 a g b (!(geq f 4))
else
j6 a g b (!false)
else
(getI a 4).bind fun ac=>
if(Be ac 0)then
j6 a g b true
else
if(geq b 0)then
j6 a g b (!((Ih f 2)&&(gle f 4)))
else
if(geq b 16)then
j6 a g b (!(geq f 4))
else
j6 a g b (!false)
def Acz:=Ac6 Ac4
def Sp(j5:LB→UInt8→UInt8→Fj)(a:LB):Fj:=
(Hj a ([(73:UInt8),(68:UInt8),(51:UInt8)]:LB)).bind fun n=>
if(!n)then
some (0,6)
else
if(Bq (Ac a) 10)then
some (0,24)
else
(getI a 3).bind fun f=>
(getI a 5).bind fun b=>
(
(
(
j5 a f b)))
def Ad4:=Sp Acz
abbrev To:=Option (UInt64×Int)
def Bje(b:UInt64):To:=
some (b,0)
def Av6:=Bje
def Ag9(j6:UInt64→To)(bk4:UInt64→Int→To)(a:LB)(b:UInt64)(f:Int):To:=
if(Bq f (Ac a))then
(getI a f).bind fun g=>
(Gf (Ih (Bg 8 f) 0)).bind fun _=>
bk4 (gor b (Cj (Ad g:UInt64) (GI.toZ (Bg 8 f)).toNat)) (Ae f 1)
else
j6 b
def Uo(a:LB):Nat→UInt64→Int→To
|0,_,_=>none
|q+1,b,f=>Ag9 Av6 (Uo a q) a b f
def Aoq a:=Uo a Ap
def Aob(j4:LB→UInt64→Int→To)(a:LB):To:=
if((Bq (Ac a) 1)||(Ev (Ac a) 8))then
some (0,2)
else
j4 a 0 0
def Apd:=Aob Aoq
def Ajn(f:LB)(a b:Int):Option (UInt64×Int):=
if(((Bq b 1)||(Ev b 8))||(Bq a 0))then
some (0,2)
else
if(Ev a (Ah (Ac f) b))then
some (0,24)
else
(Bv f a (Ae a b)).bind fun g=>
(Apd g).bind fun(h,k)=>
some (h,k)
def Bbf(g:LB):Option (LB):=
some g
def Asp:=Bbf
def Akj(j6:LB→Option (LB))(bk4:Int→LB→Option (LB))(a b:Int)(f:UInt64)(h:Int)(g:LB):Option (LB):=
if(Bq h (Ac ([(2000:UInt64),(Ad (Ae a 32):UInt64),(Ad b:UInt64),f,(0:UInt64),(0:UInt64)]:LQ)))then
(getI ([(2000:UInt64),(Ad (Ae a 32):UInt64),(Ad b:UInt64),f,(0:UInt64),(0:UInt64)]:LQ) h).bind fun _=>
(getI ([(2000:UInt64),(Ad (Ae a 32):UInt64),(Ad b:UInt64),f,(0:UInt64),(0:UInt64)]:LQ) h).bind fun k=>
(Sd k 4).bind fun(m,o)=>
(Et g m).bind fun n=>
bk4 (Ae h 1) n
else
j6 g
def Ty(a b:Int)(f:UInt64):Nat→Int→LB→Option (LB)
|0,_,_=>none
|q+1,h,g=>Akj Asp (Ty a b f q) a b f h g
def Ar0 a b f:=Ty a b f Ap
def Ast(j4:Int→Int→UInt64→Int→LB→Option (LB))(a b:Int)(f:UInt64):Option (LB):=
j4 a b f 0 ([(65:UInt8),(80:UInt8),(69:UInt8),(84:UInt8),(65:UInt8),(71:UInt8),(69:UInt8),(88:UInt8)]:LB)
def Aqg:=Ast Ar0
def Aed(b:LB)(g:UInt64):Option (Int×Int×Bool):=
(Ajn b 12 4).bind fun(a,m)=>
(Ajn b 16 4).bind fun(f,n)=>
if(((Bq a 32)||(Ev a 3032))||(Ev f 1000))then
some (0,0,false)
else
(Aqg (Ah (Ad a:Int) 32) (Ad f:Int) g).bind fun h=>
(Fp b h).bind fun k=>
some ((Ah (Ad a:Int) 32),(Ad f:Int),k)
def Aqb(a:LB):Option (Int×Int):=
(Hj a ([(65:UInt8),(80:UInt8),(69:UInt8),(84:UInt8),(65:UInt8),(71:UInt8),(69:UInt8),(88:UInt8)]:LB)).bind fun f=>
if(!f)then
some (0,6)
else
if(Bq (Ac a) 32)then
some (0,24)
else
(Bv a 0 32).bind fun g=>
(Aed g 2684354560).bind fun(b,h,k)=>
if(!k)then
some (0,12)
else
if(Bq (Ac a) (Ae b 64))then
some (0,24)
else
(Bv a (Ah (Ae b 64) 32) (Ae b 64)).bind fun m=>
(Aqg b h 2147483648).bind fun n=>
(Fp m n).bind fun o=>
if(!o)then
some (0,12)
else
some ((Ae b 64),0)
def Ox(a:LB):Option (Int×Int):=
(Ad4 a).bind fun(f,b)=>
if(Be b 6)then
some (f,b)
else
(Aqb a).bind fun(g,h)=>
some (g,h)
def Mx(b:List UInt8):Nat→Int→Option (Int×Int)
  |0,_=>none
  |q+1,x=>Option.bind (Bv b x (Ac b)) fun s=>Option.bind (Ox s) fun r=>
    if geq r.2 (6:Int)=true then some (x,0)
    else if(geq r.2 (0:Int)&&Ev (Ae x r.1) (4000:Int))=true then some (0,4)
    else if Be r.2 (0:Int)=true then some (0,r.2)
    else Mx b q (Ae x r.1)
def Uy(b:List UInt8):Option (Int×Int):=Mx b Ap 0
def Gq(b a:LB):Option Bool:=
if(Ih (Ac b) (Ac a))then
(Bv b 0 (Ac a)).bind fun f=>
some (f==a)
else
some false
def Ok(a b:LB):Option Bool:=
(Gq a b).bind fun f=>
some f
abbrev Km:=Option (Int×Int×Int×Int×Int×Int)
def Apj(a:LI):Km:=
(getI a 0).bind fun _=>
(getI a 0).bind fun h=>
(getI a 1).bind fun _=>
(getI a 1).bind fun k=>
(getI a 2).bind fun _=>
(getI a 2).bind fun m=>
(getI a 3).bind fun _=>
(getI a 3).bind fun n=>
(getI a 4).bind fun _=>
(getI a 4).bind fun o=>
(Rt h k m n o).bind fun p=>
if(!p)then
some (0,0,0,0,0,12)
else
(Abt h k m n o).bind fun u=>
if(!u)then
some (0,0,0,0,0,4)
else
some (h,k,m,n,o,0)
def Xt:=Apj
def Vr(j6:LI→Km)(bk4:Int→Int→LI→Km)(b:LB)(g f:Int)(a:LI):Km:=
if(Bq f 5)then
(getI ([(2:Int),(2:Int),(2:Int),(4:Int),(4:Int)]:LI) f).bind fun h=>
(Ajn b g h).bind fun(v,ae)=>
(getI a f).bind fun _=>
(Hl a f (Ad v:Int)).bind fun w=>
bk4 (Ae g h) (Ae f 1) w
else
j6 a
def Iv(b:LB):Nat→Int→Int→LI→Km
|0,_,_,_=>none
|q+1,g,f,a=>Vr Xt (Iv b q) b g f a
def Xv b:=Iv b Ap
def Afw(j4:LB→Int→Int→LI→Km)(b:LB):Km:=
(Bv b 0 (Cu 4 (Ac b))).bind fun y=>
(Ok ([84,84,65,49]:LB) y).bind fun aa=>
if(!aa)then
some (0,0,0,0,0,12)
else
if(Bq (Ac b) 22)then
some (0,0,0,0,0,24)
else
(Ajn b 18 4).bind fun(ab,af)=>
(Bv b 0 18).bind fun ac=>
(Pz ac).bind fun(ad,ag)=>
if(Be (Ad ad:UInt64) ab)then
some (0,0,0,0,0,22)
else
j4 b 4 0 (List.replicate 5 (0:Int))
def Ag5:=Afw Xv
def Aj3(a f:LB):Option (Bool×Int):=
(Wu f).bind fun(b,g)=>
if((Be g 0)||(Be (Ac a) (Ac b)))then
some (false,2)
else
(Fp a b).bind fun h=>
some (h,0)
def Nb(g h k a b:Int):Option (LI×Int):=
(Xx g h k a b).bind fun f=>
if(Be f 0)then
some (([]:LI),f)
else
(Pg a b).bind fun(m,n)=>
some (m,n)
abbrev Mk:=Option (LI×Int)
def Arv(a:LI):Mk:=
(Jw a).bind fun k=>
if(Be k 0)then
some (([]:LI),12)
else
some (a,0)
def Aam:=Arv
def Aa0(j6:LI→Mk)(bk4:Int→LI→Mk)(b:LB)(f:LI)(g:Int)(a:LI):Mk:=
if(Bq g (Ac f))then
(Ajn b (Bg 4 g) 4).bind fun(k,u)=>
(getI a g).bind fun _=>
(Hl a g (Ad k:Int)).bind fun m=>
bk4 (Ae g 1) m
else
j6 a
def Na(b:LB)(f:LI):Nat→Int→LI→Mk
|0,_,_=>none
|q+1,g,a=>Aa0 Aam (Na b f q) b f g a
def Aim b f:=Na b f Ap
def Ah9(j4:LB→LI→Int→LI→Mk)(b:LB)(h:Int):Mk:=
if((Bq h 1)||(Ev h 1000))then
some (([]:LI),2)
else
if(Bq (Ac b) (Ae (Bg 4 h) 4))then
some (([]:LI),24)
else
(Ajn b (Bg 4 h) 4).bind fun(n,v)=>
(Bv b 0 (Bg 4 h)).bind fun o=>
(Pz o).bind fun(p,w)=>
if(Be (Ad p:UInt64) n)then
some (([]:LI),22)
else
(mkI h (0:Int)).bind fun f=>
(Gf (geq h h)).bind fun _=>
j4 b f 0 f
def Aj6:=Ah9 Aim
abbrev Ah0:=Option (Int×Int×Int×Int×Int×Int×LI×Int)
def Aoj(a:LB)(b f g h k n:Int):Ah0:=
(Nb b f g h k).bind fun(ab,p)=>
if(Be p 0)then
some (0,0,0,0,0,0,([]:LI),p)
else
(Bv a n (Ac a)).bind fun ac=>
(Aj6 ac (Ac ab)).bind fun(u,v)=>
if(Be v 0)then
some (0,0,0,0,0,0,([]:LI),v)
else
some (b,f,g,h,k,(Ae (Ae n (Bg 4 (Ac u))) 4),u,0)
def Pu:=Aoj
def Wr(j2:LB→Int→Int→Int→Int→Int→Int→Ah0)(a o:LB):Ah0:=
if(Ev (Ac o) 64)then
some (0,0,0,0,0,0,([]:LI),2)
else
if(Ev (Ac a) 100000)then
some (0,0,0,0,0,0,([]:LI),4)
else
(Uy a).bind fun(m,w)=>
if(Be w 0)then
some (0,0,0,0,0,0,([]:LI),w)
else
(Bv a m (Ac a)).bind fun ad=>
(Ag5 ad).bind fun(b,f,g,h,k,y)=>
if(Be y 0)then
some (0,0,0,0,0,0,([]:LI),y)
else
if((o==([]:LB)) !=(geq b 1))then
some (0,0,0,0,0,0,([]:LI),26)
else
if(o !=([]:LB))then
if(Bq (Ac a) (Ae (Ae m 22) 8))then
some (0,0,0,0,0,0,([]:LI),24)
else
(Bv a (Ae m 22) (Ae (Ae m 22) 8)).bind fun ae=>
(Aj3 ae o).bind fun(af,aa)=>
if(Be aa 0)then
some (0,0,0,0,0,0,([]:LI),aa)
else
if(!af)then
some (0,0,0,0,0,0,([]:LI),26)
else
j2 a b f g h k (Ae (Ae m 22) 8)
else
j2 a b f g h k (Ae m 22)
def seekto_Open:=Wr Pu
abbrev Eo:=Option (LI×Int)
def Atv(f:LI):Eo:=
some (f,0)
def Ahn:=Atv
def Ajk(bk6:Int→Int→LI→Eo)(a:LI)(b g h:Int)(k:LI):Eo:=
bk6 (Ae b 1) (Ae g h) k
def Zs bk6:=Ajk bk6
def Qd(j8:Int→Int→Int→LI→Eo)(j10:LI→Eo)(a:LI)(b g:Int)(f:LI):Eo:=
if(Bq b (Ac a))then
(getI a b).bind fun h=>
(Et f ([(Ae g h)]:LI)).bind fun k=>
j8 b g h k
else
j10 f
def Ig(a:LI):Nat→Int→Int→LI→Eo
|0,_,_,_=>none
|q+1,b,g,f=>Qd (Zs (Ig a q) a) Ahn a b g f
def Ajb a:=Ig a Ap
def Zp(j6:LI→Int→Int→LI→Eo)(a:LI):Eo:=
(Jw a).bind fun m=>
if(Be m 0)then
some (([]:LI),m)
else
j6 a 0 0 ([(0:Int)]:LI)
def Sf:=Zp Ajb
def Xc(a:LB):Option (LB×Int):=
if(Bq (Ac a) 5)then
some (([]:LB),24)
else
if(Ev (Ac a) 41254)then
some (([]:LB),4)
else
(Bv a 0 (Ah (Ac a) 4)).bind fun f=>
(Pz f).bind fun(g,b)=>
if(Be b 0)then
some (([]:LB),b)
else
(Bv a (Ah (Ac a) 4) (Ac a)).bind fun h=>
(Apd h).bind fun(k,m)=>
if((Be m 0)||(Be k (Ad g:UInt64)))then
some (([]:LB),22)
else
(Bv a 0 (Ah (Ac a) 4)).bind fun n=>
some (n,0)
def Bfq(a:LB):Option (LB×Int×Int):=
if(Ev (Ac a) 41250)then
some (([]:LB),0,4)
else
(Ea a).bind fun b=>
some (b,(Bg 8 (Ac a)),0)
def Bit(g:UInt64):Option UInt64:=
some g
def Awq:=Bit
def Ao3(j6:UInt64→Option UInt64)(bk4:UInt64→Int→Option UInt64)(b f:Int)(h:LB)(k:Int)(g:UInt64)(a:Int):Option UInt64:=
if(Bq a f)then
(getI h (Beu (Ae b a) (GI.toZ (3:UInt64)).toNat)).bind fun m=>
(Gf (Ih (Cq (Ae b a) 7) 0)).bind fun _=>
(Gf (Ih (Cu (Ah f a) (Ah 8 (Cq (Ae b a) 7))) 0)).bind fun _=>
(Gf (Ih a 0)).bind fun _=>
bk4 (gor g (Cj (Ad (Cq (Bh m (GI.toZ (Cq (Ae b a) 7)).toNat) (Ah (Cj (1:UInt8) (GI.toZ (Cu (Ah f a) (Ah 8 (Cq (Ae b a) 7)))).toNat) 1)):UInt64) (GI.toZ a).toNat)) (Ae a (Cu (Ah f a) (Ah 8 (Cq (Ae b a) 7))))
else
j6 g
def Aa1(b f:Int)(h:LB)(k:Int):Nat→UInt64→Int→Option UInt64
|0,_,_=>none
|q+1,g,a=>Ao3 Awq (Aa1 b f h k q) b f h k g a
def Aw6 b f h k:=Aa1 b f h k Ap
def Awv(j4:Int→Int→LB→Int→UInt64→Int→Option UInt64)(h:LB)(k b f:Int):Option UInt64:=
j4 b f h k 0 0
def Atf:=Awv Aw6
abbrev Db:=Option (LB×Int×Int)
def Auw(o:Int)(p:LB):Db:=
some (p,o,0)
def Alb:=Auw
def Atn(bk27:Int→Int→LB→Db)(a:Int)(g:LB)(f b h:Int)(u:LB):Db:=
bk27 (Ae b 64) h u
def Adz bk27:=Atn bk27
def Atb(bk44:UInt64→Int→Int→LB→Db)(a b:Int)(g:LB)(f:Int)(k n:UInt64)(m h:Int)(w:LB):Db:=
(Gf (Ih (Cu m (Ah 8 (Cq h 7))) 0)).bind fun _=>
bk44 (Bh n (GI.toZ (Cu m (Ah 8 (Cq h 7)))).toNat) (Ah m (Cu m (Ah 8 (Cq h 7)))) (Ae h (Cu m (Ah 8 (Cq h 7)))) w
def Akd bk44:=Atb bk44
def Ald(j48:UInt64→Int→Int→LB→Db)(a b:Int)(g:LB)(f:Int)(k n:UInt64)(m h:Int)(v:LB):Db:=
(getI v (Ah (Ac v) 1)).bind fun _=>
(Gf (Ih (Cu m (Ah 8 (Cq h 7))) 0)).bind fun _=>
(Gf (Ih (Cq h 7) 0)).bind fun _=>
(getI v (Ah (Ac v) 1)).bind fun aa=>
(getI v (Ah (Ac v) 1)).bind fun _=>
Option.bind (Hl v (Ah (Ac v) 1) (gor aa (Cj (Ad (Cq n (Ah (Cj (1:UInt64) (GI.toZ (Cu m (Ah 8 (Cq h 7)))).toNat) 1)):UInt8) (GI.toZ (Cq h 7)).toNat))) fun w=>
j48 n m h w
def Adv bk44 a b g f k:=Ald (Akd bk44 a b g f k) a b g f k
def Ad5(j47:UInt64→Int→Int→LB→Db)(j50:Int→Int→LB→Db)(a:Int)(g:LB)(f b:Int)(k n:UInt64)(m h:Int)(u:LB):Db:=
if(Ev m 0)then
if(geq (Cq h 7) 0)then
(Et u ([(0:UInt8)]:LB)).bind fun ab=>
j47 n m h ab
else
j47 n m h u
else
j50 b h u
def Ju(bk27:Int→Int→LB→Db)(a:Int)(g:LB)(f b:Int)(k:UInt64):Nat→UInt64→Int→Int→LB→Db
|0,_,_,_,_=>none
|q+1,n,m,h,u=>Ad5 (Adv (Ju bk27 a g f b k q) a b g f k) (Adz bk27 a g f) a g f b k n m h u
def Aj2 bk27 a g f b k:=Ju bk27 a g f b k Ap
def Akh(j44:Int→UInt64→UInt64→Int→Int→LB→Db)(j52:Int→LB→Db)(a:Int)(g:LB)(f b o:Int)(p:LB):Db:=
if(Bq b a)then
(Atf g f b (Cu 64 (Ah a b))).bind fun k=>
j44 b k k (Cu 64 (Ah a b)) o p
else
j52 o p
def Qb(a:Int)(g:LB)(f:Int):Nat→Int→Int→LB→Db
|0,_,_,_=>none
|q+1,b,o,p=>Akh (Aj2 (Qb a g f q) a g f) Alb a g f b o p
def Aj4 a g f:=Qb a g f Ap
def Anp(j27:Int→LB→Int→Int→Int→LB→Db)(g:LB)(f y a:Int):Db:=
(Gs g f).bind fun ac=>
if(Be ac 0)then
some (([]:LB),0,8)
else
if(((Bq y 0)||(Ev y a))||(Ev a f))then
some (([]:LB),0,2)
else
j27 a g f y 0 ([]:LB)
def Apf:=Anp Aj4
def Xm(g:LB)(b f a:Int):Option (UInt64×Int):=
(Gs g b).bind fun h=>
if(Be h 0)then
some (0,8)
else
if(((Bq a 0)||(Ev a 64))||(Bq f 0))then
some (0,2)
else
if(Ev f (Ah b a))then
some (0,24)
else
(Atf g b f a).bind fun k=>
some (k,0)
def Eb(a:UInt64):Option Int:=
if(geq a 0)then
some 64
else
(getI ([(0:UInt8),(1:UInt8),(56:UInt8),(2:UInt8),(57:UInt8),(49:UInt8),(28:UInt8),(3:UInt8),(61:UInt8),(58:UInt8),(42:UInt8),(50:UInt8),(38:UInt8),(29:UInt8),(17:UInt8),(4:UInt8),(62:UInt8),(47:UInt8),(59:UInt8),(36:UInt8),(45:UInt8),(43:UInt8),(51:UInt8),(22:UInt8),(53:UInt8),(39:UInt8),(33:UInt8),(30:UInt8),(24:UInt8),(18:UInt8),(12:UInt8),(5:UInt8),(63:UInt8),(55:UInt8),(48:UInt8),(27:UInt8),(60:UInt8),(41:UInt8),(37:UInt8),(16:UInt8),(46:UInt8),(35:UInt8),(44:UInt8),(21:UInt8),(52:UInt8),(32:UInt8),(23:UInt8),(11:UInt8),(54:UInt8),(26:UInt8),(40:UInt8),(15:UInt8),(34:UInt8),(20:UInt8),(31:UInt8),(10:UInt8),(25:UInt8),(14:UInt8),(19:UInt8),(9:UInt8),(13:UInt8),(8:UInt8),(7:UInt8),(6:UInt8)]:LB) (GI.toZ (Bh (Bg (Cq a (Ath a)) 285870213051353865) (GI.toZ (58:UInt64)).toNat))).bind fun b=>
some (Ad b:Int)
abbrev Ff:=Option (Int×Int×Int)
def Az5:Ff:=
some (0,0,24)
def Ann:=Az5
def Are(j10:Ff):Ff:=
j10
def Aq0:=Are Ann
def Ail(j9:Ff)(f a:Int):Ff:=
if(geq f 48)then
some (f,(Ae 0 (Ae a f)),0)
else
j9
def Aij:=Ail Aq0
def Aig(j8:Int→Int→Ff)(f b a:Int):Ff:=
if(Bq f (Cu 48 (Ah b a)))then
some (f,(Ae (Ae (0:Int) (1:Int)) (Ae a f)),0)
else
j8 f a
def Ah7:=Aig Aij
def Aib(j7:Int→Int→Int→Ff)(h:Int)(k:UInt64)(a:Int)(g:LB)(b:Int):Ff:=
if(Be h 0)then
some (0,0,h)
else
(Eb (Azm k)).bind fun f=>
j7 f b a
def Aic:=Aib Ah7
def Rv(j6:Int→UInt64→Int→LB→Int→Ff)(g:LB)(b a:Int):Ff:=
(Gs g b).bind fun m=>
if(Be m 0)then
some (0,0,m)
else
if(Bq a 0)then
some (0,0,2)
else
if(Ih a b)then
some (0,0,24)
else
(
(
(Xm g b a (Cu 48 (Ah b a))).bind fun(k,h)=>
j6 h k a g b))
def Aad:=Rv Aic
abbrev Aov:=Option (UInt32×Int×Int)
def Akx(a b f:Int)(g:LB)(h k:Int):Aov:=
(Xm g h b k).bind fun(m,n)=>
if(Be n 0)then
some (0,0,n)
else
if(Bq f 48)then
(Gf (Ih a 0)).bind fun _=>
some ((gor (Cj (Ad f:UInt32) (GI.toZ a).toNat) (Ad m:UInt32)),(Ae b k),0)
else
(Ad7 (Ad m:UInt32) a).bind fun u=>
if(!u)then
some (0,0,12)
else
some ((Ad m:UInt32),(Ae b k),0)
def Ad3:=Akx
def Ak7(j2:Int→Int→Int→LB→Int→Int→Aov)(g:LB)(h v a:Int):Aov:=
(Gs g h).bind fun o=>
if(Be o 0)then
some (0,0,o)
else
if((Bq a 0)||(Ev a 24))then
some (0,0,2)
else
(Aad g h v).bind fun(f,b,p)=>
if(Be p 0)then
some (0,0,p)
else
if(geq f 48)then
j2 a b f g h 32
else
j2 a b f g h a
def Aqa:=Ak7 Ad3
abbrev Ha:=Option (UInt32×Int×Int×Int×UInt64×UInt64×Int)
def Aqx(f:UInt32)(k w m:Int)(a n:UInt64):Ha:=
some (f,k,w,m,(Ae a (Ah (Ad f:UInt64) (Bh a (GI.toZ (4:UInt64)).toNat))),n,0)
def Ah4:=Aqx
def Akg(j10:UInt32→Int→Int→Int→UInt64→UInt64→Ha)(f:UInt32)(k m:Int)(a n:UInt64)(w:Int):Ha:=
j10 f k w m a n
def Alj:=Akg Ah4
def Aj7(j9:UInt32→Int→Int→UInt64→UInt64→Int→Ha)(f:UInt32)(k b:Int)(a:UInt64)(m:Int)(n:UInt64):Ha:=
if(Ev b 0)then
(Gf (Ih b 0)).bind fun _=>
if(Bq (Ae a (Ah (Ad f:UInt64) (Bh a (GI.toZ (4:UInt64)).toNat))) (Cj (16:UInt64) (GI.toZ b).toNat))then
j9 f k m a n (Ah b 1)
else
if(Bq b 24)then
(Gf (Ih b 0)).bind fun _=>
if(Ev (Ae a (Ah (Ad f:UInt64) (Bh a (GI.toZ (4:UInt64)).toNat))) (Cj (32:UInt64) (GI.toZ b).toNat))then
j9 f k m a n (Ae b 1)
else
j9 f k m a n b
else
j9 f k m a n b
else
if(Bq b 24)then
(Gf (Ih b 0)).bind fun _=>
if(Ev (Ae a (Ah (Ad f:UInt64) (Bh a (GI.toZ (4:UInt64)).toNat))) (Cj (32:UInt64) (GI.toZ b).toNat))then
j9 f k m a n (Ae b 1)
else
j9 f k m a n b
else
j9 f k m a n b
def Xf:=Aj7 Alj
def Ak2(j8:UInt32→Int→Int→UInt64→Int→UInt64→Ha)(b h:Int)(a g:UInt64)(f:UInt32)(k:Int):Ha:=
(Zl b h a g f).bind fun(ad,o)=>
if(geq ad 1)then
if(Ev h 0)then
(Gf (Ih h 0)).bind fun _=>
if(Bq (Ae g (Ah (Ad o:UInt64) (Bh g (GI.toZ (4:UInt64)).toNat))) (Cj (16:UInt64) (GI.toZ h).toNat))then
j8 f k b a (Ah h 1) (Ae g (Ah (Ad o:UInt64) (Bh g (GI.toZ (4:UInt64)).toNat)))
else
if(Bq h 24)then
(Gf (Ih h 0)).bind fun _=>
if(Ev (Ae g (Ah (Ad o:UInt64) (Bh g (GI.toZ (4:UInt64)).toNat))) (Cj (32:UInt64) (GI.toZ h).toNat))then
j8 f k b a (Ae h 1) (Ae g (Ah (Ad o:UInt64) (Bh g (GI.toZ (4:UInt64)).toNat)))
else
j8 f k b a h (Ae g (Ah (Ad o:UInt64) (Bh g (GI.toZ (4:UInt64)).toNat)))
else
j8 f k b a h (Ae g (Ah (Ad o:UInt64) (Bh g (GI.toZ (4:UInt64)).toNat)))
else
if(Bq h 24)then
(Gf (Ih h 0)).bind fun _=>
if(Ev (Ae g (Ah (Ad o:UInt64) (Bh g (GI.toZ (4:UInt64)).toNat))) (Cj (32:UInt64) (GI.toZ h).toNat))then
j8 f k b a (Ae h 1) (Ae g (Ah (Ad o:UInt64) (Bh g (GI.toZ (4:UInt64)).toNat)))
else
j8 f k b a h (Ae g (Ah (Ad o:UInt64) (Bh g (GI.toZ (4:UInt64)).toNat)))
else
j8 f k b a h (Ae g (Ah (Ad o:UInt64) (Bh g (GI.toZ (4:UInt64)).toNat)))
else
j8 f k b a h g
def Ady:=Ak2 Xf
def Akq(j7:Int→Int→UInt64→UInt64→UInt32→Int→Ha)(p:Int)(u:LB)(v b h:Int)(a g:UInt64):Ha:=
(Xm u v p 1).bind fun(ae,aa)=>
if(Be aa 0)then
some (0,0,0,0,0,0,aa)
else
if(geq ae 0)then
(Xm u v (Ae p 1) b).bind fun(af,ab)=>
if(Be ab 0)then
some (0,0,0,0,0,0,ab)
else
j7 b h a g (Ad af:UInt32) (Ae (Ae p 1) b)
else
(Aqa u v (Ae p 1) h).bind fun(y,ag,ac)=>
if(Be ac 0)then
some (0,0,0,0,0,0,ac)
else
(Gf (Ih b 0)).bind fun _=>
if(Bq (Ae y (Cj (1:UInt32) (GI.toZ b).toNat)) y)then
some (0,0,0,0,0,0,12)
else
j7 b h a g (Ae y (Cj (1:UInt32) (GI.toZ b).toNat)) ag
def Akv:=Akq Ady
def Ako(j6:Int→LB→Int→Int→Int→UInt64→UInt64→Ha)(u:LB)(v p b h:Int)(a g:UInt64):Ha:=
(Gs u v).bind fun ah=>
if(Be ah 0)then
some (0,0,0,0,0,0,8)
else
(Afa b h a g).bind fun ai=>
if(Be ai 0)then
some (0,0,0,0,0,0,8)
else
j6 p u v b h a g
def Zu:=Ako Akv
abbrev Ba:=Option (LU×Int×Int)
def Asx(k:Int)(m:LU):Ba:=
some (m,k,0)
def Aei:=Asx
def Af5(bk16:Int→Int→(List (Int×Int×UInt64×UInt64×Unit))→LU→Ba)(a f:Int)(g:LB)(b k v:Int)(w:UInt32)(h:Int)(ag:List (Int×Int×UInt64×UInt64×Unit))(m:LU):Ba:=
(Et m ([w]:LU)).bind fun ak=>
bk16 (Ae k v) (Ae h 1) ag ak
def Tn bk16:=Af5 bk16
def Mg(j22:Int→Int→UInt32→Int→(List (Int×Int×UInt64×UInt64×Unit))→LU→Ba)(a f:Int)(g:LB)(b k h y:Int)(w:UInt32)(v:Int)(n:List (Int×Int×UInt64×UInt64×Unit))(m:LU)(aa ab:Int)(ac ad:UInt64):Ba:=
if(Be y 0)then
some (([]:LU),0,y)
else
(Gf (Be a 0)).bind fun _=>
(getI n (En h a)).bind fun _=>
(Hl n (En h a) (aa,ab,ac,ad,())).bind fun ag=>
j22 k v w h ag m
def Lz bk16 a f g b:=Mg (Tn bk16 a f g b) a f g b
def Md(j21:Int→Int→Int→UInt32→Int→(List (Int×Int×UInt64×UInt64×Unit))→LU→Int→Int→UInt64→UInt64→Ba)(j24:Int→LU→Ba)(a f:Int)(g:LB)(b k h:Int)(n:List (Int×Int×UInt64×UInt64×Unit))(m:LU):Ba:=
if(Bq h (Bg f a))then
(Apf g b k (Cu (Ae k 81) b)).bind fun(ah,ae,af)=>
if(Be af 0)then
some (([]:LU),0,af)
else
(Gf (Be a 0)).bind fun _=>
(getI n (En h a)).bind fun _=>
(
(
(getI n (En h a)).bind fun p=>
(
(Zu ah ae 0 p.1 p.2.1 p.2.2.1 p.2.2.2.1).bind fun(w,v,aa,ab,ac,ad,y)=>
j21 k h y w v n m aa ab ac ad)))
else
j24 k m
def Il(a f:Int)(g:LB)(b:Int):Nat→Int→Int→(List (Int×Int×UInt64×UInt64×Unit))→LU→Ba
|0,_,_,_,_=>none
|q+1,k,h,n,m=>Md (Lz (Il a f g b q) a f g b) Aei a f g b k h n m
def Ae1 a f g b:=Il a f g b Ap
def Aez(j16:Int→Int→LB→Int→Int→Int→(List (Int×Int×UInt64×UInt64×Unit))→LU→Ba)(a f:Int)(g:LB)(b:Int)(o:List (Int×Int×UInt64×UInt64×Unit)):Ba:=
j16 a f g b 0 0 o ([]:LU)
def Te:=Aez Ae1
def Afe(j15:Int→Int→LB→Int→(List (Int×Int×UInt64×UInt64×Unit))→Ba)(bk13:Int→(List (Int×Int×UInt64×UInt64×Unit))→Ba)(a f:Int)(g:LB)(b u:Int)(o:List (Int×Int×UInt64×UInt64×Unit)):Ba:=
if(Bq u 6)then
(Ar4).bind fun(al,ae,af,am)=>
(getI o u).bind fun _=>
(Hl o u (al,ae,af,am,())).bind fun an=>
bk13 (Ae u 1) an
else
j15 a f g b o
def Tc(a f:Int)(g:LB)(b:Int):Nat→Int→(List (Int×Int×UInt64×UInt64×Unit))→Ba
|0,_,_=>none
|q+1,u,o=>Afe Te (Tc a f g b q) a f g b u o
def Lr a f g b:=Tc a f g b Ap
def Xu(j13:Int→Int→LB→Int→Int→(List (Int×Int×UInt64×UInt64×Unit))→Ba)(a f:Int)(g:LB)(b:Int):Ba:=
j13 a f g b 0 (List.replicate 6 ((0:Int),(0:Int),(0:UInt64),(0:UInt64),()))
def Vy:=Xu Lr
def Qc(a:UInt32):Option Int32:=
some (Qh (Ad (Bh a (GI.toZ (1:UInt64)).toNat):Int32) (Ath (Ad (Cq a 1):Int32)))
def Apt(b:Int)(f g:LX)(a:Int32):Option (Int32×Int×LX×LX×Int):=
(Aer b f g).bind fun(h,k)=>
if(Be k 0)then
some (0,0,(List.replicate 16 (0:Int32)),(List.replicate 16 (0:Int32)),k)
else
(Alq b f g (Ae a h) a).bind fun(m,n,o)=>
some ((Ae a h),m,n,o,0)
def Hr(a:Int)(b:Int32)(f:Int)(g h:LX)(o:Int32):Option (Int32×Int×Int32×Int×LX×LX×Int):=
(Pm a b f g h).bind fun k=>
if(Be k 0)then
some (0,0,0,0,(List.replicate 16 (0:Int32)),(List.replicate 16 (0:Int32)),k)
else
(Pj a b).bind fun(m,y)=>
(Apt f g h o).bind fun(n,p,u,v,w)=>
(
some ((Ae n m),a,(Ae n m),p,u,v,w))
abbrev Eh:=Option (LX×Int)
def Bfg(f:LX):Eh:=
some (f,0)
def Aty:=Bfg
def Aum(bk12:Int→LX→Eh)(b a:Int)(h:LX):Eh:=
bk12 (Ae a b) h
def Ak0 bk12:=Aum bk12
def Adw(j20:Int→LX→Eh)(bk18:Int→LX→Eh)(b a g:Int)(h:LX):Eh:=
if(Ih g 0)then
(Gf (decide (0≤(Ae g 1)∧(Ae g 1)<((Ae a b)-a)))).bind fun _=>
(Gf (decide (0≤g∧g<((Ae a b)-a)))).bind fun _=>
(getI h (a+(Ae g 1))).bind fun o=>
(getI h (a+g)).bind fun p=>
(Gf (decide (0≤g∧g<((Ae a b)-a)))).bind fun _=>
(Hl h (a+g) (Ah o p)).bind fun u=>
bk18 (Ah g 1) u
else
j20 a h
def Qa(bk12:Int→LX→Eh)(b a:Int):Nat→Int→LX→Eh
|0,_,_=>none
|q+1,g,h=>Adw (Ak0 bk12 b) (Qa bk12 b a q) b a g h
def Aky bk12 b a:=Qa bk12 b a Ap
def Ale(j18:Int→Int→LX→Eh)(b a:Int)(k:LX):Eh:=
j18 a (Ah (Ah ((Ae a b)-a) 1) 1) k
def Ad2 bk12 b:=Ale (Aky bk12 b) b
def Ak1(j17:Int→LX→Eh)(j22:LX→Eh)(b a:Int)(f:LX):Eh:=
if(Bq a (Ac f))then
(vwI (Ac f) a (Ae a b)).bind fun _=>
if(Ev (Ah ((Ae a b)-a) 1) 0)then
(Gf (decide (0≤(Ah ((Ae a b)-a) 1)∧(Ah ((Ae a b)-a) 1)<((Ae a b)-a)))).bind fun _=>
Option.bind (Gf (decide (0≤(Ah (Ah ((Ae a b)-a) 1) 1)∧(Ah (Ah ((Ae a b)-a) 1) 1)<((Ae a b)-a)))) fun _=>
(getI f (a+(Ah ((Ae a b)-a) 1))).bind fun v=>
(getI f (a+(Ah (Ah ((Ae a b)-a) 1) 1))).bind fun w=>
(Gf (decide (0≤(Ah ((Ae a b)-a) 1)∧(Ah ((Ae a b)-a) 1)<((Ae a b)-a)))).bind fun _=>
(Hl f (a+(Ah ((Ae a b)-a) 1)) (Ae v (Bt w 2))).bind fun y=>
j17 a y
else
j17 a f
else
j22 f
def Me(b:Int):Nat→Int→LX→Eh
|0,_,_=>none
|q+1,a,f=>Ak1 (Ad2 (Me b q) b) Aty b a f
def Akb b:=Me b Ap
def Aol(j12:Int→Int→LX→Eh)(b:Int)(m:LX):Eh:=
(Ajc b m).bind fun n=>
if(Be n 0)then
some (([]:LX),n)
else
(Cw m).bind fun aa=>
j12 b 0 aa
def As3:=Aol Akb
abbrev Bd:=Option (LX×Int)
def Adj(a b:Int)(k:LX):Bd:=
(As3 a k).bind fun(ah,af)=>
if(Be af 0)then
some (([]:LX),af)
else
(Pn b ah).bind fun ae=>
if(Be ae 0)then
some (([]:LX),ae)
else
some (ah,0)
def Hw:=Adj
def Adm(bk13:Int→(List (Int×Int32×(Int×LX×LX×Unit)×Unit))→LX→Bd)(a:Int)(f:LU)(b g:Int)(w:Int32)(u:Int)(h:List (Int×Int32×(Int×LX×LX×Unit)×Unit))(k:LX)(y:Int)(v:Int32)(aa:Int)(ab ac:LX):Bd:=
if(Be u 0)then
some (([]:LX),u)
else
(Hl h (En g a) (y,v,(aa,ab,ac,()),())).bind fun ai=>
(Et k ([w]:LX)).bind fun aj=>
bk13 (Ae g 1) ai aj
def Qx bk13:=Adm bk13
def Ht(j16:Int→Int32→Int→(List (Int×Int32×(Int×LX×LX×Unit)×Unit))→LX→Int→Int32→Int→LX→LX→Bd)(j18:Int→Int→LX→Bd)(f:LU)(a b g:Int)(h:List (Int×Int32×(Int×LX×LX×Unit)×Unit))(k:LX):Bd:=
if(Bq g (Ac f))then
(getI f g).bind fun ag=>
(Gf (Be a 0)).bind fun _=>
(getI h (En g a)).bind fun _=>
(
(getI h (En g a)).bind fun m=>
(
(Qc ag).bind fun ae=>
(
(Hr m.1 m.2.1 m.2.2.1.1 m.2.2.1.2.1 m.2.2.1.2.2.1 ae).bind fun(w,y,v,aa,ab,ac,u)=>
j16 g w u h k y v aa ab ac)))
else
j18 a b k
def Fm(f:LU)(a b:Int):Nat→Int→(List (Int×Int32×(Int×LX×LX×Unit)×Unit))→LX→Bd
|0,_,_,_=>none
|q+1,g,h,k=>Ht (Qx (Fm f a b q) a f b) Hw f a b g h k
def Adp f a b:=Fm f a b Ap
def Adn(j13:LU→Int→Int→Int→(List (Int×Int32×(Int×LX×LX×Unit)×Unit))→LX→Bd)(f:LU)(a b:Int)(n:List (Int×Int32×(Int×LX×LX×Unit)×Unit)):Bd:=
j13 f a b 0 n ([]:LX)
def Ql:=Adn Adp
def Ado(j12:LU→Int→Int→(List (Int×Int32×(Int×LX×LX×Unit)×Unit))→Bd)(bk10:Int→(List (Int×Int32×(Int×LX×LX×Unit)×Unit))→Bd)(f:LU)(a b:Int)(o:LX)(p:Int)(n:List (Int×Int32×(Int×LX×LX×Unit)×Unit)):Bd:=
if(Bq p 6)then
(Avs b o).bind fun(ak,af,ae,al,am,v)=>
(getI n p).bind fun _=>
(Hl n p (ak,af,(ae,al,am,()),())).bind fun an=>
bk10 (Ae p 1) an
else
j12 f a b n
def Qw(f:LU)(a b:Int)(o:LX):Nat→Int→(List (Int×Int32×(Int×LX×LX×Unit)×Unit))→Bd
|0,_,_=>none
|q+1,p,n=>Ado Ql (Qw f a b o q) f a b o p n
def Ku f a b o:=Qw f a b o Ap
def Tr(j10:LU→Int→Int→LX→Int→(List (Int×Int32×(Int×LX×LX×Unit)×Unit))→Bd)(a b:Int)(o:LX)(f:LU):Bd:=
j10 f a b o 0 (List.replicate 6 ((0:Int),(0:Int32),((0:Int),(List.replicate 16 (0:Int32)),(List.replicate 16 (0:Int32)),()),()))
def Mm:=Tr Ku
def deframe_Decode(a h:Int)(u:LX)(f:Int)(v:LB):Option (LX×Int):=
(Mu a h).bind fun k=>
if(Be k 0)then
some (([]:LX),k)
else
if(Bq f 1)then
some (([]:LX),2)
else
(Gf (Be a 0)).bind fun _=>
if(Ev f (Bt 4000 a))then
some (([]:LX),2)
else
(Xc v).bind fun(w,m)=>
if(Be m 0)then
some (([]:LX),m)
else
(Bfq w).bind fun(n,b,o)=>
if(Be o 0)then
some (([]:LX),o)
else
(Vy a f n b).bind fun(y,g,p)=>
if(Be p 0)then
some (([]:LX),p)
else
if(Ih (Ah b g) 8)then
some (([]:LX),12)
else
(Xm n b g (Ah b g)).bind fun(aa,ab)=>
if((Be ab 0)||(Be aa 0))then
some (([]:LX),12)
else
(Mm a h u y).bind fun(ac,ad)=>
some (ac,ad)
abbrev Bw:=Option (LB×Int)
def Axt(g:LB):Bw:=
some (g,0)
def Al1:=Axt
def Amj(bk16:Int→LB→Bw)(b:Int)(a:LX)(f:Int)(h:LB):Bw:=
bk16 (Ae f 1) h
def Aci bk16:=Amj bk16
def Sk(j28:Int→LB→Bw)(bk26:Int→LB→Bw)(b:Int)(a:LX)(k:Int32)(f m:Int)(h:LB):Bw:=
if(Bq m (Bt b 8))then
(Gf (Ih (Bg 8 m) 0)).bind fun _=>
(Et h ([(Ad (Bh k (GI.toZ (Bg 8 m)).toNat):UInt8)]:LB)).bind fun p=>
bk26 (Ae m 1) p
else
j28 f h
def Fq(bk16:Int→LB→Bw)(b:Int)(a:LX)(k:Int32)(f:Int):Nat→Int→LB→Bw
|0,_,_=>none
|q+1,m,h=>Sk (Aci bk16 b a) (Fq bk16 b a k f q) b a k f m h
def Acg bk16 b a k f:=Fq bk16 b a k f Ap
def Acq(j26:Int32→Int→Int→LB→Bw)(b:Int)(a:LX)(f:Int)(g:LB)(k:Int32):Bw:=
j26 k f 0 g
def Ho bk16 b a:=Acq (Acg bk16 b a) b a
def Sy(j25:Int→LB→Int32→Bw)(j30:LB→Bw)(b:Int)(a:LX)(f:Int)(g:LB):Bw:=
if(Bq f (Ac a))then
(getI a f).bind fun n=>
if(geq b 8)then
j25 f g (Ae n 128)
else
j25 f g n
else
j30 g
def Dx(b:Int)(a:LX):Nat→Int→LB→Bw
|0,_,_=>none
|q+1,f,g=>Sy (Ho (Dx b a q) b a) Al1 b a f g
def Amb b a:=Dx b a Ap
def Afs(j16:Int→LX→Int→LB→Bw)(b:Int)(a:LX):Bw:=
(Pn b a).bind fun o=>
if(Be o 0)then
some (([]:LB),o)
else
j16 b a 0 ([]:LB)
def width_Bytes:=Afs Amb
abbrev Ct:=Option (LB×Int)
def Axs(a ac:Int):Ct:=
if(Be ac 0)then
some (([]:LB),ac)
else
if((Bq a 0)||(Ih a 0))then
some (([]:LB),2)
else
none
def Amm:=Axs
def Av2(ad:Int)(ae:LB):Ct:=
some (ae,ad)
def Aah:=Av2
def Acw(j10:Int→LB→Ct)(w a h b:Int)(aa:LX)(n o p k:Int)(m:LB)(u:LX)(v f g:LI):Ct:=
if(Be w 0)then
j10 w ([]:LB)
else
(width_Bytes b aa).bind fun(ak,al)=>
j10 al ak
def Acp:=Acw Aah
def Adb(j10:Int→LB→Ct)(j9:Int→Int→Int→Int→LX→Int→Int→Int→Int→LB→LX→LI→LI→LI→Ct)(a k ab y:Int)(m:LB)(h b:Int)(u:LX)(n o p:Int)(g v f:LI):Ct:=
if(Ev (Ae k y) (Ac m))then
j10 24 ([]:LB)
else
(getI g a).bind fun _=>
(Bv m (Ae k ab) (Ae k y)).bind fun am=>
(getI g a).bind fun an=>
(deframe_Decode h b u an am).bind fun(aa,w)=>
j9 w a h b aa n o p k m u v f g
def Ac9:=Adb Aah Acp
def Acl(j8:Int→Int→Int→Int→LB→Int→Int→LX→Int→Int→Int→LI→LI→LI→Ct)(a:Int)(g:LI)(n h b o p k:Int)(m:LB)(u:LX)(v f:LI):Ct:=
if(Be (0:Int) (0:Int))then
some (([]:LB),0)
else
if((Bq a 0)||(Ih a (Ac g)))then
some (([]:LB),2)
else
(getI f a).bind fun _=>
(getI f (Ae a 1)).bind fun _=>
(getI f a).bind fun ab=>
(getI f (Ae a 1)).bind fun y=>
j8 a k ab y m h b u n o p g v f
def Mp:=Acl Ac9
def Ac0(j6:Int→Int→Ct)(j7:Int→LI→Int→Int→Int→Int→Int→Int→LB→LX→LI→LI→Ct)(m af:LB)(a:Int):Ct:=
(seekto_Open m af).bind fun(n,h,b,o,p,k,v,ag)=>
if(Be ag 0)then
j6 a ag
else
(Nb n h b o p).bind fun(g,ah)=>
if(Be ah 0)then
j6 a ah
else
(Sf v).bind fun(f,ai)=>
if(Be ai 0)then
j6 a ai
else
(Uw af).bind fun(u,aj)=>
if(Be aj 0)then
j6 a aj
else
(getI f (Ac g)).bind fun _=>
(getI f (Ac g)).bind fun ao=>
j7 a g n h b o p k m u v f
def Ln:=Ac0 Amm Mp
abbrev Ase:=Option (Int×Int)
def Awc(a:LB):Ase:=
(Bv a (Ah (Ac a) 32) (Ac a)).bind fun g=>
(Aed g 0).bind fun(f,y,h)=>
if h then
if(Bq (Ah (Ac a) 32) f)then
some (0,24)
else
some ((Ae f 32),0)
else
(Bv a (Ah (Ac a) 32) (Ac a)).bind fun k=>
(Aed k 2147483648).bind fun(b,m,n)=>
if(!n)then
some (0,12)
else
if(Bq (Ac a) (Ae b 64))then
some (0,24)
else
(Bv a (Ah (Ac a) (Ae b 64)) (Ae (Ah (Ac a) (Ae b 64)) 32)).bind fun o=>
(Aqg b m 2684354560).bind fun p=>
(Fp o p).bind fun u=>
if(!u)then
some (0,12)
else
some ((Ae b 64),0)
def An2:=Awc
def Ao1(j2:LB→Ase)(a:LB):Ase:=
if(Bq (Ah (Ac a) 32) 0)then
some (0,6)
else
(Bv a (Ah (Ac a) 32) (Ac a)).bind fun v=>
(Hj v ([(65:UInt8),(80:UInt8),(69:UInt8),(84:UInt8),(65:UInt8),(71:UInt8),(69:UInt8),(88:UInt8)]:LB)).bind fun w=>
if(!w)then
some (0,6)
else
j2 a
def As7:=Ao1 An2
abbrev Du:=Option (Int×Int)
def Au0(a:Int):Du:=
some (a,0)
def Ajz:=Au0
def Ajq(bk8:Int→LB→Du)(a:Int)(g:LB):Du:=
bk8 (Ae a 1) g
def Zx bk8:=Ajq bk8
def Zo(j12:Int→LB→Du)(a f:Int)(b:LB):Du:=
if(geq f 0)then
some (0,38)
else
(Bv b 0 (Ah (Ac b) f)).bind fun g=>
j12 a g
def Zv bk8:=Zo (Zx bk8)
def Acy(j11:Int→Int→LB→Du)(j14:Int→Du)(a:Int)(b:LB):Du:=
if(Ev (Ac b) 0)then
(As7 b).bind fun(f,k)=>
j11 a f b
else
j14 a
def Mn:Nat→Int→LB→Du
|0,_,_=>none
|q+1,a,b=>Acy (Zv (Mn q)) Ajz a b
def Alx:=Mn Ap
def Ada(j8:Int→LB→Du)(h:LB):Du:=
if(Ev (Ac h) 4000)then
some (0,38)
else
j8 0 h
def Vs:=Ada Alx
abbrev Au:=Option (LB×Int)
def Axu(a:LB):Au:=
(Bv a 0 (Ac a)).bind fun ap=>
(Vs ap).bind fun(ay,aj)=>
if(Be aj 0)then
some (([]:LB),38)
else
some (([]:LB),0)
def Al2:=Axu
def Al3(j21:LB→Au)(a:LB)(aa:Int):Au:=
if(Bq aa 0)then
none
else
j21 a
def Al7(a:LB)(aa:Int):Nat→Au
|0=>none
|q+1=>Al3 Al2 a aa
def Amg a aa:=Al7 a aa Ap
def Acx(j19:LB→Int→Au)(a:LB)(aa ag:Int):Au:=
if(Be ag 0)then
some (([]:LB),ag)
else
if((Bq aa 0)||(Ih aa 0))then
some (([]:LB),2)
else
j19 a aa
def Acj:=Acx Amg
def Ame(a:LB)(b m:Int)(y:LB):Au:=
(Bv a (Ae b m) (Ac a)).bind fun aq=>
(Vs aq).bind fun(aj,ar)=>
if(Be ar 0)then
some (([]:LB),38)
else
some (y,0)
def Ac5:=Ame
def Alr(bk22:Int→LB→Au)(a:LB)(f:LI)(b m n h g o p:Int)(u:LX)(v k:LI)(w:Int)(ad:LB):Au:=
bk22 (Ae w 1) ad
def Adc bk22:=Alr bk22
def Ach(j30:Int→LB→Au)(a:LB)(f:LI)(b m n h g o p:Int)(u:LX)(v k:LI)(w:Int)(y:LB)(ah:Int)(ai:LB):Au:=
if(Be ah 0)then
some (([]:LB),ah)
else
(Et y ai).bind fun ad=>
j30 w ad
def Mr bk22 a f b m n h g o p u v k:=Ach (Adc bk22 a f b m n h g o p u v k) a f b m n h g o p u v k
def Acs(j29:Int→LB→Int→LB→Au)(a:LB)(f:LI)(b m h g n o p:Int)(u:LX)(v k:LI)(ab w:Int)(ae:LX)(y:LB):Au:=
if(Be ab 0)then
j29 w y ab ([]:LB)
else
(width_Bytes g ae).bind fun(au,av)=>
j29 w y av au
def Acr bk22 a f b m h g n o p u v k:=Acs (Mr bk22 a f b m n h g o p u v k) a f b m h g n o p u v k
def Ack(j29:Int→LB→Int→LB→Au)(j28:Int→Int→LX→LB→Au)(b:Int)(a:LB)(f:LI)(m h g:Int)(u:LX)(n o p:Int)(v k:LI)(w af ac:Int)(y:LB):Au:=
if(Ev (Ae b ac) (Ac a))then
j29 w y 24 ([]:LB)
else
(getI f w).bind fun _=>
(Bv a (Ae b af) (Ae b ac)).bind fun aw=>
(getI f w).bind fun ax=>
(deframe_Decode h g u ax aw).bind fun(ae,ab)=>
j28 ab w ae y
def Sn bk22 b a f m h g u n o p v k:=Ack (Mr bk22 a f b m n h g o p u v k) (Acr bk22 a f b m h g n o p u v k) b a f m h g u n o p v k
def Sr(j27:Int→Int→Int→LB→Au)(j32:LB→Int→Int→LB→Au)(a:LB)(f:LI)(b m n h g o p:Int)(u:LX)(v k:LI)(w:Int)(y:LB):Au:=
if(Bq w (Ac f))then
(getI k w).bind fun _=>
(getI k (Ae w 1)).bind fun _=>
(getI k w).bind fun af=>
(getI k (Ae w 1)).bind fun ac=>
j27 w af ac y
else
j32 a b m y
def Js(a:LB)(f:LI)(b m n h g o p:Int)(u:LX)(v k:LI):Nat→Int→LB→Au
|0,_,_=>none
|q+1,w,y=>Sr (Sn (Js a f b m n h g o p u v k q) b a f m h g u n o p v k) Ac5 a f b m n h g o p u v k w y
def Als a f b m n h g o p u v k:=Js a f b m n h g o p u v k Ap
def Ac7(j22:LB→LI→Int→Int→Int→Int→Int→Int→Int→LX→LI→LI→Int→LB→Au)(a:LB)(aa:Int)(f:LI)(b m n h g o p:Int)(u:LX)(v k:LI):Au:=
if(Be (0:Int) (0:Int))then
some (([]:LB),0)
else
if((Bq aa 0)||(Ih aa (Ac f)))then
some (([]:LB),2)
else
j22 a f b m n h g o p u v k aa ([]:LB)
def Acn:=Ac7 Als
def Xg(j17:LB→Int→Int→Au)(j18:LB→Int→LI→Int→Int→Int→Int→Int→Int→Int→LX→LI→LI→Au)(a ak:LB)(aa:Int):Au:=
(seekto_Open a ak).bind fun(n,h,g,o,p,b,v,al)=>
if(Be al 0)then
j17 a aa al
else
(Nb n h g o p).bind fun(f,am)=>
if(Be am 0)then
j17 a aa am
else
(Sf v).bind fun(k,an)=>
if(Be an 0)then
j17 a aa an
else
(Uw ak).bind fun(u,ao)=>
if(Be ao 0)then
j17 a aa ao
else
(getI k (Ac f)).bind fun _=>
(getI k (Ac f)).bind fun m=>
j18 a aa f b m n h g o p u v k
def Jz:=Xg Acj Acn
def Aq2(f g a:Int):Option (Int×Int×Int):=
(Kf f g).bind fun(k,h)=>
if(Be h 0)then
some (0,0,h)
else
if((Bq a 0)||(Ih a g))then
some (0,0,2)
else
(Qi f).bind fun(b,m)=>
(Gf (Be b 0)).bind fun _=>
(Gf (Be b 0)).bind fun _=>
some ((Bt a b),(En a b),0)
def Aih:Option Bool:=
some true
def Se:=Aih
def Rk(j6:Option Bool)(bk4:Int→Option Bool)(a b:LI)(f:Int):Option Bool:=
if(Bq f (Ac a))then
(getI a f).bind fun g=>
(getI b f).bind fun h=>
if(Be g h)then
some false
else
bk4 (Ae f 1)
else
j6
def Kj(a b:LI):Nat→Int→Option Bool
|0,_=>none
|q+1,f=>Rk Se (Kj a b q) a b f
def Rl a b:=Kj a b Ap
def Rm(j4:LI→LI→Int→Option Bool)(a b:LI):Option Bool:=
if(Be (Ac a) (Ac b))then
some false
else
j4 a b 0
def Ys:=Rm Rl
def Anc(m b f:Int)(a:LB)(p u v w g n:Int)(h k:LB)(o:LI)(aa:LB)(ab:Int):Option Bool:=
(getI a 45).bind fun _=>
(getI a 45).bind fun ak=>
(getI a 45).bind fun _=>
(Hl a 45 (Qh ak 1)).bind fun ac=>
(Ln ac ([]:LB) 0).bind fun(ad,ae)=>
(Jz ac ([]:LB) 0).bind fun(av,af)=>
if((geq m 0)&&(geq n 34))then
(Ys o ([(6:Int),(6:Int)]:LI)).bind fun al=>
some ((((((((((al&&(geq g 2))&&(geq b 0))&&(h==([130]:LB)))&&(geq f 0))&&(k==([130]:LB)))&&(geq ab 0))&&(aa==([130]:LB)))&&(geq ae 0))&&(ad==([129]:LB)))&&(geq af 22))
else
some ((((((((((false&&(geq g 2))&&(geq b 0))&&(h==([130]:LB)))&&(geq f 0))&&(k==([130]:LB)))&&(geq ab 0))&&(aa==([130]:LB)))&&(geq ae 0))&&(ad==([129]:LB)))&&(geq af 22))
def Yz:=Anc
def Yn(j2:Int→Int→Int→LB→Int→Int→Int→Int→Int→Int→LB→LB→LI→LB→Int→Option Bool):Option Bool:=
(Afm).bind fun(a,am)=>
if(!am)then
some false
else
(seekto_Open a ([]:LB)).bind fun(p,u,v,w,g,n,o,m)=>
(Ln a ([]:LB) 1).bind fun(h,b)=>
(Jz a ([]:LB) 1).bind fun(k,f)=>
(seekto_Open a ([]:LB)).bind fun(aw,an,ao,ap,ag,ax,ay,ah)=>
if(Be ah 0)then
j2 m b f a p u v w g n h k o ([]:LB) ah
else
if((Bq (1:Int) (0:Int))||(Ih 1 ag))then
j2 m b f a p u v w g n h k o ([]:LB) 2
else
(Aq2 ap ag 1).bind fun(aq,ar,ai)=>
if(Be ai 0)then
j2 m b f a p u v w g n h k o ([]:LB) ai
else
(Jz a ([]:LB) aq).bind fun(y,aj)=>
if(Be aj 0)then
j2 m b f a p u v w g n h k o ([]:LB) aj
else
(Gf (decide ((Ac y)≤(Ac y)∧(Ac y)≤Ac y))).bind fun _=>
(Bv y (Bt (Bg (Bg ar an) ao) 8) (Ac y)).bind fun au=>
j2 m b f a p u v w g n h k o au 0
def Ml:=Yn Yz
def Vo(a:LB):Option Bool:=
some (((Ev (Ac a) 5000)&&(Bq (Ac a) 12000))||(Ev (Ac a) 12100))
def Ms(a:Bool)(b:Int)(f k:LB):Option Bool:=
if a then
if((geq b 0)&&(k==f))then
some true
else
some ((geq b 38)&&(geq (Ac f) 0))
else
some false
def Hh:=Ms
def Ep(j6:Bool→Int→LB→LB→Option Bool)(bk4:Int→LB→Option Bool)(g h:LB)(a:Bool)(b n o p u v w:Int)(f:LB)(m:LI)(y:Int)(k:LB):Option Bool:=
if(Bq y (Ac m))then
(Ln g h y).bind fun(ad,ab)=>
if(Be ab 0)then
some ((a&&(geq b ab))&&(geq (Ac f) 0))
else
(Et k ad).bind fun ae=>
bk4 (Ae y 1) ae
else
j6 a b f k
def Bz(g h:LB)(a:Bool)(b n o p u v w:Int)(f:LB)(m:LI):Nat→Int→LB→Option Bool
|0,_,_=>none
|q+1,y,k=>Ep Hh (Bz g h a b n o p u v w f m q) g h a b n o p u v w f m y k
def Mo g h a b n o p u v w f m:=Bz g h a b n o p u v w f m Ap
def Hm(j4:LB→LB→Bool→Int→Int→Int→Int→Int→Int→Int→LB→LI→Int→LB→Option Bool)(g h:LB)(aa:Int):Option Bool:=
(Ml).bind fun a=>
(Vo g).bind fun af=>
if(((af||(Ev (Ac h) 64))||(Bq aa 0))||(!a))then
some a
else
(seekto_Open g h).bind fun(n,o,p,u,v,w,m,ac)=>
(Jz g h aa).bind fun(f,b)=>
if(Be ac 0)then
some (a&&(geq b ac))
else
if(Ih aa (Ac m))then
some (a&&(geq b 2))
else
if(Ev (Ac m) 100)then
some a
else
j4 g h a b n o p u v w f m aa ([]:LB)
def Fw:=Hm Mo
def Qv(f g b a h:Int):Option Bool:=
if((((geq f 1)||(geq f 2))&&(Ih g 1))&&(gle g 6))then
some ((((((geq b 8)||(geq b 16))||(geq b 24))&&(Ih a 1))&&(gle a 1048576))&&(Ih h 1))
else
some (((false&&(Ih a 1))&&(gle a 1048576))&&(Ih h 1))
def Nz(a:Int):Option Int:=
some (Aql 1 (Bt (Bg 256 a) 245))
def Jb(a:LI):Option (LI):=
some a
def Jf:=Jb
def Gg(j6:LI→Option (LI))(bk4:Int→LI→Option (LI))(b f:Int)(a:LI):Option (LI):=
if(Ev f 0)then
(Nz b).bind fun g=>
(Et a ([(Cu f g)]:LI)).bind fun h=>
(Nz b).bind fun k=>
bk4 (Ah f k) h
else
j6 a
def Dc(b:Int):Nat→Int→LI→Option (LI)
|0,_,_=>none
|q+1,f,a=>Gg Jf (Dc b q) b f a
def Yx b:=Dc b Ap
def Zh(j4:Int→Int→LI→Option (LI))(b m:Int):Option (LI):=
j4 b m ([]:LI)
def Im:=Zh Yx
def Vt(h a k f b:Int):Option Bool:=
(
(Gf (Be a 0)).bind fun _=>
(
if(Ev b (Bt 4000 a))then
some true
else
(Im f b).bind fun g=>
some (Ev (Ac g) 1000)))
def Wp(b:Int):Option Int:=
if(Ev b 100000)then
some 8
else
some 0
def Xb:=Wp
def Yw(bk6:Int→Int→Option Int)(a:LI)(b f:Int):Option Int:=
(getI a f).bind fun g=>
bk6 (Ae b g) (Ae f 1)
def Yt bk6:=Yw bk6
def Nu(j8:Int→Int→Option Int)(j10:Int→Option Int)(a:LI)(b f:Int):Option Int:=
if(Bq f (Ac a))then
(getI a f).bind fun h=>
if(Bq h 5)then
some 8
else
(getI a f).bind fun k=>
if(Ev k 100000)then
some 8
else
j8 b f
else
j10 b
def Gc(a:LI):Nat→Int→Int→Option Int
|0,_,_=>none
|q+1,b,f=>Nu (Yt (Gc a q) a) Xb a b f
def Yu a:=Gc a Ap
def Nt(j6:LI→Int→Int→Option Int)(a:LI):Option Int:=
if((Bq (Ac a) 1)||(Ev (Ac a) 1000))then
some 8
else
j6 a 0 0
def Gt:=Nt Yu
abbrev Dt:=Option (Int×Int)
def Anf(a:Int):Dt:=
some (a,0)
def Amp:=Anf
def Ns(j6:Int→Dt)(bk4:Int→Int→Dt)(b:LB)(a f:Int):Dt:=
if(Bq f 4)then
(getI b f).bind fun g=>
if(Ih g 128)then
some (0,12)
else
(getI b f).bind fun h=>
bk4 (Ae (Bg 128 a) (Ad h:Int)) (Ae f 1)
else
j6 a
def Ga(b:LB):Nat→Int→Int→Dt
|0,_,_=>none
|q+1,a,f=>Ns Amp (Ga b q) b a f
def Yj b:=Ga b Ap
def Zi(j4:LB→Int→Int→Dt)(b:LB):Dt:=
if(Be (Ac b) 4)then
some (0,2)
else
j4 b 0 0
def Tg:=Zi Yj
abbrev Ee:=Option (Int×Int)
def Acb(a:LB)(g:Int):Ee:=
if(Ev g 4000)then
some (0,4)
else
if(Bq (Ac a) g)then
some (0,24)
else
(getI a 5).bind fun h=>
if(geq h 16)then
(Bv a (Ah g 10) g).bind fun k=>
(Bv a 3 10).bind fun m=>
(Et ([51,68,73]:LB) m).bind fun n=>
if(k !=n)then
some (0,12)
else
some (g,0)
else
some (g,0)
def Oo:=Acb
def Abk(j6:LB→Int→Ee)(a:LB)(b:Int):Ee:=
(getI a 5).bind fun o=>
if(geq o 16)then
j6 a (Ae (Ae 10 b) 10)
else
j6 a (Ae 10 b)
def Pr:=Abk Oo
def Abc(j5:LB→Int→Ee)(a:LB):Ee:=
if(Bq (Ac a) 10)then
some (0,24)
else
(Bv a 6 10).bind fun p=>
(Tg p).bind fun(b,f)=>
(getI a 3).bind fun u=>
if(Bq u 2)then
if true then
if true then
if(true||(Be f 0))then
some (0,12)
else
j5 a b
else
(getI a 5).bind fun v=>
if(Be v 0)then
(getI a 5).bind fun w=>
if(Be w 16)then
if(true||(Be f 0))then
some (0,12)
else
j5 a b
else
(getI a 3).bind fun y=>
if((Be y 4)||(Be f 0))then
some (0,12)
else
j5 a b
else
if(false||(Be f 0))then
some (0,12)
else
j5 a b
else
(getI a 4).bind fun aa=>
if(Be aa 0)then
if(true||(Be f 0))then
some (0,12)
else
j5 a b
else
(getI a 5).bind fun ab=>
if(Be ab 0)then
(getI a 5).bind fun ac=>
if(Be ac 16)then
if(true||(Be f 0))then
some (0,12)
else
j5 a b
else
(getI a 3).bind fun ad=>
if((Be ad 4)||(Be f 0))then
some (0,12)
else
j5 a b
else
if(false||(Be f 0))then
some (0,12)
else
j5 a b
else
(getI a 3).bind fun ae=>
if(Ev ae 4)then
if true then
if(true||(Be f 0))then
some (0,12)
else
j5 a b
else
(getI a 5).bind fun af=>
if(Be af 0)then
(getI a 5).bind fun ag=>
if(Be ag 16)then
if(true||(Be f 0))then
some (0,12)
else
j5 a b
else
(getI a 3).bind fun ah=>
if((Be ah 4)||(Be f 0))then
some (0,12)
else
j5 a b
else
if(false||(Be f 0))then
some (0,12)
else
j5 a b
else
(getI a 4).bind fun ai=>
if(Be ai 0)then
if(true||(Be f 0))then
some (0,12)
else
j5 a b
else
(getI a 5).bind fun aj=>
if(Be aj 0)then
(getI a 5).bind fun ak=>
if(Be ak 16)then
if(true||(Be f 0))then
some (0,12)
else
j5 a b
else
(getI a 3).bind fun al=>
if((Be al 4)||(Be f 0))then
some (0,12)
else
j5 a b
else
if(false||(Be f 0))then
some (0,12)
else
j5 a b
def Abl:=Abc Pr
def Abm(j4:LB→Ee)(a:LB):Ee:=
if(Bq (Ac a) 3)then
some (0,6)
else
(Bv a 0 3).bind fun am=>
if(am !=([73,68,51]:LB))then
some (0,6)
else
j4 a
def Xk:=Abm Abl
def Ae6(a:UInt64):Option UInt64:=
some a
def Aej:=Ae6
def Tw(j6:UInt64→Option UInt64)(bk4:UInt64→Int→Option UInt64)(b:LB)(a:UInt64)(f:Int):Option UInt64:=
if(Ih f 0)then
(getI b f).bind fun g=>
bk4 (Ae (Bg 256 a) (Ad g:UInt64)) (Ah f 1)
else
j6 a
def Ij(b:LB):Nat→UInt64→Int→Option UInt64
|0,_,_=>none
|q+1,a,f=>Tw Aej (Ij b q) b a f
def Aew b:=Ij b Ap
def Afo(j4:LB→UInt64→Int→Option UInt64)(b:LB):Option UInt64:=
j4 b 0 (Ah (Ac b) 1)
def Ca:=Afo Aew
def We(b:LB):Option (Int×Int×Bool):=
(Bv b 12 16).bind fun g=>
(Ca g).bind fun a=>
(Bv b 16 20).bind fun h=>
(Ca h).bind fun f=>
if(((Bq a 32)||(Ev a 3032))||(Ev f 1000))then
some (0,0,false)
else
some ((Ah (Ad a:Int) 32),(Ad f:Int),true)
def Uz(a:LB):Option (LB):=
some a
def Ud:=Uz
def Li(j6:LB→Option (LB))(bk4:UInt64→Int→LB→Option (LB))(b:Int)(f:UInt64)(g:Int)(a:LB):Option (LB):=
if(Bq g b)then
(Et a ([(Ad (Vi f 256):UInt8)]:LB)).bind fun h=>
bk4 (Bt f 256) (Ae g 1) h
else
j6 a
def Ex(b:Int):Nat→UInt64→Int→LB→Option (LB)
|0,_,_,_=>none
|q+1,f,g,a=>Li Ud (Ex b q) b f g a
def Uc b:=Ex b Ap
def Vf(j4:Int→UInt64→Int→LB→Option (LB))(k:UInt64)(b:Int):Option (LB):=
j4 b k 0 ([]:LB)
def Ci:=Vf Uc
def La(a b:Int)(f:UInt64):Option (LB):=
(Ci 2000 4).bind fun g=>
(Et ([(65:UInt8),(80:UInt8),(69:UInt8),(84:UInt8),(65:UInt8),(71:UInt8),(69:UInt8),(88:UInt8)]:LB) g).bind fun h=>
(Ci (Ad (Ae a 32):UInt64) 4).bind fun k=>
(Et h k).bind fun m=>
(Ci (Ad b:UInt64) 4).bind fun n=>
(Et m n).bind fun o=>
(Ci f 4).bind fun p=>
(Et o p).bind fun u=>
(mkI (8:Int) (0:UInt8)).bind fun v=>
(Et u v).bind fun w=>
some w
def Ag6(a b:Int):Option (LB):=
(La a b 2684354560).bind fun f=>
some f
def Agp(a b:Int)(f:Bool):Option (LB):=
if f then
(La a b 2147483648).bind fun g=>
some g
else
(La a b 0).bind fun h=>
some h
abbrev Gw:=Option (Int×Int)
def Yi(a:LB)(b f:Int):Gw:=
if(Bq (Ac a) (Ae 64 b))then
some (0,24)
else
(Bv a (Ah (Ae 64 b) 32) (Ae 64 b)).bind fun g=>
(Agp b f true).bind fun h=>
if(g !=h)then
some (0,12)
else
some ((Ae 64 b),0)
def Zj:=Yi
def Ze(j4:LB→Int→Int→Gw)(a:LB):Gw:=
if(Bq (Ac a) 32)then
some (0,24)
else
(Bv a 0 32).bind fun k=>
(We k).bind fun(b,f,m)=>
if(!m)then
some (0,12)
else
(Bv a 0 32).bind fun n=>
(Ag6 b f).bind fun o=>
if(n !=o)then
some (0,12)
else
j4 a b f
def Yo:=Ze Zj
def Ym(j3:LB→Gw)(a:LB):Gw:=
if(Bq (Ac a) 8)then
some (0,6)
else
(Bv a 0 8).bind fun p=>
if(p !=([65,80,69,84,65,71,69,88]:LB))then
some (0,6)
else
j3 a
def Tl:=Ym Yo
abbrev Dr:=Option (LI×Int)
def Yv(bk6:Int→LI→Dr)(a:LB)(b:Int)(f:LI)(g h:Int):Dr:=
if(geq h 6)then
some (f,0)
else
if(Be h 0)then
some (([]:LI),h)
else
if(Ev (Ae b g) 4000)then
some (([]:LI),4)
else
(Et f ([g]:LI)).bind fun m=>
bk6 (Ae b g) m
def Jh bk6:=Yv bk6
def Nl(j9:Int→LI→Int→Int→Dr)(a:LB)(b:Int)(f:LI):Dr:=
(Bv a b (Ac a)).bind fun n=>
(Xk n).bind fun(o,k)=>
if(geq k 6)then
(Bv a b (Ac a)).bind fun p=>
(Tl p).bind fun(u,v)=>
j9 b f u v
else
j9 b f o k
def Jg(a:LB):Nat→Int→LI→Dr
|0,_,_=>none
|q+1,b,f=>Nl (Jh (Jg a q) a) a b f
def Amo a:=Jg a Ap
def Amw(j6:LB→Int→LI→Dr)(a:LB):Dr:=
j6 a 0 ([]:LI)
def Agc:=Amw Amo
abbrev Dq:=Option (Int×Int)
def Yq(a b:Int):Dq:=
some (b,a)
def Za:=Yq
def Nk(j6:Int→Int→Dq)(bk4:Int→Int→Dq)(a:Int)(f:LI)(b g:Int):Dq:=
if(Bq g (Ac f))then
(getI f g).bind fun _=>
(getI f g).bind fun h=>
bk4 (Ae b h) (Ae g 1)
else
j6 a b
def Ge(a:Int)(f:LI):Nat→Int→Int→Dq
|0,_,_=>none
|q+1,b,g=>Nk Za (Ge a f q) a f b g
def Nn a f:=Ge a f Ap
def Yp(j4:Int→LI→Int→Int→Dq)(k:LB):Dq:=
(Agc k).bind fun(f,a)=>
j4 a f 0 0
def Tu:=Yp Nn
def Abj(a:UInt32)(b:Bool):Option UInt32:=
if b then
some (Qh (Bt a 2) 3988292384)
else
some (Bt a 2)
def Abv:=Abj
def Abo(j2:UInt32→Bool→Option UInt32)(a:UInt32)(f:Int):Option UInt32:=
if(geq f 1)then
j2 a (!(geq (Vi a 2) 1))
else
j2 a (geq (Vi a 2) 1)
def Vv:=Abo Abv
def Aba(a:UInt32):Option UInt32:=
some a
def Abd:=Aba
def Pc(j6:UInt32→Option UInt32)(bk4:UInt32→UInt8→Int→Option UInt32)(a:UInt32)(b:UInt8)(f:Int):Option UInt32:=
if(Bq f 8)then
(Vv a (Ad (Vi b 2):Int)).bind fun g=>
bk4 g (Bt b 2) (Ae f 1)
else
j6 a
def Gy:Nat→UInt32→UInt8→Int→Option UInt32
|0,_,_,_=>none
|q+1,a,b,f=>Pc Abd (Gy q) a b f
def An0:=Gy Ap
def Anq(j4:UInt32→UInt8→Int→Option UInt32)(h:UInt32)(k:UInt8):Option UInt32:=
j4 h k 0
def Ahk:=Anq An0
def Xw(a:UInt32):Option UInt32:=
some a
def Wk:=Xw
def Mb(j6:UInt32→Option UInt32)(bk4:UInt32→Int→Option UInt32)(b:LB)(a:UInt32)(f:Int):Option UInt32:=
if(Bq f (Ac b))then
(getI b f).bind fun g=>
(Ahk a g).bind fun h=>
bk4 h (Ae f 1)
else
j6 a
def Fg(b:LB):Nat→UInt32→Int→Option UInt32
|0,_,_=>none
|q+1,a,f=>Mb Wk (Fg b q) b a f
def Wl b:=Fg b Ap
def Xz(j4:LB→UInt32→Int→Option UInt32)(k:UInt32)(b:LB):Option UInt32:=
j4 b k 0
def Ads:=Xz Wl
def Mq(a:LB):Option UInt32:=
(Ads 4294967295 a).bind fun b=>
some (Ah 4294967295 b)
abbrev Eg:=Option (Int×Int×Int×Int×Int×Int)
def Ace(k h g f b:UInt64):Eg:=
(Qv (Ad k:Int) (Ad h:Int) (Ad g:Int) (Ad f:Int) (Ad b:Int)).bind fun v=>
if(!v)then
some (0,0,0,0,0,12)
else
(Vt (Ad k:Int) (Ad h:Int) (Ad g:Int) (Ad f:Int) (Ad b:Int)).bind fun w=>
if w then
some (0,0,0,0,0,4)
else
some ((Ad k:Int),(Ad h:Int),(Ad g:Int),(Ad f:Int),(Ad b:Int),0)
def Ab8:=Ace
def Acd(j6:UInt64→UInt64→UInt64→UInt64→UInt64→Eg)(a:LB):Eg:=
(Bv a 4 6).bind fun u=>
(Bv a 6 8).bind fun p=>
(Bv a 8 10).bind fun o=>
(Bv a 10 14).bind fun n=>
(Bv a 14 18).bind fun m=>
(
(Ca u).bind fun k=>
(
(Ca p).bind fun h=>
(
(Ca o).bind fun g=>
(
(Ca n).bind fun f=>
(
(Ca m).bind fun b=>
(
j6 k h g f b))))))
def Abf:=Acd Ab8
def Aby(j5:LB→Eg)(a:LB):Eg:=
if(Bq (Ac a) 22)then
some (0,0,0,0,0,24)
else
(Bv a 18 22).bind fun y=>
(Bv a 0 18).bind fun aa=>
(Ca y).bind fun ab=>
(Mq aa).bind fun ac=>
if(Be ab (Ad ac:UInt64))then
some (0,0,0,0,0,22)
else
j5 a
def Abe:=Aby Abf
def Aa9(j4:LB→Eg)(a:LB):Eg:=
(Bv a 0 (Cu 4 (Ac a))).bind fun ad=>
(Bv ([84,84,65,49]:LB) 0 (Cu 4 (Ac a))).bind fun ae=>
if(ad !=ae)then
some (0,0,0,0,0,12)
else
j4 a
def Wx:=Aa9 Abe
def Abb(a:UInt64)(b:Bool):Option UInt64:=
if b then
some (Qh (Bg a 2) 4823603603198064275)
else
some (Bg a 2)
def Ou:=Abb
def Aca(j2:UInt64→Bool→Option UInt64)(a:UInt64)(f:Int):Option UInt64:=
if(geq f 1)then
j2 a (!(Ih a 9223372036854775808))
else
j2 a (Ih a 9223372036854775808)
def Wg:=Aca Ou
def Ab5(a:UInt64):Option UInt64:=
some a
def Abs:=Ab5
def Po(j6:UInt64→Option UInt64)(bk4:UInt64→Int→Option UInt64)(b:UInt8)(a:UInt64)(f:Int):Option UInt64:=
if(Ev f 0)then
(Gf (Be f 0)).bind fun _=>
(Wg a (En (Bt (Ad b:Int) f) 2)).bind fun g=>
bk4 g (Bt f 2)
else
j6 a
def Gz(b:UInt8):Nat→UInt64→Int→Option UInt64
|0,_,_=>none
|q+1,a,f=>Po Abs (Gz b q) b a f
def Anz b:=Gz b Ap
def Aoe(j4:UInt8→UInt64→Int→Option UInt64)(h:UInt64)(b:UInt8):Option UInt64:=
j4 b h 128
def Ahj:=Aoe Anz
def Wj(a:UInt64):Option UInt64:=
some a
def Vn:=Wj
def Ls(j6:UInt64→Option UInt64)(bk4:UInt64→Int→Option UInt64)(b:LB)(a:UInt64)(f:Int):Option UInt64:=
if(Bq f (Ac b))then
(getI b f).bind fun g=>
(Ahj a g).bind fun h=>
bk4 h (Ae f 1)
else
j6 a
def Fk(b:LB):Nat→UInt64→Int→Option UInt64
|0,_,_=>none
|q+1,a,f=>Ls Vn (Fk b q) b a f
def Ak9 b:=Fk b Ap
def Akl(j4:LB→UInt64→Int→Option UInt64)(k:UInt64)(b:LB):Option UInt64:=
j4 b k 0
def Rg:=Akl Ak9
def Ahm(a:LB):Option UInt64:=
(Rg 0 a).bind fun b=>
some b
def On(a:LB):Option (LB):=
(Ahm a).bind fun b=>
(Ci b 8).bind fun f=>
some f
abbrev Cf:=Option (LI×Int)
def Aa8(f:LI):Cf:=
(Gt f).bind fun h=>
if(Be h 0)then
some (([]:LI),12)
else
some (f,0)
def Pv:=Aa8
def Pw(j8:LI→Cf)(bk6:Int→LI→Cf)(b:LB)(a g:Int)(f:LI):Cf:=
if(Bq g a)then
(Bv b (Bg 4 g) (Ae (Bg 4 g) 4)).bind fun k=>
(Ca k).bind fun m=>
(Et f ([(Ad m:Int)]:LI)).bind fun n=>
bk6 (Ae g 1) n
else
j8 f
def Hb(b:LB)(a:Int):Nat→Int→LI→Cf
|0,_,_=>none
|q+1,g,f=>Pw Pv (Hb b a q) b a g f
def Aa3 b a:=Hb b a Ap
def Abq(j6:LB→Int→Int→LI→Cf)(b:LB)(a:Int):Cf:=
j6 b a 0 ([]:LI)
def Abu:=Abq Aa3
def Abn(j5:LB→Int→Cf)(b:LB)(a:Int):Cf:=
if((Bq a 1)||(Ev a 1000))then
some (([]:LI),2)
else
if(Bq (Ac b) (Ae (Bg 4 a) 4))then
some (([]:LI),24)
else
(Bv b (Bg 4 a) (Ae (Bg 4 a) 4)).bind fun o=>
(Bv b 0 (Bg 4 a)).bind fun p=>
(Ca o).bind fun u=>
(Mq p).bind fun v=>
if(Be u (Ad v:UInt64))then
some (([]:LI),22)
else
j5 b a
def Yd:=Abn Abu
def Ahl(b:UInt64)(a:LB):Option (UInt64×Int):=
if(Ev (Ac a) 100000)then
some (0,4)
else
(Rg b a).bind fun f=>
some (f,0)
def Aj0(a:LB):Option (UInt64×Int):=
(Ahl 0 a).bind fun(b,f)=>
some (b,f)
def Aqi(a:LX):Option (LX):=
some a
def Aqn:=Aqi
def Afp(bk6:UInt64→Int→LX→Option (LX))(b:UInt64)(f:Int)(a:LX)(g:Int32):Option (LX):=
(getI a f).bind fun _=>
(Hl a f g).bind fun h=>
bk6 (Bt b 256) (Ae f 1) h
def Tx bk6:=Afp bk6
def Th(j8:UInt64→Int→LX→Int32→Option (LX))(j10:LX→Option (LX))(b:UInt64)(f:Int)(a:LX):Option (LX):=
if(Bq f 8)then
if(Ev (Ad (Vi b 256):Int32) 127)then
j8 b f a (Ah (Ad (Vi b 256):Int32) 256)
else
j8 b f a (Ad (Vi b 256):Int32)
else
j10 a
def Gm:Nat→UInt64→Int→LX→Option (LX)
|0,_,_,_=>none
|q+1,b,f,a=>Th (Tx (Gm q)) Aqn b f a
def As0:=Gm Ap
def Ar7(j6:UInt64→Int→LX→Option (LX))(k:UInt64):Option (LX):=
j6 k 0 (List.replicate 16 (0:Int32))
def Ami:=Ar7 As0
def Vl(a:LB):Option (LX×Int):=
if(Ev (Ac a) 64)then
some (([(0:Int32),(0:Int32),(0:Int32),(0:Int32),(0:Int32),(0:Int32),(0:Int32),(0:Int32),(0:Int32),(0:Int32),(0:Int32),(0:Int32),(0:Int32),(0:Int32),(0:Int32),(0:Int32)]:LX),2)
else
(Aj0 a).bind fun(b,g)=>
(Ami b).bind fun f=>
some (f,0)
def Oh(a:Int):Option Int:=
if(geq a 8)then
some 128
else
if(geq a 16)then
some 32768
else
if(geq a 24)then
some 8388608
else
some 0
def Afq(a b:Int):Option Int:=
if((Bq a 1)||(Ev a 6))then
some 2
else
(Oh b).bind fun f=>
if(geq f 0)then
some 2
else
some 0
def Tv(a f b:Int):Option Int:=
(Afq a f).bind fun g=>
if((Be g 0)||(Bq b 1))then
some 2
else
(Gf (Be a 0)).bind fun _=>
if(Ev b (Bt 4000 a))then
some 2
else
some 0
def Rf(b:LB):Option (LB):=
(Mq b).bind fun a=>
(Et ([]:LB) b).bind fun f=>
(Et f ([(Ad a:UInt8),(Ad (Bh a (GI.toZ (8:UInt64)).toNat):UInt8),(Ad (Bh a (GI.toZ (16:UInt64)).toNat):UInt8),(Ad (Bh a (GI.toZ (24:UInt64)).toNat):UInt8)]:LB)).bind fun g=>
some g
def Kn(a:LB):Option Int:=
if(Bq (Ac a) 5)then
some 24
else
if(Ev (Ac a) 41254)then
some 4
else
(Bv a 0 (Ah (Ac a) 4)).bind fun b=>
(Rf b).bind fun f=>
if(f !=a)then
some 22
else
some 0
def It:Option (Int×Int×UInt64×UInt64):=
some (10,10,16384,16384)
def Amx(a:UInt64):Option UInt64:=
some a
def Amu:=Amx
def Nr(j6:UInt64→Option UInt64)(bk4:UInt64→Int→Option UInt64)(b:Int)(a:UInt64)(f:Int):Option UInt64:=
if(Bq f b)then
bk4 (Bg a 2) (Ae f 1)
else
j6 a
def Gh(b:Int):Nat→UInt64→Int→Option UInt64
|0,_,_=>none
|q+1,a,f=>Nr Amu (Gh b q) b a f
def Am9 b:=Gh b Ap
def Am3(j4:Int→UInt64→Int→Option UInt64)(b:Int):Option UInt64:=
j4 b 1 0
def Dv:=Am3 Am9
def Zr(a g:Int)(h k:UInt64)(b:UInt32):Option Bool:=
(Dv a).bind fun f=>
some (Bq (Ad b:UInt64) f)
def Ya(a g:Int)(h k:UInt64)(b:UInt32):Option UInt32:=
(Dv a).bind fun f=>
some (Ad (Ah (Ad b:UInt64) f):UInt32)
abbrev Qu:=Option (Int×UInt64)
def Abz(b:Int)(a f:UInt64):Qu:=
if(Bq b 24)then
(Dv (Ae b 5)).bind fun g=>
if(Ev (Ah (Ae a f) (Bt a 16)) g)then
some ((Ae b 1),(Ah (Ae a f) (Bt a 16)))
else
some (b,(Ah (Ae a f) (Bt a 16)))
else
some (b,(Ah (Ae a f) (Bt a 16)))
def Pd:=Abz
def Ab2(j2:Int→UInt64→UInt64→Qu)(b:Int)(a f:UInt64):Qu:=
if(Ev b 0)then
(Dv (Ae b 4)).bind fun h=>
if(Bq (Ah (Ae a f) (Bt a 16)) h)then
some ((Ah b 1),(Ah (Ae a f) (Bt a 16)))
else
j2 b a f
else
j2 b a f
def Ny:=Ab2 Pd
abbrev Nc:=Option (Int×Int×UInt64×UInt64)
def Vq(h:UInt32)(f a:Int)(g b:UInt64)(o:Int)(p:UInt64):Nc:=
(Ny f g (Ad h:UInt64)).bind fun(aa,ab)=>
some (aa,o,ab,p)
def Mh:=Vq
def Vm(j2:UInt32→Int→Int→UInt64→UInt64→Int→UInt64→Nc)(f a:Int)(g b:UInt64)(h:UInt32):Nc:=
(Zr f a g b h).bind fun u=>
if(!u)then
(
(
(Ya f a g b h).bind fun k=>
(Ny a b (Ad k:UInt64)).bind fun(m,n)=>
j2 h f a g b m n))
else
j2 h f a g b a b
def Qz:=Vm Mh
abbrev De:=Option (Int×Int×UInt64×UInt64)
def Aks(a b:Int)(f g:UInt64):De:=
some (a,b,f,g)
def Alm:=Aks
def Wm(j6:Int→Int→UInt64→UInt64→De)(bk4:Int→Int→Int→UInt64→UInt64→De)(h:Int)(k:LU)(m a b:Int)(f g:UInt64):De:=
if(Bq m (Ac k))then
(getI k m).bind fun n=>
(Qz a b f g n).bind fun(o,p,u,v)=>
bk4 (Ae m h) o p u v
else
j6 a b f g
def Hz(h:Int)(k:LU):Nat→Int→Int→Int→UInt64→UInt64→De
|0,_,_,_,_,_=>none
|q+1,m,a,b,f,g=>Wm Alm (Hz h k q) h k m a b f g
def Akn h k:=Hz h k Ap
def Xs(j4:Int→LU→Int→Int→Int→UInt64→UInt64→De)(h:Int)(k:LU):De:=
(It).bind fun(w,y,aa,ab)=>
(Gf (Be h 0)).bind fun _=>
j4 h k (En (Ac k) h) w y aa ab
def Kr:=Xs Akn
def Aex(a:Int):Option Int:=
some (En a 2)
def Ael:=Aex
def Tf(j6:Int→Option Int)(bk4:Int→Int→Option Int)(b a f:Int):Option Int:=
if(Bq f (En b 8))then
bk4 (Bt a 2) (Ae f 1)
else
j6 a
def Is(b:Int):Nat→Int→Int→Option Int
|0,_,_=>none
|q+1,a,f=>Tf Ael (Is b q) b a f
def Aft b:=Is b Ap
def Af8(j4:Int→Int→Int→Option Int)(g:LB)(k b:Int):Option Int:=
(getI g (Bt b 8)).bind fun h=>
j4 b (Ad h:Int) 0
def Hk:=Af8 Aft
abbrev Cm:=Option (LB×Int)
def Adr(b g a:Int)(f:LB):Cm:=
(getI f (Bt a 8)).bind fun _=>
(getI f (Bt a 8)).bind fun m=>
(getI f (Bt a 8)).bind fun _=>
(Hl f (Bt a 8) (Ae m (Ad (Bg b g):UInt8))).bind fun n=>
some (n,(Ae a 1))
def Rh:=Adr
def Qq(j8:Int→Int→Int→LB→Cm)(bk6:Int→Int→Cm)(b a:Int)(f:LB)(g h:Int):Cm:=
if(Bq h (En a 8))then
bk6 (Bg g 2) (Ae h 1)
else
j8 b g a f
def Hu(b a:Int)(f:LB):Nat→Int→Int→Cm
|0,_,_=>none
|q+1,g,h=>Qq Rh (Hu b a f q) b a f g h
def Adt b a f:=Hu b a f Ap
def Adg(j6:Int→Int→LB→Int→Int→Cm)(b a:Int)(f:LB):Cm:=
j6 b a f 1 0
def Ri:=Adg Adt
def Adl(j5:Int→Int→LB→Cm)(k:LB)(a b:Int):Cm:=
if(geq (En a 8) 0)then
(Et k ([(0:UInt8)]:LB)).bind fun o=>
j5 b a o
else
j5 b a k
def Qf:=Adl Ri
abbrev Cp:=Option (LB×Int)
def Ajl(a:Int)(b:LB):Cp:=
some (b,a)
def Ajm:=Ajl
def Lh(j6:Int→LB→Cp)(bk4:Int→Int→LB→Cp)(f:Int)(g:LB)(h k a:Int)(b:LB):Cp:=
if(Bq k f)then
(Hk g h k).bind fun m=>
(Qf b a m).bind fun(n,o)=>
bk4 (Ae k 1) o n
else
j6 a b
def Fa(f:Int)(g:LB)(h:Int):Nat→Int→Int→LB→Cp
|0,_,_,_=>none
|q+1,k,a,b=>Lh Ajm (Fa f g h q) f g h k a b
def Ajy f g h:=Fa f g h Ap
def Aiy(j4:Int→LB→Int→Int→Int→LB→Cp)(g:LB)(h p f:Int):Cp:=
j4 f g h p 0 ([]:LB)
def Ab0:=Aiy Ajy
def Am4(a:UInt64):Option UInt64:=
some a
def Amq:=Am4
def Ni(j6:UInt64→Option UInt64)(bk4:UInt64→Int→Option UInt64)(b:Int)(f:LB)(g:Int)(a:UInt64)(h:Int):Option UInt64:=
if(Ih h 0)then
(Hk f g (Ae b h)).bind fun k=>
bk4 (Ae (Bg 2 a) (Ad k:UInt64)) (Ah h 1)
else
j6 a
def Gb(b:Int)(f:LB)(g:Int):Nat→UInt64→Int→Option UInt64
|0,_,_=>none
|q+1,a,h=>Ni Amq (Gb b f g q) b f g a h
def Yr b f g:=Gb b f g Ap
def Zc(j4:Int→LB→Int→UInt64→Int→Option UInt64)(f:LB)(g b m:Int):Option UInt64:=
j4 b f g 0 (Ah m 1)
def Ly:=Zc Yr
abbrev Eu:=Option (Int×Int)
def Adk(b a:Int)(g:LB)(f:Int):Eu:=
if(geq a 48)then
some (a,(Ae b a))
else
if(Ih (Ae b a) f)then
some ((-1:Int),0)
else
some (a,(Ae (Ae b a) 1))
def Rc:=Adk
def Ra(j6:Int→Int→LB→Int→Eu)(bk4:Int→Eu)(b:Int)(g:LB)(f a:Int):Eu:=
if((Bq (Ae b a) f)&&(Bq a 48))then
(Hk g f (Ae b a)).bind fun h=>
if(geq h 1)then
bk4 (Ae a 1)
else
j6 b a g f
else
j6 b a g f
def Hs(b:Int)(g:LB)(f:Int):Nat→Int→Eu
|0,_=>none
|q+1,a=>Ra Rc (Hs b g f q) b g f a
def Aqm b g f:=Hs b g f Ap
def Aqu(j4:Int→LB→Int→Int→Eu)(g:LB)(f b:Int):Eu:=
j4 b g f 0
def Ai7:=Aqu Aqm
def Xy(b:UInt32)(f:Int):Option Int:=
(Dv f).bind fun a=>
(Gf (Be a 0)).bind fun _=>
some (Ad (Cu 48 (Bt (Ad b:UInt64) a)):Int)
abbrev Tj:=Option (UInt32×Int×Int)
def Qo(g a b:Int)(h:LB)(f k:Int):Tj:=
if((Bq a 0)||(Bq (Ah f b) k))then
some (0,0,24)
else
(Ly h f b k).bind fun m=>
if(Bq a 48)then
(Dv g).bind fun o=>
some ((Ad (Ae (Bg (Ad a:UInt64) o) m):UInt32),(Ae b k),0)
else
(Xy (Ad m:UInt32) g).bind fun p=>
if(Bq p a)then
some (0,0,12)
else
some ((Ad m:UInt32),(Ae b k),0)
def Rb:=Qo
def Adq(j2:Int→Int→Int→LB→Int→Int→Tj)(h:LB)(f n g:Int):Tj:=
if(Ih n f)then
some (0,0,24)
else
(Ai7 h f n).bind fun(a,b)=>
if(geq a 48)then
j2 g a b h f 32
else
j2 g a b h f g
def Aac:=Adq Rb
def Zy(g:LB)(b a f n:Int)(v w:UInt64):Option (UInt32×Int×Int):=
if(Ih a b)then
some (0,0,24)
else
(Hk g b a).bind fun o=>
if(geq o 0)then
if(Bq (Ah (Ah b a) 1) f)then
some (0,0,24)
else
(Ly g b (Ae a 1) f).bind fun p=>
some ((Ad p:UInt32),(Ae (Ae a 1) f),0)
else
(Aac g b (Ae a 1) n).bind fun(h,u,k)=>
if(Be k 0)then
some (0,0,k)
else
(Dv f).bind fun m=>
if(Ev (Ae (Ad h:UInt64) m) 4294967295)then
some (0,0,12)
else
some ((Ad (Ae (Ad h:UInt64) m):UInt32),u,0)
abbrev Ax:=Option (LU×Int)
def Amv(b:LU):Ax:=
some (b,0)
def Anb:=Amv
def Nf(j18:LU→Ax)(bk16:Int→Ax)(a:LB)(b:LU)(m:Int):Ax:=
if(Bq m (Bg 8 (Ac a)))then
(Hk a (Bg 8 (Ac a)) m).bind fun n=>
if(Be n 0)then
some (b,12)
else
bk16 (Ae m 1)
else
j18 b
def Fz(a:LB)(b:LU):Nat→Int→Ax
|0,_=>none
|q+1,m=>Nf Anb (Fz a b q) a b m
def Zd a b:=Fz a b Ap
def Zg(j16:LB→LU→Int→Ax)(f:Int)(a:LB)(b:LU):Ax:=
if(Ev (Ah (Bg 8 (Ac a)) f) 7)then
some (b,12)
else
j16 a b f
def Nq:=Zg Zd
def Yl(bk10:Int→Int→LU→Ax)(g h:Int)(a:LB)(f k:Int)(b:LU)(o p:Int)(u v:UInt64):Ax:=
(Ab0 a (Bg 8 (Ac a)) f (Cu (Ae f 81) (Bg 8 (Ac a)))).bind fun(y,aa)=>
(Zy y aa 0 o p u v).bind fun(ab,ac,w)=>
if(Be w 0)then
some (b,w)
else
(Et b ([ab]:LU)).bind fun ad=>
bk10 (Ae f ac) (Ae k 1) ad
def Fy bk10:=Yl bk10
def Zf(j13:Int→Int→LU→Int→Int→UInt64→UInt64→Ax)(j15:Int→LB→LU→Ax)(g h:Int)(a:LB)(f k:Int)(b:LU):Ax:=
if(Bq k (Bg h g))then
(It).bind fun(n,ae,af,ag)=>
if(Ih k g)then
(Kr g b).bind fun(ah,ai,aj,ak)=>
j13 f k b ah ai aj ak
else
j13 f k b n ae af ag
else
j15 f a b
def Df(g h:Int)(a:LB):Nat→Int→Int→LU→Ax
|0,_,_,_=>none
|q+1,f,k,b=>Zf (Fy (Df g h a q) g h a) Nq g h a f k b
def Am1 g h a:=Df g h a Ap
def Aa7(j10:Int→Int→LB→Int→Int→LU→Ax)(g h:Int)(a:LB):Ax:=
j10 g h a 0 0 ([]:LU)
def Xl:=Aa7 Am1
def Asn(a:Int):Option (Int×Int):=
if(geq a 8)then
some (4,0)
else
if((geq a 16)||(geq a 24))then
some (5,0)
else
some (0,2)
def Au2(a:Int)(b:LX):Option (Int×LX×LX×Int):=
(Asn a).bind fun(g,f)=>
if(Be f 0)then
some (0,(List.replicate 16 (0:Int32)),(List.replicate 16 (0:Int32)),2)
else
if(geq a 16)then
some (9,b,(List.replicate 16 (0:Int32)),0)
else
some (10,b,(List.replicate 16 (0:Int32)),0)
def Aiv(a:Int)(b:LX):Option (Int×Int32×Int×LX×LX×Int):=
(Au2 a b).bind fun(f,g,h,k)=>
if(Be k 0)then
some (0,0,0,(List.replicate 16 (0:Int32)),(List.replicate 16 (0:Int32)),2)
else
some (a,0,f,g,h,0)
def Wb(a:UInt32):Option Int32:=
if(geq (Vi a 2) 0)then
some (Ad (Bt a 2):Int32)
else
some (Ad (Bt (Ath (Ae (Ad a:Int) 1)) 2):Int32)
def Bn(a:Int):Option Int32:=
some (Ad (Ad (Ad a:UInt64):UInt32):Int32)
def Adi(a:Int):Option Int32:=
some (Ad a:Int32)
def Adf:=Adi
def Qp(j6:Int→Option Int32)(bk4:Int→Int→Option Int32)(h:Int)(f g:LX)(a b:Int):Option Int32:=
if(Bq b 16)then
(getI f b).bind fun _=>
(getI g b).bind fun _=>
(getI f b).bind fun k=>
(getI g b).bind fun m=>
(Bn (Bg (Ad k:Int) (Ad m:Int))).bind fun n=>
(Bn (Ae a (Ad n:Int))).bind fun o=>
bk4 (Ad o:Int) (Ae b 1)
else
j6 a
def Hv(h:Int)(f g:LX):Nat→Int→Int→Option Int32
|0,_,_=>none
|q+1,a,b=>Qp Adf (Hv h f g q) h f g a b
def Aqs h f g:=Hv h f g Ap
def Aqv(j4:Int→LX→LX→Int→Int→Option Int32)(h:Int)(f g:LX):Option Int32:=
j4 h f g 0 0
def Ai2:=Aqv Aqs
def Ab1(b:Int)(f g:LX)(a:Int):Option Int32:=
(Ai2 b f g).bind fun k=>
(Bn (Ae (Ad k:Int) (Bt a 2))).bind fun h=>
(Gf (Be a 0)).bind fun _=>
(Gf (Be a 0)).bind fun _=>
if(Bq (En (Ad h:Int) a) 0)then
some (Ad (Ah (Bt (Ad h:Int) a) 1):Int32)
else
some (Ad (Bt (Ad h:Int) a):Int32)
def Ps:=Ab1
def Abx(j2:Int→LX→LX→Int→Option Int32)(b:Int)(f g:LX):Option Int32:=
if(geq b 9)then
j2 b f g 512
else
j2 b f g 1024
def Wo:=Abx Ps
def Xa(a:Int):Option Int32:=
if(geq a 0)then
some 4
else
if(gle a 3)then
some 2
else
some 1
def Of(a:Int32):Option Int32:=
if(Bq a 0)then
some (-1:Int32)
else
if(Ev a 0)then
some 1
else
some 0
abbrev Cn:=Option (Int×LX×LX)
def Ai4(g:Int)(b a:LX):Cn:=
some (g,b,a)
def Aje:=Ai4
def Kz(j6:Int→LX→LX→Cn)(bk4:Int→LX→Cn)(h:Int32)(g:Int)(a:LX)(f:Int)(b:LX):Cn:=
if(Bq f 16)then
(getI b f).bind fun _=>
(getI a f).bind fun _=>
(getI b f).bind fun k=>
(getI a f).bind fun m=>
(Xa f).bind fun n=>
(Of m).bind fun o=>
(Of h).bind fun p=>
(getI b f).bind fun _=>
(Hl b f (Ae k (Bg (Bg n o) p))).bind fun u=>
bk4 (Ae f 1) u
else
j6 g b a
def Ew(h:Int32)(g:Int)(a:LX):Nat→Int→LX→Cn
|0,_,_=>none
|q+1,f,b=>Kz Aje (Ew h g a q) h g a f b
def Ajw h g a:=Ew h g a Ap
def Aiu(j4:Int32→Int→LX→Int→LX→Cn)(g:Int)(v a:LX)(h:Int32):Cn:=
j4 h g a 0 v
def Aa5:=Aiu Ajw
abbrev Dd:=Option (Int×LX×LX)
def Vp(b:Int32)(f:Int)(g a:LX):Dd:=
(getI a 0).bind fun _=>
(Hl a 0 b).bind fun k=>
some (f,g,k)
def Xi:=Vp
def Mc(j6:Int32→Int→LX→LX→Dd)(bk4:Int→LX→Dd)(b:Int32)(f:Int)(g:LX)(h:Int)(a:LX):Dd:=
if(Ev h 0)then
(getI a (Ah h 1)).bind fun _=>
(getI a (Ah h 1)).bind fun m=>
(getI a h).bind fun _=>
(Hl a h m).bind fun n=>
bk4 (Ah h 1) n
else
j6 b f g a
def Fe(b:Int32)(f:Int)(g:LX):Nat→Int→LX→Dd
|0,_,_=>none
|q+1,h,a=>Mc Xi (Fe b f g q) b f g h a
def Alc b f g:=Fe b f g Ap
def Aln(j4:Int32→Int→LX→Int→LX→Dd)(f:Int)(g o:LX)(b:Int32):Dd:=
j4 b f g 15 o
def Ade:=Aln Alc
def Oq(a:Int)(b f:LX)(g:Int32):Option (Int32×Int×LX×LX):=
(Wo a b f).bind fun k=>
(Bn (Ae (Ad g:Int) (Ad k:Int))).bind fun h=>
(Aa5 a b f g).bind fun(m,n,o)=>
(Ade m n o h).bind fun(p,u,v)=>
some (h,p,u,v)
def Xj(b:Int32)(a:Int):Option Int32:=
(Gf (Be a 0)).bind fun _=>
(Gf (Be a 0)).bind fun _=>
if(Bq (En (Bg (Ah a 1) (Ad b:Int)) a) 0)then
some (Ad (Ah (Bt (Bg (Ah a 1) (Ad b:Int)) a) 1):Int32)
else
some (Ad (Bt (Bg (Ah a 1) (Ad b:Int)) a):Int32)
def Ma:=Xj
def Ws(j2:Int32→Int→Option Int32)(f:Int)(b:Int32):Option Int32:=
if(geq f 5)then
j2 b 32
else
j2 b 16
def Kt:=Ws Ma
def Qm(b:Int)(a:Int32)(h:Int)(k m:LX):Option Int:=
if(geq b 8)then
(Kt 4 a).bind fun f=>
some (Ad f:Int)
else
(Kt 5 a).bind fun g=>
some (Ad g:Int)
def Pa(a:Int)(k:Int32)(b:Int)(f g:LX)(m:Int32):Option (Int32×Int×Int32×Int×LX×LX):=
(Oq b f g m).bind fun(n,o,p,u)=>
(Qm a k b f g).bind fun v=>
(Bn (Ae (Ad n:Int) v)).bind fun h=>
some (h,a,h,o,p,u)
def Mf(a:Int)(b:LX):Option Int:=
if((Bq a 1)||(Ev a 6))then
some 2
else
if(Ev (Ac b) 4000)then
some 4
else
(Gf (Be a 0)).bind fun _=>
if(Ev (En (Ac b) a) 0)then
some 2
else
some 0
def Air(b:LX):Option (LX):=
some b
def Ai9:=Air
def Kv(j8:LX→Option (LX))(bk6:Int→LX→Option (LX))(a:LX)(f:Int)(b:LX):Option (LX):=
if(Ih f 0)then
(getI b (Ae f 1)).bind fun _=>
(getI a f).bind fun m=>
(getI b (Ae f 1)).bind fun n=>
(Bn (Ah (Ad n:Int) (Ad m:Int))).bind fun o=>
(getI b f).bind fun _=>
(Hl b f o).bind fun p=>
bk6 (Ah f 1) p
else
j8 b
def Ez(a:LX):Nat→Int→LX→Option (LX)
|0,_,_=>none
|q+1,f,b=>Kv Ai9 (Ez a q) a f b
def Aiz a:=Ez a Ap
def Uj(j6:LX→Int→LX→Option (LX))(a g:LX):Option (LX):=
j6 a (Ah (Ac a) 2) g
def Lk:=Uj Aiz
def Uk(j5:LX→LX→Option (LX))(a:LX):Option (LX):=
(mkI (Ac a) (0:Int32)).bind fun k=>
(Gf (geq (Ac a) (Ac a))).bind fun _=>
(getI a (Ah (Ac a) 1)).bind fun u=>
(getI k (Ah (Ac a) 1)).bind fun _=>
(Hl k (Ah (Ac a) 1) u).bind fun h=>
if(Ev (Ac a) 1)then
(getI a (Ah (Ac a) 1)).bind fun v=>
(getI a (Ah (Ac a) 2)).bind fun w=>
(Bn (Ae (Ad v:Int) (Bt (Ad w:Int) 2))).bind fun y=>
(getI h (Ah (Ac a) 1)).bind fun _=>
(Hl h (Ah (Ac a) 1) y).bind fun aa=>
j5 a aa
else
j5 a h
def Pq:=Uk Lk
abbrev Ef:=Option (LX×Int)
def Aop(f:LX):Ef:=
some (f,0)
def Ao5:=Aop
def Ab9(j6:LX→Ef)(bk4:Int→LX→Ef)(a:Int)(b:LX)(g:Int)(f:LX):Ef:=
if(Bq g (Ac b))then
(Bv b g (Ae g a)).bind fun h=>
(Pq h).bind fun k=>
(Et f k).bind fun m=>
bk4 (Ae g a) m
else
j6 f
def Jv(a:Int)(b:LX):Nat→Int→LX→Ef
|0,_,_=>none
|q+1,g,f=>Ab9 Ao5 (Jv a b q) a b g f
def Aoa a b:=Jv a b Ap
def Ab6(j4:Int→LX→Int→LX→Ef)(a:Int)(b:LX):Ef:=
(Mf a b).bind fun n=>
if(Be n 0)then
(Mf a b).bind fun o=>
some (([]:LX),o)
else
j4 a b 0 ([]:LX)
def Vk:=Ab6 Aoa
def Uv(a f:Int)(w:LX):Option (LX):=
(Vk a w).bind fun(aj,ai)=>
some aj
def Lb:=Uv
def Ur(bk18:Int→LX→Option (LX))(b:LU)(a f:Int)(g:LX)(h:Int)(m:LX):Option (LX):=
bk18 (Ae h 1) m
def Ut bk18:=Ur bk18
def Ub(bk26:Int→LX→Int→Int32→Int→LX→LX→Option (LX))(b:LU)(h a f:Int)(g:LX)(k:Int)(af:LX)(y:Int)(aa:Int32)(ab:Int)(ac ad:LX):Option (LX):=
bk26 (Ae k a) af y aa ab ac ad
def Uf bk26:=Ub bk26
def Va(j30:Int→LX→Int→Int32→Int→LX→LX→Option (LX))(b:LU)(h a f:Int)(g:LX)(k:Int)(ae:Int32)(m:LX)(n:Int)(o:Int32)(p:Int)(u v:LX)(y:Int)(aa:Int32)(ab:Int)(ac ad:LX):Option (LX):=
(getI m k).bind fun _=>
(Hl m k ae).bind fun af=>
j30 k af y aa ab ac ad
def Un bk26 b h a f g:=Va (Uf bk26 b h a f g) b h a f g
def Uh(j29:Int→Int32→LX→Int→Int32→Int→LX→LX→Int→Int32→Int→LX→LX→Option (LX))(j32:Int→LX→Option (LX))(b:LU)(a f:Int)(g:LX)(h k:Int)(m:LX)(n:Int)(o:Int32)(p:Int)(u v:LX):Option (LX):=
if(Bq k (Ac b))then
(getI b k).bind fun ah=>
(
(Wb ah).bind fun ag=>
(
(Pa n o p u v ag).bind fun(ae,y,aa,ab,ac,ad)=>
j29 k ae m n o p u v y aa ab ac ad))
else
j32 h m
def He(bk18:Int→LX→Option (LX))(b:LU)(a f:Int)(g:LX)(h:Int):Nat→Int→LX→Int→Int32→Int→LX→LX→Option (LX)
|0,_,_,_,_,_,_,_=>none
|q+1,k,m,n,o,p,u,v=>Uh (Un (He bk18 b a f g h q) b h a f g) (Ut bk18 b a f g) b a f g h k m n o p u v
def Uu bk18 b a f g h:=He bk18 b a f g h Ap
def Lg(j26:Int→Int→LX→Int→Int32→Int→LX→LX→Option (LX))(j34:Int→Int→LX→Option (LX))(b:LU)(a f:Int)(g:LX)(h:Int)(w:LX):Option (LX):=
if(Bq h a)then
(Aiv f g).bind fun(ak,ai,al,am,an,aq)=>
j26 h h w ak ai al am an
else
j34 a f w
def Dl(b:LU)(a f:Int)(g:LX):Nat→Int→LX→Option (LX)
|0,_,_=>none
|q+1,h,w=>Lg (Uu (Dl b a f g q) b a f g) Lb b a f g h w
def Um b a f g:=Dl b a f g Ap
def Wi(j18:LU→Int→Int→LX→Int→LX→Option (LX))(a f:Int)(g:LX)(b:LU):Option (LX):=
(mkI (Ac b) (0:Int32)).bind fun ao=>
(Gf (geq (Ac b) (Ac b))).bind fun _=>
j18 b a f g 0 ao
def Ks:=Wi Um
def Am5:Option Int:=
some 0
def Am7:=Am5
def Ej(j6:Option Int)(bk4:Int→Option Int)(a:LX)(b f:Int):Option Int:=
if(Bq f (Ac a))then
(getI a f).bind fun g=>
if(Bq (Ad g:Int) (Ath b))then
some 16
else
(getI a f).bind fun h=>
if(Ih (Ad h:Int) b)then
some 16
else
bk4 (Ae f 1)
else
j6
def Bo(a:LX)(b:Int):Nat→Int→Option Int
|0,_=>none
|q+1,f=>Ej Am7 (Bo a b q) a b f
def Am8 a b:=Bo a b Ap
def Je(j4:LX→Int→Int→Option Int)(k:Int)(a:LX):Option Int:=
(Oh k).bind fun b=>
if(geq b 0)then
some 2
else
if(Ev (Ac a) 4000)then
some 4
else
j4 a b 0
def cadenzaref18_Check:=Je Am8
def Qy(g f:Int)(a:LX):Option (LX×Int):=
(cadenzaref18_Check f a).bind fun b=>
if(Be b 0)then
some (([]:LX),b)
else
some (a,0)
abbrev Np:=Option (LX×Int)
def Mj(f a b:Int)(g:LX)(h:LU):Np:=
if(Be f 0)then
some (([]:LX),f)
else
(
(
(Ks a b g h).bind fun m=>
(Qy a b m).bind fun(n,o)=>
some (n,o)))
def Lw:=Mj
def Vw(j2:Int→Int→Int→LX→LU→Np)(a b:Int)(g:LX)(p:Int)(k:LB):Np:=
(Tv a b p).bind fun y=>
if(Be y 0)then
some (([]:LX),2)
else
(Kn k).bind fun aa=>
if(Be aa 0)then
(Kn k).bind fun ab=>
some (([]:LX),ab)
else
(Bv k 0 (Ah (Ac k) 4)).bind fun ac=>
(Xl a p ac).bind fun(h,f)=>
j2 f a b g h
def cadenzaref21_Decode:=Vw Lw
def Qs(a b:Int):Option (LB):=
if(geq a 24)then
(Et ([(Ad (En b 256):UInt8),(Ad (En (Bt b 256) 256):UInt8)]:LB) ([(Ad (Bt b 65536):UInt8)]:LB)).bind fun g=>
some g
else
some ([(Ad (En b 256):UInt8),(Ad (En (Bt b 256) 256):UInt8)]:LB)
def Hx:=Qs
def Adh(j2:Int→Int→Option (LB))(a:Int)(f:Int32):Option (LB):=
if(geq a 8)then
some ([(Ad (Ae (Ad f:Int) 128):UInt8)]:LB)
else
if(Bq (Ad f:Int) 0)then
(Oh a).bind fun h=>
j2 a (Ae (Ad f:Int) (Bg 2 h))
else
j2 a (Ad f:Int)
def Aaa:=Adh Hx
abbrev Ds:=Option (LB×Int)
def Ana(b:LB):Ds:=
some (b,0)
def Am0:=Ana
def Nh(j6:LB→Ds)(bk4:Int→LB→Ds)(f:Int)(a:LX)(g:Int)(b:LB):Ds:=
if(Bq g (Ac a))then
(getI a g).bind fun h=>
(Aaa f h).bind fun k=>
(Et b k).bind fun m=>
bk4 (Ae g 1) m
else
j6 b
def Gi(f:Int)(a:LX):Nat→Int→LB→Ds
|0,_,_=>none
|q+1,g,b=>Nh Am0 (Gi f a q) f a g b
def Amt f a:=Gi f a Ap
def Yy(j4:Int→LX→Int→LB→Ds)(f:Int)(a:LX):Ds:=
(cadenzaref18_Check f a).bind fun n=>
if(Be n 0)then
(cadenzaref18_Check f a).bind fun o=>
some (([]:LB),o)
else
j4 f a 0 ([]:LB)
def Tp:=Yy Amt
abbrev Gj:=Option (Int×Int×Int×Int×Int×Int×LI×Int)
def Yb(m n b h k f g:Int)(o:LI):Gj:=
if(Be n 0)then
some (0,0,0,0,0,0,([]:LI),n)
else
some (b,h,k,f,g,(Ae (Ae m (Bg 4 (Ac o))) 4),o,0)
def Xr:=Yb
def Wc(j4:Int→Int→Int→Int→Int→Int→Int→LI→Gj)(a:LB)(b h k f g m:Int):Gj:=
(Bv a m (Ac a)).bind fun y=>
(Im f g).bind fun aa=>
(Yd y (Ac aa)).bind fun(o,n)=>
j4 m n b h k f g o
def Hy:=Wc Xr
def Lo(j3:LB→Int→Int→Int→Int→Int→Int→Gj)(a u:LB):Gj:=
if(Ev (Ac a) 100000)then
some (0,0,0,0,0,0,([]:LI),4)
else
(Tu a).bind fun(p,v)=>
if(Be v 0)then
some (0,0,0,0,0,0,([]:LI),v)
else
(Bv a p (Ac a)).bind fun ab=>
(Wx ab).bind fun(b,h,k,f,g,w)=>
if(Be w 0)then
some (0,0,0,0,0,0,([]:LI),w)
else
if((u==([]:LB)) !=(geq b 1))then
some (0,0,0,0,0,0,([]:LI),26)
else
if(geq b 2)then
if(Bq (Ah (Ac a) (Ae p 22)) 8)then
some (0,0,0,0,0,0,([]:LI),24)
else
(Bv a (Ae p 22) (Ae (Ae p 22) 8)).bind fun ac=>
(On u).bind fun ad=>
if(ac !=ad)then
some (0,0,0,0,0,0,([]:LI),26)
else
j3 a b h k f g (Ae (Ae p 22) 8)
else
j3 a b h k f g (Ae p 22)
def cadenzaref40_Opened:=Lo Hy
def Am6(a:Int):Option Int:=
some a
def Amy:=Am6
def Nm(j6:Int→Option Int)(bk4:Int→Int→Option Int)(b h k m n o f:Int)(g:LI)(a p:Int):Option Int:=
if(Bq p b)then
(getI g p).bind fun u=>
bk4 (Ae a u) (Ae p 1)
else
j6 a
def Gd(b h k m n o f:Int)(g:LI):Nat→Int→Int→Option Int
|0,_,_=>none
|q+1,a,p=>Nm Amy (Gd b h k m n o f g q) b h k m n o f g a p
def Ane b h k m n o f g:=Gd b h k m n o f g Ap
def Amr(j4:Int→Int→Int→Int→Int→Int→Int→LI→Int→Int→Option Int)(h k m n o f:Int)(g:LI)(b:Int):Option Int:=
j4 b h k m n o f g f 0
def Aeu:=Amr Ane
abbrev Td:=Option (LB×Int)
def Qn(p:LX)(m n g b h k o:Int)(a:LI):Td:=
if(Be m 0)then
some (([]:LB),m)
else
(Tp b p).bind fun(af,ai)=>
some (af,0)
def Qr:=Qn
def Re(j2:LX→Int→Int→Int→Int→Int→Int→Int→LI→Td)(v y:LB)(n g b h k o:Int)(a:LI)(f:Int):Td:=
(Aeu n g b h k o a f).bind fun u=>
(getI a f).bind fun aa=>
if(Bq (Ah (Ac v) u) aa)then
some (([]:LB),24)
else
(Vl y).bind fun(ab,ag)=>
(getI a f).bind fun ac=>
(Bv v u (Ae u ac)).bind fun ad=>
(
(Im h k).bind fun w=>
(getI w f).bind fun _=>
(getI w f).bind fun ae=>
(cadenzaref21_Decode g b ab ae ad).bind fun(p,m)=>
j2 p m n g b h k o a)
def cadenzaref40_Got:=Re Qr
end Go.Pl
