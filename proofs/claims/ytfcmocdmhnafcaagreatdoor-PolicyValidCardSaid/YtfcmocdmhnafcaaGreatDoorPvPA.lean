/- A part of the proof of a statement of this seat (see the text that ends in Proof): PvPure. No conditions of its own. -/
import Derived.Test.YtfcmocdmhnafcaaGreatDoorPvBA
set_option linter.unusedVariables false
namespace Go.Pl
open Go Go.Lv
abbrev LB:=List UInt8
abbrev LI:=List Int
abbrev LX:=List Int32
abbrev LU:=List UInt32
abbrev LQ:=List UInt64
def Awa(a b f:Int)(g:LX):Option (Int×Int):=
some (a,b)
abbrev Ak5:=Option (Int32×Int32×Int)
def Bc0(a:Int)(b:Bool):Ak5:=
if b then
(Gk (Jr (Ah a 1) 0)).bind fun _=>
some ((Ax3 (Ck (1:Int32) (GI.toZ (Ah a 1)).toNat)),(Ah (Ck (1:Int32) (GI.toZ (Ah a 1)).toNat) 1),0)
else
some (0,0,2)
def Aq5:=Bc0
def Aq4(j2:Int→Bool→Ak5)(a:Int):Ak5:=
if(geq a 8)then
j2 a (geq a 8)
else
if(geq a 16)then
j2 a (geq a 16)
else
j2 a (geq a 24)
def Sf:=Aq4 Aq5
def Hw(a b:Int):Option Int:=
(Sf b).bind fun(g,h,f)=>
if(((Bb f 0)||(Bv a 1))||(Ey a 6))then
some 2
else
some 0
def Zt(a:Int):Option (Int×Int):=
if((Bv a 1)||(Ey a 1048576))then
some (0,2)
else
some ((Atz 1 (Bj (Ay 256 a) 245)),0)
def Oy(g b:Int):Option (Int×Int):=
(Zt g).bind fun(a,f)=>
if(Bb f 0)then
some (0,f)
else
if((Bv b 1)||(Ey b 4000))then
some (0,2)
else
(Gk (Bb a 0)).bind fun _=>
if(Ey (Bj (Ah (Ae b a) 1) a) 1000)then
some (0,4)
else
some ((Bj (Ah (Ae b a) 1) a),0)
def Bhw(a g f:Int)(h:LX)(b:Int):Option Int:=
(Awa a g f h).bind fun(k,m)=>
(Hw k m).bind fun n=>
if((Bb n 0)||(Bv b 1))then
some 8
else
(Gk (Bb a 0)).bind fun _=>
if(Ey b (Bj 4000 a))then
some 8
else
(Oy f b).bind fun(p,o)=>
if(Bb o 0)then
some 8
else
some 0
def Bd4:Option Int:=
some 0
def Ara:=Bd4
def Zj(j6:Option Int)(bk4:Int→Option Int)(b f:Int32)(a:LX)(g:Int):Option Int:=
if(Bv g (Ac a))then
(getI a g).bind fun h=>
if((Bv h b)||(Ey h f))then
some 16
else
bk4 (Ae g 1)
else
j6
def Mr(b f:Int32)(a:LX):Nat→Int→Option Int
|0,_=>none
|q+1,g=>Zj Ara (Mr b f a q) b f a g
def Aq6 b f a:=Mr b f a Am
def Ahc(j4:Int32→Int32→LX→Int→Option Int)(m:Int)(a:LX):Option Int:=
(Sf m).bind fun(b,f,k)=>
if(Bb k 0)then
some k
else
if(Ey (Ac a) 4000)then
some 4
else
j4 b f a 0
def Ta:=Ahc Aq6
def Aco(a f h:Int)(b:LX):Option Int:=
if(Bv a 1)then
some 8
else
(Gk (Bb a 0)).bind fun _=>
if(Bb (Fb (Ac b) a) 0)then
some 8
else
(Gk (Bb a 0)).bind fun _=>
(Bhw a f h b (Bj (Ac b) a)).bind fun g=>
if(Bb g 0)then
some g
else
(Ta f b).bind fun k=>
if(Bb k 0)then
some 8
else
some 0
abbrev Aln:=Option (Int×Int×Int×Int×Int×Int)
def Bcc(h:LB)(a b f:Int)(g:LX):Aln:=
if(h !=([]:LB))then
some (2,a,b,f,(Bj (Ac g) a),0)
else
some (1,a,b,f,(Bj (Ac g) a),0)
def Aqq:=Bcc
def Ahm(j2:LB→Int→Int→Int→LX→Aln)(a b f:Int)(g:LX)(h:LB):Aln:=
(Aco a b f g).bind fun k=>
if(Bb k 0)then
some (0,0,0,0,0,k)
else
if(Ey (Ac h) 64)then
some (0,0,0,0,0,2)
else
(Gk (Bb a 0)).bind fun _=>
(
j2 h a b f g)
def Bbe:=Ahm Aqq
abbrev Bh:=Option (UInt64×Int)
def Arc(h:UInt64):Bh:=
some (h,0)
def Ai8:=Arc
def Ajk(j30:UInt64→Bh)(h b:UInt64)(a:LB)(f:LQ):Bh:=
j30 h
def Ag5:=Ajk Ai8
def Yk(j29:UInt64→UInt64→LB→LQ→Bh)(bk27:UInt64→Int→Bh)(a:LB)(b:UInt64)(f:LQ)(h:UInt64)(m:Int):Bh:=
if(Bv m (Ac a))then
(getI a m).bind fun p=>
Option.bind (getI f (GI.toZ (Tn (Ad (Bk h (GI.toZ (56:UInt64)).toNat):UInt8) p))) fun _=>
Option.bind (getI f (GI.toZ (Tn (Ad (Bk h (GI.toZ (56:UInt64)).toNat):UInt8) p))) fun u=>
bk27 (Tn (Ck h (GI.toZ (8:UInt64)).toNat) u) (Ae m 1)
else
j29 h b a f
def Na(a:LB)(b:UInt64)(f:LQ):Nat→UInt64→Int→Bh
|0,_,_=>none
|q+1,h,m=>Yk Ag5 (Na a b f q) a b f h m
def Ajd a b f:=Na a b f Am
def Ai1(j27:LB→UInt64→LQ→UInt64→Int→Bh)(b:UInt64)(a:LB)(f:LQ):Bh:=
j27 a b f b 0
def Aal:=Ai1 Ajd
def Arw(bk16:Int→LQ→Bh)(b:UInt64)(a:LB)(g:Int)(o:LQ):Bh:=
bk16 (Ae g 1) o
def Ai0 bk16:=Arw bk16
def Ahp(j24:Int→LQ→Bh)(b:UInt64)(a:LB)(g:Int)(k:UInt64)(f:LQ):Bh:=
(getI f g).bind fun _=>
(Iv f g k).bind fun o=>
j24 g o
def Yo bk16 b a:=Ahp (Ai0 bk16 b a) b a
def Aar(j23:Int→UInt64→LQ→Bh)(bk21:UInt64→Int→Bh)(b:UInt64)(a:LB)(g:Int)(f:LQ)(k:UInt64)(n:Int):Bh:=
if(Bv n 8)then
bk21 (Tn (Ck k (GI.toZ (1:UInt64)).toNat) (Ay 4823603603198064275 (Bk k (GI.toZ (63:UInt64)).toNat))) (Ae n 1)
else
j23 g k f
def Mu(bk16:Int→LQ→Bh)(b:UInt64)(a:LB)(g:Int)(f:LQ):Nat→UInt64→Int→Bh
|0,_,_=>none
|q+1,k,n=>Aar (Yo bk16 b a) (Mu bk16 b a g f q) b a g f k n
def Ahx bk16 b a g f:=Mu bk16 b a g f Am
def Ym(j21:Int→LQ→UInt64→Int→Bh)(j26:UInt64→LB→LQ→Bh)(b:UInt64)(a:LB)(g:Int)(f:LQ):Bh:=
if(Bv g 256)then
j21 g f (Ck (Ad g:UInt64) (GI.toZ (56:UInt64)).toNat) 0
else
j26 b a f
def Kf(b:UInt64)(a:LB):Nat→Int→LQ→Bh
|0,_,_=>none
|q+1,g,f=>Ym (Ahx (Kf b a q) b a) Aal b a g f
def Aig b a:=Kf b a Am
def Alb(j16:UInt64→LB→Int→LQ→Bh)(b:UInt64)(a:LB):Bh:=
if(Ey (Ac a) 100000)then
some (0,4)
else
j16 b a 0 (List.replicate 256 (0:UInt64))
def Ao1:=Alb Aig
def Amn(a:LB):Option (UInt64×Int):=
(Ao1 0 a).bind fun(b,f)=>
some (b,f)
def Bo1(a:LX):Option (LX):=
some a
def Bb7:=Bo1
def Anz(j6:LX→Option (LX))(bk4:Int→LX→Option (LX))(f:UInt64)(b:Int)(a:LX):Option (LX):=
if(Bv b 8)then
(Gk (Jr (Ay 8 b) 0)).bind fun _=>
(getI a b).bind fun _=>
(Iv a b (Ad (Ad (Bk f (GI.toZ (Ay 8 b)).toNat):Int8):Int32)).bind fun g=>
bk4 (Ae b 1) g
else
j6 a
def Ac3(f:UInt64):Nat→Int→LX→Option (LX)
|0,_,_=>none
|q+1,b,a=>Anz Bb7 (Ac3 f q) f b a
def Be6 f:=Ac3 f Am
def Bdn(j4:UInt64→Int→LX→Option (LX))(f:UInt64):Option (LX):=
j4 f 0 (List.replicate 16 (0:Int32))
def Biu:=Bdn Be6
def Xc(a:LB):Option (LX×Int):=
if(Ey (Ac a) 64)then
some (([(0:Int32),(0:Int32),(0:Int32),(0:Int32),(0:Int32),(0:Int32),(0:Int32),(0:Int32),(0:Int32),(0:Int32),(0:Int32),(0:Int32),(0:Int32),(0:Int32),(0:Int32),(0:Int32)]:LX),2)
else
(Amn a).bind fun(f,b)=>
if(Bb b 0)then
some (([(0:Int32),(0:Int32),(0:Int32),(0:Int32),(0:Int32),(0:Int32),(0:Int32),(0:Int32),(0:Int32),(0:Int32),(0:Int32),(0:Int32),(0:Int32),(0:Int32),(0:Int32),(0:Int32)]:LX),b)
else
(Biu f).bind fun g=>
some (g,0)
def Afp(a b:UInt64):Option (UInt64×UInt64):=
some ((Ae (Ae (Ay (Bk a (GI.toZ (32:UInt64)).toNat) (Bk b (GI.toZ (32:UInt64)).toNat)) (Bk (Ae (Ay (Bk a (GI.toZ (32:UInt64)).toNat) (Dd b 4294967295)) (Bk (Ay (Dd a 4294967295) (Dd b 4294967295)) (GI.toZ (32:UInt64)).toNat)) (GI.toZ (32:UInt64)).toNat)) (Bk (Ae (Dd (Ae (Ay (Bk a (GI.toZ (32:UInt64)).toNat) (Dd b 4294967295)) (Bk (Ay (Dd a 4294967295) (Dd b 4294967295)) (GI.toZ (32:UInt64)).toNat)) 4294967295) (Ay (Dd a 4294967295) (Bk b (GI.toZ (32:UInt64)).toNat))) (GI.toZ (32:UInt64)).toNat)),(Ay a b))
def Ac9(a b:UInt64):Option (UInt64×UInt64):=
(Afp a b).bind fun(f,g)=>
some (f,g)
def Ky(a:LI):Option (LI):=
some a
def Gx:=Ky
def Fm(j10:LI→Option (LI))(bk8:Int→LI→Option (LI))(b:Int)(a:LI):Option (LI):=
if(Bv b (Ac a))then
(
(vwI (Ac a) b (Ac a)).bind fun _=>
(vwI (Ac a) 0 b).bind fun _=>
bk8 (Ae b (Ahh ((Ac a)-b) (Ala a 0 (b-(0:Int))).length)) (Pr a b ((Ac a)-b) (Ala a 0 (b-(0:Int)))))
else
j10 a
def Dj:Nat→Int→LI→Option (LI)
|0,_,_=>none
|q+1,b,a=>Fm Gx (Dj q) b a
def Mc:=Dj Am
def Lz(j8:Int→LI→Option (LI))(f:LI)(g:UInt64):Option (LI):=
(mkI (Ad g:Int) (0:Int)).bind fun k=>
(Gk (geq (Ad g:Int) (Ad g:Int))).bind fun _=>
j8 (Ahh (Ac k) f.length) (Bc2 k f)
def Ls:=Lz Mc
def Mb(j7:LI→UInt64→Option (LI))(f:LI)(h:Int):Option (LI):=
(Ac9 (Ad (Ac f):UInt64) (Ad h:UInt64)).bind fun(m,g)=>
if((Ey m 0)||(Ey g 9223372036854775807))then
none
else
j7 f g
def Lt:=Mb Ls
def Md(j6:LI→Int→Option (LI))(f:LI)(h:Int):Option (LI):=
if(Bv h 0)then
none
else
j6 f h
def Km:=Md Lt
def Ajr(f:LI):Option (LI):=
some f
def Tv:=Ajr
def Ex(j16:LI→Option (LI))(bk14:Int→LI→Option (LI))(a:List LI)(g:Int)(f:LI):Option (LI):=
if(Bv g (Ac a))then
(getI a g).bind fun o=>
(Ed f o).bind fun p=>
bk14 (Ae g 1) p
else
j16 f
def Da(a:List LI):Nat→Int→LI→Option (LI)
|0,_,_=>none
|q+1,g,f=>Ex Tv (Da a q) a g f
def Lc a:=Da a Am
def Kw(j14:(List LI)→Int→LI→Option (LI))(a:List LI)(k:LI):Option (LI):=
j14 a 0 k
def Ha:=Kw Lc
def Kv(j13:(List LI)→LI→Option (LI))(b:Int)(a:List LI):Option (LI):=
if(Ey (Ah b (Ah (0:Int) (0:Int))) 0)then
(vwI 0 0 0).bind fun _=>
(mkI (Ah b (Ah (0:Int) (0:Int))) (0:Int)).bind fun u=>
(Ed ([]:LI) u).bind fun m=>
(vwI (Ac m) 0 0).bind fun _=>
j13 a (Ala m 0 ((0:Int)-(0:Int)))
else
j13 a ([]:LI)
def Lb:=Kv Ha
def Le(j12:Int→(List LI)→Option (LI))(a:List LI)(b:Int):Option (LI):=
if(Bv b 0)then
none
else
j12 b a
def La:=Le Lb
def Fl(j11:(List LI)→Int→Option (LI))(bk9:Int→Int→Option (LI))(a:List LI)(b h:Int):Option (LI):=
if(Bv h (Ac a))then
(getI a h).bind fun n=>
if(Bv (Ae b (Ac n)) 0)then
none
else
bk9 (Ae b (Ac n)) (Ae h 1)
else
j11 a b
def Dl(a:List LI):Nat→Int→Int→Option (LI)
|0,_,_=>none
|q+1,b,h=>Fl La (Dl a q) a b h
def Lr a:=Dl a Am
def Mg(j9:(List LI)→Int→Int→Option (LI))(a:List LI):Option (LI):=
j9 a 0 0
def Kt:=Mg Lr
def Aiz(a b:LI):Option (LI):=
(Kt ([a,b]:List LI)).bind fun f=>
some f
def Rv(a b:Int):Option (LI×Int):=
(Oy a b).bind fun(f,g)=>
if(Bb g 0)then
some (([]:LI),g)
else
(Zt a).bind fun(h,n)=>
(Km ([h]:LI) (Ah f 1)).bind fun k=>
(Aiz k ([(Ah b (Ay (Ah f 1) h))]:LI)).bind fun m=>
some (m,0)
def Auk(a f:Int)(b:LX):Option Int:=
(Hw a f).bind fun g=>
if(Bb g 0)then
some g
else
(Ta f b).bind fun h=>
if(Bb h 0)then
some h
else
if(geq (Ac b) 0)then
some 2
else
(Gk (Bb a 0)).bind fun _=>
if(Bb (Fb (Ac b) a) 0)then
some 2
else
some 0
def Ami(a:Int)(b:LX):Option Int:=
if((Bv a 1)||(Ey a 6))then
some 2
else
if(Ey (Ac b) 4000)then
some 4
else
(Gk (Bb a 0)).bind fun _=>
if(Bb (Fb (Ac b) a) 0)then
some 2
else
some 0
def Di(a:LX):Option (LX):=
(
(Ed ([]:LX) a).bind fun b=>
some b)
abbrev Gt:=Option (LX×Int)
def Bl1(f:LX):Gt:=
some (f,0)
def Ba6:=Bl1
def Bk9(bk12:Int→LX→Gt)(b a:Int)(k:LX):Gt:=
bk12 (Ae a b) k
def Bad bk12:=Bk9 bk12
def Ban(j20:Int→LX→Gt)(b a:Int)(g:LX):Gt:=
if(Ey (Ah ((Ae a b)-a) 1) 0)then
(Gk (decide (0≤(Ah ((Ae a b)-a) 1)∧(Ah ((Ae a b)-a) 1)<((Ae a b)-a)))).bind fun _=>
Option.bind (Gk (decide (0≤(Ah (Ah ((Ae a b)-a) 1) 1)∧(Ah (Ah ((Ae a b)-a) 1) 1)<((Ae a b)-a)))) fun _=>
(getI g (a+(Ah ((Ae a b)-a) 1))).bind fun m=>
(getI g (a+(Ah (Ah ((Ae a b)-a) 1) 1))).bind fun n=>
(Gk (decide (0≤(Ah ((Ae a b)-a) 1)∧(Ah ((Ae a b)-a) 1)<((Ae a b)-a)))).bind fun _=>
(Iv g (a+(Ah ((Ae a b)-a) 1)) (Ah m (Bj n 2))).bind fun o=>
j20 a o
else
j20 a g
def Bba bk12 b:=Ban (Bad bk12 b) b
def Ba7(j19:Int→LX→Gt)(bk17:Int→LX→Gt)(b a h:Int)(g:LX):Gt:=
if(Bv h (Ah ((Ae a b)-a) 1))then
(Gk (decide (0≤(Ae h 1)∧(Ae h 1)<((Ae a b)-a)))).bind fun _=>
(Gk (decide (0≤h∧h<((Ae a b)-a)))).bind fun _=>
(getI g (a+(Ae h 1))).bind fun m=>
(getI g (a+h)).bind fun n=>
(Gk (decide (0≤h∧h<((Ae a b)-a)))).bind fun _=>
(Iv g (a+h) (Ah m n)).bind fun o=>
bk17 (Ae h 1) o
else
j19 a g
def Aqy(bk12:Int→LX→Gt)(b a:Int):Nat→Int→LX→Gt
|0,_,_=>none
|q+1,h,g=>Ba7 (Bba bk12 b) (Aqy bk12 b a q) b a h g
def Bae bk12 b a:=Aqy bk12 b a Am
def Ba0(j17:Int→Int→LX→Gt)(j22:LX→Gt)(b a:Int)(f:LX):Gt:=
if(Bv a (Ac f))then
(vwI (Ac f) a (Ae a b)).bind fun _=>
j17 a 0 f
else
j22 f
def As8(b:Int):Nat→Int→LX→Gt
|0,_,_=>none
|q+1,a,f=>Ba0 (Bae (As8 b q) b) Ba6 b a f
def Bas b:=As8 b Am
def Bfq(j12:Int→Int→LX→Gt)(b:Int)(p:LX):Gt:=
(Ami b p).bind fun u=>
if(Bb u 0)then
some (([]:LX),u)
else
(Di p).bind fun v=>
j12 b 0 v
def Bqs:=Bfq Bas
abbrev Av3:=Option (Int×LX×LX×Int)
def Bku(a:Int)(b:LX)(f:Bool):Av3:=
if f then
some (10,b,(List.replicate 16 (0:Int32)),0)
else
if(geq a 16)then
some (9,b,(List.replicate 16 (0:Int32)),0)
else
some (0,(List.replicate 16 (0:Int32)),(List.replicate 16 (0:Int32)),2)
def Bac:=Bku
def Azw(j2:Int→LX→Bool→Av3)(a:Int)(b:LX):Av3:=
if(geq a 8)then
j2 a b (geq a 8)
else
j2 a b (geq a 24)
def Axs:=Azw Bac
def Azu(a:Int)(f:LX):Option (Int×Int32×Int×LX×LX×Int):=
(Axs a f).bind fun(g,h,k,b)=>
if(Bb b 0)then
some (0,0,0,(List.replicate 16 (0:Int32)),(List.replicate 16 (0:Int32)),b)
else
some (a,0,g,h,k,0)
def Sk(a:Int)(k:Int32)(b:Int)(f m:LX):Option Int:=
(Axs a f).bind fun(g,n,o,h)=>
if((Bb h 0)||(Bb g b))then
some 8
else
some 0
def Arv(a:Int):Option (Int×Int):=
if(geq a 8)then
some (4,0)
else
if(geq a 16)then
if(geq a 16)then
some (5,0)
else
some (0,2)
else
if(geq a 24)then
some (5,0)
else
some (0,2)
def Ajs(a:Int)(b:Int32):Option Int32:=
(Gk (Jr a 0)).bind fun _=>
(Gk (Jr a 0)).bind fun _=>
some (Ad (Bjj (Ah (Ck (Ad b:Int) (GI.toZ a).toNat) (Ad b:Int)) (GI.toZ a).toNat):Int32)
def Rl(b:Int)(f:Int32):Option (Int32×Int):=
(Arv b).bind fun(g,a)=>
if(Bb a 0)then
some (0,a)
else
(Ajs g f).bind fun h=>
some (h,0)
def Acv(a:Int)(b f:LX):Option Int:=
if((Bb a 9)&&(Bb a 10))then
some 8
else
some 0
abbrev Nq:=Option (Int32×Int)
def Aue(g:Int32)(a:Int)(b f:LX):Nq:=
(Gk (Jr a 0)).bind fun _=>
some ((Bk g (GI.toZ a).toNat),0)
def Alj:=Aue
def Adm(j6:Int32→Int→LX→LX→Nq)(bk4:Int32→Int→Nq)(b:LX)(a:Int)(f:LX)(g:Int32)(h:Int):Nq:=
if(Bv h 16)then
(getI b h).bind fun m=>
(getI f h).bind fun _=>
(getI f h).bind fun n=>
bk4 (Ae g (Ay m n)) (Ae h 1)
else
j6 g a b f
def Pa(b:LX)(a:Int)(f:LX):Nat→Int32→Int→Nq
|0,_,_=>none
|q+1,g,h=>Adm Alj (Pa b a f q) b a f g h
def Ak4 b a f:=Pa b a f Am
def Alp(j4:LX→Int→LX→Int32→Int→Nq)(a:Int)(b f:LX):Nq:=
(Acv a b f).bind fun k=>
if(Bb k 0)then
some (0,k)
else
(Gk (Jr (Ah a 1) 0)).bind fun _=>
j4 b a f (Ck (1:Int32) (GI.toZ (Ah a 1)).toNat) 0
def Ah6:=Alp Ak4
def Amt(a:Int):Option Int32:=
if(geq a 0)then
some 4
else
if(Bv a 4)then
some 2
else
some 1
abbrev Nu:=Option (Int×LX×LX×Int)
def Bf8(g:Int)(b f:LX):Nu:=
some (g,b,f,0)
def Auz:=Bf8
def Ada(j6:Int→LX→LX→Nu)(bk4:Int→LX→Nu)(h:Int32)(f:LX)(g a:Int)(b:LX):Nu:=
if(Bv a 16)then
(getI f a).bind fun m=>
if(geq m 0)then
bk4 (Ae a 1) b
else
if((Bv m 0)==(Bv h 0))then
(getI b a).bind fun _=>
(getI b a).bind fun o=>
(Amt a).bind fun p=>
(getI b a).bind fun _=>
(Iv b a (Ae o p)).bind fun u=>
bk4 (Ae a 1) u
else
(getI b a).bind fun _=>
(getI b a).bind fun v=>
(Amt a).bind fun w=>
(getI b a).bind fun _=>
(Iv b a (Ah v w)).bind fun y=>
bk4 (Ae a 1) y
else
j6 g b f
def Pd(h:Int32)(f:LX)(g:Int):Nat→Int→LX→Nu
|0,_,_=>none
|q+1,a,b=>Ada Auz (Pd h f g q) h f g a b
def Auu h f g:=Pd h f g Am
def Alg(j4:Int32→LX→Int→Int→LX→Nu)(g:Int)(k f:LX)(h:Int32):Nu:=
(Acv g k f).bind fun n=>
if(Bb n 0)then
some (0,(List.replicate 16 (0:Int32)),(List.replicate 16 (0:Int32)),n)
else
if(geq h 0)then
some (g,k,f,0)
else
j4 h f g 0 k
def Anw:=Alg Auu
abbrev Aqs:=Option (Int×LX×LX×Int)
def Awy(g:Int32)(b:Int)(f a:LX):Aqs:=
(getI (Pr a 1 ((16:Int)-(1:Int)) (Ala a 0 ((16:Int)-(0:Int)))) 0).bind fun _=>
(Iv (Pr a 1 ((16:Int)-(1:Int)) (Ala a 0 ((16:Int)-(0:Int)))) 0 g).bind fun k=>
some (b,f,k,0)
def An2:=Awy
def Agj(j2:Int32→Int→LX→LX→Aqs)(b:Int)(f a:LX)(g:Int32):Aqs:=
(Acv b f a).bind fun h=>
if(Bb h 0)then
some (0,(List.replicate 16 (0:Int32)),(List.replicate 16 (0:Int32)),h)
else
(
(vwI 16 1 16).bind fun _=>
(vwI 16 0 16).bind fun _=>
j2 g b f a)
def Atl:=Agj An2
def Aos(a:Int)(b f:LX)(g h:Int32):Option (Int×LX×LX):=
(Anw a b f h).bind fun(k,m,n,v)=>
(Atl k m n g).bind fun(o,p,u,w)=>
some (o,p,u)
def Arn(b:Int)(f g:LX)(a:Int32):Option (Int32×Int×LX×LX×Int):=
(Ah6 b f g).bind fun(h,k)=>
if(Bb k 0)then
some (0,0,(List.replicate 16 (0:Int32)),(List.replicate 16 (0:Int32)),k)
else
(Aos b f g a (Ah a h)).bind fun(m,n,o)=>
some ((Ah a h),m,n,o,0)
def Adk(a:Int)(b:Int32)(f:Int)(g h:LX)(k:Int32):Option (Int32×Int×Int32×Int×LX×LX×Int):=
(Sk a b f g h).bind fun m=>
if(Bb m 0)then
some (0,0,0,0,(List.replicate 16 (0:Int32)),(List.replicate 16 (0:Int32)),m)
else
(Rl a b).bind fun(n,y)=>
(Arn f g h (Ah k n)).bind fun(o,p,u,v,w)=>
(
some (o,a,k,p,u,v,w))
def Bhd(a:Int32):Option UInt32:=
some (Tn (Ck (Ad a:UInt32) (GI.toZ (1:UInt64)).toNat) (Ad (Bk a (GI.toZ (31:UInt64)).toNat):UInt32))
abbrev Cd:=Option (LU×Int)
def Awc(k:LU):Cd:=
some (k,0)
def Aix:=Awc
def Aip(j12:LU→Cd)(bk10:Int→(List (Int×Int32×(Int×LX×LX×Unit)×Unit))→LU→Cd)(b:LX)(a f g:Int)(o:List (Int×Int32×(Int×LX×LX×Unit)×Unit))(k:LU):Cd:=
if(Bv g (Ac b))then
(getI b g).bind fun _=>
(getI b g).bind fun ac=>
(Gk (Bb a 0)).bind fun _=>
(getI o (Fb g a)).bind fun _=>
(getI o (Fb g a)).bind fun p=>
(Adk p.1 p.2.1 p.2.2.1.1 p.2.2.1.2.1 p.2.2.1.2.2.1 ac).bind fun(u,ad,ae,v,af,ag,w)=>
if(Bb w 0)then
some (([]:LU),w)
else
(Iv o (Fb g a) (ad,ae,(v,af,ag,()),())).bind fun ah=>
(Bhd u).bind fun ai=>
(Ed k ([ai]:LU)).bind fun aj=>
bk10 (Ae g 1) ah aj
else
j12 k
def Wa(b:LX)(a f:Int):Nat→Int→(List (Int×Int32×(Int×LX×LX×Unit)×Unit))→LU→Cd
|0,_,_,_=>none
|q+1,g,o,k=>Aip Aix (Wa b a f q) b a f g o k
def Aiv b a f:=Wa b a f Am
def Akb(j10:LX→Int→Int→Int→(List (Int×Int32×(Int×LX×LX×Unit)×Unit))→LU→Cd)(a f:Int)(b:LX)(h:List (Int×Int32×(Int×LX×LX×Unit)×Unit)):Cd:=
j10 b a f 0 h ([]:LU)
def Akg:=Akb Aiv
def Aj3(j9:Int→Int→LX→(List (Int×Int32×(Int×LX×LX×Unit)×Unit))→Cd)(bk7:Int→(List (Int×Int32×(Int×LX×LX×Unit)×Unit))→Cd)(a f:Int)(m b:LX)(n:Int)(h:List (Int×Int32×(Int×LX×LX×Unit)×Unit)):Cd:=
if(Bv n 6)then
(Azu f m).bind fun(ak,al,u,am,an,v)=>
(getI h n).bind fun _=>
(Iv h n (ak,al,(u,am,an,()),())).bind fun ao=>
bk7 (Ae n 1) ao
else
j9 a f b h
def Aa0(a f:Int)(m b:LX):Nat→Int→(List (Int×Int32×(Int×LX×LX×Unit)×Unit))→Cd
|0,_,_=>none
|q+1,n,h=>Aj3 Akg (Aa0 a f m b q) a f m b n h
def Akf a f m b:=Aa0 a f m b Am
def Ake(j7:Int→Int→LX→LX→Int→(List (Int×Int32×(Int×LX×LX×Unit)×Unit))→Cd)(a f:Int)(m y:LX):Cd:=
(Auk a f y).bind fun aa=>
if(Bb aa 0)then
some (([]:LU),aa)
else
(Bqs a y).bind fun(b,ab)=>
if(Bb ab 0)then
some (([]:LU),ab)
else
j7 a f m b 0 (List.replicate 6 ((0:Int),(0:Int32),((0:Int),(List.replicate 16 (0:Int32)),(List.replicate 16 (0:Int32)),()),()))
def Aql:=Ake Akf
def Avi:Option (Int×Int×UInt64×UInt64):=
some (10,10,16384,16384)
abbrev Hq:=Option ((List (Int×Int×UInt64×UInt64×Unit)))
def Ax8(a:List (Int×Int×UInt64×UInt64×Unit)):Hq:=
some a
def Ajt:=Ax8
def Akh(j6:(List (Int×Int×UInt64×UInt64×Unit))→Hq)(bk4:Int→(List (Int×Int×UInt64×UInt64×Unit))→Hq)(b:Int)(a:List (Int×Int×UInt64×UInt64×Unit)):Hq:=
if(Bv b 6)then
(Avi).bind fun(f,g,h,k)=>
(getI a b).bind fun _=>
(Iv a b (f,g,h,k,())).bind fun m=>
bk4 (Ae b 1) m
else
j6 a
def Yy:Nat→Int→(List (Int×Int×UInt64×UInt64×Unit))→Hq
|0,_,_=>none
|q+1,b,a=>Akh Ajt (Yy q) b a
def Akp:=Yy Am
def Ajx(j4:Int→(List (Int×Int×UInt64×UInt64×Unit))→Hq):Hq:=
j4 0 (List.replicate 6 ((0:Int),(0:Int),(0:UInt64),(0:UInt64),()))
def Aqu:=Ajx Akp
def Ht(b:LB)(a:Int):Option Int:=
if(((Bv a 0)||(Ey a 330000))||(Bb (Ac b) (Bjj (Ae a 7) (GI.toZ (3:UInt64)).toNat)))then
some 8
else
if(Ey (Dd a 7) 0)then
(getI b (Ah (Ac b) 1)).bind fun f=>
(Gk (Jr (Dd a 7) 0)).bind fun _=>
if(Bb (Bk f (GI.toZ (Dd a 7)).toNat) 0)then
some 8
else
some 0
else
some 0
def Au1(a b:Int)(f g:UInt64):Option Int:=
if(!((geq (Dk (Atz a 0) 24) a)&&((geq (Dk (Atz b 0) 24) b)&&((geq (Dk f 68719476735) f)&&((geq (Dk g 68719476735) g)&&true)))))then
some 8
else
some 0
def Alo:=Au1
def Adp(j4:Int→Int→UInt64→UInt64→Option Int)(a b:Int)(f g:UInt64):Option Int:=
(
(
j4 a b f g))
def Ak9:=Adp Alo
def Ade(j3:Int→Int→UInt64→UInt64→Option Int)(a b:Int)(f g:UInt64):Option Int:=
(
(
j3 a b f g))
def Ah0:=Ade Ak9
def Acx(a f:Int)(g h:UInt64)(b:UInt32):Option (Int×UInt32):=
(Gk (Jr a 0)).bind fun _=>
if(geq (Bk b (GI.toZ a).toNat) 0)then
some (0,b)
else
(Gk (Jr a 0)).bind fun _=>
some (1,(Ah b (Ck (1:UInt32) (GI.toZ a).toNat)))
def Eu(a:LB):Option (LB):=
(
(Ed ([]:LB) a).bind fun b=>
some b)
def Ays(a:LB)(b:Int):Option (LB×Int):=
(Eu a).bind fun f=>
some (f,b)
abbrev Cs:=Option (LB×Int×Int)
def Bj0(f:Int)(o:LB):Cs:=
some (o,f,0)
def Awq:=Bj0
def Biq(bk15:UInt64→Int→Int→LB→Cs)(b:UInt64)(a:Int)(m:UInt64)(h f:Int)(w:LB):Cs:=
(Gk (Jr (Dk h (Ah 8 (Dd f 7))) 0)).bind fun _=>
bk15 (Bk m (GI.toZ (Dk h (Ah 8 (Dd f 7)))).toNat) (Ah h (Dk h (Ah 8 (Dd f 7)))) (Ae f (Dk h (Ah 8 (Dd f 7)))) w
def Aye bk15:=Biq bk15
def Aw5(j19:UInt64→Int→Int→LB→Cs)(b:UInt64)(a:Int)(m:UInt64)(h f:Int)(u:LB):Cs:=
(getI u (Ah (Ac u) 1)).bind fun _=>
(Gk (Jr (Dk h (Ah 8 (Dd f 7))) 0)).bind fun _=>
(Gk (Jr (Dd f 7) 0)).bind fun _=>
(getI u (Ah (Ac u) 1)).bind fun ad=>
(getI u (Ah (Ac u) 1)).bind fun _=>
Option.bind (Iv u (Ah (Ac u) 1) (gor ad (Ck (Ad (Dd m (Ah (Ck (1:UInt64) (GI.toZ (Dk h (Ah 8 (Dd f 7)))).toNat) 1)):UInt8) (GI.toZ (Dd f 7)).toNat))) fun w=>
j19 m h f w
def Awp bk15 b a:=Aw5 (Aye bk15 b a) b a
def Awi(j18:UInt64→Int→Int→LB→Cs)(j21:Int→LB→Cs)(b:UInt64)(a:Int)(m:UInt64)(h f:Int)(o:LB):Cs:=
if(Ey h 0)then
if(geq (Dd f 7) 0)then
(Ed o ([(0:UInt8)]:LB)).bind fun ab=>
j18 m h f ab
else
j18 m h f o
else
j21 f o
def Am9(b:UInt64)(a:Int):Nat→UInt64→Int→Int→LB→Cs
|0,_,_,_,_=>none
|q+1,m,h,f,o=>Awi (Awp (Am9 b a q) b a) Awq b a m h f o
def Aw3 b a:=Am9 b a Am
def Bjg(g:Int)(p:LB):Cs:=
some (p,g,0)
def Axw:=Bjg
def Bio(bk22:UInt64→Int→Int→LB→Cs)(b:UInt64)(a:Int)(n:UInt64)(k g:Int)(y:LB):Cs:=
(Gk (Jr (Dk k (Ah 8 (Dd g 7))) 0)).bind fun _=>
bk22 (Bk n (GI.toZ (Dk k (Ah 8 (Dd g 7)))).toNat) (Ah k (Dk k (Ah 8 (Dd g 7)))) (Ae g (Dk k (Ah 8 (Dd g 7)))) y
def Axt bk22:=Bio bk22
def Awz(j26:UInt64→Int→Int→LB→Cs)(b:UInt64)(a:Int)(n:UInt64)(k g:Int)(v:LB):Cs:=
(getI v (Ah (Ac v) 1)).bind fun _=>
(Gk (Jr (Dk k (Ah 8 (Dd g 7))) 0)).bind fun _=>
(Gk (Jr (Dd g 7) 0)).bind fun _=>
(getI v (Ah (Ac v) 1)).bind fun ae=>
(getI v (Ah (Ac v) 1)).bind fun _=>
Option.bind (Iv v (Ah (Ac v) 1) (gor ae (Ck (Ad (Dd n (Ah (Ck (1:UInt64) (GI.toZ (Dk k (Ah 8 (Dd g 7)))).toNat) 1)):UInt8) (GI.toZ (Dd g 7)).toNat))) fun y=>
j26 n k g y
def Axp bk22 b a:=Awz (Axt bk22 b a) b a
def Ayg(j25:UInt64→Int→Int→LB→Cs)(j28:Int→LB→Cs)(b:UInt64)(a:Int)(n:UInt64)(k g:Int)(p:LB):Cs:=
if(Ey k 0)then
if(geq (Dd g 7) 0)then
(Ed p ([(0:UInt8)]:LB)).bind fun w=>
j25 n k g w
else
j25 n k g p
else
j28 g p
def Aoh(b:UInt64)(a:Int):Nat→UInt64→Int→Int→LB→Cs
|0,_,_,_,_=>none
|q+1,n,k,g,p=>Ayg (Axp (Aoh b a q) b a) Axw b a n k g p
def Axc b a:=Aoh b a Am
def Bay(j15:UInt64→Int→UInt64→Int→Int→LB→Cs)(j22:UInt64→Int→UInt64→Int→Int→LB→Cs)(ac:LB)(aa:Int)(b:UInt64)(a:Int):Cs:=
(Ht ac aa).bind fun af=>
if(Bb af 0)then
some (([]:LB),0,8)
else
if((Bv a 0)||(Ey a 64))then
some (([]:LB),0,2)
else
if(Bv a 64)then
(Gk (Jr a 0)).bind fun _=>
if(Bb (Bk b (GI.toZ a).toNat) 0)then
some (([]:LB),0,16)
else
if(Ey (Ae aa a) 330000)then
some (([]:LB),0,18)
else
(Ays ac aa).bind fun(ag,ah)=>
j15 b a b a ah ag
else
if(Ey (Ae aa a) 330000)then
some (([]:LB),0,18)
else
(Ays ac aa).bind fun(ab,ai)=>
j22 b a b a ai ab
def Ary:=Bay Aw3 Axc
def Agw(b:UInt32)(a:Int):Option Bool:=
(Gk (Jr a 0)).bind fun _=>
some (Jr (Bk b (GI.toZ a).toNat) 48)
def Aws(a:Int):Option (Int×Int):=
if((Bv a 0)||(Ey a 48))then
some (0,2)
else
some ((Dk (Ae a 1) 48),0)
def Ba3(b:LB)(f a:Int):Option (LB×Int×Int):=
(Ht b f).bind fun g=>
if(Bb g 0)then
some (([]:LB),0,g)
else
(Aws a).bind fun(k,h)=>
if(Bb h 0)then
some (([]:LB),0,h)
else
(Gk (Jr a 0)).bind fun _=>
(Ary b f (Ah (Ck (1:UInt64) (GI.toZ a).toNat) 1) k).bind fun(m,n,o)=>
some (m,n,o)
abbrev Anp:=Option (LB×Int×Int)
def Bga(b:LB)(f h:Int)(k:UInt32)(m:Int):Anp:=
(Ba3 b f h).bind fun(p,u,n)=>
if(Bb n 0)then
some (([]:LB),0,n)
else
(Ary p u (Ad k:UInt64) m).bind fun(v,w,y)=>
some (v,w,y)
def Auv:=Bga
def At9(j2:LB→Int→Int→UInt32→Int→Anp)(b:LB)(f:Int)(g:UInt32)(a:Int):Anp:=
(Ht b f).bind fun o=>
if(Bb o 0)then
some (([]:LB),0,o)
else
if((Bv a 0)||(Ey a 24))then
some (([]:LB),0,2)
else
(Gk (Jr a 0)).bind fun _=>
(Gk (Jr a 0)).bind fun _=>
(Agw g a).bind fun aa=>
if aa then
j2 b f 48 g 32
else
j2 b f (Ad (Bk g (GI.toZ a).toNat):Int) (Dd g (Ah (Ck (1:UInt32) (GI.toZ a).toNat) 1)) a
def Bdv:=At9 Auv
abbrev Gp:=Option (LB×Int×Int×Int×UInt64×UInt64×Int)
def Aiq(k u n:Int)(a:UInt64)(b:UInt32)(o:UInt64)(m:LB):Gp:=
(
(
some (m,k,u,n,(Ae a (Ah (Ad b:UInt64) (Bk a (GI.toZ (4:UInt64)).toNat))),o,0)))
def Aqz:=Aiq
def Aup(j10:Int→Int→Int→UInt64→UInt32→UInt64→LB→Gp)(b:UInt32)(k n:Int)(a o:UInt64)(m:LB)(u:Int):Gp:=
j10 k u n a b o m
def Aul:=Aup Aqz
def Auy(j9:UInt32→Int→Int→UInt64→UInt64→LB→Int→Gp)(b:UInt32)(f:Int)(a:UInt64)(k:Int)(m:LB)(n:Int)(o:UInt64):Gp:=
if(Ey f 0)then
(Gk (Jr f 0)).bind fun _=>
if(Bv (Ae a (Ah (Ad b:UInt64) (Bk a (GI.toZ (4:UInt64)).toNat))) (Ck (16:UInt64) (GI.toZ f).toNat))then
j9 b k n a o m (Ah f 1)
else
if(Bv f 24)then
(Gk (Jr f 0)).bind fun _=>
if(Ey (Ae a (Ah (Ad b:UInt64) (Bk a (GI.toZ (4:UInt64)).toNat))) (Ck (32:UInt64) (GI.toZ f).toNat))then
j9 b k n a o m (Ae f 1)
else
j9 b k n a o m f
else
j9 b k n a o m f
else
if(Bv f 24)then
(Gk (Jr f 0)).bind fun _=>
if(Ey (Ae a (Ah (Ad b:UInt64) (Bk a (GI.toZ (4:UInt64)).toNat))) (Ck (32:UInt64) (GI.toZ f).toNat))then
j9 b k n a o m (Ae f 1)
else
j9 b k n a o m f
else
j9 b k n a o m f
def Auq:=Auy Aul
def Aus(j8:UInt32→Int→UInt64→Int→LB→Int→UInt64→Gp)(b:UInt32)(f h:Int)(a g:UInt64)(y k:Int)(m:LB):Gp:=
if(Bb y 0)then
some (([]:LB),0,0,0,0,0,y)
else
(Acx f h a g b).bind fun(ag,p)=>
if(geq ag 1)then
if(Ey h 0)then
(Gk (Jr h 0)).bind fun _=>
if(Bv (Ae g (Ah (Ad p:UInt64) (Bk g (GI.toZ (4:UInt64)).toNat))) (Ck (16:UInt64) (GI.toZ h).toNat))then
j8 b f a k m (Ah h 1) (Ae g (Ah (Ad p:UInt64) (Bk g (GI.toZ (4:UInt64)).toNat)))
else
if(Bv h 24)then
(Gk (Jr h 0)).bind fun _=>
if(Ey (Ae g (Ah (Ad p:UInt64) (Bk g (GI.toZ (4:UInt64)).toNat))) (Ck (32:UInt64) (GI.toZ h).toNat))then
j8 b f a k m (Ae h 1) (Ae g (Ah (Ad p:UInt64) (Bk g (GI.toZ (4:UInt64)).toNat)))
else
j8 b f a k m h (Ae g (Ah (Ad p:UInt64) (Bk g (GI.toZ (4:UInt64)).toNat)))
else
j8 b f a k m h (Ae g (Ah (Ad p:UInt64) (Bk g (GI.toZ (4:UInt64)).toNat)))
else
if(Bv h 24)then
(Gk (Jr h 0)).bind fun _=>
if(Ey (Ae g (Ah (Ad p:UInt64) (Bk g (GI.toZ (4:UInt64)).toNat))) (Ck (32:UInt64) (GI.toZ h).toNat))then
j8 b f a k m (Ae h 1) (Ae g (Ah (Ad p:UInt64) (Bk g (GI.toZ (4:UInt64)).toNat)))
else
j8 b f a k m h (Ae g (Ah (Ad p:UInt64) (Bk g (GI.toZ (4:UInt64)).toNat)))
else
j8 b f a k m h (Ae g (Ah (Ad p:UInt64) (Bk g (GI.toZ (4:UInt64)).toNat)))
else
j8 b f a k m h g
def Auo:=Aus Auq
def Auj(j7:UInt32→Int→Int→UInt64→UInt64→Int→Int→LB→Gp)(b:UInt32)(v:LB)(w f h:Int)(a g:UInt64):Gp:=
(Acx f h a g b).bind fun(ad,ae)=>
(Ary v w (Ad ad:UInt64) 1).bind fun(aa,ab,ac)=>
if((geq ac 0)&&(geq ad 0))then
(Ary aa ab (Ad ae:UInt64) f).bind fun(ah,ai,aj)=>
j7 b f h a g aj ai ah
else
if(geq ac 0)then
(Bdv aa ab ae h).bind fun(ak,al,am)=>
j7 b f h a g am al ak
else
j7 b f h a g ac ab aa
def Au4:=Auj Auo
def Au5(j6:UInt32→LB→Int→Int→Int→UInt64→UInt64→Gp)(v:LB)(w f h:Int)(a g:UInt64)(b:UInt32):Gp:=
(Ht v w).bind fun an=>
if(Bb an 0)then
some (([]:LB),0,0,0,0,0,8)
else
(Ah0 f h a g).bind fun ao=>
if(Bb ao 0)then
some (([]:LB),0,0,0,0,0,8)
else
j6 b v w f h a g
def Bb8:=Au5 Au4
abbrev Bi:=Option (UInt32×Int)
def Aqx(h:UInt32):Bi:=
some (h,0)
def Ah3:=Aqx
def Zk(j30:UInt32→Bi)(bk28:UInt32→Int→Bi)(a:LB)(b:LU)(h:UInt32)(m:Int):Bi:=
if(Bv m (Ac a))then
(getI a m).bind fun p=>
(getI b (GI.toZ (Tn (Ad h:UInt8) p))).bind fun _=>
(getI b (GI.toZ (Tn (Ad h:UInt8) p))).bind fun u=>
bk28 (Tn (Bk h (GI.toZ (8:UInt64)).toNat) u) (Ae m 1)
else
j30 h
def Mv(a:LB)(b:LU):Nat→UInt32→Int→Bi
|0,_,_=>none
|q+1,h,m=>Zk Ah3 (Mv a b q) a b h m
def Ah8 a b:=Mv a b Am
def Ahv(j28:LB→LU→UInt32→Int→Bi)(f:UInt32)(a:LB)(b:LU):Bi:=
j28 a b f 0
def Ag8:=Ahv Ah8
def Ahr(j27:UInt32→LB→LU→Bi)(f:UInt32)(a:LB)(b:LU):Bi:=
j27 f a b
def Zn:=Ahr Ag8
def Arh(bk16:Int→LU→Bi)(f:UInt32)(a:LB)(g:Int)(o:LU):Bi:=
bk16 (Ae g 1) o
def Ahj bk16:=Arh bk16
def Ajg(j24:Int→LU→Bi)(f:UInt32)(a:LB)(g:Int)(k:UInt32)(b:LU):Bi:=
(getI b g).bind fun _=>
(Iv b g k).bind fun o=>
j24 g o
def Aaw bk16 f a:=Ajg (Ahj bk16 f a) f a
def Yh(j23:Int→UInt32→LU→Bi)(bk21:UInt32→Int→Bi)(f:UInt32)(a:LB)(g:Int)(b:LU)(k:UInt32)(n:Int):Bi:=
if(Bv n 8)then
bk21 (Tn (Bk k (GI.toZ (1:UInt64)).toNat) (Ay 3988292384 (Dd k 1))) (Ae n 1)
else
j23 g k b
def Nd(bk16:Int→LU→Bi)(f:UInt32)(a:LB)(g:Int)(b:LU):Nat→UInt32→Int→Bi
|0,_,_=>none
|q+1,k,n=>Yh (Aaw bk16 f a) (Nd bk16 f a g b q) f a g b k n
def Ail bk16 f a g b:=Nd bk16 f a g b Am
def Aap(j21:Int→LU→UInt32→Int→Bi)(j26:UInt32→LB→LU→Bi)(f:UInt32)(a:LB)(g:Int)(b:LU):Bi:=
if(Bv g 256)then
j21 g b (Ad g:UInt32) 0
else
j26 f a b
def Jt(f:UInt32)(a:LB):Nat→Int→LU→Bi
|0,_,_=>none
|q+1,g,b=>Aap (Ail (Jt f a q) f a) Zn f a g b
def Ajo f a:=Jt f a Am
def Alq(j16:UInt32→LB→Int→LU→Bi)(f:UInt32)(a:LB):Bi:=
if(Ey (Ac a) 100000)then
some (0,4)
else
j16 f a 0 (List.replicate 256 (0:UInt32))
def An5:=Alq Ajo
def Tl(b:LB):Option (UInt32×Int):=
(An5 4294967295 b).bind fun(f,a)=>
if(Bb a 0)then
some (0,a)
else
some ((Bfp f),0)
def Bbz(b:UInt64)(a:Int):Option Bool:=
if(geq a 8)then
some true
else
(Gk (Jr (Ay 8 a) 0)).bind fun _=>
some (geq (Bk b (GI.toZ (Ay 8 a)).toNat) 0)
abbrev Wk:=Option (LB×Int)
def Az0(a:LB):Wk:=
some (a,0)
def Ase:=Az0
def Akq(j6:LB→Wk)(bk4:Int→LB→Wk)(f:UInt64)(g:LB)(b:Int)(a:LB):Wk:=
if(Bv b (Ac g))then
(Gk (Jr (Ay 8 b) 0)).bind fun _=>
(getI a b).bind fun _=>
(Iv a b (Ad (Bk f (GI.toZ (Ay 8 b)).toNat):UInt8)).bind fun k=>
bk4 (Ae b 1) k
else
j6 a
def Xw(f:UInt64)(g:LB):Nat→Int→LB→Wk
|0,_,_=>none
|q+1,b,a=>Akq Ase (Xw f g q) f g b a
def Ash f g:=Xw f g Am
def As5(j4:UInt64→LB→Int→LB→Wk)(f:UInt64)(h:Int):Wk:=
if((Bv h 1)||(Ey h 8))then
some (([]:LB),2)
else
(Bbz f h).bind fun m=>
if(!m)then
some (([]:LB),16)
else
(mkI h (0:UInt8)).bind fun g=>
(Gk (geq h h)).bind fun _=>
j4 f g 0 g
def Vp:=As5 Ash
def Ags(f:LB):Option (LB):=
some f
def Rb:=Ags
def Qv(j16:LB→Option (LB))(bk14:Int→LB→Option (LB))(a:List LB)(g:Int)(f:LB):Option (LB):=
if(Bv g (Ac a))then
(getI a g).bind fun o=>
(Ed f o).bind fun p=>
bk14 (Ae g 1) p
else
j16 f
def Jk(a:List LB):Nat→Int→LB→Option (LB)
|0,_,_=>none
|q+1,g,f=>Qv Rb (Jk a q) a g f
def Qp a:=Jk a Am
def Qf(j14:(List LB)→Int→LB→Option (LB))(a:List LB)(k:LB):Option (LB):=
j14 a 0 k
def Qr:=Qf Qp
def Qs(j13:(List LB)→LB→Option (LB))(b:Int)(a:List LB):Option (LB):=
if(Ey (Ah b (Ah (0:Int) (0:Int))) 0)then
(vwI 0 0 0).bind fun _=>
(mkI (Ah b (Ah (0:Int) (0:Int))) (0:UInt8)).bind fun u=>
(Ed ([]:LB) u).bind fun m=>
(vwI (Ac m) 0 0).bind fun _=>
j13 a (Ala m 0 ((0:Int)-(0:Int)))
else
j13 a ([]:LB)
def Qy:=Qs Qr
def Qa(j12:Int→(List LB)→Option (LB))(a:List LB)(b:Int):Option (LB):=
if(Bv b 0)then
none
else
j12 b a
def Qn:=Qa Qy
def Tc(j11:(List LB)→Int→Option (LB))(bk9:Int→Int→Option (LB))(a:List LB)(b h:Int):Option (LB):=
if(Bv h (Ac a))then
(getI a h).bind fun n=>
if(Bv (Ae b (Ac n)) 0)then
none
else
bk9 (Ae b (Ac n)) (Ae h 1)
else
j11 a b
def Kb(a:List LB):Nat→Int→Int→Option (LB)
|0,_,_=>none
|q+1,b,h=>Tc Qn (Kb a q) a b h
def Rh a:=Kb a Am
def Rt(j9:(List LB)→Int→Int→Option (LB))(a:List LB):Option (LB):=
j9 a 0 0
def Xo:=Rt Rh
abbrev Bc:=Option (LB×Int)
def Avb(u:Int)(p:LB):Bc:=
(Tl p).bind fun(af,ac)=>
if(Bb ac 0)then
some (([]:LB),ac)
else
(Vp (Ad af:UInt64) 4).bind fun(m,h)=>
if(Bb h 0)then
some (([]:LB),h)
else
(Xo ([p,m]:List LB)).bind fun ag=>
some (ag,0)
def Ah1:=Avb
def Awe(bk27:Int→(List (Int×Int×UInt64×UInt64×Unit))→Int→LB→Bc)(a:LU)(b f g:Int)(k:List (Int×Int×UInt64×UInt64×Unit))(n:Int)(v:LB):Bc:=
bk27 (Ae g 1) k n v
def Ajm bk27:=Awe bk27
def Av2(bk44:Int→Int→LB→Bc)(h:Int)(a:LU)(g b f:Int)(k:List (Int×Int×UInt64×UInt64×Unit))(m:LB)(o n:Int)(aa:LB):Bc:=
bk44 (Ae o 1) (Ae n 1) aa
def Aik bk44:=Av2 bk44
def Ahs(j48:Int→Int→LB→Bc)(h:Int)(a:LU)(g b f:Int)(k:List (Int×Int×UInt64×UInt64×Unit))(m:LB)(o n:Int)(y:LB):Bc:=
(getI m (Bj o 8)).bind fun _=>
(getI m (Bj o 8)).bind fun ah=>
(Gk (Jr (Fb o 8) 0)).bind fun _=>
(getI y (Bj n 8)).bind fun _=>
(Gk (Jr (Fb n 8) 0)).bind fun _=>
(getI y (Bj n 8)).bind fun ai=>
(getI y (Bj n 8)).bind fun _=>
Option.bind (Iv y (Bj n 8) (gor ai (Ck (Dd (Bk ah (GI.toZ (Fb o 8)).toNat) 1) (GI.toZ (Fb n 8)).toNat))) fun aa=>
j48 o n aa
def Ahg bk44 h a g b f k m:=Ahs (Aik bk44 h a g b f k m) h a g b f k m
def Ai2(j47:Int→Int→LB→Bc)(j50:Int→(List (Int×Int×UInt64×UInt64×Unit))→Int→LB→Bc)(a:LU)(b f h g:Int)(k:List (Int×Int×UInt64×UInt64×Unit))(m:LB)(o n:Int)(v:LB):Bc:=
if(Bv o h)then
if(geq (Fb n 8) 0)then
(Ed v ([(0:UInt8)]:LB)).bind fun aj=>
j47 o n aj
else
j47 o n v
else
j50 g k n v
def Wc(bk27:Int→(List (Int×Int×UInt64×UInt64×Unit))→Int→LB→Bc)(a:LU)(b f h g:Int)(k:List (Int×Int×UInt64×UInt64×Unit))(m:LB):Nat→Int→Int→LB→Bc
|0,_,_,_=>none
|q+1,o,n,v=>Ai2 (Ahg (Wc bk27 a b f h g k m q) h a g b f k m) (Ajm bk27 a b f) a b f h g k m o n v
def Aiw bk27 a b f h g k m:=Wc bk27 a b f h g k m Am
def Aiu(j44:Int→Int→(List (Int×Int×UInt64×UInt64×Unit))→LB→Int→Int→LB→Bc)(j52:Int→LB→Bc)(a:LU)(b f g:Int)(w:List (Int×Int×UInt64×UInt64×Unit))(u:Int)(p:LB):Bc:=
if(Bv g (Ac a))then
(getI a g).bind fun _=>
(getI a g).bind fun ak=>
(Gk (Bb b 0)).bind fun _=>
(getI w (Fb g b)).bind fun _=>
(getI w (Fb g b)).bind fun ab=>
(Bb8 ([]:LB) 0 ab.1 ab.2.1 ab.2.2.1 ab.2.2.2.1 ak).bind fun(m,h,al,am,an,ao,ad)=>
if(Bb ad 0)then
some (([]:LB),ad)
else
(Gk (Bb b 0)).bind fun _=>
(getI w (Fb g b)).bind fun _=>
(Iv w (Fb g b) (al,am,an,ao,())).bind fun k=>
j44 h g k m 0 u p
else
j52 u p
def Wh(a:LU)(b f:Int):Nat→Int→(List (Int×Int×UInt64×UInt64×Unit))→Int→LB→Bc
|0,_,_,_,_=>none
|q+1,g,w,u,p=>Aiu (Aiw (Wh a b f q) a b f) Ah1 a b f g w u p
def Aht a b f:=Wh a b f Am
def Aj5(j27:LU→Int→Int→Int→(List (Int×Int×UInt64×UInt64×Unit))→Int→LB→Bc)(b f:Int)(ap aq:LX):Bc:=
(Aql b f ap aq).bind fun(a,ae)=>
if(Bb ae 0)then
some (([]:LB),ae)
else
(Aqu).bind fun ar=>
j27 a b f 0 ar 0 ([]:LB)
def Aae:=Aj5 Aht
def Th(a:Int)(b:LX):LI→Int→Option (List LX)
  |[],_=>some []
  |n::l,x=>Option.bind (Bu b x (Ae x (Ay n a))) fun p=>Option.bind (Th a b l (Ae x (Ay n a))) fun ps=>some (p::ps)
def Adf(a f:Int)(t:LX):List LX→List LB→Option (List LB×Int)
  |[],o=>some (o,0)
  |x::xs,o=>Option.bind (Aae a f t x) fun y=>
    if(Bb y.2 0)=true then some ([],y.2)
    else Option.bind (Ed o [y.1]) fun o'=>Adf a f t xs o'
def Aqw(a h:Int)(b:LX):Option (List LX):=
  Option.bind (Gk (Bb a 0)) fun _=>Option.bind (Rv h (Bj (Ac b) a)) fun l=>Option.bind (Gk (decide (Ac l.1≤17179869184))) fun _=>Th a b l.1 0
def Aq7(a f h:Int)(b:LX)(p:LB):Option (List LB×Int):=
  Option.bind (Aco a f h b) fun e=>
    if(Bb e 0)=true then some ([],e)
    else Option.bind (Xc p) fun t=>
      if(Bb t.2 0)=true then some ([],t.2)
      else Option.bind (Aqw a h b) fun xs=>Adf a f t.1 xs []
def Ame(b f a g h:Int):Option Bool:=
some (((((((geq b 1)||(geq b 2))&&(Ey f 0))&&(gle f 6))&&(Ey g 0))&&(gle g 1048576))&&(Ey h 0))
def Tp:=Ame
def Acg(j2:Int→Int→Int→Int→Int→Option Bool)(b f a g h:Int):Option Bool:=
if(geq a 8)then
if(geq a 8)then
j2 b f a g h
else
some false
else
if(geq a 16)then
if(geq a 16)then
j2 b f a g h
else
some false
else
if(geq a 24)then
j2 b f a g h
else
some false
def Vm:=Acg Tp
def Ae6(k a m f b:Int):Option Bool:=
(Gk (Bb a 0)).bind fun _=>
if(Ey b (Bj 4000 a))then
some false
else
(Oy f b).bind fun(g,h)=>
some ((geq h 0)&&(gle g 1000))
def Ze(a b f g h:Int):Option Int:=
(Vm a b f g h).bind fun k=>
if(!k)then
some 8
else
(Ae6 a b f g h).bind fun m=>
if(!m)then
some 8
else
some 0
abbrev Ju:=Option (LB×Int)
def Bbi(a:LB):Ju:=
(Tl a).bind fun(u,aa)=>
(Vp (Ad u:UInt64) 4).bind fun(n,v)=>
(Ed a n).bind fun o=>
some (o,0)
def Aph:=Bbi
def Api(j6:LB→Ju)(bk4:Int→LB→Ju)(b f g h k m:Int)(a:LB):Ju:=
if(Bv m 5)then
(getI ([b,f,g,h,k]:LI) m).bind fun w=>
(getI ([(2:Int),(2:Int),(2:Int),(4:Int),(4:Int)]:LI) m).bind fun y=>
(Vp (Ad w:UInt64) y).bind fun(n,v)=>
(Ed a n).bind fun o=>
bk4 (Ae m 1) o
else
j6 a
def Afq(b f g h k:Int):Nat→Int→LB→Ju
|0,_,_=>none
|q+1,m,a=>Api Aph (Afq b f g h k q) b f g h k m a
def Apa b f g h k:=Afq b f g h k Am
def Apo(j4:Int→Int→Int→Int→Int→Int→LB→Ju)(b f g h k:Int):Ju:=
(Ze b f g h k).bind fun p=>
if(Bb p 0)then
some (([]:LB),p)
else
j4 b f g h k 0 ([(84:UInt8),(84:UInt8),(65:UInt8),(49:UInt8)]:LB)
def Aw2:=Apo Apa
def Ay6(a:LB):Option (UInt64×Int):=
if(Ey (Ac a) 64)then
some (0,2)
else
(Amn a).bind fun(b,f)=>
some (b,0)
def Zd(b:LB):Option (LB×Int):=
(Ay6 b).bind fun(f,a)=>
if(Bb a 0)then
some (([]:LB),a)
else
(Vp f 8).bind fun(g,h)=>
some (g,h)
def Bci:Option Int:=
some 0
def Asl:=Bci
def Zx(j6:Option Int)(bk4:Int→Int→Option Int)(a:LI)(f b:Int):Option Int:=
if(Bv b (Ac a))then
(getI a b).bind fun g=>
if((Bv g 5)||(Ey g f))then
some 8
else
bk4 (Ah f g) (Ae b 1)
else
j6
def Nj(a:LI):Nat→Int→Int→Option Int
|0,_,_=>none
|q+1,f,b=>Zx Asl (Nj a q) a f b
def Ajn a:=Nj a Am
def Aah(j4:LI→Int→Int→Option Int)(a:LI):Option Int:=
if((geq (Ac a) 0)||(Ey (Ac a) 1000))then
some 8
else
j4 a 100000 0
def Ln:=Aah Ajn
abbrev Fk:=Option (LB×Int)
def Bbl(g:LB):Fk:=
some (g,0)
def Aps:=Bbl
def Apj(j14:LB→Fk)(b:LB):Fk:=
(Tl b).bind fun(m,u)=>
(Vp (Ad m:UInt64) 4).bind fun(n,v)=>
(Ed b n).bind fun g=>
j14 g
def Ao4:=Apj Aps
def Bbk(bk8:Int→LB→Fk)(a:LI)(f:Int)(h:LB):Fk:=
bk8 (Ae f 1) h
def Ao5 bk8:=Bbk bk8
def Arq(j11:Int→LB→Fk)(j13:LB→Fk)(a:LI)(f:Int)(b:LB):Fk:=
if(Bv f (Ac a))then
(getI a f).bind fun o=>
(Vp (Ad o:UInt64) 4).bind fun(p,w)=>
(Ed b p).bind fun h=>
j11 f h
else
j13 b
def Ajh(a:LI):Nat→Int→LB→Fk
|0,_,_=>none
|q+1,f,b=>Arq (Ao5 (Ajh a q) a) Ao4 a f b
def Aq9 a:=Ajh a Am
def Asg(j8:LI→Int→LB→Fk)(a:LI):Fk:=
(Ln a).bind fun k=>
if(Bb k 0)then
some (([]:LB),k)
else
j8 a 0 ([]:LB)
def Baa:=Asg Aq9
def Aur(a:LB):Option Int:=
some (Ac a)
def Beu(a:LB):Option (LB):=
some a
def Ar3:=Beu
def Asn(j6:LB→Option (LB))(bk4:Int→LB→Option (LB))(b:List LB)(f:Int)(a:LB):Option (LB):=
if(Bv f (Ac b))then
(getI b f).bind fun g=>
(Ed a g).bind fun h=>
bk4 (Ae f 1) h
else
j6 a
def Ahz(b:List LB):Nat→Int→LB→Option (LB)
|0,_,_=>none
|q+1,f,a=>Asn Ar3 (Ahz b q) b f a
def Arz b:=Ahz b Am
def Asu(j4:(List LB)→Int→LB→Option (LB))(b:List LB):Option (LB):=
j4 b 0 ([]:LB)
def Ba4:=Asu Arz
abbrev Dg:=Option (LB×Int)
def Bbj(k:Int)(a:List LB)(b f n:LB):Dg:=
if(Bb k 0)then
some (([]:LB),k)
else
(Ed ([b,f,n]:List LB) a).bind fun m=>
(Ba4 m).bind fun ad=>
some (ad,0)
def Apn:=Bbj
def Apc(j14:Int→(List LB)→LB→LB→LB→Dg)(h:LI)(a:List LB)(b f:LB):Dg:=
(Baa h).bind fun(n,k)=>
j14 k a b f n
def Apr:=Apc Apn
def Bbf(bk9:Int→LI→Dg)(a:List LB)(b f:LB)(g:Int)(m:LI):Dg:=
bk9 (Ae g 1) m
def Apl bk9:=Bbf bk9
def As9(j11:Int→LI→Dg)(j13:LI→(List LB)→LB→LB→Dg)(a:List LB)(b f:LB)(g:Int)(h:LI):Dg:=
if(Bv g (Ac a))then
(getI a g).bind fun _=>
(getI a g).bind fun ae=>
(Aur ae).bind fun k=>
(getI h g).bind fun _=>
(Iv h g k).bind fun m=>
j11 g m
else
j13 h a b f
def Ah5(a:List LB)(b f:LB):Nat→Int→LI→Dg
|0,_,_=>none
|q+1,g,h=>As9 (Apl (Ah5 a b f q) a b f) Apr a b f g h
def Aqm a b f:=Ah5 a b f Am
def Asm(j9:(List LB)→LB→LB→Int→LI→Dg)(a:List LB)(b f:LB):Dg:=
(mkI (Ac a) (0:Int)).bind fun af=>
(Gk (geq (Ac a) (Ac a))).bind fun _=>
j9 a b f 0 af
def Asw:=Asm Aqm
def Aqk(j8:(List LB)→LB→LB→Dg)(p u v:Int)(w:LX)(o:LB):Dg:=
(Bbe p u v w o).bind fun(y,ag,ah,ai,aj,aa)=>
if(Bb aa 0)then
some (([]:LB),aa)
else
(Aq7 p u v w o).bind fun(a,ab)=>
if(Bb ab 0)then
some (([]:LB),ab)
else
(Aw2 y ag ah ai aj).bind fun(b,ac)=>
if(Bb ac 0)then
some (([]:LB),ac)
else
if(geq y 2)then
(Zd o).bind fun(ak,al)=>
j8 a b ak
else
j8 a b ([]:LB)
def Bav:=Aqk Asw
def Ahd:Option (LB×Bool):=
(Bav 1 8 1 ([(1:Int32),(2:Int32),(3:Int32)]:LX) ([]:LB)).bind fun(a,b)=>
if((Bb b 0)||(Bb (Ac a) 56))then
some (([]:LB),false)
else
(getI a 45).bind fun _=>
(getI a 45).bind fun f=>
(getI a 45).bind fun _=>
(Iv a 45 (Tn f 1)).bind fun g=>
some (g,true)
def Fv(a b:LB):Option Bool:=
some (a==b)
def Iq(b a:LB):Option Bool:=
if(Jr (Ac b) (Ac a))then
(Bu b 0 (Ac a)).bind fun f=>
(Fv f a).bind fun g=>
some g
else
some false
abbrev Ir:=Option (Int×Int)
def Azt(b:Int):Ir:=
some (b,0)
def Am1:=Azt
def Tt(j6:Int→Ir)(bk4:Int→Int→Ir)(a:LB)(b f:Int):Ir:=
if(Bv f (Ac a))then
(getI a f).bind fun g=>
if(Ey g 127)then
some (0,12)
else
bk4 (gor (Ck b (GI.toZ (7:UInt64)).toNat) (Ad g:Int)) (Ae f 1)
else
j6 b
def Jo(a:LB):Nat→Int→Int→Ir
|0,_,_=>none
|q+1,b,f=>Tt Am1 (Jo a q) a b f
def Ac1 a:=Jo a Am
def Acm(j4:LB→Int→Int→Ir)(a:LB):Ir:=
if(Bb (Ac a) 4)then
some (0,2)
else
j4 a 0 0
def Adj:=Acm Ac1
abbrev Gl:=Option (Int×Int)
def Apg(a:LB)(b:UInt8)(h:Int):Gl:=
if(Ey h 4000)then
some (0,4)
else
if(Bv (Ac a) h)then
some (0,24)
else
if(geq b 16)then
(Bu a (Ah h 10) h).bind fun k=>
(Bu k 0 3).bind fun u=>
if(u !=([51,68,73]:LB))then
some (0,12)
else
(Bu k 3 (Ac k)).bind fun v=>
(Bu a 3 10).bind fun w=>
(Fv v w).bind fun y=>
if(!y)then
some (0,12)
else
some (h,0)
else
some (h,0)
def Vs:=Apg
def Afg(j8:LB→UInt8→Int→Gl)(a:LB)(g:Int)(b:UInt8):Gl:=
if(geq b 16)then
j8 a b (Ae (Ae g 10) 10)
else
j8 a b (Ae g 10)
def Vu:=Afg Vs
def Afm(j7:LB→Int→UInt8→Gl)(a:LB)(g:Int)(b:UInt8)(m:Bool):Gl:=
if m then
some (0,12)
else
j7 a g b
def Af0:=Afm Vu
def Afu(j6:LB→Int→UInt8→Bool→Gl)(a:LB)(f b:UInt8):Gl:=
(Bu a 6 10).bind fun aa=>
(Adj aa).bind fun(g,ab)=>
if(Bb ab 0)then
if true then
j6 a g b true
else
if(geq b 0)then
j6 a g b (!((Jr f 2)&&(gle f 4)))
else
if(geq b 16)then
j6 a g b (!(geq f 4))
else
j6 a g b (!false)
else
(getI a 4).bind fun ac=>
if(Bb ac 0)then
j6 a g b true
else
if(geq b 0)then
j6 a g b (!((Jr f 2)&&(gle f 4)))
else
if(geq b 16)then
j6 a g b (!(geq f 4))
else
j6 a g b (!false)
def Afs:=Afu Af0
def Vr(j5:LB→UInt8→UInt8→Gl)(a:LB):Gl:=
(Iq a ([(73:UInt8),(68:UInt8),(51:UInt8)]:LB)).bind fun n=>
if(!n)then
some (0,6)
else
if(Bv (Ac a) 10)then
some (0,24)
else
(getI a 3).bind fun f=>
(getI a 5).bind fun b=>
(
(
(
j5 a f b)))
def Agt:=Vr Afs
abbrev Wb:=Option (UInt64×Int)
def Bk0(b:UInt64):Wb:=
some (b,0)
def Ba8:=Bk0
def Ajw(j6:UInt64→Wb)(bk4:UInt64→Int→Wb)(a:LB)(b:UInt64)(f:Int):Wb:=
if(Bv f (Ac a))then
(getI a f).bind fun g=>
(Gk (Jr (Ay 8 f) 0)).bind fun _=>
bk4 (gor b (Ck (Ad g:UInt64) (GI.toZ (Ay 8 f)).toNat)) (Ae f 1)
else
j6 b
def Xe(a:LB):Nat→UInt64→Int→Wb
|0,_,_=>none
|q+1,b,f=>Ajw Ba8 (Xe a q) a b f
def Asf a:=Xe a Am
def Aqv(j4:LB→UInt64→Int→Wb)(a:LB):Wb:=
if((Bv (Ac a) 1)||(Ey (Ac a) 8))then
some (0,2)
else
j4 a 0 0
def Ar2:=Aqv Asf
def Al0(f:LB)(a b:Int):Option (UInt64×Int):=
if(((Bv b 1)||(Ey b 8))||(Bv a 0))then
some (0,2)
else
if(Ey a (Ah (Ac f) b))then
some (0,24)
else
(Bu f a (Ae a b)).bind fun g=>
(Ar2 g).bind fun(h,k)=>
some (h,k)
def Bco(g:LB):Option (LB):=
some g
def Avh:=Bco
def Aou(j6:LB→Option (LB))(bk4:Int→LB→Option (LB))(a b:Int)(f:UInt64)(h:Int)(g:LB):Option (LB):=
if(Bv h (Ac ([(2000:UInt64),(Ad (Ae a 32):UInt64),(Ad b:UInt64),f,(0:UInt64),(0:UInt64)]:LQ)))then
(getI ([(2000:UInt64),(Ad (Ae a 32):UInt64),(Ad b:UInt64),f,(0:UInt64),(0:UInt64)]:LQ) h).bind fun _=>
(getI ([(2000:UInt64),(Ad (Ae a 32):UInt64),(Ad b:UInt64),f,(0:UInt64),(0:UInt64)]:LQ) h).bind fun k=>
(Vp k 4).bind fun(m,o)=>
(Ed g m).bind fun n=>
bk4 (Ae h 1) n
else
j6 g
def Ws(a b:Int)(f:UInt64):Nat→Int→LB→Option (LB)
|0,_,_=>none
|q+1,h,g=>Aou Avh (Ws a b f q) a b f h g
def Avw a b f:=Ws a b f Am
def Ave(j4:Int→Int→UInt64→Int→LB→Option (LB))(a b:Int)(f:UInt64):Option (LB):=
j4 a b f 0 ([(65:UInt8),(80:UInt8),(69:UInt8),(84:UInt8),(65:UInt8),(71:UInt8),(69:UInt8),(88:UInt8)]:LB)
def Atf:=Ave Avw
def Ag3(b:LB)(g:UInt64):Option (Int×Int×Bool):=
(Al0 b 12 4).bind fun(a,m)=>
(Al0 b 16 4).bind fun(f,n)=>
if(((Bv a 32)||(Ey a 3032))||(Ey f 1000))then
some (0,0,false)
else
(Atf (Ah (Ad a:Int) 32) (Ad f:Int) g).bind fun h=>
(Fv b h).bind fun k=>
some ((Ah (Ad a:Int) 32),(Ad f:Int),k)
def Att(a:LB):Option (Int×Int):=
(Iq a ([(65:UInt8),(80:UInt8),(69:UInt8),(84:UInt8),(65:UInt8),(71:UInt8),(69:UInt8),(88:UInt8)]:LB)).bind fun f=>
if(!f)then
some (0,6)
else
if(Bv (Ac a) 32)then
some (0,24)
else
(Bu a 0 32).bind fun g=>
(Ag3 g 2684354560).bind fun(b,h,k)=>
if(!k)then
some (0,12)
else
if(Bv (Ac a) (Ae b 64))then
some (0,24)
else
(Bu a (Ah (Ae b 64) 32) (Ae b 64)).bind fun m=>
(Atf b h 2147483648).bind fun n=>
(Fv m n).bind fun o=>
if(!o)then
some (0,12)
else
some ((Ae b 64),0)
def Sy(a:LB):Option (Int×Int):=
(Agt a).bind fun(f,b)=>
if(Bb b 6)then
some (f,b)
else
(Att a).bind fun(g,h)=>
some (g,h)
def Oz(b:List UInt8):Nat→Int→Option (Int×Int)
  |0,_=>none
  |q+1,x=>Option.bind (Bu b x (Ac b)) fun s=>Option.bind (Sy s) fun r=>
    if geq r.2 (6:Int)=true then some (x,0)
    else if(geq r.2 (0:Int)&&Ey (Ae x r.1) (4000:Int))=true then some (0,4)
    else if Bb r.2 (0:Int)=true then some (0,r.2)
    else Oz b q (Ae x r.1)
def Rf(b:List UInt8):Option (Int×Int):=Oz b Am 0
def Hr(b a:LB):Option Bool:=
if(Jr (Ac b) (Ac a))then
(Bu b 0 (Ac a)).bind fun f=>
some (f==a)
else
some false
def Qo(a b:LB):Option Bool:=
(Hr a b).bind fun f=>
some f
abbrev Me:=Option (Int×Int×Int×Int×Int×Int)
def Arm(a:LI):Me:=
(getI a 0).bind fun _=>
(getI a 0).bind fun h=>
(getI a 1).bind fun _=>
(getI a 1).bind fun k=>
(getI a 2).bind fun _=>
(getI a 2).bind fun m=>
(getI a 3).bind fun _=>
(getI a 3).bind fun n=>
(getI a 4).bind fun _=>
(getI a 4).bind fun o=>
(Vm h k m n o).bind fun p=>
if(!p)then
some (0,0,0,0,0,12)
else
(Ae6 h k m n o).bind fun u=>
if(!u)then
some (0,0,0,0,0,4)
else
some (h,k,m,n,o,0)
def Aau:=Arm
def Zs(j6:LI→Me)(bk4:Int→Int→LI→Me)(b:LB)(g f:Int)(a:LI):Me:=
if(Bv f 5)then
(getI ([(2:Int),(2:Int),(2:Int),(4:Int),(4:Int)]:LI) f).bind fun h=>
(Al0 b g h).bind fun(v,ae)=>
(getI a f).bind fun _=>
(Iv a f (Ad v:Int)).bind fun w=>
bk4 (Ae g h) (Ae f 1) w
else
j6 a
def Kg(b:LB):Nat→Int→Int→LI→Me
|0,_,_,_=>none
|q+1,g,f,a=>Zs Aau (Kg b q) b g f a
def Zi b:=Kg b Am
def Ahb(j4:LB→Int→Int→LI→Me)(b:LB):Me:=
(Bu b 0 (Dk 4 (Ac b))).bind fun y=>
(Qo ([84,84,65,49]:LB) y).bind fun aa=>
if(!aa)then
some (0,0,0,0,0,12)
else
if(Bv (Ac b) 22)then
some (0,0,0,0,0,24)
else
(Al0 b 18 4).bind fun(ab,af)=>
(Bu b 0 18).bind fun ac=>
(Tl ac).bind fun(ad,ag)=>
if(Bb (Ad ad:UInt64) ab)then
some (0,0,0,0,0,22)
else
j4 b 4 0 (List.replicate 5 (0:Int))
def Ad4:=Ahb Zi
def Tq(a f:LB):Option (Bool×Int):=
(Zd f).bind fun(b,g)=>
if((Bb g 0)||(Bb (Ac a) (Ac b)))then
some (false,2)
else
(Fv a b).bind fun h=>
some (h,0)
def Jn(g h k a b:Int):Option (LI×Int):=
(Ze g h k a b).bind fun f=>
if(Bb f 0)then
some (([]:LI),f)
else
(Rv a b).bind fun(m,n)=>
some (m,n)
abbrev Nz:=Option (LI×Int)
def Au3(a:LI):Nz:=
(Ln a).bind fun k=>
if(Bb k 0)then
some (([]:LI),12)
else
some (a,0)
def Adn:=Au3
def Adi(j6:LI→Nz)(bk4:Int→LI→Nz)(b:LB)(f:LI)(g:Int)(a:LI):Nz:=
if(Bv g (Ac f))then
(Al0 b (Ay 4 g) 4).bind fun(k,u)=>
(getI a g).bind fun _=>
(Iv a g (Ad k:Int)).bind fun m=>
bk4 (Ae g 1) m
else
j6 a
def Pf(b:LB)(f:LI):Nat→Int→LI→Nz
|0,_,_=>none
|q+1,g,a=>Adi Adn (Pf b f q) b f g a
def All b f:=Pf b f Am
def Ak6(j4:LB→LI→Int→LI→Nz)(b:LB)(h:Int):Nz:=
if((Bv h 1)||(Ey h 1000))then
some (([]:LI),2)
else
if(Bv (Ac b) (Ae (Ay 4 h) 4))then
some (([]:LI),24)
else
(Al0 b (Ay 4 h) 4).bind fun(n,v)=>
(Bu b 0 (Ay 4 h)).bind fun o=>
(Tl o).bind fun(p,w)=>
if(Bb (Ad p:UInt64) n)then
some (([]:LI),22)
else
(mkI h (0:Int)).bind fun f=>
(Gk (geq h h)).bind fun _=>
j4 b f 0 f
def Ahn:=Ak6 All
abbrev Alm:=Option (Int×Int×Int×Int×Int×Int×LI×Int)
def Ar7(a:LB)(b f g h k n:Int):Alm:=
(Jn b f g h k).bind fun(ab,p)=>
if(Bb p 0)then
some (0,0,0,0,0,0,([]:LI),p)
else
(Bu a n (Ac a)).bind fun ac=>
(Ahn ac (Ac ab)).bind fun(u,v)=>
if(Bb v 0)then
some (0,0,0,0,0,0,([]:LI),v)
else
some (b,f,g,h,k,(Ae (Ae n (Ay 4 (Ac u))) 4),u,0)
def Mt:=Ar7
def Rm(j2:LB→Int→Int→Int→Int→Int→Int→Alm)(a o:LB):Alm:=
if(Ey (Ac o) 64)then
some (0,0,0,0,0,0,([]:LI),2)
else
if(Ey (Ac a) 100000)then
some (0,0,0,0,0,0,([]:LI),4)
else
(Rf a).bind fun(m,w)=>
if(Bb w 0)then
some (0,0,0,0,0,0,([]:LI),w)
else
(Bu a m (Ac a)).bind fun ad=>
(Ad4 ad).bind fun(b,f,g,h,k,y)=>
if(Bb y 0)then
some (0,0,0,0,0,0,([]:LI),y)
else
if((o==([]:LB)) !=(geq b 1))then
some (0,0,0,0,0,0,([]:LI),26)
else
if(o !=([]:LB))then
if(Bv (Ac a) (Ae (Ae m 22) 8))then
some (0,0,0,0,0,0,([]:LI),24)
else
(Bu a (Ae m 22) (Ae (Ae m 22) 8)).bind fun ae=>
(Tq ae o).bind fun(af,aa)=>
if(Bb aa 0)then
some (0,0,0,0,0,0,([]:LI),aa)
else
if(!af)then
some (0,0,0,0,0,0,([]:LI),26)
else
j2 a b f g h k (Ae (Ae m 22) 8)
else
j2 a b f g h k (Ae m 22)
def seekto_Open:=Rm Mt
abbrev Fp:=Option (LI×Int)
def Ayb(f:LI):Fp:=
some (f,0)
def Ajy:=Ayb
def Al9(bk6:Int→Int→LI→Fp)(a:LI)(b g h:Int)(k:LI):Fp:=
bk6 (Ae b 1) (Ae g h) k
def Ac2 bk6:=Al9 bk6
def To(j8:Int→Int→Int→LI→Fp)(j10:LI→Fp)(a:LI)(b g:Int)(f:LI):Fp:=
if(Bv b (Ac a))then
(getI a b).bind fun h=>
(Ed f ([(Ae g h)]:LI)).bind fun k=>
j8 b g h k
else
j10 f
def Jp(a:LI):Nat→Int→Int→LI→Fp
|0,_,_,_=>none
|q+1,b,g,f=>To (Ac2 (Jp a q) a) Ajy a b g f
def Al8 a:=Jp a Am
def Ace(j6:LI→Int→Int→LI→Fp)(a:LI):Fp:=
(Ln a).bind fun m=>
if(Bb m 0)then
some (([]:LI),m)
else
j6 a 0 0 ([(0:Int)]:LI)
def Adb:=Ace Al8
def Aa3(a:LB):Option (LB×Int):=
if(Bv (Ac a) 5)then
some (([]:LB),24)
else
if(Ey (Ac a) 41254)then
some (([]:LB),4)
else
(Bu a 0 (Ah (Ac a) 4)).bind fun f=>
(Tl f).bind fun(g,b)=>
if(Bb b 0)then
some (([]:LB),b)
else
(Bu a (Ah (Ac a) 4) (Ac a)).bind fun h=>
(Ar2 h).bind fun(k,m)=>
if((Bb m 0)||(Bb k (Ad g:UInt64)))then
some (([]:LB),22)
else
(Bu a 0 (Ah (Ac a) 4)).bind fun n=>
some (n,0)
def Bja(a:LB):Option (LB×Int×Int):=
if(Ey (Ac a) 41250)then
some (([]:LB),0,4)
else
(Eu a).bind fun b=>
some (b,(Ay 8 (Ac a)),0)
def Blt(g:UInt64):Option UInt64:=
some g
def Baf:=Blt
def Asx(j6:UInt64→Option UInt64)(bk4:UInt64→Int→Option UInt64)(b f:Int)(h:LB)(k:Int)(g:UInt64)(a:Int):Option UInt64:=
if(Bv a f)then
(getI h (Bjj (Ae b a) (GI.toZ (3:UInt64)).toNat)).bind fun m=>
(Gk (Jr (Dd (Ae b a) 7) 0)).bind fun _=>
(Gk (Jr (Dk (Ah f a) (Ah 8 (Dd (Ae b a) 7))) 0)).bind fun _=>
(Gk (Jr a 0)).bind fun _=>
bk4 (gor g (Ck (Ad (Dd (Bk m (GI.toZ (Dd (Ae b a) 7)).toNat) (Ah (Ck (1:UInt8) (GI.toZ (Dk (Ah f a) (Ah 8 (Dd (Ae b a) 7)))).toNat) 1)):UInt64) (GI.toZ a).toNat)) (Ae a (Dk (Ah f a) (Ah 8 (Dd (Ae b a) 7))))
else
j6 g
def Afd(b f:Int)(h:LB)(k:Int):Nat→UInt64→Int→Option UInt64
|0,_,_=>none
|q+1,g,a=>Asx Baf (Afd b f h k q) b f h k g a
def Baq b f h k:=Afd b f h k Am
def Ba5(j4:Int→Int→LB→Int→UInt64→Int→Option UInt64)(h:LB)(k b f:Int):Option UInt64:=
j4 b f h k 0 0
def Ax7:=Ba5 Baq
abbrev Dp:=Option (LB×Int×Int)
def Awo(o:Int)(p:LB):Dp:=
some (p,o,0)
def Aof:=Awo
def Ax0(bk27:Int→Int→LB→Dp)(a:Int)(g:LB)(f b h:Int)(u:LB):Dp:=
bk27 (Ae b 64) h u
def Agm bk27:=Ax0 bk27
def Awl(bk44:UInt64→Int→Int→LB→Dp)(a b:Int)(g:LB)(f:Int)(k n:UInt64)(m h:Int)(w:LB):Dp:=
(Gk (Jr (Dk m (Ah 8 (Dd h 7))) 0)).bind fun _=>
bk44 (Bk n (GI.toZ (Dk m (Ah 8 (Dd h 7)))).toNat) (Ah m (Dk m (Ah 8 (Dd h 7)))) (Ae h (Dk m (Ah 8 (Dd h 7)))) w
def Anh bk44:=Awl bk44
def Aor(j48:UInt64→Int→Int→LB→Dp)(a b:Int)(g:LB)(f:Int)(k n:UInt64)(m h:Int)(v:LB):Dp:=
(getI v (Ah (Ac v) 1)).bind fun _=>
(Gk (Jr (Dk m (Ah 8 (Dd h 7))) 0)).bind fun _=>
(Gk (Jr (Dd h 7) 0)).bind fun _=>
(getI v (Ah (Ac v) 1)).bind fun aa=>
(getI v (Ah (Ac v) 1)).bind fun _=>
Option.bind (Iv v (Ah (Ac v) 1) (gor aa (Ck (Ad (Dd n (Ah (Ck (1:UInt64) (GI.toZ (Dk m (Ah 8 (Dd h 7)))).toNat) 1)):UInt8) (GI.toZ (Dd h 7)).toNat))) fun w=>
j48 n m h w
def Agi bk44 a b g f k:=Aor (Anh bk44 a b g f k) a b g f k
def Agp(j47:UInt64→Int→Int→LB→Dp)(j50:Int→Int→LB→Dp)(a:Int)(g:LB)(f b:Int)(k n:UInt64)(m h:Int)(u:LB):Dp:=
if(Ey m 0)then
if(geq (Dd h 7) 0)then
(Ed u ([(0:UInt8)]:LB)).bind fun ab=>
j47 n m h ab
else
j47 n m h u
else
j50 b h u
def Lo(bk27:Int→Int→LB→Dp)(a:Int)(g:LB)(f b:Int)(k:UInt64):Nat→UInt64→Int→Int→LB→Dp
|0,_,_,_,_=>none
|q+1,n,m,h,u=>Agp (Agi (Lo bk27 a g f b k q) a b g f k) (Agm bk27 a g f) a g f b k n m h u
def Ao2 bk27 a g f b k:=Lo bk27 a g f b k Am
def Anf(j44:Int→UInt64→UInt64→Int→Int→LB→Dp)(j52:Int→LB→Dp)(a:Int)(g:LB)(f b o:Int)(p:LB):Dp:=
if(Bv b a)then
(Ax7 g f b (Dk 64 (Ah a b))).bind fun k=>
j44 b k k (Dk 64 (Ah a b)) o p
else
j52 o p
def Tm(a:Int)(g:LB)(f:Int):Nat→Int→Int→LB→Dp
|0,_,_,_=>none
|q+1,b,o,p=>Anf (Ao2 (Tm a g f q) a g f) Aof a g f b o p
def Aoj a g f:=Tm a g f Am
def Aqp(j27:Int→LB→Int→Int→Int→LB→Dp)(g:LB)(f y a:Int):Dp:=
(Ht g f).bind fun ac=>
if(Bb ac 0)then
some (([]:LB),0,8)
else
if(((Bv y 0)||(Ey y a))||(Ey a f))then
some (([]:LB),0,2)
else
j27 a g f y 0 ([]:LB)
def Asb:=Aqp Aoj
def Za(g:LB)(b f a:Int):Option (UInt64×Int):=
(Ht g b).bind fun h=>
if(Bb h 0)then
some (0,8)
else
if(((Bv a 0)||(Ey a 64))||(Bv f 0))then
some (0,2)
else
if(Ey f (Ah b a))then
some (0,24)
else
(Ax7 g b f a).bind fun k=>
some (k,0)
def Ew(a:UInt64):Option Int:=
if(geq a 0)then
some 64
else
(getI ([(0:UInt8),(1:UInt8),(56:UInt8),(2:UInt8),(57:UInt8),(49:UInt8),(28:UInt8),(3:UInt8),(61:UInt8),(58:UInt8),(42:UInt8),(50:UInt8),(38:UInt8),(29:UInt8),(17:UInt8),(4:UInt8),(62:UInt8),(47:UInt8),(59:UInt8),(36:UInt8),(45:UInt8),(43:UInt8),(51:UInt8),(22:UInt8),(53:UInt8),(39:UInt8),(33:UInt8),(30:UInt8),(24:UInt8),(18:UInt8),(12:UInt8),(5:UInt8),(63:UInt8),(55:UInt8),(48:UInt8),(27:UInt8),(60:UInt8),(41:UInt8),(37:UInt8),(16:UInt8),(46:UInt8),(35:UInt8),(44:UInt8),(21:UInt8),(52:UInt8),(32:UInt8),(23:UInt8),(11:UInt8),(54:UInt8),(26:UInt8),(40:UInt8),(15:UInt8),(34:UInt8),(20:UInt8),(31:UInt8),(10:UInt8),(25:UInt8),(14:UInt8),(19:UInt8),(9:UInt8),(13:UInt8),(8:UInt8),(7:UInt8),(6:UInt8)]:LB) (GI.toZ (Bk (Ay (Dd a (Ax3 a)) 285870213051353865) (GI.toZ (58:UInt64)).toNat))).bind fun b=>
some (Ad b:Int)
abbrev Gn:=Option (Int×Int×Int)
def Bfd:Gn:=
some (0,0,24)
def Ari:=Bfd
def Auc(j10:Gn):Gn:=
j10
def Aug:=Auc Ari
def Akt(j9:Gn)(f a:Int):Gn:=
if(geq f 48)then
some (f,(Ae 0 (Ae a f)),0)
else
j9
def Akz:=Akt Aug
def Ald(j8:Int→Int→Gn)(f b a:Int):Gn:=
if(Bv f (Dk 48 (Ah b a)))then
some (f,(Ae (Ae (0:Int) (1:Int)) (Ae a f)),0)
else
j8 f a
def Als:=Ald Akz
def Aky(j7:Int→Int→Int→Gn)(h:Int)(k:UInt64)(a:Int)(g:LB)(b:Int):Gn:=
if(Bb h 0)then
some (0,0,h)
else
(Ew (Bfp k)).bind fun f=>
j7 f b a
def Ak1:=Aky Als
def Vh(j6:Int→UInt64→Int→LB→Int→Gn)(g:LB)(b a:Int):Gn:=
(Ht g b).bind fun m=>
if(Bb m 0)then
some (0,0,m)
else
if(Bv a 0)then
some (0,0,2)
else
if(Jr a b)then
some (0,0,24)
else
(
(
(Za g b a (Dk 48 (Ah b a))).bind fun(k,h)=>
j6 h k a g b))
def Acp:=Vh Ak1
abbrev Asq:=Option (UInt32×Int×Int)
def Aop(a b f:Int)(g:LB)(h k:Int):Asq:=
(Za g h b k).bind fun(m,n)=>
if(Bb n 0)then
some (0,0,n)
else
if(Bv f 48)then
(Gk (Jr a 0)).bind fun _=>
some ((gor (Ck (Ad f:UInt32) (GI.toZ a).toNat) (Ad m:UInt32)),(Ae b k),0)
else
(Agw (Ad m:UInt32) a).bind fun u=>
if(!u)then
some (0,0,12)
else
some ((Ad m:UInt32),(Ae b k),0)
def Agq:=Aop
def Aoy(j2:Int→Int→Int→LB→Int→Int→Asq)(g:LB)(h v a:Int):Asq:=
(Ht g h).bind fun o=>
if(Bb o 0)then
some (0,0,o)
else
if((Bv a 0)||(Ey a 24))then
some (0,0,2)
else
(Acp g h v).bind fun(f,b,p)=>
if(Bb p 0)then
some (0,0,p)
else
if(geq f 48)then
j2 a b f g h 32
else
j2 a b f g h a
def Atv:=Aoy Agq
abbrev Ih:=Option (UInt32×Int×Int×Int×UInt64×UInt64×Int)
def Au0(f:UInt32)(k w m:Int)(a n:UInt64):Ih:=
some (f,k,w,m,(Ae a (Ah (Ad f:UInt64) (Bk a (GI.toZ (4:UInt64)).toNat))),n,0)
def Akx:=Au0
def An0(j10:UInt32→Int→Int→Int→UInt64→UInt64→Ih)(f:UInt32)(k m:Int)(a n:UInt64)(w:Int):Ih:=
j10 f k w m a n
def Anu:=An0 Akx
def Aow(j9:UInt32→Int→Int→UInt64→UInt64→Int→Ih)(f:UInt32)(k b:Int)(a:UInt64)(m:Int)(n:UInt64):Ih:=
if(Ey b 0)then
(Gk (Jr b 0)).bind fun _=>
if(Bv (Ae a (Ah (Ad f:UInt64) (Bk a (GI.toZ (4:UInt64)).toNat))) (Ck (16:UInt64) (GI.toZ b).toNat))then
j9 f k m a n (Ah b 1)
else
if(Bv b 24)then
(Gk (Jr b 0)).bind fun _=>
if(Ey (Ae a (Ah (Ad f:UInt64) (Bk a (GI.toZ (4:UInt64)).toNat))) (Ck (32:UInt64) (GI.toZ b).toNat))then
j9 f k m a n (Ae b 1)
else
j9 f k m a n b
else
j9 f k m a n b
else
if(Bv b 24)then
(Gk (Jr b 0)).bind fun _=>
if(Ey (Ae a (Ah (Ad f:UInt64) (Bk a (GI.toZ (4:UInt64)).toNat))) (Ck (32:UInt64) (GI.toZ b).toNat))then
j9 f k m a n (Ae b 1)
else
j9 f k m a n b
else
j9 f k m a n b
def Zf:=Aow Anu
def Ani(j8:UInt32→Int→Int→UInt64→Int→UInt64→Ih)(b h:Int)(a g:UInt64)(f:UInt32)(k:Int):Ih:=
(Acx b h a g f).bind fun(ad,o)=>
if(geq ad 1)then
if(Ey h 0)then
(Gk (Jr h 0)).bind fun _=>
if(Bv (Ae g (Ah (Ad o:UInt64) (Bk g (GI.toZ (4:UInt64)).toNat))) (Ck (16:UInt64) (GI.toZ h).toNat))then
j8 f k b a (Ah h 1) (Ae g (Ah (Ad o:UInt64) (Bk g (GI.toZ (4:UInt64)).toNat)))
else
if(Bv h 24)then
(Gk (Jr h 0)).bind fun _=>
if(Ey (Ae g (Ah (Ad o:UInt64) (Bk g (GI.toZ (4:UInt64)).toNat))) (Ck (32:UInt64) (GI.toZ h).toNat))then
j8 f k b a (Ae h 1) (Ae g (Ah (Ad o:UInt64) (Bk g (GI.toZ (4:UInt64)).toNat)))
else
j8 f k b a h (Ae g (Ah (Ad o:UInt64) (Bk g (GI.toZ (4:UInt64)).toNat)))
else
j8 f k b a h (Ae g (Ah (Ad o:UInt64) (Bk g (GI.toZ (4:UInt64)).toNat)))
else
if(Bv h 24)then
(Gk (Jr h 0)).bind fun _=>
if(Ey (Ae g (Ah (Ad o:UInt64) (Bk g (GI.toZ (4:UInt64)).toNat))) (Ck (32:UInt64) (GI.toZ h).toNat))then
j8 f k b a (Ae h 1) (Ae g (Ah (Ad o:UInt64) (Bk g (GI.toZ (4:UInt64)).toNat)))
else
j8 f k b a h (Ae g (Ah (Ad o:UInt64) (Bk g (GI.toZ (4:UInt64)).toNat)))
else
j8 f k b a h (Ae g (Ah (Ad o:UInt64) (Bk g (GI.toZ (4:UInt64)).toNat)))
else
j8 f k b a h g
def Agr:=Ani Zf
def An7(j7:Int→Int→UInt64→UInt64→UInt32→Int→Ih)(p:Int)(u:LB)(v b h:Int)(a g:UInt64):Ih:=
(Za u v p 1).bind fun(ae,aa)=>
if(Bb aa 0)then
some (0,0,0,0,0,0,aa)
else
if(geq ae 0)then
(Za u v (Ae p 1) b).bind fun(af,ab)=>
if(Bb ab 0)then
some (0,0,0,0,0,0,ab)
else
j7 b h a g (Ad af:UInt32) (Ae (Ae p 1) b)
else
(Atv u v (Ae p 1) h).bind fun(y,ag,ac)=>
if(Bb ac 0)then
some (0,0,0,0,0,0,ac)
else
(Gk (Jr b 0)).bind fun _=>
if(Bv (Ae y (Ck (1:UInt32) (GI.toZ b).toNat)) y)then
some (0,0,0,0,0,0,12)
else
j7 b h a g (Ae y (Ck (1:UInt32) (GI.toZ b).toNat)) ag
def Aom:=An7 Agr
def Ann(j6:Int→LB→Int→Int→Int→UInt64→UInt64→Ih)(u:LB)(v p b h:Int)(a g:UInt64):Ih:=
(Ht u v).bind fun ah=>
if(Bb ah 0)then
some (0,0,0,0,0,0,8)
else
(Ah0 b h a g).bind fun ai=>
if(Bb ai 0)then
some (0,0,0,0,0,0,8)
else
j6 p u v b h a g
def Acr:=Ann Aom
abbrev Bg:=Option (LU×Int×Int)
def Avt(k:Int)(m:LU):Bg:=
some (m,k,0)
def Ais:=Avt
def Aij(bk16:Int→Int→(List (Int×Int×UInt64×UInt64×Unit))→LU→Bg)(a f:Int)(g:LB)(b k v:Int)(w:UInt32)(h:Int)(ag:List (Int×Int×UInt64×UInt64×Unit))(m:LU):Bg:=
(Ed m ([w]:LU)).bind fun ak=>
bk16 (Ae k v) (Ae h 1) ag ak
def Wo bk16:=Aij bk16
def Nr(j22:Int→Int→UInt32→Int→(List (Int×Int×UInt64×UInt64×Unit))→LU→Bg)(a f:Int)(g:LB)(b k h y:Int)(w:UInt32)(v:Int)(n:List (Int×Int×UInt64×UInt64×Unit))(m:LU)(aa ab:Int)(ac ad:UInt64):Bg:=
if(Bb y 0)then
some (([]:LU),0,y)
else
(Gk (Bb a 0)).bind fun _=>
(getI n (Fb h a)).bind fun _=>
(Iv n (Fb h a) (aa,ab,ac,ad,())).bind fun ag=>
j22 k v w h ag m
def Ns bk16 a f g b:=Nr (Wo bk16 a f g b) a f g b
def Oe(j21:Int→Int→Int→UInt32→Int→(List (Int×Int×UInt64×UInt64×Unit))→LU→Int→Int→UInt64→UInt64→Bg)(j24:Int→LU→Bg)(a f:Int)(g:LB)(b k h:Int)(n:List (Int×Int×UInt64×UInt64×Unit))(m:LU):Bg:=
if(Bv h (Ay f a))then
(Asb g b k (Dk (Ae k 81) b)).bind fun(ah,ae,af)=>
if(Bb af 0)then
some (([]:LU),0,af)
else
(Gk (Bb a 0)).bind fun _=>
(getI n (Fb h a)).bind fun _=>
(
(
(getI n (Fb h a)).bind fun p=>
(
(Acr ah ae 0 p.1 p.2.1 p.2.2.1 p.2.2.2.1).bind fun(w,v,aa,ab,ac,ad,y)=>
j21 k h y w v n m aa ab ac ad)))
else
j24 k m
def Kh(a f:Int)(g:LB)(b:Int):Nat→Int→Int→(List (Int×Int×UInt64×UInt64×Unit))→LU→Bg
|0,_,_,_,_=>none
|q+1,k,h,n,m=>Oe (Ns (Kh a f g b q) a f g b) Ais a f g b k h n m
def Ah7 a f g b:=Kh a f g b Am
def Ah2(j16:Int→Int→LB→Int→Int→Int→(List (Int×Int×UInt64×UInt64×Unit))→LU→Bg)(a f:Int)(g:LB)(b:Int)(o:List (Int×Int×UInt64×UInt64×Unit)):Bg:=
j16 a f g b 0 0 o ([]:LU)
def Wq:=Ah2 Ah7
def Aiy(j15:Int→Int→LB→Int→(List (Int×Int×UInt64×UInt64×Unit))→Bg)(bk13:Int→(List (Int×Int×UInt64×UInt64×Unit))→Bg)(a f:Int)(g:LB)(b u:Int)(o:List (Int×Int×UInt64×UInt64×Unit)):Bg:=
if(Bv u 6)then
(Avi).bind fun(al,ae,af,am)=>
(getI o u).bind fun _=>
(Iv o u (al,ae,af,am,())).bind fun an=>
bk13 (Ae u 1) an
else
j15 a f g b o
def Wd(a f:Int)(g:LB)(b:Int):Nat→Int→(List (Int×Int×UInt64×UInt64×Unit))→Bg
|0,_,_=>none
|q+1,u,o=>Aiy Wq (Wd a f g b q) a f g b u o
def Oh a f g b:=Wd a f g b Am
def Aaa(j13:Int→Int→LB→Int→Int→(List (Int×Int×UInt64×UInt64×Unit))→Bg)(a f:Int)(g:LB)(b:Int):Bg:=
j13 a f g b 0 (List.replicate 6 ((0:Int),(0:Int),(0:UInt64),(0:UInt64),()))
def Aas:=Aaa Oh
def Tj(a:UInt32):Option Int32:=
some (Tn (Ad (Bk a (GI.toZ (1:UInt64)).toNat):Int32) (Ax3 (Ad (Dd a 1):Int32)))
def Aq1(b:Int)(f g:LX)(a:Int32):Option (Int32×Int×LX×LX×Int):=
(Ah6 b f g).bind fun(h,k)=>
if(Bb k 0)then
some (0,0,(List.replicate 16 (0:Int32)),(List.replicate 16 (0:Int32)),k)
else
(Aos b f g (Ae a h) a).bind fun(m,n,o)=>
some ((Ae a h),m,n,o,0)
def Is(a:Int)(b:Int32)(f:Int)(g h:LX)(o:Int32):Option (Int32×Int×Int32×Int×LX×LX×Int):=
(Sk a b f g h).bind fun k=>
if(Bb k 0)then
some (0,0,0,0,(List.replicate 16 (0:Int32)),(List.replicate 16 (0:Int32)),k)
else
(Rl a b).bind fun(m,y)=>
(Aq1 f g h o).bind fun(n,p,u,v,w)=>
(
some ((Ae n m),a,(Ae n m),p,u,v,w))
abbrev Ez:=Option (LX×Int)
def Bih(f:LX):Ez:=
some (f,0)
def Axn:=Bih
def Ayf(bk12:Int→LX→Ez)(b a:Int)(h:LX):Ez:=
bk12 (Ae a b) h
def Am7 bk12:=Ayf bk12
def Ago(j20:Int→LX→Ez)(bk18:Int→LX→Ez)(b a g:Int)(h:LX):Ez:=
if(Jr g 0)then
(Gk (decide (0≤(Ae g 1)∧(Ae g 1)<((Ae a b)-a)))).bind fun _=>
(Gk (decide (0≤g∧g<((Ae a b)-a)))).bind fun _=>
(getI h (a+(Ae g 1))).bind fun o=>
(getI h (a+g)).bind fun p=>
(Gk (decide (0≤g∧g<((Ae a b)-a)))).bind fun _=>
(Iv h (a+g) (Ah o p)).bind fun u=>
bk18 (Ah g 1) u
else
j20 a h
def Ts(bk12:Int→LX→Ez)(b a:Int):Nat→Int→LX→Ez
|0,_,_=>none
|q+1,g,h=>Ago (Am7 bk12 b) (Ts bk12 b a q) b a g h
def Aod bk12 b a:=Ts bk12 b a Am
def Aol(j18:Int→Int→LX→Ez)(b a:Int)(k:LX):Ez:=
j18 a (Ah (Ah ((Ae a b)-a) 1) 1) k
def Agk bk12 b:=Aol (Aod bk12 b) b
def Aoc(j17:Int→LX→Ez)(j22:LX→Ez)(b a:Int)(f:LX):Ez:=
if(Bv a (Ac f))then
(vwI (Ac f) a (Ae a b)).bind fun _=>
if(Ey (Ah ((Ae a b)-a) 1) 0)then
(Gk (decide (0≤(Ah ((Ae a b)-a) 1)∧(Ah ((Ae a b)-a) 1)<((Ae a b)-a)))).bind fun _=>
Option.bind (Gk (decide (0≤(Ah (Ah ((Ae a b)-a) 1) 1)∧(Ah (Ah ((Ae a b)-a) 1) 1)<((Ae a b)-a)))) fun _=>
(getI f (a+(Ah ((Ae a b)-a) 1))).bind fun v=>
(getI f (a+(Ah (Ah ((Ae a b)-a) 1) 1))).bind fun w=>
(Gk (decide (0≤(Ah ((Ae a b)-a) 1)∧(Ah ((Ae a b)-a) 1)<((Ae a b)-a)))).bind fun _=>
(Iv f (a+(Ah ((Ae a b)-a) 1)) (Ae v (Bj w 2))).bind fun y=>
j17 a y
else
j17 a f
else
j22 f
def Om(b:Int):Nat→Int→LX→Ez
|0,_,_=>none
|q+1,a,f=>Aoc (Agk (Om b q) b) Axn b a f
def Anx b:=Om b Am
def As1(j12:Int→Int→LX→Ez)(b:Int)(m:LX):Ez:=
(Ami b m).bind fun n=>
if(Bb n 0)then
some (([]:LX),n)
else
(Di m).bind fun aa=>
j12 b 0 aa
def Aw7:=As1 Anx
abbrev Bl:=Option (LX×Int)
def Agf(a b:Int)(k:LX):Bl:=
(Aw7 a k).bind fun(ah,af)=>
if(Bb af 0)then
some (([]:LX),af)
else
(Ta b ah).bind fun ae=>
if(Bb ae 0)then
some (([]:LX),ae)
else
some (ah,0)
def Iz:=Agf
def Agd(bk13:Int→(List (Int×Int32×(Int×LX×LX×Unit)×Unit))→LX→Bl)(a:Int)(f:LU)(b g:Int)(w:Int32)(u:Int)(h:List (Int×Int32×(Int×LX×LX×Unit)×Unit))(k:LX)(y:Int)(v:Int32)(aa:Int)(ab ac:LX):Bl:=
if(Bb u 0)then
some (([]:LX),u)
else
(Iv h (Fb g a) (y,v,(aa,ab,ac,()),())).bind fun ai=>
(Ed k ([w]:LX)).bind fun aj=>
bk13 (Ae g 1) ai aj
def Uc bk13:=Agd bk13
def Iy(j16:Int→Int32→Int→(List (Int×Int32×(Int×LX×LX×Unit)×Unit))→LX→Int→Int32→Int→LX→LX→Bl)(j18:Int→Int→LX→Bl)(f:LU)(a b g:Int)(h:List (Int×Int32×(Int×LX×LX×Unit)×Unit))(k:LX):Bl:=
if(Bv g (Ac f))then
(getI f g).bind fun ag=>
(Gk (Bb a 0)).bind fun _=>
(getI h (Fb g a)).bind fun _=>
(
(getI h (Fb g a)).bind fun m=>
(
(Tj ag).bind fun ae=>
(
(Is m.1 m.2.1 m.2.2.1.1 m.2.2.1.2.1 m.2.2.1.2.2.1 ae).bind fun(w,y,v,aa,ab,ac,u)=>
j16 g w u h k y v aa ab ac)))
else
j18 a b k
def Gs(f:LU)(a b:Int):Nat→Int→(List (Int×Int32×(Int×LX×LX×Unit)×Unit))→LX→Bl
|0,_,_,_=>none
|q+1,g,h,k=>Iy (Uc (Gs f a b q) a f b) Iz f a b g h k
def Agb f a b:=Gs f a b Am
def Af6(j13:LU→Int→Int→Int→(List (Int×Int32×(Int×LX×LX×Unit)×Unit))→LX→Bl)(f:LU)(a b:Int)(n:List (Int×Int32×(Int×LX×LX×Unit)×Unit)):Bl:=
j13 f a b 0 n ([]:LX)
def Up:=Af6 Agb
def Aga(j12:LU→Int→Int→(List (Int×Int32×(Int×LX×LX×Unit)×Unit))→Bl)(bk10:Int→(List (Int×Int32×(Int×LX×LX×Unit)×Unit))→Bl)(f:LU)(a b:Int)(o:LX)(p:Int)(n:List (Int×Int32×(Int×LX×LX×Unit)×Unit)):Bl:=
if(Bv p 6)then
(Azu b o).bind fun(ak,af,ae,al,am,v)=>
(getI n p).bind fun _=>
(Iv n p (ak,af,(ae,al,am,()),())).bind fun an=>
bk10 (Ae p 1) an
else
j12 f a b n
def Ue(f:LU)(a b:Int)(o:LX):Nat→Int→(List (Int×Int32×(Int×LX×LX×Unit)×Unit))→Bl
|0,_,_=>none
|q+1,p,n=>Aga Up (Ue f a b o q) f a b o p n
def Mj f a b o:=Ue f a b o Am
def Wt(j10:LU→Int→Int→LX→Int→(List (Int×Int32×(Int×LX×LX×Unit)×Unit))→Bl)(a b:Int)(o:LX)(f:LU):Bl:=
j10 f a b o 0 (List.replicate 6 ((0:Int),(0:Int32),((0:Int),(List.replicate 16 (0:Int32)),(List.replicate 16 (0:Int32)),()),()))
def Ou:=Wt Mj
def deframe_Decode(a h:Int)(u:LX)(f:Int)(v:LB):Option (LX×Int):=
(Hw a h).bind fun k=>
if(Bb k 0)then
some (([]:LX),k)
else
if(Bv f 1)then
some (([]:LX),2)
else
(Gk (Bb a 0)).bind fun _=>
if(Ey f (Bj 4000 a))then
some (([]:LX),2)
else
(Aa3 v).bind fun(w,m)=>
if(Bb m 0)then
some (([]:LX),m)
else
(Bja w).bind fun(n,b,o)=>
if(Bb o 0)then
some (([]:LX),o)
else
(Aas a f n b).bind fun(y,g,p)=>
if(Bb p 0)then
some (([]:LX),p)
else
if(Jr (Ah b g) 8)then
some (([]:LX),12)
else
(Za n b g (Ah b g)).bind fun(aa,ab)=>
if((Bb ab 0)||(Bb aa 0))then
some (([]:LX),12)
else
(Ou a h u y).bind fun(ac,ad)=>
some (ac,ad)
abbrev Cg:=Option (LB×Int)
def Bbh(g:LB):Cg:=
some (g,0)
def Ao6:=Bbh
def Ao7(bk16:Int→LB→Cg)(b:Int)(a:LX)(f:Int)(h:LB):Cg:=
bk16 (Ae f 1) h
def Afv bk16:=Ao7 bk16
def Vx(j28:Int→LB→Cg)(bk26:Int→LB→Cg)(b:Int)(a:LX)(k:Int32)(f m:Int)(h:LB):Cg:=
if(Bv m (Bj b 8))then
(Gk (Jr (Ay 8 m) 0)).bind fun _=>
(Ed h ([(Ad (Bk k (GI.toZ (Ay 8 m)).toNat):UInt8)]:LB)).bind fun p=>
bk26 (Ae m 1) p
else
j28 f h
def Gv(bk16:Int→LB→Cg)(b:Int)(a:LX)(k:Int32)(f:Int):Nat→Int→LB→Cg
|0,_,_=>none
|q+1,m,h=>Vx (Afv bk16 b a) (Gv bk16 b a k f q) b a k f m h
def Afz bk16 b a k f:=Gv bk16 b a k f Am
def Afe(j26:Int32→Int→Int→LB→Cg)(b:Int)(a:LX)(f:Int)(g:LB)(k:Int32):Cg:=
j26 k f 0 g
def It bk16 b a:=Afe (Afz bk16 b a) b a
def Vw(j25:Int→LB→Int32→Cg)(j30:LB→Cg)(b:Int)(a:LX)(f:Int)(g:LB):Cg:=
if(Bv f (Ac a))then
(getI a f).bind fun n=>
if(geq b 8)then
j25 f g (Ae n 128)
else
j25 f g n
else
j30 g
def Er(b:Int)(a:LX):Nat→Int→LB→Cg
|0,_,_=>none
|q+1,f,g=>Vw (It (Er b a q) b a) Ao6 b a f g
def Apk b a:=Er b a Am
def Air(j16:Int→LX→Int→LB→Cg)(b:Int)(a:LX):Cg:=
(Ta b a).bind fun o=>
if(Bb o 0)then
some (([]:LB),o)
else
j16 b a 0 ([]:LB)
def width_Bytes:=Air Apk
abbrev Df:=Option (LB×Int)
def Bbm(a ac:Int):Df:=
if(Bb ac 0)then
some (([]:LB),ac)
else
if((Bv a 0)||(Jr a 0))then
some (([]:LB),2)
else
none
def Apm:=Bbm
def Aze(ad:Int)(ae:LB):Df:=
some (ae,ad)
def Acy:=Aze
def Afh(j10:Int→LB→Df)(w a h b:Int)(aa:LX)(n o p k:Int)(m:LB)(u:LX)(v f g:LI):Df:=
if(Bb w 0)then
j10 w ([]:LB)
else
(width_Bytes b aa).bind fun(ak,al)=>
j10 al ak
def Afi:=Afh Acy
def Afy(j10:Int→LB→Df)(j9:Int→Int→Int→Int→LX→Int→Int→Int→Int→LB→LX→LI→LI→LI→Df)(a k ab y:Int)(m:LB)(h b:Int)(u:LX)(n o p:Int)(g v f:LI):Df:=
if(Ey (Ae k y) (Ac m))then
j10 24 ([]:LB)
else
(getI g a).bind fun _=>
(Bu m (Ae k ab) (Ae k y)).bind fun am=>
(getI g a).bind fun an=>
(deframe_Decode h b u an am).bind fun(aa,w)=>
j9 w a h b aa n o p k m u v f g
def Afk:=Afy Acy Afi
def Aff(j8:Int→Int→Int→Int→LB→Int→Int→LX→Int→Int→Int→LI→LI→LI→Df)(a:Int)(g:LI)(n h b o p k:Int)(m:LB)(u:LX)(v f:LI):Df:=
if(Bb (0:Int) (0:Int))then
some (([]:LB),0)
else
if((Bv a 0)||(Jr a (Ac g)))then
some (([]:LB),2)
else
(getI f a).bind fun _=>
(getI f (Ae a 1)).bind fun _=>
(getI f a).bind fun ab=>
(getI f (Ae a 1)).bind fun y=>
j8 a k ab y m h b u n o p g v f
def Oo:=Aff Afk
def Afx(j6:Int→Int→Df)(j7:Int→LI→Int→Int→Int→Int→Int→Int→LB→LX→LI→LI→Df)(m af:LB)(a:Int):Df:=
(seekto_Open m af).bind fun(n,h,b,o,p,k,v,ag)=>
if(Bb ag 0)then
j6 a ag
else
(Jn n h b o p).bind fun(g,ah)=>
if(Bb ah 0)then
j6 a ah
else
(Adb v).bind fun(f,ai)=>
if(Bb ai 0)then
j6 a ai
else
(Xc af).bind fun(u,aj)=>
if(Bb aj 0)then
j6 a aj
else
(getI f (Ac g)).bind fun _=>
(getI f (Ac g)).bind fun ao=>
j7 a g n h b o p k m u v f
def Tr:=Afx Apm Oo
abbrev Bn:=Option (LX×Int)
def Awv(g:LX):Bn:=
some (g,0)
def Akj:=Awv
def Qj(bk16:Int→LX→Bn)(a:Int)(b:LB)(f:Int)(m:LX):Bn:=
bk16 (Ae f (Bj a 8)) m
def Gf bk16:=Qj bk16
def Qh(j28:Int→LX→Bn)(a:Int)(b:LB)(f:Int)(h:Int32)(g:LX):Bn:=
(Gk (Jr (Ah 32 a) 0)).bind fun _=>
(Gk (Jr (Ah 32 a) 0)).bind fun _=>
(Ed g ([(Bk (Ck h (GI.toZ (Ah 32 a)).toNat) (GI.toZ (Ah 32 a)).toNat)]:LX)).bind fun p=>
j28 f p
def Qb bk16 a b:=Qh (Gf bk16 a b) a b
def Dw(j27:Int→Int32→LX→Bn)(bk25:Int32→Int→Bn)(a:Int)(b:LB)(f:Int)(g:LX)(h:Int32)(k:Int):Bn:=
if(Bv k (Bj a 8))then
(getI b (Ae f k)).bind fun n=>
(Gk (Jr (Ay 8 k) 0)).bind fun _=>
bk25 (gor h (Ck (Ad n:Int32) (GI.toZ (Ay 8 k)).toNat)) (Ae k 1)
else
j27 f h g
def Cw(bk16:Int→LX→Bn)(a:Int)(b:LB)(f:Int)(g:LX):Nat→Int32→Int→Bn
|0,_,_=>none
|q+1,h,k=>Dw (Qb bk16 a b) (Cw bk16 a b f g q) a b f g h k
def Ij bk16 a b f g:=Cw bk16 a b f g Am
def Dz(j28:Int→LX→Bn)(j25:Int→LX→Int32→Int→Bn)(j30:LX→Bn)(a:Int)(b:LB)(f:Int)(g:LX):Bn:=
if(Bv f (Ac b))then
if(geq a 8)then
(getI b f).bind fun n=>
(Ed g ([(Ah (Ad n:Int32) 128)]:LX)).bind fun u=>
j28 f u
else
j25 f g 0 0
else
j30 g
def Cl(a:Int)(b:LB):Nat→Int→LX→Bn
|0,_,_=>none
|q+1,f,g=>Dz (Gf (Cl a b q) a b) (Ij (Cl a b q) a b) Akj a b f g
def Yn a b:=Cl a b Am
def Acf(j16:Int→LB→Int→LX→Bn)(a:Int)(b:LB):Bn:=
(Sf a).bind fun(v,w,o)=>
if(Bb o 0)then
some (([]:LX),o)
else
(Gk (Bb (Bj a 8) 0)).bind fun _=>
if(Bb (Fb (Ac b) (Bj a 8)) 0)then
some (([]:LX),12)
else
(Gk (Bb (Bj a 8) 0)).bind fun _=>
if(Ey (Bj (Ac b) (Bj a 8)) 4000)then
some (([]:LX),4)
else
j16 a b 0 ([]:LX)
def Pb:=Acf Yn
abbrev Ce:=Option (LI×Int)
def Aia(ab:Int)(ac:LI):Ce:=
if(Bb ab 0)then
some (([]:LI),ab)
else
some (ac,0)
def Jy:=Aia
def Aib(j26:Int→LI→Ce)(a b:LB)(h k g m n o:Int)(p v:LI):Ce:=
j26 0 v
def Ai9:=Aib Jy
def Asc(bk14:Int→LI→Ce)(a b:LB)(f:LI)(h k g m n o:Int)(p:LI)(u:Int)(w:LI):Ce:=
bk14 (Ae u 1) w
def Ai6 bk14:=Asc bk14
def Ai3(j26:Int→LI→Ce)(j23:Int→LI→Ce)(a b:LB)(f:LI)(h k g m n o:Int)(p:LI)(u:Int)(w:LI):Ce:=
if(Bb (0:Int) (0:Int))then
j26 0 w
else
j23 u w
def Aa8 bk14 a b f h k g m n o p:=Ai3 Jy (Ai6 bk14 a b f h k g m n o p) a b f h k g m n o p
def Yi(j22:Int→LI→Ce)(a b:LB)(f:LI)(h k g m n o:Int)(p:LI)(u aa y:Int)(v:LI)(ad:LX):Ce:=
if(!(geq y 0))then
(Ed v ([u]:LI)).bind fun ah=>
j22 u ah
else
j22 u v
def Ys bk14 a b f h k g m n o p:=Yi (Aa8 bk14 a b f h k g m n o p) a b f h k g m n o p
def Zp(j26:Int→LI→Ce)(j21:Int→Int→Int→LI→LX→Ce)(j25:LB→LB→Int→Int→Int→Int→Int→Int→LI→LI→Ce)(a b:LB)(f:LI)(h k g m n o:Int)(p:LI)(u:Int)(v:LI):Ce:=
if(Bv u (Ac f))then
(getI f u).bind fun _=>
(getI f u).bind fun aa=>
(Tr a b u).bind fun(ai,y)=>
if(geq y 0)then
(Pb g ai).bind fun(aj,ae)=>
if(Bb ae 0)then
j26 ae v
else
j21 u aa y v aj
else
j21 u aa y v ([]:LX)
else
j25 a b h k g m n o p v
def Ka(a b:LB)(f:LI)(h k g m n o:Int)(p:LI):Nat→Int→LI→Ce
|0,_,_=>none
|q+1,u,v=>Zp Jy (Ys (Ka a b f h k g m n o p q) a b f h k g m n o p) Ai9 a b f h k g m n o p u v
def Aqn a b f h k g m n o p:=Ka a b f h k g m n o p Am
def Adh(j26:Int→LI→Ce)(j14:LB→LB→LI→Int→Int→Int→Int→Int→Int→LI→Int→LI→Ce)(a b:LB):Ce:=
(seekto_Open a b).bind fun(h,k,g,m,n,o,p,af)=>
if(Bb af 0)then
j26 af ([]:LI)
else
(Jn h k g m n).bind fun(f,ag)=>
if(Bb ag 0)then
j26 ag ([]:LI)
else
j14 a b f h k g m n o p 0 ([]:LI)
def Se:=Adh Jy Aqn
def Asa(f:LB):Option (Int×Int×Int×Int×Int×Int×Int×Int×Int×Int×LI×Int):=
if(Ey (Ac f) 100000)then
some (0,0,0,0,0,0,0,0,0,0,([]:LI),4)
else
(Rf f).bind fun(a,n)=>
if(Bb n 0)then
some (0,0,0,0,0,0,0,0,0,0,([]:LI),n)
else
(Bu f a (Ac f)).bind fun u=>
(Ad4 u).bind fun(b,g,h,k,m,o)=>
if(Bb o 0)then
some (b,g,h,k,m,0,0,0,0,0,([]:LI),o)
else
(Jn b g h k m).bind fun(p,v)=>
if(geq b 2)then
some (b,g,h,k,m,a,(Ae a 22),(Ae (Ae a 22) 8),0,0,p,0)
else
some (b,g,h,k,m,a,(Ae a 22),(Ae a 22),0,0,p,0)
abbrev Avz:=Option (Int×Int)
def Az6(a:LB):Avz:=
(Bu a (Ah (Ac a) 32) (Ac a)).bind fun g=>
(Ag3 g 0).bind fun(f,y,h)=>
if h then
if(Bv (Ah (Ac a) 32) f)then
some (0,24)
else
some ((Ae f 32),0)
else
(Bu a (Ah (Ac a) 32) (Ac a)).bind fun k=>
(Ag3 k 2147483648).bind fun(b,m,n)=>
if(!n)then
some (0,12)
else
if(Bv (Ac a) (Ae b 64))then
some (0,24)
else
(Bu a (Ah (Ac a) (Ae b 64)) (Ae (Ah (Ac a) (Ae b 64)) 32)).bind fun o=>
(Atf b m 2684354560).bind fun p=>
(Fv o p).bind fun u=>
if(!u)then
some (0,12)
else
some ((Ae b 64),0)
def Aqo:=Az6
def Arr(j2:LB→Avz)(a:LB):Avz:=
if(Bv (Ah (Ac a) 32) 0)then
some (0,6)
else
(Bu a (Ah (Ac a) 32) (Ac a)).bind fun v=>
(Iq v ([(65:UInt8),(80:UInt8),(69:UInt8),(84:UInt8),(65:UInt8),(71:UInt8),(69:UInt8),(88:UInt8)]:LB)).bind fun w=>
if(!w)then
some (0,6)
else
j2 a
def Axg:=Arr Aqo
abbrev Eo:=Option (Int×Int)
def Ayj(a:Int):Eo:=
some (a,0)
def Am0:=Ayj
def Amh(bk8:Int→LB→Eo)(a:Int)(g:LB):Eo:=
bk8 (Ae a 1) g
def Acs bk8:=Amh bk8
def Acz(j12:Int→LB→Eo)(a f:Int)(b:LB):Eo:=
if(geq f 0)then
some (0,38)
else
(Bu b 0 (Ah (Ac b) f)).bind fun g=>
j12 a g
def Aci bk8:=Acz (Acs bk8)
def Afj(j11:Int→Int→LB→Eo)(j14:Int→Eo)(a:Int)(b:LB):Eo:=
if(Ey (Ac b) 0)then
(Axg b).bind fun(f,k)=>
j11 a f b
else
j14 a
def On:Nat→Int→LB→Eo
|0,_,_=>none
|q+1,a,b=>Afj (Aci (On q)) Am0 a b
def Ape:=On Am
def Afn(j8:Int→LB→Eo)(h:LB):Eo:=
if(Ey (Ac h) 4000)then
some (0,38)
else
j8 0 h
def Agn:=Afn Ape
abbrev Bf:=Option (Int×Int×Int×LX×Int)
def Asd(a:LB)(aa b f h:Int)(ad:LX):Bf:=
(Bu a aa (Ac a)).bind fun aq=>
(Agn aq).bind fun(bb,ar)=>
if(Bb ar 0)then
some (0,0,0,([]:LX),38)
else
some (b,f,h,ad,0)
def Aih:=Asd
def As6(bk21:Int→Int→LX→Bf)(a:LB)(w:LI)(m b f h o p n g y ab:Int)(ac:LX)(k:LI)(aa aj ak ae:Int)(am ad:LX):Bf:=
if(Bb ak 0)then
some (0,0,0,([]:LX),ak)
else
(Ed ad am).bind fun au=>
bk21 (Ae aa aj) (Ae ae 1) au
def Ajc bk21:=As6 bk21
def Aai(j24:Int→Int→Int→Int→LX→LX→Bf)(j26:LB→Int→Int→Int→Int→LX→Bf)(a:LB)(w:LI)(m b f h o p n g y ab:Int)(ac:LX)(k:LI)(aa ae:Int)(ad:LX):Bf:=
if(Bv ae (Ac w))then
(getI w ae).bind fun _=>
(getI w ae).bind fun aj=>
if(Bv (Ac a) (Ae aa aj))then
some (0,0,0,([]:LX),24)
else
(getI k ae).bind fun _=>
(Bu a aa (Ae aa aj)).bind fun av=>
(getI k ae).bind fun aw=>
(deframe_Decode b f ac aw av).bind fun(am,ak)=>
j24 aa aj ak ae am ad
else
j26 a aa b f h ad
def Nb(a:LB)(w:LI)(m b f h o p n g y ab:Int)(ac:LX)(k:LI):Nat→Int→Int→LX→Bf
|0,_,_,_=>none
|q+1,aa,ae,ad=>Aai (Ajc (Nb a w m b f h o p n g y ab ac k q) a w m b f h o p n g y ab ac k) Aih a w m b f h o p n g y ab ac k aa ae ad
def Asp a w m b f h o p n g y ab ac k:=Nb a w m b f h o p n g y ab ac k Am
def Aay(j21:LB→LI→Int→Int→Int→Int→Int→Int→Int→Int→Int→Int→LX→LI→Int→Int→LX→Bf)(a u:LB)(m b f h o p n g:Int)(k:LI)(an y ab:Int)(w:LI):Bf:=
if(Bb an 0)then
some (0,0,0,([]:LX),an)
else
(Xc u).bind fun(ac,bc)=>
j21 a w m b f h o p n g y ab ac k y 0 ([]:LX)
def Js:=Aay Asp
def Ag6(j20:LB→LB→Int→Int→Int→Int→Int→Int→Int→Int→LI→Int→Int→Int→LI→Bf)(a u:LB)(v:LI)(m b f h o p n g af:Int)(k:LI):Bf:=
j20 a u m b f h o p n g k 0 (Ae (Ae g (Ay 4 (Ac v))) 4) af v
def Aaq:=Ag6 Js
def Yv(j19:LB→LB→LI→Int→Int→Int→Int→Int→Int→Int→Int→Int→LI→Bf)(bk17:Int→Int→Bf)(v:LI)(a u:LB)(m b f h o p n g:Int)(k:LI)(ag af:Int):Bf:=
if(Bv ag (Ac v))then
(getI v ag).bind fun _=>
(getI v ag).bind fun ax=>
bk17 (Ae ag 1) (Ae af ax)
else
j19 a u v m b f h o p n g af k
def Ms(v:LI)(a u:LB)(m b f h o p n g:Int)(k:LI):Nat→Int→Int→Bf
|0,_,_=>none
|q+1,ag,af=>Yv Aaq (Ms v a u m b f h o p n g k q) v a u m b f h o p n g k ag af
def Ait v a u m b f h o p n g k:=Ms v a u m b f h o p n g k Am
def Zy(j20:LB→LB→Int→Int→Int→Int→Int→Int→Int→Int→LI→Int→Int→Int→LI→Bf)(j17:LI→LB→LB→Int→Int→Int→Int→Int→Int→Int→Int→LI→Int→Int→Bf)(al:Int)(a u:LB)(m b f h o p n g ah ai:Int)(v k:LI):Bf:=
if(Bb al 0)then
j20 a u m b f h o p n g k al ah ai ([]:LI)
else
j17 v a u m b f h o p n g k 0 (Ae (Ae g (Ay 4 (Ac v))) 4)
def Aaf:=Zy Js Ait
def Ahy(j20:LB→LB→Int→Int→Int→Int→Int→Int→Int→Int→LI→Int→Int→Int→LI→Bf)(j16:Int→LB→LB→Int→Int→Int→Int→Int→Int→Int→Int→Int→Int→LI→LI→Bf)(a u:LB)(m b f h o p n g ah ai:Int)(k:LI):Bf:=
if(Bv (Ac a) g)then
j20 a u m b f h o p n g k 24 ah ai ([]:LI)
else
(Bu a g (Ac a)).bind fun ay=>
(Ahn ay (Ac k)).bind fun(v,al)=>
j16 al a u m b f h o p n g ah ai v k
def Sj:=Ahy Js Aaf
def Aao(j15:LB→LB→Int→Int→Int→Int→Int→Int→Int→Int→Int→Int→LI→Bf)(a u:LB)(m b f h o p n g ah ai:Int)(k:LI)(ao:Int):Bf:=
if(Bb ao 0)then
some (0,0,0,([]:LX),ao)
else
j15 a u m b f h o p n g ah ai k
def My:=Aao Sj
def Ak8(j14:LB→LB→Int→Int→Int→Int→Int→Int→Int→Int→Int→Int→LI→Int→Bf)(a u:LB):Bf:=
if(Ey (Ac u) 64)then
some (0,0,0,([]:LX),2)
else
(Asa a).bind fun(m,b,f,h,o,p,n,g,ah,ai,k,ap)=>
if(Bb ap 0)then
some (0,0,0,([]:LX),ap)
else
if((u==([]:LB)) !=(geq m 1))then
j14 a u m b f h o p n g ah ai k 26
else
if(geq m 1)then
j14 a u m b f h o p n g ah ai k 0
else
if(Bv (Ac a) g)then
j14 a u m b f h o p n g ah ai k 24
else
(Bu a n g).bind fun az=>
(Tq az u).bind fun(ba,bd)=>
if(!ba)then
j14 a u m b f h o p n g ah ai k 26
else
j14 a u m b f h o p n g ah ai k 0
def Kc:=Ak8 My
def Alk(a g b:Int):Option Int:=
(Hw a g).bind fun f=>
if(Bb f 0)then
some f
else
if(Bv b 1)then
some 2
else
(Gk (Bb a 0)).bind fun _=>
if(Ey b (Bj 4000 a))then
some 2
else
some 0
def Vy(a g b:Int):Option (LX×Int):=
(Alk a g b).bind fun f=>
if(Bb f 0)then
some (([]:LX),f)
else
(mkI (Ay b a) (0:Int32)).bind fun h=>
(Gk (geq (Ay b a) (Ay b a))).bind fun _=>
some (h,0)
abbrev Au:=Option (Int×Int×Int×LX×LI×Int)
def Qd(a b h ak:Int)(an:LI)(ah:LX):Au:=
if(Bb ak 0)then
some (0,0,0,([]:LX),([]:LI),ak)
else
if(geq (Ac ah) 0)then
some (0,0,0,([]:LX),([]:LI),6)
else
(
(
some (a,b,h,ah,an,0)))
def Fh:=Qd
def Aks(j40:Int→Int→Int→Int→LI→LX→Au)(f g:LB)(n p u o v w y m a b h:Int)(aa ad:LI)(ac:LX):Au:=
j40 a b h 0 ad ac
def Akn:=Aks Fh
def Akd(bk21:Int→LI→LX→Au)(f g:LB)(k:LI)(n m a b h p u o v w y:Int)(aa:LI)(ab:Int)(ai:LI)(aj:LX):Au:=
bk21 (Ae ab 1) ai aj
def Yl bk21:=Akd bk21
def Aaz(j40:Int→Int→Int→Int→LI→LX→Au)(j37:Int→LI→LX→Au)(f g:LB)(k:LI)(n m a b h p u o v w y:Int)(aa:LI)(ab ao:Int)(ai:LI)(aj:LX):Au:=
if(Bb ao 0)then
j40 a b h ao ai aj
else
j37 ab ai aj
def Im bk21 f g k n m a b h p u o v w y aa:=Aaz Fh (Yl bk21 f g k n m a b h p u o v w y aa) f g k n m a b h p u o v w y aa
def Aan(j36:Int→Int→LI→LX→Au)(f g:LB)(k:LI)(n a b h m p u o v w y:Int)(aa:LI)(ab af ae:Int)(al ag ac:LX)(am:LI):Au:=
(Ed ac al).bind fun aw=>
j36 ab 0 am aw
def Yq bk21 f g k n a b h m p u o v w y aa:=Aan (Im bk21 f g k n m a b h p u o v w y aa) f g k n a b h m p u o v w y aa
def Ra(j36:Int→Int→LI→LX→Au)(f g:LB)(k:LI)(n a b h m p u o v w y:Int)(aa:LI)(ab af ae:Int)(ag ac:LX)(ap:LI):Au:=
(Ed ac ag).bind fun al=>
j36 ab 0 ap al
def Ql bk21 f g k n a b h m p u o v w y aa:=Ra (Im bk21 f g k n m a b h p u o v w y aa) f g k n a b h m p u o v w y aa
def Qt(j36:Int→Int→LI→LX→Au)(j34:Int→Int→Int→LX→LX→LX→LI→Au)(j35:Int→Int→Int→LX→LX→LI→Au)(f g:LB)(k:LI)(n m a b h p u o v w y:Int)(aa:LI)(ab af ae:Int)(ad:LI)(ac ag:LX):Au:=
if(!(geq ae 0))then
(Ed ad ([ab]:LI)).bind fun am=>
if(geq m 2)then
(Vy a b af).bind fun(al,aq)=>
if(Bb aq 0)then
j36 ab aq am ac
else
j34 ab af ae al ag ac am
else
j35 ab af ae ag ac am
else
j35 ab af ae ag ac ad
def Qx bk21 f g k n m a b h p u o v w y aa:=Qt (Im bk21 f g k n m a b h p u o v w y aa) (Yq bk21 f g k n a b h m p u o v w y aa) (Ql bk21 f g k n a b h m p u o v w y aa) f g k n m a b h p u o v w y aa
def Qi(j40:Int→Int→Int→Int→LI→LX→Au)(j33:Int→Int→Int→LI→LX→LX→Au)(j39:LB→LB→Int→Int→Int→Int→Int→Int→Int→Int→Int→Int→Int→LI→LI→LX→Au)(f g:LB)(k:LI)(n m a b h p u o v w y:Int)(aa:LI)(ab:Int)(ad:LI)(ac:LX):Au:=
if(Bv ab (Ac k))then
(getI k ab).bind fun _=>
(getI k ab).bind fun af=>
(Tr f g ab).bind fun(ax,ae)=>
if(geq ae 0)then
(Pb o ax).bind fun(ay,ar)=>
if(Bb ar 0)then
j40 a b h ar ad ac
else
j33 ab af ae ad ac ay
else
j33 ab af ae ad ac ([]:LX)
else
j39 f g n p u o v w y m a b h aa ad ac
def Gm(f g:LB)(k:LI)(n m a b h p u o v w y:Int)(aa:LI):Nat→Int→LI→LX→Au
|0,_,_,_=>none
|q+1,ab,ad,ac=>Qi Fh (Qx (Gm f g k n m a b h p u o v w y aa q) f g k n m a b h p u o v w y aa) Akn f g k n m a b h p u o v w y aa ab ad ac
def Zu f g k n m a b h p u o v w y aa:=Gm f g k n m a b h p u o v w y aa Am
def Mw(j40:Int→Int→Int→Int→LI→LX→Au)(j21:LB→LB→LI→Int→Int→Int→Int→Int→Int→Int→Int→Int→Int→Int→LI→Int→LI→LX→Au)(f g:LB)(m:Int):Au:=
if((Bv m 0)||(Ey m 2))then
some (0,0,0,([]:LX),([]:LI),2)
else
if(geq m 0)then
(Kc f g).bind fun(az,ba,bb,bc,bd)=>
some (az,ba,bb,bc,([]:LI),bd)
else
(seekto_Open f g).bind fun(be,a,b,h,bf,bg,bh,n)=>
if(Bb n 0)then
some (0,0,0,([]:LX),([]:LI),n)
else
(seekto_Open f g).bind fun(p,u,o,v,w,y,aa,au)=>
if(Bb au 0)then
j40 a b h au ([]:LI) ([]:LX)
else
(Jn p u o v w).bind fun(k,av)=>
if(Bb av 0)then
j40 a b h av ([]:LI) ([]:LX)
else
j21 f g k n m a b h p u o v w y aa 0 ([]:LI) ([]:LX)
def Ch:=Mw Fh Zu
def Alr:Option Bool:=
some true
def Vo:=Alr
def Va(j6:Option Bool)(bk4:Int→Option Bool)(a b:LI)(f:Int):Option Bool:=
if(Bv f (Ac a))then
(getI a f).bind fun g=>
(getI b f).bind fun h=>
if(Bb g h)then
some false
else
bk4 (Ae f 1)
else
j6
def Lu(a b:LI):Nat→Int→Option Bool
|0,_=>none
|q+1,f=>Va Vo (Lu a b q) a b f
def Vi a b:=Lu a b Am
def Vf(j4:LI→LI→Int→Option Bool)(a b:LI):Option Bool:=
if(Bb (Ac a) (Ac b))then
some false
else
j4 a b 0
def Hb:=Vf Vi
def Arl:Option Bool:=
some true
def Ae7:=Arl
def Lk(j6:Option Bool)(bk4:Int→Option Bool)(a b:LX)(f:Int):Option Bool:=
if(Bv f (Ac a))then
(getI a f).bind fun g=>
(getI b f).bind fun h=>
if(Bb g h)then
some false
else
bk4 (Ae f 1)
else
j6
def Fw(a b:LX):Nat→Int→Option Bool
|0,_=>none
|q+1,f=>Lk Ae7 (Fw a b q) a b f
def Adu a b:=Fw a b Am
def Tf(j4:LX→LX→Int→Option Bool)(a b:LX):Option Bool:=
if(Bb (Ac a) (Ac b))then
some false
else
j4 a b 0
def Qw:=Tf Adu
def Eb(a b f:Int)(g:LX)(h k m:Int)(n:LX):Option Bool:=
if(((geq a h)&&(geq b k))&&(geq f m))then
(Qw g n).bind fun o=>
some o
else
some false
def Cc(k:LB)(m:Int)(n:LI)(a:LX):Option Bool:=
(Ch k ([]:LB) m).bind fun(b,f,g,h,o,p)=>
if(geq p 0)then
(Hb o n).bind fun u=>
if u then
(Eb b f g h 1 8 1 a).bind fun v=>
some v
else
some false
else
if false then
(Eb b f g h 1 8 1 a).bind fun w=>
some w
else
some false
def Nw:Option Bool:=
(Ahd).bind fun(a,h)=>
if(!h)then
some false
else
(Se a ([]:LB)).bind fun(k,m)=>
(Bu a 0 44).bind fun n=>
(Se n ([]:LB)).bind fun(f,g)=>
(Ch a ([]:LB) 0).bind fun(aj,ak,al,am,an,b)=>
if(geq m 0)then
(Hb k ([(1:Int)]:LI)).bind fun o=>
if(o&&(geq g 0))then
(Hb f ([(1:Int),(2:Int)]:LI)).bind fun p=>
if(p&&(geq b 22))then
(Cc a 1 ([(1:Int)]:LI) ([(1:Int32),(3:Int32)]:LX)).bind fun u=>
if u then
(Cc a 2 ([(1:Int)]:LI) ([(1:Int32),(0:Int32),(3:Int32)]:LX)).bind fun v=>
some v
else
some false
else
if false then
(Cc a 2 ([(1:Int)]:LI) ([(1:Int32),(0:Int32),(3:Int32)]:LX)).bind fun w=>
some w
else
some false
else
if(false&&(geq b 22))then
(Cc a 1 ([(1:Int)]:LI) ([(1:Int32),(3:Int32)]:LX)).bind fun y=>
if y then
(Cc a 2 ([(1:Int)]:LI) ([(1:Int32),(0:Int32),(3:Int32)]:LX)).bind fun aa=>
some aa
else
some false
else
if false then
(Cc a 2 ([(1:Int)]:LI) ([(1:Int32),(0:Int32),(3:Int32)]:LX)).bind fun ab=>
some ab
else
some false
else
if(false&&(geq g 0))then
(Hb f ([(1:Int),(2:Int)]:LI)).bind fun ac=>
if(ac&&(geq b 22))then
(Cc a 1 ([(1:Int)]:LI) ([(1:Int32),(3:Int32)]:LX)).bind fun ad=>
if ad then
(Cc a 2 ([(1:Int)]:LI) ([(1:Int32),(0:Int32),(3:Int32)]:LX)).bind fun ae=>
some ae
else
some false
else
if false then
(Cc a 2 ([(1:Int)]:LI) ([(1:Int32),(0:Int32),(3:Int32)]:LX)).bind fun af=>
some af
else
some false
else
if(false&&(geq b 22))then
(Cc a 1 ([(1:Int)]:LI) ([(1:Int32),(3:Int32)]:LX)).bind fun ag=>
if ag then
(Cc a 2 ([(1:Int)]:LI) ([(1:Int32),(0:Int32),(3:Int32)]:LX)).bind fun ah=>
some ah
else
some false
else
if false then
(Cc a 2 ([(1:Int)]:LI) ([(1:Int32),(0:Int32),(3:Int32)]:LX)).bind fun ai=>
some ai
else
some false
def Zc(a:LB):Option Bool:=
some (((Ey (Ac a) 5000)&&(Bv (Ac a) 12000))||(Ey (Ac a) 12100))
def Jl(a:Bool)(b f:Int)(g:LI):Option Bool:=
if a then
some ((((Bb f 0)&&(geq f b))||(Ey (Ac g) 0))||(geq b 38))
else
some false
def Ga:=Jl
def Dx(j4:Bool→Int→Int→LI→Option Bool)(a:Bool)(b w y f h k m aa ab ac o p u:Int)(g:LI)(n ad v:LX):Option Bool:=
if(geq b 0)then
if((((a&&(geq w 0))&&(geq y 0))&&(geq f 0))&&(geq (Ac g) 0))then
(Eb aa ab ac ad h k m n).bind fun ah=>
if ah then
(Eb o p u v h k m n).bind fun ai=>
some ai
else
some false
else
if false then
(Eb o p u v h k m n).bind fun aj=>
some aj
else
some false
else
j4 a b f g
def Dv:=Dx Ga
def Jj(j3:Bool→Int→Int→Int→Int→Int→Int→Int→Int→Int→Int→Int→Int→Int→LI→LX→LX→LX→Option Bool)(ae af:LB):Option Bool:=
(Nw).bind fun a=>
(Zc ae).bind fun ak=>
if((ak||(Ey (Ac af) 64))||(!a))then
some a
else
(Kc ae af).bind fun(h,k,m,n,b)=>
(Ch ae af 0).bind fun(al,am,an,ao,ag,ap)=>
(Ch ae af 1).bind fun(aa,ab,ac,ad,ar,w)=>
(Ch ae af 2).bind fun(o,p,u,v,au,y)=>
(Se ae af).bind fun(g,f)=>
if(Bb ap b)then
if(true||(Bb (Ac ag) 0))then
some false
else
j3 a b w y f h k m aa ab ac o p u g n ad v
else
(Eb al am an ao h k m n).bind fun aq=>
if((!aq)||(Bb (Ac ag) 0))then
some false
else
j3 a b w y f h k m aa ab ac o p u g n ad v
def Hz:=Jj Dv
def Ub(f g b a h:Int):Option Bool:=
if((((geq f 1)||(geq f 2))&&(Jr g 1))&&(gle g 6))then
some ((((((geq b 8)||(geq b 16))||(geq b 24))&&(Jr a 1))&&(gle a 1048576))&&(Jr h 1))
else
some (((false&&(Jr a 1))&&(gle a 1048576))&&(Jr h 1))
def Qm(a:Int):Option Int:=
some (Atz 1 (Bj (Ay 256 a) 245))
def Kq(a:LI):Option (LI):=
some a
def Kr:=Kq
def Hc(j6:LI→Option (LI))(bk4:Int→LI→Option (LI))(b f:Int)(a:LI):Option (LI):=
if(Ey f 0)then
(Qm b).bind fun g=>
(Ed a ([(Dk f g)]:LI)).bind fun h=>
(Qm b).bind fun k=>
bk4 (Ah f k) h
else
j6 a
def Dt(b:Int):Nat→Int→LI→Option (LI)
|0,_,_=>none
|q+1,f,a=>Hc Kr (Dt b q) b f a
def Ab1 b:=Dt b Am
def Abp(j4:Int→Int→LI→Option (LI))(b m:Int):Option (LI):=
j4 b m ([]:LI)
def Ek:=Abp Ab1
def Ye(h a k f b:Int):Option Bool:=
(
(Gk (Bb a 0)).bind fun _=>
(
if(Ey b (Bj 4000 a))then
some true
else
(Ek f b).bind fun g=>
some (Ey (Ac g) 1000)))
def Zr(b:Int):Option Int:=
if(Ey b 100000)then
some 8
else
some 0
def Yx:=Zr
def Aby(bk6:Int→Int→Option Int)(a:LI)(b f:Int):Option Int:=
(getI a f).bind fun g=>
bk6 (Ae b g) (Ae f 1)
def Abw bk6:=Aby bk6
def Pz(j8:Int→Int→Option Int)(j10:Int→Option Int)(a:LI)(b f:Int):Option Int:=
if(Bv f (Ac a))then
(getI a f).bind fun h=>
if(Bv h 5)then
some 8
else
(getI a f).bind fun k=>
if(Ey k 100000)then
some 8
else
j8 b f
else
j10 b
def Hk(a:LI):Nat→Int→Int→Option Int
|0,_,_=>none
|q+1,b,f=>Pz (Abw (Hk a q) a) Yx a b f
def Abm a:=Hk a Am
def Pv(j6:LI→Int→Int→Option Int)(a:LI):Option Int:=
if((Bv (Ac a) 1)||(Ey (Ac a) 1000))then
some 8
else
j6 a 0 0
def Hu:=Pv Abm
abbrev Em:=Option (Int×Int)
def Aqc(a:Int):Em:=
some (a,0)
def Ap8:=Aqc
def Pn(j6:Int→Em)(bk4:Int→Int→Em)(b:LB)(a f:Int):Em:=
if(Bv f 4)then
(getI b f).bind fun g=>
if(Jr g 128)then
some (0,12)
else
(getI b f).bind fun h=>
bk4 (Ae (Ay 128 a) (Ad h:Int)) (Ae f 1)
else
j6 a
def Hl(b:LB):Nat→Int→Int→Em
|0,_,_=>none
|q+1,a,f=>Pn Ap8 (Hl b q) b a f
def Ab5 b:=Hl b Am
def Abt(j4:LB→Int→Int→Em)(b:LB):Em:=
if(Bb (Ac b) 4)then
some (0,2)
else
j4 b 0 0
def Wx:=Abt Ab5
abbrev Fa:=Option (Int×Int)
def Ad9(a:LB)(g:Int):Fa:=
if(Ey g 4000)then
some (0,4)
else
if(Bv (Ac a) g)then
some (0,24)
else
(getI a 5).bind fun h=>
if(geq h 16)then
(Bu a (Ah g 10) g).bind fun k=>
(Bu a 3 10).bind fun m=>
(Ed ([51,68,73]:LB) m).bind fun n=>
if(k !=n)then
some (0,12)
else
some (g,0)
else
some (g,0)
def Sg:=Ad9
def Adt(j6:LB→Int→Fa)(a:LB)(b:Int):Fa:=
(getI a 5).bind fun o=>
if(geq o 16)then
j6 a (Ae (Ae 10 b) 10)
else
j6 a (Ae 10 b)
def Rj:=Adt Sg
def Aev(j5:LB→Int→Fa)(a:LB):Fa:=
if(Bv (Ac a) 10)then
some (0,24)
else
(Bu a 6 10).bind fun p=>
(Wx p).bind fun(b,f)=>
(getI a 3).bind fun u=>
if(Bv u 2)then
if true then
if true then
if(true||(Bb f 0))then
some (0,12)
else
j5 a b
else
(getI a 5).bind fun v=>
if(Bb v 0)then
(getI a 5).bind fun w=>
if(Bb w 16)then
if(true||(Bb f 0))then
some (0,12)
else
j5 a b
else
(getI a 3).bind fun y=>
if((Bb y 4)||(Bb f 0))then
some (0,12)
else
j5 a b
else
if(false||(Bb f 0))then
some (0,12)
else
j5 a b
else
(getI a 4).bind fun aa=>
if(Bb aa 0)then
if(true||(Bb f 0))then
some (0,12)
else
j5 a b
else
(getI a 5).bind fun ab=>
if(Bb ab 0)then
(getI a 5).bind fun ac=>
if(Bb ac 16)then
if(true||(Bb f 0))then
some (0,12)
else
j5 a b
else
(getI a 3).bind fun ad=>
if((Bb ad 4)||(Bb f 0))then
some (0,12)
else
j5 a b
else
if(false||(Bb f 0))then
some (0,12)
else
j5 a b
else
(getI a 3).bind fun ae=>
if(Ey ae 4)then
if true then
if(true||(Bb f 0))then
some (0,12)
else
j5 a b
else
(getI a 5).bind fun af=>
if(Bb af 0)then
(getI a 5).bind fun ag=>
if(Bb ag 16)then
if(true||(Bb f 0))then
some (0,12)
else
j5 a b
else
(getI a 3).bind fun ah=>
if((Bb ah 4)||(Bb f 0))then
some (0,12)
else
j5 a b
else
if(false||(Bb f 0))then
some (0,12)
else
j5 a b
else
(getI a 4).bind fun ai=>
if(Bb ai 0)then
if(true||(Bb f 0))then
some (0,12)
else
j5 a b
else
(getI a 5).bind fun aj=>
if(Bb aj 0)then
(getI a 5).bind fun ak=>
if(Bb ak 16)then
if(true||(Bb f 0))then
some (0,12)
else
j5 a b
else
(getI a 3).bind fun al=>
if((Bb al 4)||(Bb f 0))then
some (0,12)
else
j5 a b
else
if(false||(Bb f 0))then
some (0,12)
else
j5 a b
def Adz:=Aev Rj
def Aec(j4:LB→Fa)(a:LB):Fa:=
if(Bv (Ac a) 3)then
some (0,6)
else
(Bu a 0 3).bind fun am=>
if(am !=([73,68,51]:LB))then
some (0,6)
else
j4 a
def Aba:=Aec Adz
def Ag4(a:UInt64):Option UInt64:=
some a
def Aif:=Ag4
def Wv(j6:UInt64→Option UInt64)(bk4:UInt64→Int→Option UInt64)(b:LB)(a:UInt64)(f:Int):Option UInt64:=
if(Jr f 0)then
(getI b f).bind fun g=>
bk4 (Ae (Ay 256 a) (Ad g:UInt64)) (Ah f 1)
else
j6 a
def Kk(b:LB):Nat→UInt64→Int→Option UInt64
|0,_,_=>none
|q+1,a,f=>Wv Aif (Kk b q) b a f
def Aie b:=Kk b Am
def Ajb(j4:LB→UInt64→Int→Option UInt64)(b:LB):Option UInt64:=
j4 b 0 (Ah (Ac b) 1)
def Cj:=Ajb Aie
def Qc(b:LB):Option (Int×Int×Bool):=
(Bu b 12 16).bind fun g=>
(Cj g).bind fun a=>
(Bu b 16 20).bind fun h=>
(Cj h).bind fun f=>
if(((Bv a 32)||(Ey a 3032))||(Ey f 1000))then
some (0,0,false)
else
some ((Ah (Ad a:Int) 32),(Ad f:Int),true)
def Xd(a:LB):Option (LB):=
some a
def Xg:=Xd
def Nk(j6:LB→Option (LB))(bk4:UInt64→Int→LB→Option (LB))(b:Int)(f:UInt64)(g:Int)(a:LB):Option (LB):=
if(Bv g b)then
(Ed a ([(Ad (Yd f 256):UInt8)]:LB)).bind fun h=>
bk4 (Bj f 256) (Ae g 1) h
else
j6 a
def Fz(b:Int):Nat→UInt64→Int→LB→Option (LB)
|0,_,_,_=>none
|q+1,f,g,a=>Nk Xg (Fz b q) b f g a
def Wy b:=Fz b Am
def Xk(j4:Int→UInt64→Int→LB→Option (LB))(k:UInt64)(b:Int):Option (LB):=
j4 b k 0 ([]:LB)
def Cz:=Xk Wy
def Mq(a b:Int)(f:UInt64):Option (LB):=
(Cz 2000 4).bind fun g=>
(Ed ([(65:UInt8),(80:UInt8),(69:UInt8),(84:UInt8),(65:UInt8),(71:UInt8),(69:UInt8),(88:UInt8)]:LB) g).bind fun h=>
(Cz (Ad (Ae a 32):UInt64) 4).bind fun k=>
(Ed h k).bind fun m=>
(Cz (Ad b:UInt64) 4).bind fun n=>
(Ed m n).bind fun o=>
(Cz f 4).bind fun p=>
(Ed o p).bind fun u=>
(mkI (8:Int) (0:UInt8)).bind fun v=>
(Ed u v).bind fun w=>
some w
def Qq(a b:Int):Option (LB):=
(Mq a b 2684354560).bind fun f=>
some f
def Il(a b:Int)(f:Bool):Option (LB):=
if f then
(Mq a b 2147483648).bind fun g=>
some g
else
(Mq a b 0).bind fun h=>
some h
abbrev Ia:=Option (Int×Int)
def Abs(a:LB)(b f:Int):Ia:=
if(Bv (Ac a) (Ae 64 b))then
some (0,24)
else
(Bu a (Ah (Ae 64 b) 32) (Ae 64 b)).bind fun g=>
(Il b f true).bind fun h=>
if(g !=h)then
some (0,12)
else
some ((Ae 64 b),0)
def Abl:=Abs
def Abx(j4:LB→Int→Int→Ia)(a:LB):Ia:=
if(Bv (Ac a) 32)then
some (0,24)
else
(Bu a 0 32).bind fun k=>
(Qc k).bind fun(b,f,m)=>
if(!m)then
some (0,12)
else
(Bu a 0 32).bind fun n=>
(Qq b f).bind fun o=>
if(n !=o)then
some (0,12)
else
j4 a b f
def Ab0:=Abx Abl
def Ab3(j3:LB→Ia)(a:LB):Ia:=
if(Bv (Ac a) 8)then
some (0,6)
else
(Bu a 0 8).bind fun p=>
if(p !=([65,80,69,84,65,71,69,88]:LB))then
some (0,6)
else
j3 a
def Wm:=Ab3 Ab0
abbrev El:=Option (LI×Int)
def Ab6(bk6:Int→LI→El)(a:LB)(b:Int)(f:LI)(g h:Int):El:=
if(geq h 6)then
some (f,0)
else
if(Bb h 0)then
some (([]:LI),h)
else
if(Ey (Ae b g) 4000)then
some (([]:LI),4)
else
(Ed f ([g]:LI)).bind fun m=>
bk6 (Ae b g) m
def Ko bk6:=Ab6 bk6
def Ph(j9:Int→LI→Int→Int→El)(a:LB)(b:Int)(f:LI):El:=
(Bu a b (Ac a)).bind fun n=>
(Aba n).bind fun(o,k)=>
if(geq k 6)then
(Bu a b (Ac a)).bind fun p=>
(Wm p).bind fun(u,v)=>
j9 b f u v
else
j9 b f o k
def Ku(a:LB):Nat→Int→LI→El
|0,_,_=>none
|q+1,b,f=>Ph (Ko (Ku a q) a) a b f
def Ap2 a:=Ku a Am
def Aqd(j6:LB→Int→LI→El)(a:LB):El:=
j6 a 0 ([]:LI)
def Aio:=Aqd Ap2
abbrev Ep:=Option (Int×Int)
def Acd(a b:Int):Ep:=
some (b,a)
def Abq:=Acd
def Pw(j6:Int→Int→Ep)(bk4:Int→Int→Ep)(a:Int)(f:LI)(b g:Int):Ep:=
if(Bv g (Ac f))then
(getI f g).bind fun _=>
(getI f g).bind fun h=>
bk4 (Ae b h) (Ae g 1)
else
j6 a b
def Hi(a:Int)(f:LI):Nat→Int→Int→Ep
|0,_,_=>none
|q+1,b,g=>Pw Abq (Hi a f q) a f b g
def Pg a f:=Hi a f Am
def Acb(j4:Int→LI→Int→Int→Ep)(k:LB):Ep:=
(Aio k).bind fun(f,a)=>
j4 a f 0 0
def Nm:=Acb Pg
def Aeo(a:UInt32)(b:Bool):Option UInt32:=
if b then
some (Tn (Bj a 2) 3988292384)
else
some (Bj a 2)
def Ae4:=Aeo
def Aex(j2:UInt32→Bool→Option UInt32)(a:UInt32)(f:Int):Option UInt32:=
if(geq f 1)then
j2 a (!(geq (Yd a 2) 1))
else
j2 a (geq (Yd a 2) 1)
def Abf:=Aex Ae4
def Adv(a:UInt32):Option UInt32:=
some a
def Afa:=Adv
def Sa(j6:UInt32→Option UInt32)(bk4:UInt32→UInt8→Int→Option UInt32)(a:UInt32)(b:UInt8)(f:Int):Option UInt32:=
if(Bv f 8)then
(Abf a (Ad (Yd b 2):Int)).bind fun g=>
bk4 g (Bj b 2) (Ae f 1)
else
j6 a
def Ic:Nat→UInt32→UInt8→Int→Option UInt32
|0,_,_,_=>none
|q+1,a,b,f=>Sa Afa (Ic q) a b f
def Ass:=Ic Am
def Aru(j4:UInt32→UInt8→Int→Option UInt32)(h:UInt32)(k:UInt8):Option UInt32:=
j4 h k 0
def Aju:=Aru Ass
def Zo(a:UInt32):Option UInt32:=
some a
def Abc:=Zo
def Oj(j6:UInt32→Option UInt32)(bk4:UInt32→Int→Option UInt32)(b:LB)(a:UInt32)(f:Int):Option UInt32:=
if(Bv f (Ac b))then
(getI b f).bind fun g=>
(Aju a g).bind fun h=>
bk4 h (Ae f 1)
else
j6 a
def Gh(b:LB):Nat→UInt32→Int→Option UInt32
|0,_,_=>none
|q+1,a,f=>Oj Abc (Gh b q) b a f
def Aad b:=Gh b Am
def Aak(j4:LB→UInt32→Int→Option UInt32)(k:UInt32)(b:LB):Option UInt32:=
j4 b k 0
def Af1:=Aak Aad
def Ox(a:LB):Option UInt32:=
(Af1 4294967295 a).bind fun b=>
some (Ah 4294967295 b)
abbrev Fe:=Option (Int×Int×Int×Int×Int×Int)
def Ady(k h g f b:UInt64):Fe:=
(Ub (Ad k:Int) (Ad h:Int) (Ad g:Int) (Ad f:Int) (Ad b:Int)).bind fun v=>
if(!v)then
some (0,0,0,0,0,12)
else
(Ye (Ad k:Int) (Ad h:Int) (Ad g:Int) (Ad f:Int) (Ad b:Int)).bind fun w=>
if w then
some (0,0,0,0,0,4)
else
some ((Ad k:Int),(Ad h:Int),(Ad g:Int),(Ad f:Int),(Ad b:Int),0)
def Ael:=Ady
def Adw(j6:UInt64→UInt64→UInt64→UInt64→UInt64→Fe)(a:LB):Fe:=
(Bu a 4 6).bind fun u=>
(Bu a 6 8).bind fun p=>
(Bu a 8 10).bind fun o=>
(Bu a 10 14).bind fun n=>
(Bu a 14 18).bind fun m=>
(
(Cj u).bind fun k=>
(
(Cj p).bind fun h=>
(
(Cj o).bind fun g=>
(
(Cj n).bind fun f=>
(
(Cj m).bind fun b=>
(
j6 k h g f b))))))
def Ad5:=Adw Ael
def Ads(j5:LB→Fe)(a:LB):Fe:=
if(Bv (Ac a) 22)then
some (0,0,0,0,0,24)
else
(Bu a 18 22).bind fun y=>
(Bu a 0 18).bind fun aa=>
(Cj y).bind fun ab=>
(Ox aa).bind fun ac=>
if(Bb ab (Ad ac:UInt64))then
some (0,0,0,0,0,22)
else
j5 a
def Aet:=Ads Ad5
def Aei(j4:LB→Fe)(a:LB):Fe:=
(Bu a 0 (Dk 4 (Ac a))).bind fun ad=>
(Bu ([84,84,65,49]:LB) 0 (Dk 4 (Ac a))).bind fun ae=>
if(ad !=ae)then
some (0,0,0,0,0,12)
else
j4 a
def Qu:=Aei Aet
def Ad1(a:UInt64)(b:Bool):Option UInt64:=
if b then
some (Tn (Ay a 2) 4823603603198064275)
else
some (Ay a 2)
def Sm:=Ad1
def Afb(j2:UInt64→Bool→Option UInt64)(a:UInt64)(f:Int):Option UInt64:=
if(geq f 1)then
j2 a (!(Jr a 9223372036854775808))
else
j2 a (Jr a 9223372036854775808)
def Zg:=Afb Sm
def Aem(a:UInt64):Option UInt64:=
some a
def Ad2:=Aem
def Rq(j6:UInt64→Option UInt64)(bk4:UInt64→Int→Option UInt64)(b:UInt8)(a:UInt64)(f:Int):Option UInt64:=
if(Ey f 0)then
(Gk (Bb f 0)).bind fun _=>
(Zg a (Fb (Bj (Ad b:Int) f) 2)).bind fun g=>
bk4 g (Bj f 2)
else
j6 a
def Ib(b:UInt8):Nat→UInt64→Int→Option UInt64
|0,_,_=>none
|q+1,a,f=>Rq Ad2 (Ib b q) b a f
def Aqr b:=Ib b Am
def Art(j4:UInt8→UInt64→Int→Option UInt64)(h:UInt64)(b:UInt8):Option UInt64:=
j4 b h 128
def Akm:=Art Aqr
def Aa6(a:UInt64):Option UInt64:=
some a
def Aac:=Aa6
def Np(j6:UInt64→Option UInt64)(bk4:UInt64→Int→Option UInt64)(b:LB)(a:UInt64)(f:Int):Option UInt64:=
if(Bv f (Ac b))then
(getI b f).bind fun g=>
(Akm a g).bind fun h=>
bk4 h (Ae f 1)
else
j6 a
def Gi(b:LB):Nat→UInt64→Int→Option UInt64
|0,_,_=>none
|q+1,a,f=>Np Aac (Gi b q) b a f
def An1 b:=Gi b Am
def Aox(j4:LB→UInt64→Int→Option UInt64)(k:UInt64)(b:LB):Option UInt64:=
j4 b k 0
def Uq:=Aox An1
def Akk(a:LB):Option UInt64:=
(Uq 0 a).bind fun b=>
some b
def Lp(a:LB):Option (LB):=
(Akk a).bind fun b=>
(Cz b 8).bind fun f=>
some f
abbrev Cv:=Option (LI×Int)
def Ae9(f:LI):Cv:=
(Hu f).bind fun h=>
if(Bb h 0)then
some (([]:LI),12)
else
some (f,0)
def Rs:=Ae9
def Rp(j8:LI→Cv)(bk6:Int→LI→Cv)(b:LB)(a g:Int)(f:LI):Cv:=
if(Bv g a)then
(Bu b (Ay 4 g) (Ae (Ay 4 g) 4)).bind fun k=>
(Cj k).bind fun m=>
(Ed f ([(Ad m:Int)]:LI)).bind fun n=>
bk6 (Ae g 1) n
else
j8 f
def Ig(b:LB)(a:Int):Nat→Int→LI→Cv
|0,_,_=>none
|q+1,g,f=>Rp Rs (Ig b a q) b a g f
def Aed b a:=Ig b a Am
def Ad8(j6:LB→Int→Int→LI→Cv)(b:LB)(a:Int):Cv:=
j6 b a 0 ([]:LI)
def Ae0:=Ad8 Aed
def Ad0(j5:LB→Int→Cv)(b:LB)(a:Int):Cv:=
if((Bv a 1)||(Ey a 1000))then
some (([]:LI),2)
else
if(Bv (Ac b) (Ae (Ay 4 a) 4))then
some (([]:LI),24)
else
(Bu b (Ay 4 a) (Ae (Ay 4 a) 4)).bind fun o=>
(Bu b 0 (Ay 4 a)).bind fun p=>
(Cj o).bind fun u=>
(Ox p).bind fun v=>
if(Bb u (Ad v:UInt64))then
some (([]:LI),22)
else
j5 b a
def Qe:=Ad0 Ae0
def Akr(b:UInt64)(a:LB):Option (UInt64×Int):=
if(Ey (Ac a) 100000)then
some (0,4)
else
(Uq b a).bind fun f=>
some (f,0)
def Al6(a:LB):Option (UInt64×Int):=
(Akr 0 a).bind fun(b,f)=>
some (b,f)
def At0(a:LX):Option (LX):=
some a
def At5:=At0
def Ajf(bk6:UInt64→Int→LX→Option (LX))(b:UInt64)(f:Int)(a:LX)(g:Int32):Option (LX):=
(getI a f).bind fun _=>
(Iv a f g).bind fun h=>
bk6 (Bj b 256) (Ae f 1) h
def Wn bk6:=Ajf bk6
def Wj(j8:UInt64→Int→LX→Int32→Option (LX))(j10:LX→Option (LX))(b:UInt64)(f:Int)(a:LX):Option (LX):=
if(Bv f 8)then
if(Ey (Ad (Yd b 256):Int32) 127)then
j8 b f a (Ah (Ad (Yd b 256):Int32) 256)
else
j8 b f a (Ad (Yd b 256):Int32)
else
j10 a
def Hp:Nat→UInt64→Int→LX→Option (LX)
|0,_,_,_=>none
|q+1,b,f,a=>Wj (Wn (Hp q)) At5 b f a
def Avq:=Hp Am
def Av0(j6:UInt64→Int→LX→Option (LX))(k:UInt64):Option (LX):=
j6 k 0 (List.replicate 16 (0:Int32))
def Apb:=Av0 Avq
def Lj(a:LB):Option (LX×Int):=
if(Ey (Ac a) 64)then
some (([(0:Int32),(0:Int32),(0:Int32),(0:Int32),(0:Int32),(0:Int32),(0:Int32),(0:Int32),(0:Int32),(0:Int32),(0:Int32),(0:Int32),(0:Int32),(0:Int32),(0:Int32),(0:Int32)]:LX),2)
else
(Al6 a).bind fun(b,g)=>
(Apb b).bind fun f=>
some (f,0)
def Lq(a:Int):Option Int:=
if(geq a 8)then
some 128
else
if(geq a 16)then
some 32768
else
if(geq a 24)then
some 8388608
else
some 0
def Ajj(a b:Int):Option Int:=
if((Bv a 1)||(Ey a 6))then
some 2
else
(Lq b).bind fun f=>
if(geq f 0)then
some 2
else
some 0
def Wf(a f b:Int):Option Int:=
(Ajj a f).bind fun g=>
if((Bb g 0)||(Bv b 1))then
some 2
else
(Gk (Bb a 0)).bind fun _=>
if(Ey b (Bj 4000 a))then
some 2
else
some 0
def Ug(b:LB):Option (LB):=
(Ox b).bind fun a=>
(Ed ([]:LB) b).bind fun f=>
(Ed f ([(Ad a:UInt8),(Ad (Bk a (GI.toZ (8:UInt64)).toNat):UInt8),(Ad (Bk a (GI.toZ (16:UInt64)).toNat):UInt8),(Ad (Bk a (GI.toZ (24:UInt64)).toNat):UInt8)]:LB)).bind fun g=>
some g
def Mm(a:LB):Option Int:=
if(Bv (Ac a) 5)then
some 24
else
if(Ey (Ac a) 41254)then
some 4
else
(Bu a 0 (Ah (Ac a) 4)).bind fun b=>
(Ug b).bind fun f=>
if(f !=a)then
some 22
else
some 0
def Jv:Option (Int×Int×UInt64×UInt64):=
some (10,10,16384,16384)
def Apz(a:UInt64):Option UInt64:=
some a
def Ap0:=Apz
def Pm(j6:UInt64→Option UInt64)(bk4:UInt64→Int→Option UInt64)(b:Int)(a:UInt64)(f:Int):Option UInt64:=
if(Bv f b)then
bk4 (Ay a 2) (Ae f 1)
else
j6 a
def Hh(b:Int):Nat→UInt64→Int→Option UInt64
|0,_,_=>none
|q+1,a,f=>Pm Ap0 (Hh b q) b a f
def Apx b:=Hh b Am
def Aqh(j4:Int→UInt64→Int→Option UInt64)(b:Int):Option UInt64:=
j4 b 1 0
def En:=Aqh Apx
def Ac0(a g:Int)(h k:UInt64)(b:UInt32):Option Bool:=
(En a).bind fun f=>
some (Bv (Ad b:UInt64) f)
def Yt(a g:Int)(h k:UInt64)(b:UInt32):Option UInt32:=
(En a).bind fun f=>
some (Ad (Ah (Ad b:UInt64) f):UInt32)
abbrev Uk:=Option (Int×UInt64)
def Aef(b:Int)(a f:UInt64):Uk:=
if(Bv b 24)then
(En (Ae b 5)).bind fun g=>
if(Ey (Ah (Ae a f) (Bj a 16)) g)then
some ((Ae b 1),(Ah (Ae a f) (Bj a 16)))
else
some (b,(Ah (Ae a f) (Bj a 16)))
else
some (b,(Ah (Ae a f) (Bj a 16)))
def Rg:=Aef
def Aek(j2:Int→UInt64→UInt64→Uk)(b:Int)(a f:UInt64):Uk:=
if(Ey b 0)then
(En (Ae b 4)).bind fun h=>
if(Bv (Ah (Ae a f) (Bj a 16)) h)then
some ((Ah b 1),(Ah (Ae a f) (Bj a 16)))
else
j2 b a f
else
j2 b a f
def Qz:=Aek Rg
abbrev Po:=Option (Int×Int×UInt64×UInt64)
def Zz(h:UInt32)(f a:Int)(g b:UInt64)(o:Int)(p:UInt64):Po:=
(Qz f g (Ad h:UInt64)).bind fun(aa,ab)=>
some (aa,o,ab,p)
def Oi:=Zz
def Abb(j2:UInt32→Int→Int→UInt64→UInt64→Int→UInt64→Po)(f a:Int)(g b:UInt64)(h:UInt32):Po:=
(Ac0 f a g b h).bind fun u=>
if(!u)then
(
(
(Yt f a g b h).bind fun k=>
(Qz a b (Ad k:UInt64)).bind fun(m,n)=>
j2 h f a g b m n))
else
j2 h f a g b a b
def Ur:=Abb Oi
abbrev Du:=Option (Int×Int×UInt64×UInt64)
def Ano(a b:Int)(f g:UInt64):Du:=
some (a,b,f,g)
def Anl:=Ano
def Yr(j6:Int→Int→UInt64→UInt64→Du)(bk4:Int→Int→Int→UInt64→UInt64→Du)(h:Int)(k:LU)(m a b:Int)(f g:UInt64):Du:=
if(Bv m (Ac k))then
(getI k m).bind fun n=>
(Ur a b f g n).bind fun(o,p,u,v)=>
bk4 (Ae m h) o p u v
else
j6 a b f g
def Jm(h:Int)(k:LU):Nat→Int→Int→Int→UInt64→UInt64→Du
|0,_,_,_,_,_=>none
|q+1,m,a,b,f,g=>Yr Anl (Jm h k q) h k m a b f g
def Ang h k:=Jm h k Am
def Zb(j4:Int→LU→Int→Int→Int→UInt64→UInt64→Du)(h:Int)(k:LU):Du:=
(Jv).bind fun(w,y,aa,ab)=>
(Gk (Bb h 0)).bind fun _=>
j4 h k (Fb (Ac k) h) w y aa ab
def Mn:=Zb Ang
def Ah9(a:Int):Option Int:=
some (Fb a 2)
def Ahe:=Ah9
def Wl(j6:Int→Option Int)(bk4:Int→Int→Option Int)(b a f:Int):Option Int:=
if(Bv f (Fb b 8))then
bk4 (Bj a 2) (Ae f 1)
else
j6 a
def Jw(b:Int):Nat→Int→Int→Option Int
|0,_,_=>none
|q+1,a,f=>Wl Ahe (Jw b q) b a f
def Ahi b:=Jw b Am
def Aho(j4:Int→Int→Int→Option Int)(g:LB)(k b:Int):Option Int:=
(getI g (Bj b 8)).bind fun h=>
j4 b (Ad h:Int) 0
def Iw:=Aho Ahi
abbrev De:=Option (LB×Int)
def Af3(b g a:Int)(f:LB):De:=
(getI f (Bj a 8)).bind fun _=>
(getI f (Bj a 8)).bind fun m=>
(getI f (Bj a 8)).bind fun _=>
(Iv f (Bj a 8) (Ae m (Ad (Ay b g):UInt8))).bind fun n=>
some (n,(Ae a 1))
def Ud:=Af3
def Uf(j8:Int→Int→Int→LB→De)(bk6:Int→Int→De)(b a:Int)(f:LB)(g h:Int):De:=
if(Bv h (Fb a 8))then
bk6 (Ay g 2) (Ae h 1)
else
j8 b g a f
def Jb(b a:Int)(f:LB):Nat→Int→Int→De
|0,_,_=>none
|q+1,g,h=>Uf Ud (Jb b a f q) b a f g h
def Agc b a f:=Jb b a f Am
def Af9(j6:Int→Int→LB→Int→Int→De)(b a:Int)(f:LB):De:=
j6 b a f 1 0
def Tz:=Af9 Agc
def Age(j5:Int→Int→LB→De)(k:LB)(a b:Int):De:=
if(geq (Fb a 8) 0)then
(Ed k ([(0:UInt8)]:LB)).bind fun o=>
j5 b a o
else
j5 b a k
def Tk:=Age Tz
abbrev Db:=Option (LB×Int)
def Amw(a:Int)(b:LB):Db:=
some (b,a)
def Am4:=Amw
def Nh(j6:Int→LB→Db)(bk4:Int→Int→LB→Db)(f:Int)(g:LB)(h k a:Int)(b:LB):Db:=
if(Bv k f)then
(Iw g h k).bind fun m=>
(Tk b a m).bind fun(n,o)=>
bk4 (Ae k 1) o n
else
j6 a b
def Fu(f:Int)(g:LB)(h:Int):Nat→Int→Int→LB→Db
|0,_,_,_=>none
|q+1,k,a,b=>Nh Am4 (Fu f g h q) f g h k a b
def Amm f g h:=Fu f g h Am
def Am2(j4:Int→LB→Int→Int→Int→LB→Db)(g:LB)(h p f:Int):Db:=
j4 f g h p 0 ([]:LB)
def Aeq:=Am2 Amm
def Ap6(a:UInt64):Option UInt64:=
some a
def Ap5:=Ap6
def Px(j6:UInt64→Option UInt64)(bk4:UInt64→Int→Option UInt64)(b:Int)(f:LB)(g:Int)(a:UInt64)(h:Int):Option UInt64:=
if(Jr h 0)then
(Iw f g (Ae b h)).bind fun k=>
bk4 (Ae (Ay 2 a) (Ad k:UInt64)) (Ah h 1)
else
j6 a
def He(b:Int)(f:LB)(g:Int):Nat→UInt64→Int→Option UInt64
|0,_,_=>none
|q+1,a,h=>Px Ap5 (He b f g q) b f g a h
def Ab4 b f g:=He b f g Am
def Ab7(j4:Int→LB→Int→UInt64→Int→Option UInt64)(f:LB)(g b m:Int):Option UInt64:=
j4 b f g 0 (Ah m 1)
def Ok:=Ab7 Ab4
abbrev Fq:=Option (Int×Int)
def Af2(b a:Int)(g:LB)(f:Int):Fq:=
if(geq a 48)then
some (a,(Ae b a))
else
if(Jr (Ae b a) f)then
some ((-1:Int),0)
else
some (a,(Ae (Ae b a) 1))
def Ua:=Af2
def Us(j6:Int→Int→LB→Int→Fq)(bk4:Int→Fq)(b:Int)(g:LB)(f a:Int):Fq:=
if((Bv (Ae b a) f)&&(Bv a 48))then
(Iw g f (Ae b a)).bind fun h=>
if(geq h 1)then
bk4 (Ae a 1)
else
j6 b a g f
else
j6 b a g f
def Jd(b:Int)(g:LB)(f:Int):Nat→Int→Fq
|0,_=>none
|q+1,a=>Us Ua (Jd b g f q) b g f a
def At2 b g f:=Jd b g f Am
def Atx(j4:Int→LB→Int→Int→Fq)(g:LB)(f b:Int):Fq:=
j4 b g f 0
def Al2:=Atx At2
def Zm(b:UInt32)(f:Int):Option Int:=
(En f).bind fun a=>
(Gk (Bb a 0)).bind fun _=>
some (Ad (Dk 48 (Bj (Ad b:UInt64) a)):Int)
abbrev Wg:=Option (UInt32×Int×Int)
def Uu(g a b:Int)(h:LB)(f k:Int):Wg:=
if((Bv a 0)||(Bv (Ah f b) k))then
some (0,0,24)
else
(Ok h f b k).bind fun m=>
if(Bv a 48)then
(En g).bind fun o=>
some ((Ad (Ae (Ay (Ad a:UInt64) o) m):UInt32),(Ae b k),0)
else
(Zm (Ad m:UInt32) g).bind fun p=>
if(Bv p a)then
some (0,0,12)
else
some ((Ad m:UInt32),(Ae b k),0)
def Tw:=Uu
def Af5(j2:Int→Int→Int→LB→Int→Int→Wg)(h:LB)(f n g:Int):Wg:=
if(Jr n f)then
some (0,0,24)
else
(Al2 h f n).bind fun(a,b)=>
if(geq a 48)then
j2 g a b h f 32
else
j2 g a b h f g
def Ack:=Af5 Tw
def Acl(g:LB)(b a f n:Int)(v w:UInt64):Option (UInt32×Int×Int):=
if(Jr a b)then
some (0,0,24)
else
(Iw g b a).bind fun o=>
if(geq o 0)then
if(Bv (Ah (Ah b a) 1) f)then
some (0,0,24)
else
(Ok g b (Ae a 1) f).bind fun p=>
some ((Ad p:UInt32),(Ae (Ae a 1) f),0)
else
(Ack g b (Ae a 1) n).bind fun(h,u,k)=>
if(Bb k 0)then
some (0,0,k)
else
(En f).bind fun m=>
if(Ey (Ae (Ad h:UInt64) m) 4294967295)then
some (0,0,12)
else
some ((Ad (Ae (Ad h:UInt64) m):UInt32),u,0)
abbrev Ba:=Option (LU×Int)
def Aqe(b:LU):Ba:=
some (b,0)
def Aqb:=Aqe
def Ps(j18:LU→Ba)(bk16:Int→Ba)(a:LB)(b:LU)(m:Int):Ba:=
if(Bv m (Ay 8 (Ac a)))then
(Iw a (Ay 8 (Ac a)) m).bind fun n=>
if(Bb n 0)then
some (b,12)
else
bk16 (Ae m 1)
else
j18 b
def Hg(a:LB)(b:LU):Nat→Int→Ba
|0,_=>none
|q+1,m=>Ps Aqb (Hg a b q) a b m
def Ab8 a b:=Hg a b Am
def Aca(j16:LB→LU→Int→Ba)(f:Int)(a:LB)(b:LU):Ba:=
if(Ey (Ah (Ay 8 (Ac a)) f) 7)then
some (b,12)
else
j16 a b f
def Pu:=Aca Ab8
def Ab2(bk10:Int→Int→LU→Ba)(g h:Int)(a:LB)(f k:Int)(b:LU)(o p:Int)(u v:UInt64):Ba:=
(Aeq a (Ay 8 (Ac a)) f (Dk (Ae f 81) (Ay 8 (Ac a)))).bind fun(y,aa)=>
(Acl y aa 0 o p u v).bind fun(ab,ac,w)=>
if(Bb w 0)then
some (b,w)
else
(Ed b ([ab]:LU)).bind fun ad=>
bk10 (Ae f ac) (Ae k 1) ad
def Hj bk10:=Ab2 bk10
def Abk(j13:Int→Int→LU→Int→Int→UInt64→UInt64→Ba)(j15:Int→LB→LU→Ba)(g h:Int)(a:LB)(f k:Int)(b:LU):Ba:=
if(Bv k (Ay h g))then
(Jv).bind fun(n,ae,af,ag)=>
if(Jr k g)then
(Mn g b).bind fun(ah,ai,aj,ak)=>
j13 f k b ah ai aj ak
else
j13 f k b n ae af ag
else
j15 f a b
def Dq(g h:Int)(a:LB):Nat→Int→Int→LU→Ba
|0,_,_,_=>none
|q+1,f,k,b=>Abk (Hj (Dq g h a q) g h a) Pu g h a f k b
def Aqj g h a:=Dq g h a Am
def Aea(j10:Int→Int→LB→Int→Int→LU→Ba)(g h:Int)(a:LB):Ba:=
j10 g h a 0 0 ([]:LU)
def Zw:=Aea Aqj
def Avl(a:Int):Option (Int×Int):=
if(geq a 8)then
some (4,0)
else
if((geq a 16)||(geq a 24))then
some (5,0)
else
some (0,2)
def Azn(a:Int)(b:LX):Option (Int×LX×LX×Int):=
(Avl a).bind fun(g,f)=>
if(Bb f 0)then
some (0,(List.replicate 16 (0:Int32)),(List.replicate 16 (0:Int32)),2)
else
if(geq a 16)then
some (9,b,(List.replicate 16 (0:Int32)),0)
else
some (10,b,(List.replicate 16 (0:Int32)),0)
def Amx(a:Int)(b:LX):Option (Int×Int32×Int×LX×LX×Int):=
(Azn a b).bind fun(f,g,h,k)=>
if(Bb k 0)then
some (0,0,0,(List.replicate 16 (0:Int32)),(List.replicate 16 (0:Int32)),2)
else
some (a,0,f,g,h,0)
def Zq(a:UInt32):Option Int32:=
if(geq (Yd a 2) 0)then
some (Ad (Bj a 2):Int32)
else
some (Ad (Bj (Ax3 (Ae (Ad a:Int) 1)) 2):Int32)
def Bw(a:Int):Option Int32:=
some (Ad (Ad (Ad a:UInt64):UInt32):Int32)
def Agh(a:Int):Option Int32:=
some (Ad a:Int32)
def Af8:=Agh
def Uj(j6:Int→Option Int32)(bk4:Int→Int→Option Int32)(h:Int)(f g:LX)(a b:Int):Option Int32:=
if(Bv b 16)then
(getI f b).bind fun _=>
(getI g b).bind fun _=>
(getI f b).bind fun k=>
(getI g b).bind fun m=>
(Bw (Ay (Ad k:Int) (Ad m:Int))).bind fun n=>
(Bw (Ae a (Ad n:Int))).bind fun o=>
bk4 (Ad o:Int) (Ae b 1)
else
j6 a
def Ja(h:Int)(f g:LX):Nat→Int→Int→Option Int32
|0,_,_=>none
|q+1,a,b=>Uj Af8 (Ja h f g q) h f g a b
def At7 h f g:=Ja h f g Am
def At8(j4:Int→LX→LX→Int→Int→Option Int32)(h:Int)(f g:LX):Option Int32:=
j4 h f g 0 0
def Aml:=At8 At7
def Afc(b:Int)(f g:LX)(a:Int):Option Int32:=
(Aml b f g).bind fun k=>
(Bw (Ae (Ad k:Int) (Bj a 2))).bind fun h=>
(Gk (Bb a 0)).bind fun _=>
(Gk (Bb a 0)).bind fun _=>
if(Bv (Fb (Ad h:Int) a) 0)then
some (Ad (Ah (Bj (Ad h:Int) a) 1):Int32)
else
some (Ad (Bj (Ad h:Int) a):Int32)
def Rk:=Afc
def Aeb(j2:Int→LX→LX→Int→Option Int32)(b:Int)(f g:LX):Option Int32:=
if(geq b 9)then
j2 b f g 512
else
j2 b f g 1024
def Zl:=Aeb Rk
def Aat(a:Int):Option Int32:=
if(geq a 0)then
some 4
else
if(gle a 3)then
some 2
else
some 1
def Qg(a:Int32):Option Int32:=
if(Bv a 0)then
some (-1:Int32)
else
if(Ey a 0)then
some 1
else
some 0
abbrev Dc:=Option (Int×LX×LX)
def Amp(g:Int)(b a:LX):Dc:=
some (g,b,a)
def Amq:=Amp
def Nc(j6:Int→LX→LX→Dc)(bk4:Int→LX→Dc)(h:Int32)(g:Int)(a:LX)(f:Int)(b:LX):Dc:=
if(Bv f 16)then
(getI b f).bind fun _=>
(getI a f).bind fun _=>
(getI b f).bind fun k=>
(getI a f).bind fun m=>
(Aat f).bind fun n=>
(Qg m).bind fun o=>
(Qg h).bind fun p=>
(getI b f).bind fun _=>
(Iv b f (Ae k (Ay (Ay n o) p))).bind fun u=>
bk4 (Ae f 1) u
else
j6 g b a
def Fy(h:Int32)(g:Int)(a:LX):Nat→Int→LX→Dc
|0,_,_=>none
|q+1,f,b=>Nc Amq (Fy h g a q) h g a f b
def Al3 h g a:=Fy h g a Am
def Am6(j4:Int32→Int→LX→Int→LX→Dc)(g:Int)(v a:LX)(h:Int32):Dc:=
j4 h g a 0 v
def Aeu:=Am6 Al3
abbrev Ds:=Option (Int×LX×LX)
def Aa4(b:Int32)(f:Int)(g a:LX):Ds:=
(getI a 0).bind fun _=>
(Iv a 0 b).bind fun k=>
some (f,g,k)
def Aa5:=Aa4
def Oc(j6:Int32→Int→LX→LX→Ds)(bk4:Int→LX→Ds)(b:Int32)(f:Int)(g:LX)(h:Int)(a:LX):Ds:=
if(Ey h 0)then
(getI a (Ah h 1)).bind fun _=>
(getI a (Ah h 1)).bind fun m=>
(getI a h).bind fun _=>
(Iv a h m).bind fun n=>
bk4 (Ah h 1) n
else
j6 b f g a
def Gg(b:Int32)(f:Int)(g:LX):Nat→Int→LX→Ds
|0,_,_=>none
|q+1,h,a=>Oc Aa5 (Gg b f g q) b f g h a
def Ans b f g:=Gg b f g Am
def An6(j4:Int32→Int→LX→Int→LX→Ds)(f:Int)(g o:LX)(b:Int32):Ds:=
j4 b f g 15 o
def Af4:=An6 Ans
def Ro(a:Int)(b f:LX)(g:Int32):Option (Int32×Int×LX×LX):=
(Zl a b f).bind fun k=>
(Bw (Ae (Ad g:Int) (Ad k:Int))).bind fun h=>
(Aeu a b f g).bind fun(m,n,o)=>
(Af4 m n o h).bind fun(p,u,v)=>
some (h,p,u,v)
def Yz(b:Int32)(a:Int):Option Int32:=
(Gk (Bb a 0)).bind fun _=>
(Gk (Bb a 0)).bind fun _=>
if(Bv (Fb (Ay (Ah a 1) (Ad b:Int)) a) 0)then
some (Ad (Ah (Bj (Ay (Ah a 1) (Ad b:Int)) a) 1):Int32)
else
some (Ad (Bj (Ay (Ah a 1) (Ad b:Int)) a):Int32)
def Of:=Yz
def Yp(j2:Int32→Int→Option Int32)(f:Int)(b:Int32):Option Int32:=
if(geq f 5)then
j2 b 32
else
j2 b 16
def Ml:=Yp Of
def Ty(b:Int)(a:Int32)(h:Int)(k m:LX):Option Int:=
if(geq b 8)then
(Ml 4 a).bind fun f=>
some (Ad f:Int)
else
(Ml 5 a).bind fun g=>
some (Ad g:Int)
def Sn(a:Int)(k:Int32)(b:Int)(f g:LX)(m:Int32):Option (Int32×Int×Int32×Int×LX×LX):=
(Ro b f g m).bind fun(n,o,p,u)=>
(Ty a k b f g).bind fun v=>
(Bw (Ae (Ad n:Int) v)).bind fun h=>
some (h,a,h,o,p,u)
def Od(a:Int)(b:LX):Option Int:=
if((Bv a 1)||(Ey a 6))then
some 2
else
if(Ey (Ac b) 4000)then
some 4
else
(Gk (Bb a 0)).bind fun _=>
if(Ey (Fb (Ac b) a) 0)then
some 2
else
some 0
def Amf(b:LX):Option (LX):=
some b
def Amg:=Amf
def Nf(j8:LX→Option (LX))(bk6:Int→LX→Option (LX))(a:LX)(f:Int)(b:LX):Option (LX):=
if(Jr f 0)then
(getI b (Ae f 1)).bind fun _=>
(getI a f).bind fun m=>
(getI b (Ae f 1)).bind fun n=>
(Bw (Ah (Ad n:Int) (Ad m:Int))).bind fun o=>
(getI b f).bind fun _=>
(Iv b f o).bind fun p=>
bk6 (Ah f 1) p
else
j8 b
def Fx(a:LX):Nat→Int→LX→Option (LX)
|0,_,_=>none
|q+1,f,b=>Nf Amg (Fx a q) a f b
def Aly a:=Fx a Am
def Xx(j6:LX→Int→LX→Option (LX))(a g:LX):Option (LX):=
j6 a (Ah (Ac a) 2) g
def Ng:=Xx Aly
def Xa(j5:LX→LX→Option (LX))(a:LX):Option (LX):=
(mkI (Ac a) (0:Int32)).bind fun k=>
(Gk (geq (Ac a) (Ac a))).bind fun _=>
(getI a (Ah (Ac a) 1)).bind fun u=>
(getI k (Ah (Ac a) 1)).bind fun _=>
(Iv k (Ah (Ac a) 1) u).bind fun h=>
if(Ey (Ac a) 1)then
(getI a (Ah (Ac a) 1)).bind fun v=>
(getI a (Ah (Ac a) 2)).bind fun w=>
(Bw (Ae (Ad v:Int) (Bj (Ad w:Int) 2))).bind fun y=>
(getI h (Ah (Ac a) 1)).bind fun _=>
(Iv h (Ah (Ac a) 1) y).bind fun aa=>
j5 a aa
else
j5 a h
def Rz:=Xa Ng
abbrev Ff:=Option (LX×Int)
def Arb(f:LX):Ff:=
some (f,0)
def Asj:=Arb
def Aey(j6:LX→Ff)(bk4:Int→LX→Ff)(a:Int)(b:LX)(g:Int)(f:LX):Ff:=
if(Bv g (Ac b))then
(Bu b g (Ae g a)).bind fun h=>
(Rz h).bind fun k=>
(Ed f k).bind fun m=>
bk4 (Ae g a) m
else
j6 f
def Ll(a:Int)(b:LX):Nat→Int→LX→Ff
|0,_,_=>none
|q+1,g,f=>Aey Asj (Ll a b q) a b g f
def Aqt a b:=Ll a b Am
def Ae1(j4:Int→LX→Int→LX→Ff)(a:Int)(b:LX):Ff:=
(Od a b).bind fun n=>
if(Bb n 0)then
(Od a b).bind fun o=>
some (([]:LX),o)
else
j4 a b 0 ([]:LX)
def Aa2:=Ae1 Aqt
def Ya(a f:Int)(w:LX):Option (LX):=
(Aa2 a w).bind fun(aj,ai)=>
some aj
def Mp:=Ya
def Xs(bk18:Int→LX→Option (LX))(b:LU)(a f:Int)(g:LX)(h:Int)(m:LX):Option (LX):=
bk18 (Ae h 1) m
def Xb bk18:=Xs bk18
def Xy(bk26:Int→LX→Int→Int32→Int→LX→LX→Option (LX))(b:LU)(h a f:Int)(g:LX)(k:Int)(af:LX)(y:Int)(aa:Int32)(ab:Int)(ac ad:LX):Option (LX):=
bk26 (Ae k a) af y aa ab ac ad
def Xv bk26:=Xy bk26
def Xn(j30:Int→LX→Int→Int32→Int→LX→LX→Option (LX))(b:LU)(h a f:Int)(g:LX)(k:Int)(ae:Int32)(m:LX)(n:Int)(o:Int32)(p:Int)(u v:LX)(y:Int)(aa:Int32)(ab:Int)(ac ad:LX):Option (LX):=
(getI m k).bind fun _=>
(Iv m k ae).bind fun af=>
j30 k af y aa ab ac ad
def Xr bk26 b h a f g:=Xn (Xv bk26 b h a f g) b h a f g
def Xt(j29:Int→Int32→LX→Int→Int32→Int→LX→LX→Int→Int32→Int→LX→LX→Option (LX))(j32:Int→LX→Option (LX))(b:LU)(a f:Int)(g:LX)(h k:Int)(m:LX)(n:Int)(o:Int32)(p:Int)(u v:LX):Option (LX):=
if(Bv k (Ac b))then
(getI b k).bind fun ah=>
(
(Zq ah).bind fun ag=>
(
(Sn n o p u v ag).bind fun(ae,y,aa,ab,ac,ad)=>
j29 k ae m n o p u v y aa ab ac ad))
else
j32 h m
def Ik(bk18:Int→LX→Option (LX))(b:LU)(a f:Int)(g:LX)(h:Int):Nat→Int→LX→Int→Int32→Int→LX→LX→Option (LX)
|0,_,_,_,_,_,_,_=>none
|q+1,k,m,n,o,p,u,v=>Xt (Xr (Ik bk18 b a f g h q) b h a f g) (Xb bk18 b a f g) b a f g h k m n o p u v
def Xm bk18 b a f g h:=Ik bk18 b a f g h Am
def Mo(j26:Int→Int→LX→Int→Int32→Int→LX→LX→Option (LX))(j34:Int→Int→LX→Option (LX))(b:LU)(a f:Int)(g:LX)(h:Int)(w:LX):Option (LX):=
if(Bv h a)then
(Amx f g).bind fun(ak,ai,al,am,an,aq)=>
j26 h h w ak ai al am an
else
j34 a f w
def Ee(b:LU)(a f:Int)(g:LX):Nat→Int→LX→Option (LX)
|0,_,_=>none
|q+1,h,w=>Mo (Xm (Ee b a f g q) b a f g) Mp b a f g h w
def Xj b a f g:=Ee b a f g Am
def Aa9(j18:LU→Int→Int→LX→Int→LX→Option (LX))(a f:Int)(g:LX)(b:LU):Option (LX):=
(mkI (Ac b) (0:Int32)).bind fun ao=>
(Gk (geq (Ac b) (Ac b))).bind fun _=>
j18 b a f g 0 ao
def Mi:=Aa9 Xj
def Ap1:Option Int:=
some 0
def Apv:=Ap1
def Fj(j6:Option Int)(bk4:Int→Option Int)(a:LX)(b f:Int):Option Int:=
if(Bv f (Ac a))then
(getI a f).bind fun g=>
if(Bv (Ad g:Int) (Ax3 b))then
some 16
else
(getI a f).bind fun h=>
if(Jr (Ad h:Int) b)then
some 16
else
bk4 (Ae f 1)
else
j6
def By(a:LX)(b:Int):Nat→Int→Option Int
|0,_=>none
|q+1,f=>Fj Apv (By a b q) a b f
def Apu a b:=By a b Am
def Kl(j4:LX→Int→Int→Option Int)(k:Int)(a:LX):Option Int:=
(Lq k).bind fun b=>
if(geq b 0)then
some 2
else
if(Ey (Ac a) 4000)then
some 4
else
j4 a b 0
def cadenzaref18_Check:=Kl Apu
def Ul(g f:Int)(a:LX):Option (LX×Int):=
(cadenzaref18_Check f a).bind fun b=>
if(Bb b 0)then
some (([]:LX),b)
else
some (a,0)
abbrev Pp:=Option (LX×Int)
def Nx(f a b:Int)(g:LX)(h:LU):Pp:=
if(Bb f 0)then
some (([]:LX),f)
else
(
(
(Mi a b g h).bind fun m=>
(Ul a b m).bind fun(n,o)=>
some (n,o)))
def Og:=Nx
def Yf(j2:Int→Int→Int→LX→LU→Pp)(a b:Int)(g:LX)(p:Int)(k:LB):Pp:=
(Wf a b p).bind fun y=>
if(Bb y 0)then
some (([]:LX),2)
else
(Mm k).bind fun aa=>
if(Bb aa 0)then
(Mm k).bind fun ab=>
some (([]:LX),ab)
else
(Bu k 0 (Ah (Ac k) 4)).bind fun ac=>
(Zw a p ac).bind fun(h,f)=>
j2 f a b g h
def cadenzaref21_Decode:=Yf Og
def Um(a b:Int):Option (LB):=
if(geq a 24)then
(Ed ([(Ad (Fb b 256):UInt8),(Ad (Fb (Bj b 256) 256):UInt8)]:LB) ([(Ad (Bj b 65536):UInt8)]:LB)).bind fun g=>
some g
else
some ([(Ad (Fb b 256):UInt8),(Ad (Fb (Bj b 256) 256):UInt8)]:LB)
def Jc:=Um
def Agg(j2:Int→Int→Option (LB))(a:Int)(f:Int32):Option (LB):=
if(geq a 8)then
some ([(Ad (Ae (Ad f:Int) 128):UInt8)]:LB)
else
if(Bv (Ad f:Int) 0)then
(Lq a).bind fun h=>
j2 a (Ae (Ad f:Int) (Ay 2 h))
else
j2 a (Ad f:Int)
def Ach:=Agg Jc
abbrev Ej:=Option (LB×Int)
def Aqg(b:LB):Ej:=
some (b,0)
def Apw:=Aqg
def Pq(j6:LB→Ej)(bk4:Int→LB→Ej)(f:Int)(a:LX)(g:Int)(b:LB):Ej:=
if(Bv g (Ac a))then
(getI a g).bind fun h=>
(Ach f h).bind fun k=>
(Ed b k).bind fun m=>
bk4 (Ae g 1) m
else
j6 b
def Hf(f:Int)(a:LX):Nat→Int→LB→Ej
|0,_,_=>none
|q+1,g,b=>Pq Apw (Hf f a q) f a g b
def Aqa f a:=Hf f a Am
def Abz(j4:Int→LX→Int→LB→Ej)(f:Int)(a:LX):Ej:=
(cadenzaref18_Check f a).bind fun n=>
if(Bb n 0)then
(cadenzaref18_Check f a).bind fun o=>
some (([]:LB),o)
else
j4 f a 0 ([]:LB)
def We:=Abz Aqa
abbrev Fg:=Option (Int×Int)
def Sd(a:LB)(f g:Int)(b h:LB)(k:Int):Fg:=
if(Bv (Ac a) k)then
some (0,24)
else
if(b==h)then
(Bu a (Ah (Ac a) k) (Ae (Ah (Ac a) k) 32)).bind fun o=>
(Qq f g).bind fun p=>
if(o !=p)then
some (0,12)
else
some (k,0)
else
some (k,0)
def Sp:=Sd
def So(j6:LB→Int→Int→LB→LB→Int→Fg)(a:LB)(f g:Int)(b h:LB):Fg:=
if(b==h)then
j6 a f g b h (Ae (Ae 32 f) 32)
else
j6 a f g b h (Ae 32 f)
def Td:=So Sp
def Aep(j5:LB→Int→Int→LB→LB→Fg)(a:LB):Fg:=
(Bu a (Ah (Ac a) 32) (Ac a)).bind fun b=>
(Qc b).bind fun(f,g,n)=>
if(!n)then
some (0,12)
else
(Il f g true).bind fun h=>
(
if(!(b==h))then
(Il f g false).bind fun m=>
if(b !=m)then
some (0,12)
else
j5 a f g b h
else
j5 a f g b h)
def Adx:=Aep Td
def Ae5(j4:LB→Fg)(a:LB):Fg:=
if(Bv (Ac a) 32)then
some (0,6)
else
(Bu a (Ah (Ac a) 32) (Ae (Ah (Ac a) 32) 8)).bind fun u=>
if(u !=([65,80,69,84,65,71,69,88]:LB))then
some (0,6)
else
j4 a
def Yg:=Ae5 Adx
abbrev Dr:=Option (Int×Int)
def Ana(a:Int):Dr:=
some (a,0)
def An9:=Ana
def Aam(j6:Int→Dr)(bk4:LB→Int→Dr)(b:LB)(a:Int):Dr:=
if(Ey (Ac b) 0)then
(Yg b).bind fun(g,h)=>
if(Bb h 0)then
some (0,38)
else
(Bu b 0 (Ah (Ac b) g)).bind fun k=>
bk4 k (Ae a 1)
else
j6 a
def Ji:Nat→LB→Int→Dr
|0,_,_=>none
|q+1,b,a=>Aam An9 (Ji q) b a
def An3:=Ji Am
def Aaj(j4:LB→Int→Dr)(f:LB):Dr:=
if(Ey (Ac f) 4000)then
some (0,38)
else
j4 f 0
def Uo:=Aaj An3
abbrev Hn:=Option (Int×Int×Int×Int×Int×Int×LI×Int)
def Aab(m n b h k f g:Int)(o:LI):Hn:=
if(Bb n 0)then
some (0,0,0,0,0,0,([]:LI),n)
else
some (b,h,k,f,g,(Ae (Ae m (Ay 4 (Ac o))) 4),o,0)
def Abd:=Aab
def Aag(j4:Int→Int→Int→Int→Int→Int→Int→LI→Hn)(a:LB)(b h k f g m:Int):Hn:=
(Bu a m (Ac a)).bind fun y=>
(Ek f g).bind fun aa=>
(Qe y (Ac aa)).bind fun(o,n)=>
j4 m n b h k f g o
def Je:=Aag Abd
def Nt(j3:LB→Int→Int→Int→Int→Int→Int→Hn)(a u:LB):Hn:=
if(Ey (Ac a) 100000)then
some (0,0,0,0,0,0,([]:LI),4)
else
(Nm a).bind fun(p,v)=>
if(Bb v 0)then
some (0,0,0,0,0,0,([]:LI),v)
else
(Bu a p (Ac a)).bind fun ab=>
(Qu ab).bind fun(b,h,k,f,g,w)=>
if(Bb w 0)then
some (0,0,0,0,0,0,([]:LI),w)
else
if((u==([]:LB)) !=(geq b 1))then
some (0,0,0,0,0,0,([]:LI),26)
else
if(geq b 2)then
if(Bv (Ah (Ac a) (Ae p 22)) 8)then
some (0,0,0,0,0,0,([]:LI),24)
else
(Bu a (Ae p 22) (Ae (Ae p 22) 8)).bind fun ac=>
(Lp u).bind fun ad=>
if(ac !=ad)then
some (0,0,0,0,0,0,([]:LI),26)
else
j3 a b h k f g (Ae (Ae p 22) 8)
else
j3 a b h k f g (Ae p 22)
def cadenzaref40_Opened:=Nt Je
def Ap9(a:Int):Option Int:=
some a
def Apy:=Ap9
def Pj(j6:Int→Option Int)(bk4:Int→Int→Option Int)(b h k m n o f:Int)(g:LI)(a p:Int):Option Int:=
if(Bv p b)then
(getI g p).bind fun u=>
bk4 (Ae a u) (Ae p 1)
else
j6 a
def Hm(b h k m n o f:Int)(g:LI):Nat→Int→Int→Option Int
|0,_,_=>none
|q+1,a,p=>Pj Apy (Hm b h k m n o f g q) b h k m n o f g a p
def Ap7 b h k m n o f g:=Hm b h k m n o f g Am
def Ap3(j4:Int→Int→Int→Int→Int→Int→Int→LI→Int→Int→Option Int)(h k m n o f:Int)(g:LI)(b:Int):Option Int:=
j4 b h k m n o f g f 0
def Ag7:=Ap3 Ap7
abbrev Wu:=Option (LB×Int)
def Ui(p:LX)(m n g b h k o:Int)(a:LI):Wu:=
if(Bb m 0)then
some (([]:LB),m)
else
(We b p).bind fun(af,ai)=>
some (af,0)
def Un:=Ui
def Ut(j2:LX→Int→Int→Int→Int→Int→Int→Int→LI→Wu)(v y:LB)(n g b h k o:Int)(a:LI)(f:Int):Wu:=
(Ag7 n g b h k o a f).bind fun u=>
(getI a f).bind fun aa=>
if(Bv (Ah (Ac v) u) aa)then
some (([]:LB),24)
else
(Lj y).bind fun(ab,ag)=>
(getI a f).bind fun ac=>
(Bu v u (Ae u ac)).bind fun ad=>
(
(Ek h k).bind fun w=>
(getI w f).bind fun _=>
(getI w f).bind fun ae=>
(cadenzaref21_Decode g b ab ae ad).bind fun(p,m)=>
j2 p m n g b h k o a)
def cadenzaref40_Got:=Ut Un
abbrev As:=Option (LX×Int)
def Akv(h:LX):As:=
some (h,0)
def Ale:=Akv
def Vn(bk16:Int→LX→As)(a:Int)(b:LB)(f g:Int)(n:LX):As:=
bk16 (Ae g (Bj a 8)) n
def Mf bk16:=Vn bk16
def Vl(j28:Int→LX→As)(a:Int)(b:LB)(f g k:Int)(h:LX):As:=
if(geq a 8)then
(Ed h ([(Ad (Ah k 128):Int32)]:LX)).bind fun o=>
j28 g o
else
if(Jr k f)then
(Ed h ([(Ad (Ah k (Ay 2 f)):Int32)]:LX)).bind fun p=>
j28 g p
else
(Ed h ([(Ad k:Int32)]:LX)).bind fun u=>
j28 g u
def Hy bk16 a b f:=Vl (Mf bk16 a b f) a b f
def Ly(j27:Int→Int→LX→As)(bk25:Int→Int→As)(a:Int)(b:LB)(f g:Int)(h:LX)(k m:Int):As:=
if(Jr m 0)then
(getI b (Ae g m)).bind fun v=>
bk25 (Ae (Ay 256 k) (Ad v:Int)) (Ah m 1)
else
j27 g k h
def Cp(bk16:Int→LX→As)(a:Int)(b:LB)(f g:Int)(h:LX):Nat→Int→Int→As
|0,_,_=>none
|q+1,k,m=>Ly (Hy bk16 a b f) (Cp bk16 a b f g h q) a b f g h k m
def Uv bk16 a b f g h:=Cp bk16 a b f g h Am
def Ma(j25:Int→LX→Int→Int→As)(j30:LX→As)(a:Int)(b:LB)(f g:Int)(h:LX):As:=
if(Bv g (Ac b))then
j25 g h 0 (Ah (Bj a 8) 1)
else
j30 h
def Cb(a:Int)(b:LB)(f:Int):Nat→Int→LX→As
|0,_,_=>none
|q+1,g,h=>Ma (Uv (Cb a b f q) a b f) Ale a b f g h
def Vq a b f:=Cb a b f Am
def Xf(j16:Int→LB→Int→Int→LX→As)(a:Int)(b:LB):As:=
(Lq a).bind fun f=>
if(geq f 0)then
some (([]:LX),2)
else
(Gk (Bb (Bj a 8) 0)).bind fun _=>
if(Ey (Fb (Ac b) (Bj a 8)) 0)then
some (([]:LX),12)
else
(Gk (Bb (Bj a 8) 0)).bind fun _=>
if(Ey (Bj (Ac b) (Bj a 8)) 4000)then
some (([]:LX),4)
else
j16 a b f 0 ([]:LX)
def Rr:=Xf Vq
def Aid(a:LB):Option (Int×Int×Int×Int×Int×Int×Int):=
if(Ey (Ac a) 100000)then
some (0,0,0,0,0,0,4)
else
(Nm a).bind fun(b,f)=>
if(Bb f 0)then
some (0,0,0,0,0,0,f)
else
(Bu a b (Ac a)).bind fun g=>
(Qu g).bind fun(h,k,m,n,o,p)=>
some (b,h,k,m,n,o,p)
def Af7(f:LB)(a g m n o p:Int)(b:LB):Option (Int×Int):=
if((b==([]:LB)) !=(geq g 1))then
some (0,26)
else
if(b==([]:LB))then
some (a,0)
else
if(Bv (Ac f) (Ae a 8))then
some (0,24)
else
(Bu f a (Ae a 8)).bind fun h=>
(Lp b).bind fun k=>
if(h !=k)then
some (0,26)
else
some ((Ae a 8),0)
def Wi(a:LB)(b o p u f g:Int):Option (LI×Int):=
(Bu a b (Ac a)).bind fun h=>
(Ek f g).bind fun k=>
(Qe h (Ac k)).bind fun(m,n)=>
some (m,n)
abbrev Cu:=Option (Int×Int×Int×LX×Int)
def Abn(a:LB)(n b f g:Int)(v:LX):Cu:=
(Bu a n (Ac a)).bind fun af=>
(Uo af).bind fun(ao,ag)=>
if(Bb ag 0)then
some (0,0,0,([]:LX),38)
else
some (b,f,g,v,0)
def Abo:=Abn
def Abj(bk7:Int→Int→LX→Cu)(a:LB)(o b f g k:Int)(h p:LI)(u:LX)(n m:Int)(y:LX)(w:Int)(v:LX):Cu:=
if(Bb w 0)then
some (0,0,0,([]:LX),w)
else
(Ed v y).bind fun ah=>
(getI h m).bind fun _=>
(getI h m).bind fun ai=>
bk7 (Ae n ai) (Ae m 1) ah
def Abu bk7:=Abj bk7
def Rw(j10:Int→Int→LX→Int→LX→Cu)(j12:LB→Int→Int→Int→Int→LX→Cu)(a:LB)(o b f g k:Int)(h p:LI)(u:LX)(n m:Int)(v:LX):Cu:=
if(Bv m (Ac h))then
(getI h m).bind fun _=>
(getI h m).bind fun aj=>
if(Bv (Ah (Ac a) n) aj)then
some (0,0,0,([]:LX),24)
else
(getI p m).bind fun _=>
(getI h m).bind fun _=>
(getI p m).bind fun ak=>
(getI h m).bind fun al=>
(Bu a n (Ae n al)).bind fun am=>
(cadenzaref21_Decode b f u ak am).bind fun(y,w)=>
j10 n m y w v
else
j12 a n b f g v
def If(a:LB)(o b f g k:Int)(h p:LI)(u:LX):Nat→Int→Int→LX→Cu
|0,_,_,_=>none
|q+1,n,m,v=>Rw (Abu (If a o b f g k h p u q) a o b f g k h p u) Abo a o b f g k h p u n m v
def Ae8 a o b f g k h p u:=If a o b f g k h p u Am
def Aez(j7:LB→Int→Int→Int→Int→Int→LI→LI→LX→Int→Int→LX→Cu)(a aa:LB):Cu:=
if(Ey (Ac aa) 64)then
some (0,0,0,([]:LX),2)
else
(Aid a).bind fun(an,o,b,f,g,k,ab)=>
if(Bb ab 0)then
some (0,0,0,([]:LX),ab)
else
(Af7 a (Ae an 22) o b f g k aa).bind fun(ac,ad)=>
if(Bb ad 0)then
some (0,0,0,([]:LX),ad)
else
(Wi a ac o b f g k).bind fun(h,ae)=>
if(Bb ae 0)then
some (0,0,0,([]:LX),ae)
else
(Ek g k).bind fun p=>
(Lj aa).bind fun(u,ap)=>
j7 a o b f g k h p u (Ae ac (Ae (Ay 4 (Ac h)) 4)) 0 ([]:LX)
def Gq:=Aez Ae8
end Go.Pl
