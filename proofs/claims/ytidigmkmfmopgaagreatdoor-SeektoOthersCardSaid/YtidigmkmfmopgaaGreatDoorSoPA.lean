/- A part of the proof of a statement of this seat (see the text that ends in Proof): SoPure. No conditions of its own. -/
import Derived.Test.YtidigmkmfmopgaaGreatDoorSoBA
set_option linter.unusedVariables false
namespace Go.Pl
open Go Go.Lv
abbrev LB:=List UInt8
abbrev LI:=List Int
abbrev LX:=List Int32
abbrev LU:=List UInt32
abbrev LQ:=List UInt64
def Acu(a b f:Int)(g:LX):Option (Int×Int):=
some (a,b)
abbrev Als:=Option (Int32×Int32×Int)
def Aru(a:Int)(b:Bool):Als:=
if b then
(Gw (Jt (Ah a 1) 0)).bind fun _=>
some ((Aw7 (Cn (1:Int32) (GI.toZ (Ah a 1)).toNat)),(Ah (Cn (1:Int32) (GI.toZ (Ah a 1)).toNat) 1),0)
else
some (0,0,2)
def Ah9:=Aru
def Ajc(j2:Int→Bool→Als)(a:Int):Als:=
if(geq a 8)then
j2 a (geq a 8)
else
if(geq a 16)then
j2 a (geq a 16)
else
j2 a (geq a 24)
def Ny:=Ajc Ah9
def Ep(a b:Int):Option Int:=
(Ny b).bind fun(g,h,f)=>
if(((Bf f 0)||(Bw a 1))||(Ez a 6))then
some 2
else
some 0
def Lm(a:Int):Option (Int×Int):=
if((Bw a 1)||(Ez a 1048576))then
some (0,2)
else
some ((Auq 1 (Bs (Bg 256 a) 245)),0)
def Fh(g b:Int):Option (Int×Int):=
(Lm g).bind fun(a,f)=>
if(Bf f 0)then
some (0,f)
else
if((Bw b 1)||(Ez b 4000))then
some (0,2)
else
(Gw (Bf a 0)).bind fun _=>
if(Ez (Bs (Ah (Ad b a) 1) a) 1000)then
some (0,4)
else
some ((Bs (Ah (Ad b a) 1) a),0)
def Acp(a g f:Int)(h:LX)(b:Int):Option Int:=
(Acu a g f h).bind fun(k,m)=>
(Ep k m).bind fun n=>
if((Bf n 0)||(Bw b 1))then
some 8
else
(Gw (Bf a 0)).bind fun _=>
if(Ez b (Bs 4000 a))then
some 8
else
(Fh f b).bind fun(p,o)=>
if(Bf o 0)then
some 8
else
some 0
def Bfi:Option Int:=
some 0
def Atj:=Bfi
def Zb(j6:Option Int)(bk4:Int→Option Int)(b f:Int32)(a:LX)(g:Int):Option Int:=
if(Bw g (Ac a))then
(getI a g).bind fun h=>
if((Bw h b)||(Ez h f))then
some 16
else
bk4 (Ad g 1)
else
j6
def Nj(b f:Int32)(a:LX):Nat→Int→Option Int
|0,_=>none
|q+1,g=>Zb Atj (Nj b f a q) b f a g
def Atg b f a:=Nj b f a Ao
def Aia(j4:Int32→Int32→LX→Int→Option Int)(m:Int)(a:LX):Option Int:=
(Ny m).bind fun(b,f,k)=>
if(Bf k 0)then
some k
else
if(Ez (Ac a) 4000)then
some 4
else
j4 b f a 0
def Rs:=Aia Atg
def Cz(a f h:Int)(b:LX):Option Int:=
if(Bw a 1)then
some 8
else
(Gw (Bf a 0)).bind fun _=>
if(Bf (Ew (Ac b) a) 0)then
some 8
else
(Gw (Bf a 0)).bind fun _=>
(Acp a f h b (Bs (Ac b) a)).bind fun g=>
if(Bf g 0)then
some g
else
(Rs f b).bind fun k=>
if(Bf k 0)then
some 8
else
some 0
abbrev Al5:=Option (Int×Int×Int×Int×Int×Int)
def Asp(h:LB)(a b f:Int)(g:LX):Al5:=
if(h !=([]:LB))then
some (2,a,b,f,(Bs (Ac g) a),0)
else
some (1,a,b,f,(Bs (Ac g) a),0)
def Aiy:=Asp
def Zv(j2:LB→Int→Int→Int→LX→Al5)(a b f:Int)(g:LX)(h:LB):Al5:=
(Cz a b f g).bind fun k=>
if(Bf k 0)then
some (0,0,0,0,0,k)
else
if(Ez (Ac h) 64)then
some (0,0,0,0,0,2)
else
(Gw (Bf a 0)).bind fun _=>
(
j2 h a b f g)
def Ak8:=Zv Aiy
abbrev Bj:=Option (UInt64×Int)
def Asg(h:UInt64):Bj:=
some (h,0)
def Ajr:=Asg
def Ahz(j30:UInt64→Bj)(h b:UInt64)(a:LB)(f:LQ):Bj:=
j30 h
def Ahx:=Ahz Ajr
def Zg(j29:UInt64→UInt64→LB→LQ→Bj)(bk27:UInt64→Int→Bj)(a:LB)(b:UInt64)(f:LQ)(h:UInt64)(m:Int):Bj:=
if(Bw m (Ac a))then
(getI a m).bind fun p=>
Option.bind (getI f (GI.toZ (Nn (Ae (Bl h (GI.toZ (56:UInt64)).toNat):UInt8) p))) fun _=>
Option.bind (getI f (GI.toZ (Nn (Ae (Bl h (GI.toZ (56:UInt64)).toNat):UInt8) p))) fun u=>
bk27 (Nn (Cn h (GI.toZ (8:UInt64)).toNat) u) (Ad m 1)
else
j29 h b a f
def Mw(a:LB)(b:UInt64)(f:LQ):Nat→UInt64→Int→Bj
|0,_,_=>none
|q+1,h,m=>Zg Ahx (Mw a b f q) a b f h m
def Ahp a b f:=Mw a b f Ao
def Ah6(j27:LB→UInt64→LQ→UInt64→Int→Bj)(b:UInt64)(a:LB)(f:LQ):Bj:=
j27 a b f b 0
def Aak:=Ah6 Ahp
def Art(bk16:Int→LQ→Bj)(b:UInt64)(a:LB)(g:Int)(o:LQ):Bj:=
bk16 (Ad g 1) o
def Aif bk16:=Art bk16
def Ahe(j24:Int→LQ→Bj)(b:UInt64)(a:LB)(g:Int)(k:UInt64)(f:LQ):Bj:=
(getI f g).bind fun _=>
(Ia f g k).bind fun o=>
j24 g o
def Zl bk16 b a:=Ahe (Aif bk16 b a) b a
def Yd(j23:Int→UInt64→LQ→Bj)(bk21:UInt64→Int→Bj)(b:UInt64)(a:LB)(g:Int)(f:LQ)(k:UInt64)(n:Int):Bj:=
if(Bw n 8)then
bk21 (Nn (Cn k (GI.toZ (1:UInt64)).toNat) (Bg 4823603603198064275 (Bl k (GI.toZ (63:UInt64)).toNat))) (Ad n 1)
else
j23 g k f
def Nw(bk16:Int→LQ→Bj)(b:UInt64)(a:LB)(g:Int)(f:LQ):Nat→UInt64→Int→Bj
|0,_,_=>none
|q+1,k,n=>Yd (Zl bk16 b a) (Nw bk16 b a g f q) b a g f k n
def Ai0 bk16 b a g f:=Nw bk16 b a g f Ao
def Aay(j21:Int→LQ→UInt64→Int→Bj)(j26:UInt64→LB→LQ→Bj)(b:UInt64)(a:LB)(g:Int)(f:LQ):Bj:=
if(Bw g 256)then
j21 g f (Cn (Ae g:UInt64) (GI.toZ (56:UInt64)).toNat) 0
else
j26 b a f
def Kn(b:UInt64)(a:LB):Nat→Int→LQ→Bj
|0,_,_=>none
|q+1,g,f=>Aay (Ai0 (Kn b a q) b a) Aak b a g f
def Aiz b a:=Kn b a Ao
def Alr(j16:UInt64→LB→Int→LQ→Bj)(b:UInt64)(a:LB):Bj:=
if(Ez (Ac a) 100000)then
some (0,4)
else
j16 b a 0 (List.replicate 256 (0:UInt64))
def Aoz:=Alr Aiz
def Amr(a:LB):Option (UInt64×Int):=
(Aoz 0 a).bind fun(b,f)=>
some (b,f)
def Bp2(a:LX):Option (LX):=
some a
def Bff:=Bp2
def Aoi(j6:LX→Option (LX))(bk4:Int→LX→Option (LX))(f:UInt64)(b:Int)(a:LX):Option (LX):=
if(Bw b 8)then
(Gw (Jt (Bg 8 b) 0)).bind fun _=>
(getI a b).bind fun _=>
(Ia a b (Ae (Ae (Bl f (GI.toZ (Bg 8 b)).toNat):Int8):Int32)).bind fun g=>
bk4 (Ad b 1) g
else
j6 a
def Ac1(f:UInt64):Nat→Int→LX→Option (LX)
|0,_,_=>none
|q+1,b,a=>Aoi Bff (Ac1 f q) f b a
def Bdv f:=Ac1 f Ao
def Bct(j4:UInt64→Int→LX→Option (LX))(f:UInt64):Option (LX):=
j4 f 0 (List.replicate 16 (0:Int32))
def Bkj:=Bct Bdv
def Xb(a:LB):Option (LX×Int):=
if(Ez (Ac a) 64)then
some (([(0:Int32),(0:Int32),(0:Int32),(0:Int32),(0:Int32),(0:Int32),(0:Int32),(0:Int32),(0:Int32),(0:Int32),(0:Int32),(0:Int32),(0:Int32),(0:Int32),(0:Int32),(0:Int32)]:LX),2)
else
(Amr a).bind fun(f,b)=>
if(Bf b 0)then
some (([(0:Int32),(0:Int32),(0:Int32),(0:Int32),(0:Int32),(0:Int32),(0:Int32),(0:Int32),(0:Int32),(0:Int32),(0:Int32),(0:Int32),(0:Int32),(0:Int32),(0:Int32),(0:Int32)]:LX),b)
else
(Bkj f).bind fun g=>
some (g,0)
def Ae8(a b:UInt64):Option (UInt64×UInt64):=
some ((Ad (Ad (Bg (Bl a (GI.toZ (32:UInt64)).toNat) (Bl b (GI.toZ (32:UInt64)).toNat)) (Bl (Ad (Bg (Bl a (GI.toZ (32:UInt64)).toNat) (Cx b 4294967295)) (Bl (Bg (Cx a 4294967295) (Cx b 4294967295)) (GI.toZ (32:UInt64)).toNat)) (GI.toZ (32:UInt64)).toNat)) (Bl (Ad (Cx (Ad (Bg (Bl a (GI.toZ (32:UInt64)).toNat) (Cx b 4294967295)) (Bl (Bg (Cx a 4294967295) (Cx b 4294967295)) (GI.toZ (32:UInt64)).toNat)) 4294967295) (Bg (Cx a 4294967295) (Bl b (GI.toZ (32:UInt64)).toNat))) (GI.toZ (32:UInt64)).toNat)),(Bg a b))
def Ac4(a b:UInt64):Option (UInt64×UInt64):=
(Ae8 a b).bind fun(f,g)=>
some (f,g)
def Le(a:LI):Option (LI):=
some a
def Gy:=Le
def Fi(j10:LI→Option (LI))(bk8:Int→LI→Option (LI))(b:Int)(a:LI):Option (LI):=
if(Bw b (Ac a))then
(
(vwI (Ac a) b (Ac a)).bind fun _=>
(vwI (Ac a) 0 b).bind fun _=>
bk8 (Ad b (Ajj ((Ac a)-b) (Ajv a 0 (b-(0:Int))).length)) (Ql a b ((Ac a)-b) (Ajv a 0 (b-(0:Int)))))
else
j10 a
def Dm:Nat→Int→LI→Option (LI)
|0,_,_=>none
|q+1,b,a=>Fi Gy (Dm q) b a
def Mi:=Dm Ao
def Mh(j8:Int→LI→Option (LI))(f:LI)(g:UInt64):Option (LI):=
(mkI (Ae g:Int) (0:Int)).bind fun k=>
(Gw (geq (Ae g:Int) (Ae g:Int))).bind fun _=>
j8 (Ajj (Ac k) f.length) (Bd9 k f)
def Mj:=Mh Mi
def Ml(j7:LI→UInt64→Option (LI))(f:LI)(h:Int):Option (LI):=
(Ac4 (Ae (Ac f):UInt64) (Ae h:UInt64)).bind fun(m,g)=>
if((Ez m 0)||(Ez g 9223372036854775807))then
none
else
j7 f g
def Lz:=Ml Mj
def Ly(j6:LI→Int→Option (LI))(f:LI)(h:Int):Option (LI):=
if(Bw h 0)then
none
else
j6 f h
def Kv:=Ly Lz
def Aju(f:LI):Option (LI):=
some f
def Tk:=Aju
def Ey(j16:LI→Option (LI))(bk14:Int→LI→Option (LI))(a:List LI)(g:Int)(f:LI):Option (LI):=
if(Bw g (Ac a))then
(getI a g).bind fun o=>
(Fj f o).bind fun p=>
bk14 (Ad g 1) p
else
j16 f
def Dd(a:List LI):Nat→Int→LI→Option (LI)
|0,_,_=>none
|q+1,g,f=>Ey Tk (Dd a q) a g f
def Lb a:=Dd a Ao
def Lc(j14:(List LI)→Int→LI→Option (LI))(a:List LI)(k:LI):Option (LI):=
j14 a 0 k
def Ha:=Lc Lb
def Ld(j13:(List LI)→LI→Option (LI))(b:Int)(a:List LI):Option (LI):=
if(Ez (Ah b (Ah (0:Int) (0:Int))) 0)then
(vwI 0 0 0).bind fun _=>
(mkI (Ah b (Ah (0:Int) (0:Int))) (0:Int)).bind fun u=>
(Fj ([]:LI) u).bind fun m=>
(vwI (Ac m) 0 0).bind fun _=>
j13 a (Ajv m 0 ((0:Int)-(0:Int)))
else
j13 a ([]:LI)
def Lf:=Ld Ha
def Lg(j12:Int→(List LI)→Option (LI))(a:List LI)(b:Int):Option (LI):=
if(Bw b 0)then
none
else
j12 b a
def La:=Lg Lf
def Ff(j11:(List LI)→Int→Option (LI))(bk9:Int→Int→Option (LI))(a:List LI)(b h:Int):Option (LI):=
if(Bw h (Ac a))then
(getI a h).bind fun n=>
if(Bw (Ad b (Ac n)) 0)then
none
else
bk9 (Ad b (Ac n)) (Ad h 1)
else
j11 a b
def Dq(a:List LI):Nat→Int→Int→Option (LI)
|0,_,_=>none
|q+1,b,h=>Ff La (Dq a q) a b h
def Me a:=Dq a Ao
def Mf(j9:(List LI)→Int→Int→Option (LI))(a:List LI):Option (LI):=
j9 a 0 0
def Kt:=Mf Me
def Aji(a b:LI):Option (LI):=
(Kt ([a,b]:List LI)).bind fun f=>
some f
def Ry(a b:Int):Option (LI×Int):=
(Fh a b).bind fun(f,g)=>
if(Bf g 0)then
some (([]:LI),g)
else
(Lm a).bind fun(h,n)=>
(Kv ([h]:LI) (Ah f 1)).bind fun k=>
(Aji k ([(Ah b (Bg (Ah f 1) h))]:LI)).bind fun m=>
some (m,0)
def Ac7(a f:Int)(b:LX):Option Int:=
(Ep a f).bind fun g=>
if(Bf g 0)then
some g
else
(Rs f b).bind fun h=>
if(Bf h 0)then
some h
else
if(geq (Ac b) 0)then
some 2
else
(Gw (Bf a 0)).bind fun _=>
if(Bf (Ew (Ac b) a) 0)then
some 2
else
some 0
def Amp(a:Int)(b:LX):Option Int:=
if((Bw a 1)||(Ez a 6))then
some 2
else
if(Ez (Ac b) 4000)then
some 4
else
(Gw (Bf a 0)).bind fun _=>
if(Bf (Ew (Ac b) a) 0)then
some 2
else
some 0
def Cr(a:LX):Option (LX):=
(
(Fj ([]:LX) a).bind fun b=>
some b)
abbrev Gt:=Option (LX×Int)
def Bnh(f:LX):Gt:=
some (f,0)
def Bav:=Bnh
def Asq(bk12:Int→LX→Gt)(b a:Int)(k:LX):Gt:=
bk12 (Ad a b) k
def Akp bk12:=Asq bk12
def Att(j20:Int→LX→Gt)(b a:Int)(g:LX):Gt:=
if(Ez (Ah ((Ad a b)-a) 1) 0)then
(Gw (decide (0≤(Ah ((Ad a b)-a) 1)∧(Ah ((Ad a b)-a) 1)<((Ad a b)-a)))).bind fun _=>
Option.bind (Gw (decide (0≤(Ah (Ah ((Ad a b)-a) 1) 1)∧(Ah (Ah ((Ad a b)-a) 1) 1)<((Ad a b)-a)))) fun _=>
(getI g (a+(Ah ((Ad a b)-a) 1))).bind fun m=>
(getI g (a+(Ah (Ah ((Ad a b)-a) 1) 1))).bind fun n=>
(Gw (decide (0≤(Ah ((Ad a b)-a) 1)∧(Ah ((Ad a b)-a) 1)<((Ad a b)-a)))).bind fun _=>
(Ia g (a+(Ah ((Ad a b)-a) 1)) (Ah m (Bs n 2))).bind fun o=>
j20 a o
else
j20 a g
def Atr bk12 b:=Att (Akp bk12 b) b
def Aj0(j19:Int→LX→Gt)(bk17:Int→LX→Gt)(b a h:Int)(g:LX):Gt:=
if(Bw h (Ah ((Ad a b)-a) 1))then
(Gw (decide (0≤(Ad h 1)∧(Ad h 1)<((Ad a b)-a)))).bind fun _=>
(Gw (decide (0≤h∧h<((Ad a b)-a)))).bind fun _=>
(getI g (a+(Ad h 1))).bind fun m=>
(getI g (a+h)).bind fun n=>
(Gw (decide (0≤h∧h<((Ad a b)-a)))).bind fun _=>
(Ia g (a+h) (Ah m n)).bind fun o=>
bk17 (Ad h 1) o
else
j19 a g
def Xt(bk12:Int→LX→Gt)(b a:Int):Nat→Int→LX→Gt
|0,_,_=>none
|q+1,h,g=>Aj0 (Atr bk12 b) (Xt bk12 b a q) b a h g
def Baf bk12 b a:=Xt bk12 b a Ao
def Asr(j17:Int→Int→LX→Gt)(j22:LX→Gt)(b a:Int)(f:LX):Gt:=
if(Bw a (Ac f))then
(vwI (Ac f) a (Ad a b)).bind fun _=>
j17 a 0 f
else
j22 f
def Xq(b:Int):Nat→Int→LX→Gt
|0,_,_=>none
|q+1,a,f=>Asr (Baf (Xq b q) b) Bav b a f
def As1 b:=Xq b Ao
def Awf(j12:Int→Int→LX→Gt)(b:Int)(p:LX):Gt:=
(Amp b p).bind fun u=>
if(Bf u 0)then
some (([]:LX),u)
else
(Cr p).bind fun v=>
j12 b 0 v
def Bbr:=Awf As1
abbrev Av3:=Option (Int×LX×LX×Int)
def Bl4(a:Int)(b:LX)(f:Bool):Av3:=
if f then
some (10,b,(List.replicate 16 (0:Int32)),0)
else
if(geq a 16)then
some (9,b,(List.replicate 16 (0:Int32)),0)
else
some (0,(List.replicate 16 (0:Int32)),(List.replicate 16 (0:Int32)),2)
def Baz:=Bl4
def Bam(j2:Int→LX→Bool→Av3)(a:Int)(b:LX):Av3:=
if(geq a 8)then
j2 a b (geq a 8)
else
j2 a b (geq a 24)
def Awv:=Bam Baz
def Azt(a:Int)(f:LX):Option (Int×Int32×Int×LX×LX×Int):=
(Awv a f).bind fun(g,h,k,b)=>
if(Bf b 0)then
some (0,0,0,(List.replicate 16 (0:Int32)),(List.replicate 16 (0:Int32)),b)
else
some (a,0,g,h,k,0)
def Rt(a:Int)(k:Int32)(b:Int)(f m:LX):Option Int:=
(Awv a f).bind fun(g,n,o,h)=>
if((Bf h 0)||(Bf g b))then
some 8
else
some 0
def Ar1(a:Int):Option (Int×Int):=
if(geq a 8)then
some (4,0)
else
if(geq a 16)then
if(geq a 16)then
some (5,0)
else
some (0,2)
else
if(geq a 24)then
some (5,0)
else
some (0,2)
def Akl(a:Int)(b:Int32):Option Int32:=
(Gw (Jt a 0)).bind fun _=>
(Gw (Jt a 0)).bind fun _=>
some (Ae (Bii (Ah (Cn (Ae b:Int) (GI.toZ a).toNat) (Ae b:Int)) (GI.toZ a).toNat):Int32)
def Rj(b:Int)(f:Int32):Option (Int32×Int):=
(Ar1 b).bind fun(g,a)=>
if(Bf a 0)then
some (0,a)
else
(Akl g f).bind fun h=>
some (h,0)
def Acw(a:Int)(b f:LX):Option Int:=
if((Bf a 9)&&(Bf a 10))then
some 8
else
some 0
abbrev Oy:=Option (Int32×Int)
def Au4(g:Int32)(a:Int)(b f:LX):Oy:=
(Gw (Jt a 0)).bind fun _=>
some ((Bl g (GI.toZ a).toNat),0)
def Aly:=Au4
def Adg(j6:Int32→Int→LX→LX→Oy)(bk4:Int32→Int→Oy)(b:LX)(a:Int)(f:LX)(g:Int32)(h:Int):Oy:=
if(Bw h 16)then
(getI b h).bind fun m=>
(getI f h).bind fun _=>
(getI f h).bind fun n=>
bk4 (Ad g (Bg m n)) (Ad h 1)
else
j6 g a b f
def Py(b:LX)(a:Int)(f:LX):Nat→Int32→Int→Oy
|0,_,_=>none
|q+1,g,h=>Adg Aly (Py b a f q) b a f g h
def Al0 b a f:=Py b a f Ao
def Al7(j4:LX→Int→LX→Int32→Int→Oy)(a:Int)(b f:LX):Oy:=
(Acw a b f).bind fun k=>
if(Bf k 0)then
some (0,k)
else
(Gw (Jt (Ah a 1) 0)).bind fun _=>
j4 b a f (Cn (1:Int32) (GI.toZ (Ah a 1)).toNat) 0
def Ain:=Al7 Al0
def Anm(a:Int):Option Int32:=
if(geq a 0)then
some 4
else
if(Bw a 4)then
some 2
else
some 1
abbrev Ot:=Option (Int×LX×LX×Int)
def Bf7(g:Int)(b f:LX):Ot:=
some (g,b,f,0)
def Au7:=Bf7
def Adc(j6:Int→LX→LX→Ot)(bk4:Int→LX→Ot)(h:Int32)(f:LX)(g a:Int)(b:LX):Ot:=
if(Bw a 16)then
(getI f a).bind fun m=>
if(geq m 0)then
bk4 (Ad a 1) b
else
if((Bw m 0)==(Bw h 0))then
(getI b a).bind fun _=>
(getI b a).bind fun o=>
(Anm a).bind fun p=>
(getI b a).bind fun _=>
(Ia b a (Ad o p)).bind fun u=>
bk4 (Ad a 1) u
else
(getI b a).bind fun _=>
(getI b a).bind fun v=>
(Anm a).bind fun w=>
(getI b a).bind fun _=>
(Ia b a (Ah v w)).bind fun y=>
bk4 (Ad a 1) y
else
j6 g b f
def Qc(h:Int32)(f:LX)(g:Int):Nat→Int→LX→Ot
|0,_,_=>none
|q+1,a,b=>Adc Au7 (Qc h f g q) h f g a b
def Au2 h f g:=Qc h f g Ao
def All(j4:Int32→LX→Int→Int→LX→Ot)(g:Int)(k f:LX)(h:Int32):Ot:=
(Acw g k f).bind fun n=>
if(Bf n 0)then
some (0,(List.replicate 16 (0:Int32)),(List.replicate 16 (0:Int32)),n)
else
if(geq h 0)then
some (g,k,f,0)
else
j4 h f g 0 k
def Aoa:=All Au2
abbrev As3:=Option (Int×LX×LX×Int)
def Aw1(g:Int32)(b:Int)(f a:LX):As3:=
(getI (Ql a 1 ((16:Int)-(1:Int)) (Ajv a 0 ((16:Int)-(0:Int)))) 0).bind fun _=>
(Ia (Ql a 1 ((16:Int)-(1:Int)) (Ajv a 0 ((16:Int)-(0:Int)))) 0 g).bind fun k=>
some (b,f,k,0)
def An3:=Aw1
def Agy(j2:Int32→Int→LX→LX→As3)(b:Int)(f a:LX)(g:Int32):As3:=
(Acw b f a).bind fun h=>
if(Bf h 0)then
some (0,(List.replicate 16 (0:Int32)),(List.replicate 16 (0:Int32)),h)
else
(
(vwI 16 1 16).bind fun _=>
(vwI 16 0 16).bind fun _=>
j2 g b f a)
def At1:=Agy An3
def Ajn(a:Int)(b f:LX)(g h:Int32):Option (Int×LX×LX):=
(Aoa a b f h).bind fun(k,m,n,v)=>
(At1 k m n g).bind fun(o,p,u,w)=>
some (o,p,u)
def Aj4(b:Int)(f g:LX)(a:Int32):Option (Int32×Int×LX×LX×Int):=
(Ain b f g).bind fun(h,k)=>
if(Bf k 0)then
some (0,0,(List.replicate 16 (0:Int32)),(List.replicate 16 (0:Int32)),k)
else
(Ajn b f g a (Ah a h)).bind fun(m,n,o)=>
some ((Ah a h),m,n,o,0)
def Pu(a:Int)(b:Int32)(f:Int)(g h:LX)(k:Int32):Option (Int32×Int×Int32×Int×LX×LX×Int):=
(Rt a b f g h).bind fun m=>
if(Bf m 0)then
some (0,0,0,0,(List.replicate 16 (0:Int32)),(List.replicate 16 (0:Int32)),m)
else
(Rj a b).bind fun(n,y)=>
(Aj4 f g h (Ah k n)).bind fun(o,p,u,v,w)=>
(
some (o,a,k,p,u,v,w))
def At6(a:Int32):Option UInt32:=
some (Nn (Cn (Ae a:UInt32) (GI.toZ (1:UInt64)).toNat) (Ae (Bl a (GI.toZ (31:UInt64)).toNat):UInt32))
abbrev Ce:=Option (LU×Int)
def Aws(k:LU):Ce:=
some (k,0)
def Ai3:=Aws
def Oe(j12:LU→Ce)(bk10:Int→(List (Int×Int32×(Int×LX×LX×Unit)×Unit))→LU→Ce)(b:LX)(a f g:Int)(o:List (Int×Int32×(Int×LX×LX×Unit)×Unit))(k:LU):Ce:=
if(Bw g (Ac b))then
(getI b g).bind fun _=>
(getI b g).bind fun ac=>
(Gw (Bf a 0)).bind fun _=>
(getI o (Ew g a)).bind fun _=>
(getI o (Ew g a)).bind fun p=>
(Pu p.1 p.2.1 p.2.2.1.1 p.2.2.1.2.1 p.2.2.1.2.2.1 ac).bind fun(u,ad,ae,v,af,ag,w)=>
if(Bf w 0)then
some (([]:LU),w)
else
(Ia o (Ew g a) (ad,ae,(v,af,ag,()),())).bind fun ah=>
(At6 u).bind fun ai=>
(Fj k ([ai]:LU)).bind fun aj=>
bk10 (Ad g 1) ah aj
else
j12 k
def Hu(b:LX)(a f:Int):Nat→Int→(List (Int×Int32×(Int×LX×LX×Unit)×Unit))→LU→Ce
|0,_,_,_=>none
|q+1,g,o,k=>Oe Ai3 (Hu b a f q) b a f g o k
def Ai8 b a f:=Hu b a f Ao
def Aku(j10:LX→Int→Int→Int→(List (Int×Int32×(Int×LX×LX×Unit)×Unit))→LU→Ce)(a f:Int)(b:LX)(h:List (Int×Int32×(Int×LX×LX×Unit)×Unit)):Ce:=
j10 b a f 0 h ([]:LU)
def Yy:=Aku Ai8
def Akx(j9:Int→Int→LX→(List (Int×Int32×(Int×LX×LX×Unit)×Unit))→Ce)(bk7:Int→(List (Int×Int32×(Int×LX×LX×Unit)×Unit))→Ce)(a f:Int)(m b:LX)(n:Int)(h:List (Int×Int32×(Int×LX×LX×Unit)×Unit)):Ce:=
if(Bw n 6)then
(Azt f m).bind fun(ak,al,u,am,an,v)=>
(getI h n).bind fun _=>
(Ia h n (ak,al,(u,am,an,()),())).bind fun ao=>
bk7 (Ad n 1) ao
else
j9 a f b h
def Zo(a f:Int)(m b:LX):Nat→Int→(List (Int×Int32×(Int×LX×LX×Unit)×Unit))→Ce
|0,_,_=>none
|q+1,n,h=>Akx Yy (Zo a f m b q) a f m b n h
def Qx a f m b:=Zo a f m b Ao
def Aap(j7:Int→Int→LX→LX→Int→(List (Int×Int32×(Int×LX×LX×Unit)×Unit))→Ce)(a f:Int)(m y:LX):Ce:=
(Ac7 a f y).bind fun aa=>
if(Bf aa 0)then
some (([]:LU),aa)
else
(Bbr a y).bind fun(b,ab)=>
if(Bf ab 0)then
some (([]:LU),ab)
else
j7 a f m b 0 (List.replicate 6 ((0:Int),(0:Int32),((0:Int),(List.replicate 16 (0:Int32)),(List.replicate 16 (0:Int32)),()),()))
def Yo:=Aap Qx
def Awh:Option (Int×Int×UInt64×UInt64):=
some (10,10,16384,16384)
abbrev Hr:=Option ((List (Int×Int×UInt64×UInt64×Unit)))
def Axw(a:List (Int×Int×UInt64×UInt64×Unit)):Hr:=
some a
def Ajz:=Axw
def Aj3(j6:(List (Int×Int×UInt64×UInt64×Unit))→Hr)(bk4:Int→(List (Int×Int×UInt64×UInt64×Unit))→Hr)(b:Int)(a:List (Int×Int×UInt64×UInt64×Unit)):Hr:=
if(Bw b 6)then
(Awh).bind fun(f,g,h,k)=>
(getI a b).bind fun _=>
(Ia a b (f,g,h,k,())).bind fun m=>
bk4 (Ad b 1) m
else
j6 a
def Aao:Nat→Int→(List (Int×Int×UInt64×UInt64×Unit))→Hr
|0,_,_=>none
|q+1,b,a=>Aj3 Ajz (Aao q) b a
def Ye:=Aao Ao
def Aan(j4:Int→(List (Int×Int×UInt64×UInt64×Unit))→Hr):Hr:=
j4 0 (List.replicate 6 ((0:Int),(0:Int),(0:UInt64),(0:UInt64),()))
def Aam:=Aan Ye
def Ge(b:LB)(a:Int):Option Int:=
if(((Bw a 0)||(Ez a 330000))||(Bf (Ac b) (Bii (Ad a 7) (GI.toZ (3:UInt64)).toNat)))then
some 8
else
if(Ez (Cx a 7) 0)then
(getI b (Ah (Ac b) 1)).bind fun f=>
(Gw (Jt (Cx a 7) 0)).bind fun _=>
if(Bf (Bl f (GI.toZ (Cx a 7)).toNat) 0)then
some 8
else
some 0
else
some 0
def Avg(a b:Int)(f g:UInt64):Option Int:=
if(!((geq (Da (Auq a 0) 24) a)&&((geq (Da (Auq b 0) 24) b)&&((geq (Da f 68719476735) f)&&((geq (Da g 68719476735) g)&&true)))))then
some 8
else
some 0
def Alc:=Avg
def Adi(j4:Int→Int→UInt64→UInt64→Option Int)(a b:Int)(f g:UInt64):Option Int:=
(
(
j4 a b f g))
def Alq:=Adi Alc
def Ac8(j3:Int→Int→UInt64→UInt64→Option Int)(a b:Int)(f g:UInt64):Option Int:=
(
(
j3 a b f g))
def Aii:=Ac8 Alq
def Aco(a f:Int)(g h:UInt64)(b:UInt32):Option (Int×UInt32):=
(Gw (Jt a 0)).bind fun _=>
if(geq (Bl b (GI.toZ a).toNat) 0)then
some (0,b)
else
(Gw (Jt a 0)).bind fun _=>
some (1,(Ah b (Cn (1:UInt32) (GI.toZ a).toNat)))
def Dg(a:LB):Option (LB):=
(
(Fj ([]:LB) a).bind fun b=>
some b)
def Ane(a:LB)(b:Int):Option (LB×Int):=
(Dg a).bind fun f=>
some (f,b)
abbrev Cs:=Option (LB×Int×Int)
def Axk(f:Int)(o:LB):Cs:=
some (o,f,0)
def Ao1:=Axk
def Ax1(bk15:UInt64→Int→Int→LB→Cs)(b:UInt64)(a:Int)(m:UInt64)(h f:Int)(w:LB):Cs:=
(Gw (Jt (Da h (Ah 8 (Cx f 7))) 0)).bind fun _=>
bk15 (Bl m (GI.toZ (Da h (Ah 8 (Cx f 7)))).toNat) (Ah h (Da h (Ah 8 (Cx f 7)))) (Ad f (Da h (Ah 8 (Cx f 7)))) w
def Ao8 bk15:=Ax1 bk15
def Aog(j19:UInt64→Int→Int→LB→Cs)(b:UInt64)(a:Int)(m:UInt64)(h f:Int)(u:LB):Cs:=
(getI u (Ah (Ac u) 1)).bind fun _=>
(Gw (Jt (Da h (Ah 8 (Cx f 7))) 0)).bind fun _=>
(Gw (Jt (Cx f 7) 0)).bind fun _=>
(getI u (Ah (Ac u) 1)).bind fun ad=>
(getI u (Ah (Ac u) 1)).bind fun _=>
Option.bind (Ia u (Ah (Ac u) 1) (gor ad (Cn (Ae (Cx m (Ah (Cn (1:UInt64) (GI.toZ (Da h (Ah 8 (Cx f 7)))).toNat) 1)):UInt8) (GI.toZ (Cx f 7)).toNat))) fun w=>
j19 m h f w
def Ag0 bk15 b a:=Aog (Ao8 bk15 b a) b a
def Agx(j18:UInt64→Int→Int→LB→Cs)(j21:Int→LB→Cs)(b:UInt64)(a:Int)(m:UInt64)(h f:Int)(o:LB):Cs:=
if(Ez h 0)then
if(geq (Cx f 7) 0)then
(Fj o ([(0:UInt8)]:LB)).bind fun ab=>
j18 m h f ab
else
j18 m h f o
else
j21 f o
def Lw(b:UInt64)(a:Int):Nat→UInt64→Int→Int→LB→Cs
|0,_,_,_,_=>none
|q+1,m,h,f,o=>Agx (Ag0 (Lw b a q) b a) Ao1 b a m h f o
def Ayq b a:=Lw b a Ao
def Biv(g:Int)(p:LB):Cs:=
some (p,g,0)
def Axy:=Biv
def Bja(bk22:UInt64→Int→Int→LB→Cs)(b:UInt64)(a:Int)(n:UInt64)(k g:Int)(y:LB):Cs:=
(Gw (Jt (Da k (Ah 8 (Cx g 7))) 0)).bind fun _=>
bk22 (Bl n (GI.toZ (Da k (Ah 8 (Cx g 7)))).toNat) (Ah k (Da k (Ah 8 (Cx g 7)))) (Ad g (Da k (Ah 8 (Cx g 7)))) y
def Ax4 bk22:=Bja bk22
def Axr(j26:UInt64→Int→Int→LB→Cs)(b:UInt64)(a:Int)(n:UInt64)(k g:Int)(v:LB):Cs:=
(getI v (Ah (Ac v) 1)).bind fun _=>
(Gw (Jt (Da k (Ah 8 (Cx g 7))) 0)).bind fun _=>
(Gw (Jt (Cx g 7) 0)).bind fun _=>
(getI v (Ah (Ac v) 1)).bind fun ae=>
(getI v (Ah (Ac v) 1)).bind fun _=>
Option.bind (Ia v (Ah (Ac v) 1) (gor ae (Cn (Ae (Cx n (Ah (Cn (1:UInt64) (GI.toZ (Da k (Ah 8 (Cx g 7)))).toNat) 1)):UInt8) (GI.toZ (Cx g 7)).toNat))) fun y=>
j26 n k g y
def Aye bk22 b a:=Axr (Ax4 bk22 b a) b a
def Ayc(j25:UInt64→Int→Int→LB→Cs)(j28:Int→LB→Cs)(b:UInt64)(a:Int)(n:UInt64)(k g:Int)(p:LB):Cs:=
if(Ez k 0)then
if(geq (Cx g 7) 0)then
(Fj p ([(0:UInt8)]:LB)).bind fun w=>
j25 n k g w
else
j25 n k g p
else
j28 g p
def An1(b:UInt64)(a:Int):Nat→UInt64→Int→Int→LB→Cs
|0,_,_,_,_=>none
|q+1,n,k,g,p=>Ayc (Aye (An1 b a q) b a) Axy b a n k g p
def Axm b a:=An1 b a Ao
def Asa(j15:UInt64→Int→UInt64→Int→Int→LB→Cs)(j22:UInt64→Int→UInt64→Int→Int→LB→Cs)(ac:LB)(aa:Int)(b:UInt64)(a:Int):Cs:=
(Ge ac aa).bind fun af=>
if(Bf af 0)then
some (([]:LB),0,8)
else
if((Bw a 0)||(Ez a 64))then
some (([]:LB),0,2)
else
if(Bw a 64)then
(Gw (Jt a 0)).bind fun _=>
if(Bf (Bl b (GI.toZ a).toNat) 0)then
some (([]:LB),0,16)
else
if(Ez (Ad aa a) 330000)then
some (([]:LB),0,18)
else
(Ane ac aa).bind fun(ag,ah)=>
j15 b a b a ah ag
else
if(Ez (Ad aa a) 330000)then
some (([]:LB),0,18)
else
(Ane ac aa).bind fun(ab,ai)=>
j22 b a b a ai ab
def Ajd:=Asa Ayq Axm
def Sy(b:UInt32)(a:Int):Option Bool:=
(Gw (Jt a 0)).bind fun _=>
some (Jt (Bl b (GI.toZ a).toNat) 48)
def Apk(a:Int):Option (Int×Int):=
if((Bw a 0)||(Ez a 48))then
some (0,2)
else
some ((Da (Ad a 1) 48),0)
def Akv(b:LB)(f a:Int):Option (LB×Int×Int):=
(Ge b f).bind fun g=>
if(Bf g 0)then
some (([]:LB),0,g)
else
(Apk a).bind fun(k,h)=>
if(Bf h 0)then
some (([]:LB),0,h)
else
(Gw (Jt a 0)).bind fun _=>
(Ajd b f (Ah (Cn (1:UInt64) (GI.toZ a).toNat) 1) k).bind fun(m,n,o)=>
some (m,n,o)
abbrev An0:=Option (LB×Int×Int)
def Alv(b:LB)(f h:Int)(k:UInt32)(m:Int):An0:=
(Akv b f h).bind fun(p,u,n)=>
if(Bf n 0)then
some (([]:LB),0,n)
else
(Ajd p u (Ae k:UInt64) m).bind fun(v,w,y)=>
some (v,w,y)
def Ac3:=Alv
def Al1(j2:LB→Int→Int→UInt32→Int→An0)(b:LB)(f:Int)(g:UInt32)(a:Int):An0:=
(Ge b f).bind fun o=>
if(Bf o 0)then
some (([]:LB),0,o)
else
if((Bw a 0)||(Ez a 24))then
some (([]:LB),0,2)
else
(Gw (Jt a 0)).bind fun _=>
(Gw (Jt a 0)).bind fun _=>
(Sy g a).bind fun aa=>
if aa then
j2 b f 48 g 32
else
j2 b f (Ae (Bl g (GI.toZ a).toNat):Int) (Cx g (Ah (Cn (1:UInt32) (GI.toZ a).toNat) 1)) a
def Aop:=Al1 Ac3
abbrev Gd:=Option (LB×Int×Int×Int×UInt64×UInt64×Int)
def Aa5(k u n:Int)(a:UInt64)(b:UInt32)(o:UInt64)(m:LB):Gd:=
(
(
some (m,k,u,n,(Ad a (Ah (Ae b:UInt64) (Bl a (GI.toZ (4:UInt64)).toNat))),o,0)))
def Aip:=Aa5
def Alm(j10:Int→Int→Int→UInt64→UInt32→UInt64→LB→Gd)(b:UInt32)(k n:Int)(a o:UInt64)(m:LB)(u:Int):Gd:=
j10 k u n a b o m
def Ale:=Alm Aip
def Aln(j9:UInt32→Int→Int→UInt64→UInt64→LB→Int→Gd)(b:UInt32)(f:Int)(a:UInt64)(k:Int)(m:LB)(n:Int)(o:UInt64):Gd:=
if(Ez f 0)then
(Gw (Jt f 0)).bind fun _=>
if(Bw (Ad a (Ah (Ae b:UInt64) (Bl a (GI.toZ (4:UInt64)).toNat))) (Cn (16:UInt64) (GI.toZ f).toNat))then
j9 b k n a o m (Ah f 1)
else
if(Bw f 24)then
(Gw (Jt f 0)).bind fun _=>
if(Ez (Ad a (Ah (Ae b:UInt64) (Bl a (GI.toZ (4:UInt64)).toNat))) (Cn (32:UInt64) (GI.toZ f).toNat))then
j9 b k n a o m (Ad f 1)
else
j9 b k n a o m f
else
j9 b k n a o m f
else
if(Bw f 24)then
(Gw (Jt f 0)).bind fun _=>
if(Ez (Ad a (Ah (Ae b:UInt64) (Bl a (GI.toZ (4:UInt64)).toNat))) (Cn (32:UInt64) (GI.toZ f).toNat))then
j9 b k n a o m (Ad f 1)
else
j9 b k n a o m f
else
j9 b k n a o m f
def Up:=Aln Ale
def Al3(j8:UInt32→Int→UInt64→Int→LB→Int→UInt64→Gd)(b:UInt32)(f h:Int)(a g:UInt64)(y k:Int)(m:LB):Gd:=
if(Bf y 0)then
some (([]:LB),0,0,0,0,0,y)
else
(Aco f h a g b).bind fun(ag,p)=>
if(geq ag 1)then
if(Ez h 0)then
(Gw (Jt h 0)).bind fun _=>
if(Bw (Ad g (Ah (Ae p:UInt64) (Bl g (GI.toZ (4:UInt64)).toNat))) (Cn (16:UInt64) (GI.toZ h).toNat))then
j8 b f a k m (Ah h 1) (Ad g (Ah (Ae p:UInt64) (Bl g (GI.toZ (4:UInt64)).toNat)))
else
if(Bw h 24)then
(Gw (Jt h 0)).bind fun _=>
if(Ez (Ad g (Ah (Ae p:UInt64) (Bl g (GI.toZ (4:UInt64)).toNat))) (Cn (32:UInt64) (GI.toZ h).toNat))then
j8 b f a k m (Ad h 1) (Ad g (Ah (Ae p:UInt64) (Bl g (GI.toZ (4:UInt64)).toNat)))
else
j8 b f a k m h (Ad g (Ah (Ae p:UInt64) (Bl g (GI.toZ (4:UInt64)).toNat)))
else
j8 b f a k m h (Ad g (Ah (Ae p:UInt64) (Bl g (GI.toZ (4:UInt64)).toNat)))
else
if(Bw h 24)then
(Gw (Jt h 0)).bind fun _=>
if(Ez (Ad g (Ah (Ae p:UInt64) (Bl g (GI.toZ (4:UInt64)).toNat))) (Cn (32:UInt64) (GI.toZ h).toNat))then
j8 b f a k m (Ad h 1) (Ad g (Ah (Ae p:UInt64) (Bl g (GI.toZ (4:UInt64)).toNat)))
else
j8 b f a k m h (Ad g (Ah (Ae p:UInt64) (Bl g (GI.toZ (4:UInt64)).toNat)))
else
j8 b f a k m h (Ad g (Ah (Ae p:UInt64) (Bl g (GI.toZ (4:UInt64)).toNat)))
else
j8 b f a k m h g
def Ac6:=Al3 Up
def Al4(j7:UInt32→Int→Int→UInt64→UInt64→Int→Int→LB→Gd)(b:UInt32)(v:LB)(w f h:Int)(a g:UInt64):Gd:=
(Aco f h a g b).bind fun(ad,ae)=>
(Ajd v w (Ae ad:UInt64) 1).bind fun(aa,ab,ac)=>
if((geq ac 0)&&(geq ad 0))then
(Ajd aa ab (Ae ae:UInt64) f).bind fun(ah,ai,aj)=>
j7 b f h a g aj ai ah
else
if(geq ac 0)then
(Aop aa ab ae h).bind fun(ak,al,am)=>
j7 b f h a g am al ak
else
j7 b f h a g ac ab aa
def Ame:=Al4 Ac6
def Alo(j6:UInt32→LB→Int→Int→Int→UInt64→UInt64→Gd)(v:LB)(w f h:Int)(a g:UInt64)(b:UInt32):Gd:=
(Ge v w).bind fun an=>
if(Bf an 0)then
some (([]:LB),0,0,0,0,0,8)
else
(Aii f h a g).bind fun ao=>
if(Bf ao 0)then
some (([]:LB),0,0,0,0,0,8)
else
j6 b v w f h a g
def Apr:=Alo Ame
abbrev Bi:=Option (UInt32×Int)
def Arn(h:UInt32):Bi:=
some (h,0)
def Ahd:=Arn
def Zu(j30:UInt32→Bi)(bk28:UInt32→Int→Bi)(a:LB)(b:LU)(h:UInt32)(m:Int):Bi:=
if(Bw m (Ac a))then
(getI a m).bind fun p=>
(getI b (GI.toZ (Nn (Ae h:UInt8) p))).bind fun _=>
(getI b (GI.toZ (Nn (Ae h:UInt8) p))).bind fun u=>
bk28 (Nn (Bl h (GI.toZ (8:UInt64)).toNat) u) (Ad m 1)
else
j30 h
def Nt(a:LB)(b:LU):Nat→UInt32→Int→Bi
|0,_,_=>none
|q+1,h,m=>Zu Ahd (Nt a b q) a b h m
def Ahm a b:=Nt a b Ao
def Ajf(j28:LB→LU→UInt32→Int→Bi)(f:UInt32)(a:LB)(b:LU):Bi:=
j28 a b f 0
def Aiv:=Ajf Ahm
def Ajl(j27:UInt32→LB→LU→Bi)(f:UInt32)(a:LB)(b:LU):Bi:=
j27 f a b
def Aa7:=Ajl Aiv
def As9(bk16:Int→LU→Bi)(f:UInt32)(a:LB)(g:Int)(o:LU):Bi:=
bk16 (Ad g 1) o
def Ahn bk16:=As9 bk16
def Aid(j24:Int→LU→Bi)(f:UInt32)(a:LB)(g:Int)(k:UInt32)(b:LU):Bi:=
(getI b g).bind fun _=>
(Ia b g k).bind fun o=>
j24 g o
def Aa8 bk16 f a:=Aid (Ahn bk16 f a) f a
def Yz(j23:Int→UInt32→LU→Bi)(bk21:UInt32→Int→Bi)(f:UInt32)(a:LB)(g:Int)(b:LU)(k:UInt32)(n:Int):Bi:=
if(Bw n 8)then
bk21 (Nn (Bl k (GI.toZ (1:UInt64)).toNat) (Bg 3988292384 (Cx k 1))) (Ad n 1)
else
j23 g k b
def Nb(bk16:Int→LU→Bi)(f:UInt32)(a:LB)(g:Int)(b:LU):Nat→UInt32→Int→Bi
|0,_,_=>none
|q+1,k,n=>Yz (Aa8 bk16 f a) (Nb bk16 f a g b q) f a g b k n
def Ai7 bk16 f a g b:=Nb bk16 f a g b Ao
def Yn(j21:Int→LU→UInt32→Int→Bi)(j26:UInt32→LB→LU→Bi)(f:UInt32)(a:LB)(g:Int)(b:LU):Bi:=
if(Bw g 256)then
j21 g b (Ae g:UInt32) 0
else
j26 f a b
def Kg(f:UInt32)(a:LB):Nat→Int→LU→Bi
|0,_,_=>none
|q+1,g,b=>Yn (Ai7 (Kg f a q) f a) Aa7 f a g b
def Aig f a:=Kg f a Ao
def Alu(j16:UInt32→LB→Int→LU→Bi)(f:UInt32)(a:LB):Bi:=
if(Ez (Ac a) 100000)then
some (0,4)
else
j16 f a 0 (List.replicate 256 (0:UInt32))
def Aoe:=Alu Aig
def Sm(b:LB):Option (UInt32×Int):=
(Aoe 4294967295 b).bind fun(f,a)=>
if(Bf a 0)then
some (0,a)
else
some ((Bca f),0)
def Bb1(b:UInt64)(a:Int):Option Bool:=
if(geq a 8)then
some true
else
(Gw (Jt (Bg 8 a) 0)).bind fun _=>
some (geq (Bl b (GI.toZ (Bg 8 a)).toNat) 0)
abbrev Ws:=Option (LB×Int)
def Ba6(a:LB):Ws:=
some (a,0)
def As0:=Ba6
def Aki(j6:LB→Ws)(bk4:Int→LB→Ws)(f:UInt64)(g:LB)(b:Int)(a:LB):Ws:=
if(Bw b (Ac g))then
(Gw (Jt (Bg 8 b) 0)).bind fun _=>
(getI a b).bind fun _=>
(Ia a b (Ae (Bl f (GI.toZ (Bg 8 b)).toNat):UInt8)).bind fun k=>
bk4 (Ad b 1) k
else
j6 a
def Xu(f:UInt64)(g:LB):Nat→Int→LB→Ws
|0,_,_=>none
|q+1,b,a=>Aki As0 (Xu f g q) f g b a
def Ar5 f g:=Xu f g Ao
def Ars(j4:UInt64→LB→Int→LB→Ws)(f:UInt64)(h:Int):Ws:=
if((Bw h 1)||(Ez h 8))then
some (([]:LB),2)
else
(Bb1 f h).bind fun m=>
if(!m)then
some (([]:LB),16)
else
(mkI h (0:UInt8)).bind fun g=>
(Gw (geq h h)).bind fun _=>
j4 f g 0 g
def Un:=Ars Ar5
def Ag1(f:LB):Option (LB):=
some f
def Rb:=Ag1
def Ea(j16:LB→Option (LB))(bk14:Int→LB→Option (LB))(a:List LB)(g:Int)(f:LB):Option (LB):=
if(Bw g (Ac a))then
(getI a g).bind fun o=>
(Fj f o).bind fun p=>
bk14 (Ad g 1) p
else
j16 f
def Ct(a:List LB):Nat→Int→LB→Option (LB)
|0,_,_=>none
|q+1,g,f=>Ea Rb (Ct a q) a g f
def Jp a:=Ct a Ao
def Jn(j14:(List LB)→Int→LB→Option (LB))(a:List LB)(k:LB):Option (LB):=
j14 a 0 k
def Ga:=Jn Jp
def Jf(j13:(List LB)→LB→Option (LB))(b:Int)(a:List LB):Option (LB):=
if(Ez (Ah b (Ah (0:Int) (0:Int))) 0)then
(vwI 0 0 0).bind fun _=>
(mkI (Ah b (Ah (0:Int) (0:Int))) (0:UInt8)).bind fun u=>
(Fj ([]:LB) u).bind fun m=>
(vwI (Ac m) 0 0).bind fun _=>
j13 a (Ajv m 0 ((0:Int)-(0:Int)))
else
j13 a ([]:LB)
def Jo:=Jf Ga
def Jm(j12:Int→(List LB)→Option (LB))(a:List LB)(b:Int):Option (LB):=
if(Bw b 0)then
none
else
j12 b a
def Jh:=Jm Jo
def Em(j11:(List LB)→Int→Option (LB))(bk9:Int→Int→Option (LB))(a:List LB)(b h:Int):Option (LB):=
if(Bw h (Ac a))then
(getI a h).bind fun n=>
if(Bw (Ad b (Ac n)) 0)then
none
else
bk9 (Ad b (Ac n)) (Ad h 1)
else
j11 a b
def Cy(a:List LB):Nat→Int→Int→Option (LB)
|0,_,_=>none
|q+1,b,h=>Em Jh (Cy a q) a b h
def Kb a:=Cy a Ao
def Ke(j9:(List LB)→Int→Int→Option (LB))(a:List LB):Option (LB):=
j9 a 0 0
def Il:=Ke Kb
abbrev Ba:=Option (LB×Int)
def Ahc(u:Int)(p:LB):Ba:=
(Sm p).bind fun(af,ac)=>
if(Bf ac 0)then
some (([]:LB),ac)
else
(Un (Ae af:UInt64) 4).bind fun(m,h)=>
if(Bf h 0)then
some (([]:LB),h)
else
(Il ([p,m]:List LB)).bind fun ag=>
some (ag,0)
def Wh:=Ahc
def Ajs(bk27:Int→(List (Int×Int×UInt64×UInt64×Unit))→Int→LB→Ba)(a:LU)(b f g:Int)(k:List (Int×Int×UInt64×UInt64×Unit))(n:Int)(v:LB):Ba:=
bk27 (Ad g 1) k n v
def Wq bk27:=Ajs bk27
def Aiw(bk44:Int→Int→LB→Ba)(h:Int)(a:LU)(g b f:Int)(k:List (Int×Int×UInt64×UInt64×Unit))(m:LB)(o n:Int)(aa:LB):Ba:=
bk44 (Ad o 1) (Ad n 1) aa
def Wl bk44:=Aiw bk44
def Wo(j48:Int→Int→LB→Ba)(h:Int)(a:LU)(g b f:Int)(k:List (Int×Int×UInt64×UInt64×Unit))(m:LB)(o n:Int)(y:LB):Ba:=
(getI m (Bs o 8)).bind fun _=>
(getI m (Bs o 8)).bind fun ah=>
(Gw (Jt (Ew o 8) 0)).bind fun _=>
(getI y (Bs n 8)).bind fun _=>
(Gw (Jt (Ew n 8) 0)).bind fun _=>
(getI y (Bs n 8)).bind fun ai=>
(getI y (Bs n 8)).bind fun _=>
Option.bind (Ia y (Bs n 8) (gor ai (Cn (Cx (Bl ah (GI.toZ (Ew o 8)).toNat) 1) (GI.toZ (Ew n 8)).toNat))) fun aa=>
j48 o n aa
def Oj bk44 h a g b f k m:=Wo (Wl bk44 h a g b f k m) h a g b f k m
def Pd(j47:Int→Int→LB→Ba)(j50:Int→(List (Int×Int×UInt64×UInt64×Unit))→Int→LB→Ba)(a:LU)(b f h g:Int)(k:List (Int×Int×UInt64×UInt64×Unit))(m:LB)(o n:Int)(v:LB):Ba:=
if(Bw o h)then
if(geq (Ew n 8) 0)then
(Fj v ([(0:UInt8)]:LB)).bind fun aj=>
j47 o n aj
else
j47 o n v
else
j50 g k n v
def Eo(bk27:Int→(List (Int×Int×UInt64×UInt64×Unit))→Int→LB→Ba)(a:LU)(b f h g:Int)(k:List (Int×Int×UInt64×UInt64×Unit))(m:LB):Nat→Int→Int→LB→Ba
|0,_,_,_=>none
|q+1,o,n,v=>Pd (Oj (Eo bk27 a b f h g k m q) h a g b f k m) (Wq bk27 a b f) a b f h g k m o n v
def Aje bk27 a b f h g k m:=Eo bk27 a b f h g k m Ao
def Oh(j44:Int→Int→(List (Int×Int×UInt64×UInt64×Unit))→LB→Int→Int→LB→Ba)(j52:Int→LB→Ba)(a:LU)(b f g:Int)(w:List (Int×Int×UInt64×UInt64×Unit))(u:Int)(p:LB):Ba:=
if(Bw g (Ac a))then
(getI a g).bind fun _=>
(getI a g).bind fun ak=>
(Gw (Bf b 0)).bind fun _=>
(getI w (Ew g b)).bind fun _=>
(getI w (Ew g b)).bind fun ab=>
(Apr ([]:LB) 0 ab.1 ab.2.1 ab.2.2.1 ab.2.2.2.1 ak).bind fun(m,h,al,am,an,ao,ad)=>
if(Bf ad 0)then
some (([]:LB),ad)
else
(Gw (Bf b 0)).bind fun _=>
(getI w (Ew g b)).bind fun _=>
(Ia w (Ew g b) (al,am,an,ao,())).bind fun k=>
j44 h g k m 0 u p
else
j52 u p
def Fs(a:LU)(b f:Int):Nat→Int→(List (Int×Int×UInt64×UInt64×Unit))→Int→LB→Ba
|0,_,_,_,_=>none
|q+1,g,w,u,p=>Oh (Aje (Fs a b f q) a b f) Wh a b f g w u p
def Wk a b f:=Fs a b f Ao
def Aaj(j27:LU→Int→Int→Int→(List (Int×Int×UInt64×UInt64×Unit))→Int→LB→Ba)(b f:Int)(ap aq:LX):Ba:=
(Yo b f ap aq).bind fun(a,ae)=>
if(Bf ae 0)then
some (([]:LB),ae)
else
(Aam).bind fun ar=>
j27 a b f 0 ar 0 ([]:LB)
def Nl:=Aaj Wk
def Mk(a:Int)(b:LX):LI→Int→Option (List LX)
  |[],_=>some []
  |n::l,x=>Option.bind (Cf b x (Ad x (Bg n a))) fun p=>Option.bind (Mk a b l (Ad x (Bg n a))) fun ps=>some (p::ps)
def Mb(a f:Int)(t:LX):List LX→List LB→Option (List LB×Int)
  |[],o=>some (o,0)
  |x::xs,o=>Option.bind (Nl a f t x) fun y=>
    if(Bf y.2 0)=true then some ([],y.2)
    else Option.bind (Fj o [y.1]) fun o'=>Mb a f t xs o'
def Ajp(a h:Int)(b:LX):Option (List LX):=
  Option.bind (Gw (Bf a 0)) fun _=>Option.bind (Ry h (Bs (Ac b) a)) fun l=>Option.bind (Gw (decide (Ac l.1≤17179869184))) fun _=>Mk a b l.1 0
def Adn(a f h:Int)(b:LX)(p:LB):Option (List LB×Int):=
  Option.bind (Cz a f h b) fun e=>
    if(Bf e 0)=true then some ([],e)
    else Option.bind (Xb p) fun t=>
      if(Bf t.2 0)=true then some ([],t.2)
      else Option.bind (Ajp a h b) fun xs=>Mb a f t.1 xs []
def Anb(b f a g h:Int):Option Bool:=
some (((((((geq b 1)||(geq b 2))&&(Ez f 0))&&(gle f 6))&&(Ez g 0))&&(gle g 1048576))&&(Ez h 0))
def Sn:=Anb
def Acz(j2:Int→Int→Int→Int→Int→Option Bool)(b f a g h:Int):Option Bool:=
if(geq a 8)then
if(geq a 8)then
j2 b f a g h
else
some false
else
if(geq a 16)then
if(geq a 16)then
j2 b f a g h
else
some false
else
if(geq a 24)then
j2 b f a g h
else
some false
def Ul:=Acz Sn
def Ad0(k a m f b:Int):Option Bool:=
(Gw (Bf a 0)).bind fun _=>
if(Ez b (Bs 4000 a))then
some false
else
(Fh f b).bind fun(g,h)=>
some ((geq h 0)&&(gle g 1000))
def Ou(a b f g h:Int):Option Int:=
(Ul a b f g h).bind fun k=>
if(!k)then
some 8
else
(Ad0 a b f g h).bind fun m=>
if(!m)then
some 8
else
some 0
abbrev Km:=Option (LB×Int)
def Aqe(a:LB):Km:=
(Sm a).bind fun(u,aa)=>
(Un (Ae u:UInt64) 4).bind fun(n,v)=>
(Fj a n).bind fun o=>
some (o,0)
def Vn:=Aqe
def Vm(j6:LB→Km)(bk4:Int→LB→Km)(b f g h k m:Int)(a:LB):Km:=
if(Bw m 5)then
(getI ([b,f,g,h,k]:LI) m).bind fun w=>
(getI ([(2:Int),(2:Int),(2:Int),(4:Int),(4:Int)]:LI) m).bind fun y=>
(Un (Ae w:UInt64) y).bind fun(n,v)=>
(Fj a n).bind fun o=>
bk4 (Ad m 1) o
else
j6 a
def Ip(b f g h k:Int):Nat→Int→LB→Km
|0,_,_=>none
|q+1,m,a=>Vm Vn (Ip b f g h k q) b f g h k m a
def Afh b f g h k:=Ip b f g h k Ao
def Af4(j4:Int→Int→Int→Int→Int→Int→LB→Km)(b f g h k:Int):Km:=
(Ou b f g h k).bind fun p=>
if(Bf p 0)then
some (([]:LB),p)
else
j4 b f g h k 0 ([(84:UInt8),(84:UInt8),(65:UInt8),(49:UInt8)]:LB)
def Agp:=Af4 Afh
def Azn(a:LB):Option (UInt64×Int):=
if(Ez (Ac a) 64)then
some (0,2)
else
(Amr a).bind fun(b,f)=>
some (b,0)
def Zm(b:LB):Option (LB×Int):=
(Azn b).bind fun(f,a)=>
if(Bf a 0)then
some (([]:LB),a)
else
(Un f 8).bind fun(g,h)=>
some (g,h)
def Bcn:Option Int:=
some 0
def Arq:=Bcn
def Zq(j6:Option Int)(bk4:Int→Int→Option Int)(a:LI)(f b:Int):Option Int:=
if(Bw b (Ac a))then
(getI a b).bind fun g=>
if((Bw g 5)||(Ez g f))then
some 8
else
bk4 (Ah f g) (Ad b 1)
else
j6
def Mx(a:LI):Nat→Int→Int→Option Int
|0,_,_=>none
|q+1,f,b=>Zq Arq (Mx a q) a f b
def Ajb a:=Mx a Ao
def Aa2(j4:LI→Int→Int→Option Int)(a:LI):Option Int:=
if((geq (Ac a) 0)||(Ez (Ac a) 1000))then
some 8
else
j4 a 100000 0
def Lt:=Aa2 Ajb
abbrev Fg:=Option (LB×Int)
def Bbi(g:LB):Fg:=
some (g,0)
def Aqp:=Bbi
def Afa(j14:LB→Fg)(b:LB):Fg:=
(Sm b).bind fun(m,u)=>
(Un (Ae m:UInt64) 4).bind fun(n,v)=>
(Fj b n).bind fun g=>
j14 g
def Afj:=Afa Aqp
def Ap0(bk8:Int→LB→Fg)(a:LI)(f:Int)(h:LB):Fg:=
bk8 (Ad f 1) h
def Afi bk8:=Ap0 bk8
def Yi(j11:Int→LB→Fg)(j13:LB→Fg)(a:LI)(f:Int)(b:LB):Fg:=
if(Bw f (Ac a))then
(getI a f).bind fun o=>
(Un (Ae o:UInt64) 4).bind fun(p,w)=>
(Fj b p).bind fun h=>
j11 f h
else
j13 b
def Nf(a:LI):Nat→Int→LB→Fg
|0,_,_=>none
|q+1,f,b=>Yi (Afi (Nf a q) a) Afj a f b
def Atx a:=Nf a Ao
def Ahv(j8:LI→Int→LB→Fg)(a:LI):Fg:=
(Lt a).bind fun k=>
if(Bf k 0)then
some (([]:LB),k)
else
j8 a 0 ([]:LB)
def Ak6:=Ahv Atx
def Amb(a:LB):Option Int:=
some (Ac a)
def Bdn(a:LB):Option (LB):=
some a
def Arr:=Bdn
def Aah(j6:LB→Option (LB))(bk4:Int→LB→Option (LB))(b:List LB)(f:Int)(a:LB):Option (LB):=
if(Bw f (Ac b))then
(getI b f).bind fun g=>
(Fj a g).bind fun h=>
bk4 (Ad f 1) h
else
j6 a
def Ns(b:List LB):Nat→Int→LB→Option (LB)
|0,_,_=>none
|q+1,f,a=>Aah Arr (Ns b q) b f a
def Ar6 b:=Ns b Ao
def Asm(j4:(List LB)→Int→LB→Option (LB))(b:List LB):Option (LB):=
j4 b 0 ([]:LB)
def Atb:=Asm Ar6
abbrev Dl:=Option (LB×Int)
def Aqo(k:Int)(a:List LB)(b f n:LB):Dl:=
if(Bf k 0)then
some (([]:LB),k)
else
(Fj ([b,f,n]:List LB) a).bind fun m=>
(Atb m).bind fun ad=>
some (ad,0)
def Afr:=Aqo
def Afq(j14:Int→(List LB)→LB→LB→LB→Dl)(h:LI)(a:List LB)(b f:LB):Dl:=
(Ak6 h).bind fun(n,k)=>
j14 k a b f n
def Pk:=Afq Afr
def Aqf(bk9:Int→LI→Dl)(a:List LB)(b f:LB)(g:Int)(m:LI):Dl:=
bk9 (Ad g 1) m
def Ae1 bk9:=Aqf bk9
def Yt(j11:Int→LI→Dl)(j13:LI→(List LB)→LB→LB→Dl)(a:List LB)(b f:LB)(g:Int)(h:LI):Dl:=
if(Bw g (Ac a))then
(getI a g).bind fun _=>
(getI a g).bind fun ae=>
(Amb ae).bind fun k=>
(getI h g).bind fun _=>
(Ia h g k).bind fun m=>
j11 g m
else
j13 h a b f
def Nm(a:List LB)(b f:LB):Nat→Int→LI→Dl
|0,_,_=>none
|q+1,g,h=>Yt (Ae1 (Nm a b f q) a b f) Pk a b f g h
def Ar4 a b f:=Nm a b f Ao
def Aiu(j9:(List LB)→LB→LB→Int→LI→Dl)(a:List LB)(b f:LB):Dl:=
(mkI (Ac a) (0:Int)).bind fun af=>
(Gw (geq (Ac a) (Ac a))).bind fun _=>
j9 a b f 0 af
def Zd:=Aiu Ar4
def Ahs(j8:(List LB)→LB→LB→Dl)(p u v:Int)(w:LX)(o:LB):Dl:=
(Ak8 p u v w o).bind fun(y,ag,ah,ai,aj,aa)=>
if(Bf aa 0)then
some (([]:LB),aa)
else
(Adn p u v w o).bind fun(a,ab)=>
if(Bf ab 0)then
some (([]:LB),ab)
else
(Agp y ag ah ai aj).bind fun(b,ac)=>
if(Bf ac 0)then
some (([]:LB),ac)
else
if(geq y 2)then
(Zm o).bind fun(ak,al)=>
j8 a b ak
else
j8 a b ([]:LB)
def Aeq:=Ahs Zd
def Ahj:Option (LB×Bool):=
(Aeq 1 8 1 ([(1:Int32),(2:Int32)]:LX) ([]:LB)).bind fun(a,b)=>
some (a,((geq b 0)&&(geq (Ac a) 46)))
def Fy(a b:LB):Option Bool:=
some (a==b)
def Ir(b a:LB):Option Bool:=
if(Jt (Ac b) (Ac a))then
(Cf b 0 (Ac a)).bind fun f=>
(Fy f a).bind fun g=>
some g
else
some false
abbrev Iv:=Option (Int×Int)
def Ay3(b:Int):Iv:=
some (b,0)
def Amt:=Ay3
def Tj(j6:Int→Iv)(bk4:Int→Int→Iv)(a:LB)(b f:Int):Iv:=
if(Bw f (Ac a))then
(getI a f).bind fun g=>
if(Ez g 127)then
some (0,12)
else
bk4 (gor (Cn b (GI.toZ (7:UInt64)).toNat) (Ae g:Int)) (Ad f 1)
else
j6 b
def Ju(a:LB):Nat→Int→Int→Iv
|0,_,_=>none
|q+1,b,f=>Tj Amt (Ju a q) a b f
def Acf a:=Ju a Ao
def Acb(j4:LB→Int→Int→Iv)(a:LB):Iv:=
if(Bf (Ac a) 4)then
some (0,2)
else
j4 a 0 0
def Ade:=Acb Acf
abbrev Gk:=Option (Int×Int)
def Aqm(a:LB)(b:UInt8)(h:Int):Gk:=
if(Ez h 4000)then
some (0,4)
else
if(Bw (Ac a) h)then
some (0,24)
else
if(geq b 16)then
(Cf a (Ah h 10) h).bind fun k=>
(Cf k 0 3).bind fun u=>
if(u !=([51,68,73]:LB))then
some (0,12)
else
(Cf k 3 (Ac k)).bind fun v=>
(Cf a 3 10).bind fun w=>
(Fy v w).bind fun y=>
if(!y)then
some (0,12)
else
some (h,0)
else
some (h,0)
def Vt:=Aqm
def Afc(j8:LB→UInt8→Int→Gk)(a:LB)(g:Int)(b:UInt8):Gk:=
if(geq b 16)then
j8 a b (Ad (Ad g 10) 10)
else
j8 a b (Ad g 10)
def Vl:=Afc Vt
def Afk(j7:LB→Int→UInt8→Gk)(a:LB)(g:Int)(b:UInt8)(m:Bool):Gk:=
if m then
some (0,12)
else
j7 a g b
def Afl:=Afk Vl
def Af0(j6:LB→Int→UInt8→Bool→Gk)(a:LB)(f b:UInt8):Gk:=
(Cf a 6 10).bind fun aa=>
(Ade aa).bind fun(g,ab)=>
if(Bf ab 0)then
if true then
j6 a g b true
else
if(geq b 0)then
j6 a g b (!((Jt f 2)&&(gle f 4)))
else
if(geq b 16)then
j6 a g b (!(geq f 4))
else
j6 a g b (!false)
else
(getI a 4).bind fun ac=>
if(Bf ac 0)then
j6 a g b true
else
if(geq b 0)then
j6 a g b (!((Jt f 2)&&(gle f 4)))
else
if(geq b 16)then
j6 a g b (!(geq f 4))
else
j6 a g b (!false)
def Ae3:=Af0 Afl
def Vq(j5:LB→UInt8→UInt8→Gk)(a:LB):Gk:=
(Ir a ([(73:UInt8),(68:UInt8),(51:UInt8)]:LB)).bind fun n=>
if(!n)then
some (0,6)
else
if(Bw (Ac a) 10)then
some (0,24)
else
(getI a 3).bind fun f=>
(getI a 5).bind fun b=>
(
(
(
j5 a f b)))
def Agv:=Vq Ae3
abbrev Wd:=Option (UInt64×Int)
def Bne(b:UInt64):Wd:=
some (b,0)
def Baw:=Bne
def Aj2(j6:UInt64→Wd)(bk4:UInt64→Int→Wd)(a:LB)(b:UInt64)(f:Int):Wd:=
if(Bw f (Ac a))then
(getI a f).bind fun g=>
(Gw (Jt (Bg 8 f) 0)).bind fun _=>
bk4 (gor b (Cn (Ae g:UInt64) (GI.toZ (Bg 8 f)).toNat)) (Ad f 1)
else
j6 b
def Wy(a:LB):Nat→UInt64→Int→Wd
|0,_,_=>none
|q+1,b,f=>Aj2 Baw (Wy a q) a b f
def Aro a:=Wy a Ao
def Arw(j4:LB→UInt64→Int→Wd)(a:LB):Wd:=
if((Bw (Ac a) 1)||(Ez (Ac a) 8))then
some (0,2)
else
j4 a 0 0
def Asi:=Arw Aro
def Amw(f:LB)(a b:Int):Option (UInt64×Int):=
if(((Bw b 1)||(Ez b 8))||(Bw a 0))then
some (0,2)
else
if(Ez a (Ah (Ac f) b))then
some (0,24)
else
(Cf f a (Ad a b)).bind fun g=>
(Asi g).bind fun(h,k)=>
some (h,k)
def Bcd(g:LB):Option (LB):=
some g
def Awo:=Bcd
def An8(j6:LB→Option (LB))(bk4:Int→LB→Option (LB))(a b:Int)(f:UInt64)(h:Int)(g:LB):Option (LB):=
if(Bw h (Ac ([(2000:UInt64),(Ae (Ad a 32):UInt64),(Ae b:UInt64),f,(0:UInt64),(0:UInt64)]:LQ)))then
(getI ([(2000:UInt64),(Ae (Ad a 32):UInt64),(Ae b:UInt64),f,(0:UInt64),(0:UInt64)]:LQ) h).bind fun _=>
(getI ([(2000:UInt64),(Ae (Ad a 32):UInt64),(Ae b:UInt64),f,(0:UInt64),(0:UInt64)]:LQ) h).bind fun k=>
(Un k 4).bind fun(m,o)=>
(Fj g m).bind fun n=>
bk4 (Ad h 1) n
else
j6 g
def Wg(a b:Int)(f:UInt64):Nat→Int→LB→Option (LB)
|0,_,_=>none
|q+1,h,g=>An8 Awo (Wg a b f q) a b f h g
def Avq a b f:=Wg a b f Ao
def Av2(j4:Int→Int→UInt64→Int→LB→Option (LB))(a b:Int)(f:UInt64):Option (LB):=
j4 a b f 0 ([(65:UInt8),(80:UInt8),(69:UInt8),(84:UInt8),(65:UInt8),(71:UInt8),(69:UInt8),(88:UInt8)]:LB)
def At7:=Av2 Avq
def Ag7(b:LB)(g:UInt64):Option (Int×Int×Bool):=
(Amw b 12 4).bind fun(a,m)=>
(Amw b 16 4).bind fun(f,n)=>
if(((Bw a 32)||(Ez a 3032))||(Ez f 1000))then
some (0,0,false)
else
(At7 (Ah (Ae a:Int) 32) (Ae f:Int) g).bind fun h=>
(Fy b h).bind fun k=>
some ((Ah (Ae a:Int) 32),(Ae f:Int),k)
def Aul(a:LB):Option (Int×Int):=
(Ir a ([(65:UInt8),(80:UInt8),(69:UInt8),(84:UInt8),(65:UInt8),(71:UInt8),(69:UInt8),(88:UInt8)]:LB)).bind fun f=>
if(!f)then
some (0,6)
else
if(Bw (Ac a) 32)then
some (0,24)
else
(Cf a 0 32).bind fun g=>
(Ag7 g 2684354560).bind fun(b,h,k)=>
if(!k)then
some (0,12)
else
if(Bw (Ac a) (Ad b 64))then
some (0,24)
else
(Cf a (Ah (Ad b 64) 32) (Ad b 64)).bind fun m=>
(At7 b h 2147483648).bind fun n=>
(Fy m n).bind fun o=>
if(!o)then
some (0,12)
else
some ((Ad b 64),0)
def Se(a:LB):Option (Int×Int):=
(Agv a).bind fun(f,b)=>
if(Bf b 6)then
some (f,b)
else
(Aul a).bind fun(g,h)=>
some (g,h)
def Qe(b:List UInt8):Nat→Int→Option (Int×Int)
  |0,_=>none
  |q+1,x=>Option.bind (Cf b x (Ac b)) fun s=>Option.bind (Se s) fun r=>
    if geq r.2 (6:Int)=true then some (x,0)
    else if(geq r.2 (0:Int)&&Ez (Ad x r.1) (4000:Int))=true then some (0,4)
    else if Bf r.2 (0:Int)=true then some (0,r.2)
    else Qe b q (Ad x r.1)
def Xe(b:List UInt8):Option (Int×Int):=Qe b Ao 0
def Hn(b a:LB):Option Bool:=
if(Jt (Ac b) (Ac a))then
(Cf b 0 (Ac a)).bind fun f=>
some (f==a)
else
some false
def Ra(a b:LB):Option Bool:=
(Hn a b).bind fun f=>
some f
abbrev Mg:=Option (Int×Int×Int×Int×Int×Int)
def As4(a:LI):Mg:=
(getI a 0).bind fun _=>
(getI a 0).bind fun h=>
(getI a 1).bind fun _=>
(getI a 1).bind fun k=>
(getI a 2).bind fun _=>
(getI a 2).bind fun m=>
(getI a 3).bind fun _=>
(getI a 3).bind fun n=>
(getI a 4).bind fun _=>
(getI a 4).bind fun o=>
(Ul h k m n o).bind fun p=>
if(!p)then
some (0,0,0,0,0,12)
else
(Ad0 h k m n o).bind fun u=>
if(!u)then
some (0,0,0,0,0,4)
else
some (h,k,m,n,o,0)
def Zh:=As4
def Aag(j6:LI→Mg)(bk4:Int→Int→LI→Mg)(b:LB)(g f:Int)(a:LI):Mg:=
if(Bw f 5)then
(getI ([(2:Int),(2:Int),(2:Int),(4:Int),(4:Int)]:LI) f).bind fun h=>
(Amw b g h).bind fun(v,ae)=>
(getI a f).bind fun _=>
(Ia a f (Ae v:Int)).bind fun w=>
bk4 (Ad g h) (Ad f 1) w
else
j6 a
def Kk(b:LB):Nat→Int→Int→LI→Mg
|0,_,_,_=>none
|q+1,g,f,a=>Aag Zh (Kk b q) b g f a
def Zi b:=Kk b Ao
def Ahl(j4:LB→Int→Int→LI→Mg)(b:LB):Mg:=
(Cf b 0 (Da 4 (Ac b))).bind fun y=>
(Ra ([84,84,65,49]:LB) y).bind fun aa=>
if(!aa)then
some (0,0,0,0,0,12)
else
if(Bw (Ac b) 22)then
some (0,0,0,0,0,24)
else
(Amw b 18 4).bind fun(ab,af)=>
(Cf b 0 18).bind fun ac=>
(Sm ac).bind fun(ad,ag)=>
if(Bf (Ae ad:UInt64) ab)then
some (0,0,0,0,0,22)
else
j4 b 4 0 (List.replicate 5 (0:Int))
def Ak4:=Ahl Zi
def Aas(a f:LB):Option (Bool×Int):=
(Zm f).bind fun(b,g)=>
if((Bf g 0)||(Bf (Ac a) (Ac b)))then
some (false,2)
else
(Fy a b).bind fun h=>
some (h,0)
def Qb(g h k a b:Int):Option (LI×Int):=
(Ou g h k a b).bind fun f=>
if(Bf f 0)then
some (([]:LI),f)
else
(Ry a b).bind fun(m,n)=>
some (m,n)
abbrev Ok:=Option (LI×Int)
def Au6(a:LI):Ok:=
(Lt a).bind fun k=>
if(Bf k 0)then
some (([]:LI),12)
else
some (a,0)
def Adb:=Au6
def Adf(j6:LI→Ok)(bk4:Int→LI→Ok)(b:LB)(f:LI)(g:Int)(a:LI):Ok:=
if(Bw g (Ac f))then
(Amw b (Bg 4 g) 4).bind fun(k,u)=>
(getI a g).bind fun _=>
(Ia a g (Ae k:Int)).bind fun m=>
bk4 (Ad g 1) m
else
j6 a
def Pw(b:LB)(f:LI):Nat→Int→LI→Ok
|0,_,_=>none
|q+1,g,a=>Adf Adb (Pw b f q) b f g a
def Alf b f:=Pw b f Ao
def Ald(j4:LB→LI→Int→LI→Ok)(b:LB)(h:Int):Ok:=
if((Bw h 1)||(Ez h 1000))then
some (([]:LI),2)
else
if(Bw (Ac b) (Ad (Bg 4 h) 4))then
some (([]:LI),24)
else
(Amw b (Bg 4 h) 4).bind fun(n,v)=>
(Cf b 0 (Bg 4 h)).bind fun o=>
(Sm o).bind fun(p,w)=>
if(Bf (Ae p:UInt64) n)then
some (([]:LI),22)
else
(mkI h (0:Int)).bind fun f=>
(Gw (geq h h)).bind fun _=>
j4 b f 0 f
def Ao9:=Ald Alf
abbrev Amf:=Option (Int×Int×Int×Int×Int×Int×LI×Int)
def Atu(a:LB)(b f g h k n:Int):Amf:=
(Qb b f g h k).bind fun(ab,p)=>
if(Bf p 0)then
some (0,0,0,0,0,0,([]:LI),p)
else
(Cf a n (Ac a)).bind fun ac=>
(Ao9 ac (Ac ab)).bind fun(u,v)=>
if(Bf v 0)then
some (0,0,0,0,0,0,([]:LI),v)
else
some (b,f,g,h,k,(Ad (Ad n (Bg 4 (Ac u))) 4),u,0)
def Nc:=Atu
def Rp(j2:LB→Int→Int→Int→Int→Int→Int→Amf)(a o:LB):Amf:=
if(Ez (Ac o) 64)then
some (0,0,0,0,0,0,([]:LI),2)
else
if(Ez (Ac a) 100000)then
some (0,0,0,0,0,0,([]:LI),4)
else
(Xe a).bind fun(m,w)=>
if(Bf w 0)then
some (0,0,0,0,0,0,([]:LI),w)
else
(Cf a m (Ac a)).bind fun ad=>
(Ak4 ad).bind fun(b,f,g,h,k,y)=>
if(Bf y 0)then
some (0,0,0,0,0,0,([]:LI),y)
else
if((o==([]:LB)) !=(geq b 1))then
some (0,0,0,0,0,0,([]:LI),26)
else
if(o !=([]:LB))then
if(Bw (Ac a) (Ad (Ad m 22) 8))then
some (0,0,0,0,0,0,([]:LI),24)
else
(Cf a (Ad m 22) (Ad (Ad m 22) 8)).bind fun ae=>
(Aas ae o).bind fun(af,aa)=>
if(Bf aa 0)then
some (0,0,0,0,0,0,([]:LI),aa)
else
if(!af)then
some (0,0,0,0,0,0,([]:LI),26)
else
j2 a b f g h k (Ad (Ad m 22) 8)
else
j2 a b f g h k (Ad m 22)
def seekto_Open:=Rp Nc
abbrev Fk:=Option (LI×Int)
def Axl(f:LI):Fk:=
some (f,0)
def Aj7:=Axl
def Amn(bk6:Int→Int→LI→Fk)(a:LI)(b g h:Int)(k:LI):Fk:=
bk6 (Ad b 1) (Ad g h) k
def Ack bk6:=Amn bk6
def So(j8:Int→Int→Int→LI→Fk)(j10:LI→Fk)(a:LI)(b g:Int)(f:LI):Fk:=
if(Bw b (Ac a))then
(getI a b).bind fun h=>
(Fj f ([(Ad g h)]:LI)).bind fun k=>
j8 b g h k
else
j10 f
def Jv(a:LI):Nat→Int→Int→LI→Fk
|0,_,_,_=>none
|q+1,b,g,f=>So (Ack (Jv a q) a) Aj7 a b g f
def Ang a:=Jv a Ao
def Acg(j6:LI→Int→Int→LI→Fk)(a:LI):Fk:=
(Lt a).bind fun m=>
if(Bf m 0)then
some (([]:LI),m)
else
j6 a 0 0 ([(0:Int)]:LI)
def Vh:=Acg Ang
def Yu(a:LB):Option (LB×Int):=
if(Bw (Ac a) 5)then
some (([]:LB),24)
else
if(Ez (Ac a) 41254)then
some (([]:LB),4)
else
(Cf a 0 (Ah (Ac a) 4)).bind fun f=>
(Sm f).bind fun(g,b)=>
if(Bf b 0)then
some (([]:LB),b)
else
(Cf a (Ah (Ac a) 4) (Ac a)).bind fun h=>
(Asi h).bind fun(k,m)=>
if((Bf m 0)||(Bf k (Ae g:UInt64)))then
some (([]:LB),22)
else
(Cf a 0 (Ah (Ac a) 4)).bind fun n=>
some (n,0)
def Bil(a:LB):Option (LB×Int×Int):=
if(Ez (Ac a) 41250)then
some (([]:LB),0,4)
else
(Dg a).bind fun b=>
some (b,(Bg 8 (Ac a)),0)
def Bn6(g:UInt64):Option UInt64:=
some g
def Bax:=Bn6
def Atn(j6:UInt64→Option UInt64)(bk4:UInt64→Int→Option UInt64)(b f:Int)(h:LB)(k:Int)(g:UInt64)(a:Int):Option UInt64:=
if(Bw a f)then
(getI h (Bii (Ad b a) (GI.toZ (3:UInt64)).toNat)).bind fun m=>
(Gw (Jt (Cx (Ad b a) 7) 0)).bind fun _=>
(Gw (Jt (Da (Ah f a) (Ah 8 (Cx (Ad b a) 7))) 0)).bind fun _=>
(Gw (Jt a 0)).bind fun _=>
bk4 (gor g (Cn (Ae (Cx (Bl m (GI.toZ (Cx (Ad b a) 7)).toNat) (Ah (Cn (1:UInt8) (GI.toZ (Da (Ah f a) (Ah 8 (Cx (Ad b a) 7)))).toNat) 1)):UInt64) (GI.toZ a).toNat)) (Ad a (Da (Ah f a) (Ah 8 (Cx (Ad b a) 7))))
else
j6 g
def Aen(b f:Int)(h:LB)(k:Int):Nat→UInt64→Int→Option UInt64
|0,_,_=>none
|q+1,g,a=>Atn Bax (Aen b f h k q) b f h k g a
def Baq b f h k:=Aen b f h k Ao
def Ba0(j4:Int→Int→LB→Int→UInt64→Int→Option UInt64)(h:LB)(k b f:Int):Option UInt64:=
j4 b f h k 0 0
def Axt:=Ba0 Baq
abbrev Dw:=Option (LB×Int×Int)
def Ayl(o:Int)(p:LB):Dw:=
some (p,o,0)
def Aoj:=Ayl
def Ayo(bk27:Int→Int→LB→Dw)(a:Int)(g:LB)(f b h:Int)(u:LB):Dw:=
bk27 (Ad b 64) h u
def Agq bk27:=Ayo bk27
def Aw5(bk44:UInt64→Int→Int→LB→Dw)(a b:Int)(g:LB)(f:Int)(k n:UInt64)(m h:Int)(w:LB):Dw:=
(Gw (Jt (Da m (Ah 8 (Cx h 7))) 0)).bind fun _=>
bk44 (Bl n (GI.toZ (Da m (Ah 8 (Cx h 7)))).toNat) (Ah m (Da m (Ah 8 (Cx h 7)))) (Ad h (Da m (Ah 8 (Cx h 7)))) w
def Aos bk44:=Aw5 bk44
def Apn(j48:UInt64→Int→Int→LB→Dw)(a b:Int)(g:LB)(f:Int)(k n:UInt64)(m h:Int)(v:LB):Dw:=
(getI v (Ah (Ac v) 1)).bind fun _=>
(Gw (Jt (Da m (Ah 8 (Cx h 7))) 0)).bind fun _=>
(Gw (Jt (Cx h 7) 0)).bind fun _=>
(getI v (Ah (Ac v) 1)).bind fun aa=>
(getI v (Ah (Ac v) 1)).bind fun _=>
Option.bind (Ia v (Ah (Ac v) 1) (gor aa (Cn (Ae (Cx n (Ah (Cn (1:UInt64) (GI.toZ (Da m (Ah 8 (Cx h 7)))).toNat) 1)):UInt8) (GI.toZ (Cx h 7)).toNat))) fun w=>
j48 n m h w
def Ago bk44 a b g f k:=Apn (Aos bk44 a b g f k) a b g f k
def Agn(j47:UInt64→Int→Int→LB→Dw)(j50:Int→Int→LB→Dw)(a:Int)(g:LB)(f b:Int)(k n:UInt64)(m h:Int)(u:LB):Dw:=
if(Ez m 0)then
if(geq (Cx h 7) 0)then
(Fj u ([(0:UInt8)]:LB)).bind fun ab=>
j47 n m h ab
else
j47 n m h u
else
j50 b h u
def Ls(bk27:Int→Int→LB→Dw)(a:Int)(g:LB)(f b:Int)(k:UInt64):Nat→UInt64→Int→Int→LB→Dw
|0,_,_,_,_=>none
|q+1,n,m,h,u=>Agn (Ago (Ls bk27 a g f b k q) a b g f k) (Agq bk27 a g f) a g f b k n m h u
def Ao4 bk27 a g f b k:=Ls bk27 a g f b k Ao
def Ao7(j44:Int→UInt64→UInt64→Int→Int→LB→Dw)(j52:Int→LB→Dw)(a:Int)(g:LB)(f b o:Int)(p:LB):Dw:=
if(Bw b a)then
(Axt g f b (Da 64 (Ah a b))).bind fun k=>
j44 b k k (Da 64 (Ah a b)) o p
else
j52 o p
def Te(a:Int)(g:LB)(f:Int):Nat→Int→Int→LB→Dw
|0,_,_,_=>none
|q+1,b,o,p=>Ao7 (Ao4 (Te a g f q) a g f) Aoj a g f b o p
def Apu a g f:=Te a g f Ao
def Atk(j27:Int→LB→Int→Int→Int→LB→Dw)(g:LB)(f y a:Int):Dw:=
(Ge g f).bind fun ac=>
if(Bf ac 0)then
some (([]:LB),0,8)
else
if(((Bw y 0)||(Ez y a))||(Ez a f))then
some (([]:LB),0,2)
else
j27 a g f y 0 ([]:LB)
def Ato:=Atk Apu
def Aau(g:LB)(b f a:Int):Option (UInt64×Int):=
(Ge g b).bind fun h=>
if(Bf h 0)then
some (0,8)
else
if(((Bw a 0)||(Ez a 64))||(Bw f 0))then
some (0,2)
else
if(Ez f (Ah b a))then
some (0,24)
else
(Axt g b f a).bind fun k=>
some (k,0)
def Ex(a:UInt64):Option Int:=
if(geq a 0)then
some 64
else
(getI ([(0:UInt8),(1:UInt8),(56:UInt8),(2:UInt8),(57:UInt8),(49:UInt8),(28:UInt8),(3:UInt8),(61:UInt8),(58:UInt8),(42:UInt8),(50:UInt8),(38:UInt8),(29:UInt8),(17:UInt8),(4:UInt8),(62:UInt8),(47:UInt8),(59:UInt8),(36:UInt8),(45:UInt8),(43:UInt8),(51:UInt8),(22:UInt8),(53:UInt8),(39:UInt8),(33:UInt8),(30:UInt8),(24:UInt8),(18:UInt8),(12:UInt8),(5:UInt8),(63:UInt8),(55:UInt8),(48:UInt8),(27:UInt8),(60:UInt8),(41:UInt8),(37:UInt8),(16:UInt8),(46:UInt8),(35:UInt8),(44:UInt8),(21:UInt8),(52:UInt8),(32:UInt8),(23:UInt8),(11:UInt8),(54:UInt8),(26:UInt8),(40:UInt8),(15:UInt8),(34:UInt8),(20:UInt8),(31:UInt8),(10:UInt8),(25:UInt8),(14:UInt8),(19:UInt8),(9:UInt8),(13:UInt8),(8:UInt8),(7:UInt8),(6:UInt8)]:LB) (GI.toZ (Bl (Bg (Cx a (Aw7 a)) 285870213051353865) (GI.toZ (58:UInt64)).toNat))).bind fun b=>
some (Ae b:Int)
abbrev Gj:=Option (Int×Int×Int)
def Bdu:Gj:=
some (0,0,24)
def Ar8:=Bdu
def Au1(j10:Gj):Gj:=
j10
def Avp:=Au1 Ar8
def Al6(j9:Gj)(f a:Int):Gj:=
if(geq f 48)then
some (f,(Ad 0 (Ad a f)),0)
else
j9
def Al9:=Al6 Avp
def Alj(j8:Int→Int→Gj)(f b a:Int):Gj:=
if(Bw f (Da 48 (Ah b a)))then
some (f,(Ad (Ad (0:Int) (1:Int)) (Ad a f)),0)
else
j8 f a
def Alg:=Alj Al9
def Ama(j7:Int→Int→Int→Gj)(h:Int)(k:UInt64)(a:Int)(g:LB)(b:Int):Gj:=
if(Bf h 0)then
some (0,0,h)
else
(Ex (Bca k)).bind fun f=>
j7 f b a
def Amc:=Ama Alg
def Vg(j6:Int→UInt64→Int→LB→Int→Gj)(g:LB)(b a:Int):Gj:=
(Ge g b).bind fun m=>
if(Bf m 0)then
some (0,0,m)
else
if(Bw a 0)then
some (0,0,2)
else
if(Jt a b)then
some (0,0,24)
else
(
(
(Aau g b a (Da 48 (Ah b a))).bind fun(k,h)=>
j6 h k a g b))
def Acv:=Vg Amc
abbrev Asy:=Option (UInt32×Int×Int)
def Ao0(a b f:Int)(g:LB)(h k:Int):Asy:=
(Aau g h b k).bind fun(m,n)=>
if(Bf n 0)then
some (0,0,n)
else
if(Bw f 48)then
(Gw (Jt a 0)).bind fun _=>
some ((gor (Cn (Ae f:UInt32) (GI.toZ a).toNat) (Ae m:UInt32)),(Ad b k),0)
else
(Sy (Ae m:UInt32) a).bind fun u=>
if(!u)then
some (0,0,12)
else
some ((Ae m:UInt32),(Ad b k),0)
def Agw:=Ao0
def Apq(j2:Int→Int→Int→LB→Int→Int→Asy)(g:LB)(h v a:Int):Asy:=
(Ge g h).bind fun o=>
if(Bf o 0)then
some (0,0,o)
else
if((Bw a 0)||(Ez a 24))then
some (0,0,2)
else
(Acv g h v).bind fun(f,b,p)=>
if(Bf p 0)then
some (0,0,p)
else
if(geq f 48)then
j2 a b f g h 32
else
j2 a b f g h a
def Aty:=Apq Agw
abbrev Ig:=Option (UInt32×Int×Int×Int×UInt64×UInt64×Int)
def Avi(f:UInt32)(k w m:Int)(a n:UInt64):Ig:=
some (f,k,w,m,(Ad a (Ah (Ae f:UInt64) (Bl a (GI.toZ (4:UInt64)).toNat))),n,0)
def Ala:=Avi
def Aox(j10:UInt32→Int→Int→Int→UInt64→UInt64→Ig)(f:UInt32)(k m:Int)(a n:UInt64)(w:Int):Ig:=
j10 f k w m a n
def Api:=Aox Ala
def Aov(j9:UInt32→Int→Int→UInt64→UInt64→Int→Ig)(f:UInt32)(k b:Int)(a:UInt64)(m:Int)(n:UInt64):Ig:=
if(Ez b 0)then
(Gw (Jt b 0)).bind fun _=>
if(Bw (Ad a (Ah (Ae f:UInt64) (Bl a (GI.toZ (4:UInt64)).toNat))) (Cn (16:UInt64) (GI.toZ b).toNat))then
j9 f k m a n (Ah b 1)
else
if(Bw b 24)then
(Gw (Jt b 0)).bind fun _=>
if(Ez (Ad a (Ah (Ae f:UInt64) (Bl a (GI.toZ (4:UInt64)).toNat))) (Cn (32:UInt64) (GI.toZ b).toNat))then
j9 f k m a n (Ad b 1)
else
j9 f k m a n b
else
j9 f k m a n b
else
if(Bw b 24)then
(Gw (Jt b 0)).bind fun _=>
if(Ez (Ad a (Ah (Ae f:UInt64) (Bl a (GI.toZ (4:UInt64)).toNat))) (Cn (32:UInt64) (GI.toZ b).toNat))then
j9 f k m a n (Ad b 1)
else
j9 f k m a n b
else
j9 f k m a n b
def Aaa:=Aov Api
def Aps(j8:UInt32→Int→Int→UInt64→Int→UInt64→Ig)(b h:Int)(a g:UInt64)(f:UInt32)(k:Int):Ig:=
(Aco b h a g f).bind fun(ad,o)=>
if(geq ad 1)then
if(Ez h 0)then
(Gw (Jt h 0)).bind fun _=>
if(Bw (Ad g (Ah (Ae o:UInt64) (Bl g (GI.toZ (4:UInt64)).toNat))) (Cn (16:UInt64) (GI.toZ h).toNat))then
j8 f k b a (Ah h 1) (Ad g (Ah (Ae o:UInt64) (Bl g (GI.toZ (4:UInt64)).toNat)))
else
if(Bw h 24)then
(Gw (Jt h 0)).bind fun _=>
if(Ez (Ad g (Ah (Ae o:UInt64) (Bl g (GI.toZ (4:UInt64)).toNat))) (Cn (32:UInt64) (GI.toZ h).toNat))then
j8 f k b a (Ad h 1) (Ad g (Ah (Ae o:UInt64) (Bl g (GI.toZ (4:UInt64)).toNat)))
else
j8 f k b a h (Ad g (Ah (Ae o:UInt64) (Bl g (GI.toZ (4:UInt64)).toNat)))
else
j8 f k b a h (Ad g (Ah (Ae o:UInt64) (Bl g (GI.toZ (4:UInt64)).toNat)))
else
if(Bw h 24)then
(Gw (Jt h 0)).bind fun _=>
if(Ez (Ad g (Ah (Ae o:UInt64) (Bl g (GI.toZ (4:UInt64)).toNat))) (Cn (32:UInt64) (GI.toZ h).toNat))then
j8 f k b a (Ad h 1) (Ad g (Ah (Ae o:UInt64) (Bl g (GI.toZ (4:UInt64)).toNat)))
else
j8 f k b a h (Ad g (Ah (Ae o:UInt64) (Bl g (GI.toZ (4:UInt64)).toNat)))
else
j8 f k b a h (Ad g (Ah (Ae o:UInt64) (Bl g (GI.toZ (4:UInt64)).toNat)))
else
j8 f k b a h g
def Ags:=Aps Aaa
def An4(j7:Int→Int→UInt64→UInt64→UInt32→Int→Ig)(p:Int)(u:LB)(v b h:Int)(a g:UInt64):Ig:=
(Aau u v p 1).bind fun(ae,aa)=>
if(Bf aa 0)then
some (0,0,0,0,0,0,aa)
else
if(geq ae 0)then
(Aau u v (Ad p 1) b).bind fun(af,ab)=>
if(Bf ab 0)then
some (0,0,0,0,0,0,ab)
else
j7 b h a g (Ae af:UInt32) (Ad (Ad p 1) b)
else
(Aty u v (Ad p 1) h).bind fun(y,ag,ac)=>
if(Bf ac 0)then
some (0,0,0,0,0,0,ac)
else
(Gw (Jt b 0)).bind fun _=>
if(Bw (Ad y (Cn (1:UInt32) (GI.toZ b).toNat)) y)then
some (0,0,0,0,0,0,12)
else
j7 b h a g (Ad y (Cn (1:UInt32) (GI.toZ b).toNat)) ag
def Apw:=An4 Ags
def Apt(j6:Int→LB→Int→Int→Int→UInt64→UInt64→Ig)(u:LB)(v p b h:Int)(a g:UInt64):Ig:=
(Ge u v).bind fun ah=>
if(Bf ah 0)then
some (0,0,0,0,0,0,8)
else
(Aii b h a g).bind fun ai=>
if(Bf ai 0)then
some (0,0,0,0,0,0,8)
else
j6 p u v b h a g
def Aca:=Apt Apw
abbrev Bh:=Option (LU×Int×Int)
def Av7(k:Int)(m:LU):Bh:=
some (m,k,0)
def Aib:=Av7
def Aik(bk16:Int→Int→(List (Int×Int×UInt64×UInt64×Unit))→LU→Bh)(a f:Int)(g:LB)(b k v:Int)(w:UInt32)(h:Int)(ag:List (Int×Int×UInt64×UInt64×Unit))(m:LU):Bh:=
(Fj m ([w]:LU)).bind fun ak=>
bk16 (Ad k v) (Ad h 1) ag ak
def Wf bk16:=Aik bk16
def On(j22:Int→Int→UInt32→Int→(List (Int×Int×UInt64×UInt64×Unit))→LU→Bh)(a f:Int)(g:LB)(b k h y:Int)(w:UInt32)(v:Int)(n:List (Int×Int×UInt64×UInt64×Unit))(m:LU)(aa ab:Int)(ac ad:UInt64):Bh:=
if(Bf y 0)then
some (([]:LU),0,y)
else
(Gw (Bf a 0)).bind fun _=>
(getI n (Ew h a)).bind fun _=>
(Ia n (Ew h a) (aa,ab,ac,ad,())).bind fun ag=>
j22 k v w h ag m
def Od bk16 a f g b:=On (Wf bk16 a f g b) a f g b
def Oi(j21:Int→Int→Int→UInt32→Int→(List (Int×Int×UInt64×UInt64×Unit))→LU→Int→Int→UInt64→UInt64→Bh)(j24:Int→LU→Bh)(a f:Int)(g:LB)(b k h:Int)(n:List (Int×Int×UInt64×UInt64×Unit))(m:LU):Bh:=
if(Bw h (Bg f a))then
(Ato g b k (Da (Ad k 81) b)).bind fun(ah,ae,af)=>
if(Bf af 0)then
some (([]:LU),0,af)
else
(Gw (Bf a 0)).bind fun _=>
(getI n (Ew h a)).bind fun _=>
(
(
(getI n (Ew h a)).bind fun p=>
(
(Aca ah ae 0 p.1 p.2.1 p.2.2.1 p.2.2.2.1).bind fun(w,v,aa,ab,ac,ad,y)=>
j21 k h y w v n m aa ab ac ad)))
else
j24 k m
def Kj(a f:Int)(g:LB)(b:Int):Nat→Int→Int→(List (Int×Int×UInt64×UInt64×Unit))→LU→Bh
|0,_,_,_,_=>none
|q+1,k,h,n,m=>Oi (Od (Kj a f g b q) a f g b) Aib a f g b k h n m
def Ahq a f g b:=Kj a f g b Ao
def Ah1(j16:Int→Int→LB→Int→Int→Int→(List (Int×Int×UInt64×UInt64×Unit))→LU→Bh)(a f:Int)(g:LB)(b:Int)(o:List (Int×Int×UInt64×UInt64×Unit)):Bh:=
j16 a f g b 0 0 o ([]:LU)
def Vx:=Ah1 Ahq
def Ahu(j15:Int→Int→LB→Int→(List (Int×Int×UInt64×UInt64×Unit))→Bh)(bk13:Int→(List (Int×Int×UInt64×UInt64×Unit))→Bh)(a f:Int)(g:LB)(b u:Int)(o:List (Int×Int×UInt64×UInt64×Unit)):Bh:=
if(Bw u 6)then
(Awh).bind fun(al,ae,af,am)=>
(getI o u).bind fun _=>
(Ia o u (al,ae,af,am,())).bind fun an=>
bk13 (Ad u 1) an
else
j15 a f g b o
def Wu(a f:Int)(g:LB)(b:Int):Nat→Int→(List (Int×Int×UInt64×UInt64×Unit))→Bh
|0,_,_=>none
|q+1,u,o=>Ahu Vx (Wu a f g b q) a f g b u o
def Oo a f g b:=Wu a f g b Ao
def Aa6(j13:Int→Int→LB→Int→Int→(List (Int×Int×UInt64×UInt64×Unit))→Bh)(a f:Int)(g:LB)(b:Int):Bh:=
j13 a f g b 0 (List.replicate 6 ((0:Int),(0:Int),(0:UInt64),(0:UInt64),()))
def Zs:=Aa6 Oo
def Th(a:UInt32):Option Int32:=
some (Nn (Ae (Bl a (GI.toZ (1:UInt64)).toNat):Int32) (Aw7 (Ae (Cx a 1):Int32)))
def Ass(b:Int)(f g:LX)(a:Int32):Option (Int32×Int×LX×LX×Int):=
(Ain b f g).bind fun(h,k)=>
if(Bf k 0)then
some (0,0,(List.replicate 16 (0:Int32)),(List.replicate 16 (0:Int32)),k)
else
(Ajn b f g (Ad a h) a).bind fun(m,n,o)=>
some ((Ad a h),m,n,o,0)
def Is(a:Int)(b:Int32)(f:Int)(g h:LX)(o:Int32):Option (Int32×Int×Int32×Int×LX×LX×Int):=
(Rt a b f g h).bind fun k=>
if(Bf k 0)then
some (0,0,0,0,(List.replicate 16 (0:Int32)),(List.replicate 16 (0:Int32)),k)
else
(Rj a b).bind fun(m,y)=>
(Ass f g h o).bind fun(n,p,u,v,w)=>
(
some ((Ad n m),a,(Ad n m),p,u,v,w))
abbrev Fc:=Option (LX×Int)
def Bjl(f:LX):Fc:=
some (f,0)
def Axg:=Bjl
def Axn(bk12:Int→LX→Fc)(b a:Int)(h:LX):Fc:=
bk12 (Ad a b) h
def Apg bk12:=Axn bk12
def Agu(j20:Int→LX→Fc)(bk18:Int→LX→Fc)(b a g:Int)(h:LX):Fc:=
if(Jt g 0)then
(Gw (decide (0≤(Ad g 1)∧(Ad g 1)<((Ad a b)-a)))).bind fun _=>
(Gw (decide (0≤g∧g<((Ad a b)-a)))).bind fun _=>
(getI h (a+(Ad g 1))).bind fun o=>
(getI h (a+g)).bind fun p=>
(Gw (decide (0≤g∧g<((Ad a b)-a)))).bind fun _=>
(Ia h (a+g) (Ah o p)).bind fun u=>
bk18 (Ah g 1) u
else
j20 a h
def Tf(bk12:Int→LX→Fc)(b a:Int):Nat→Int→LX→Fc
|0,_,_=>none
|q+1,g,h=>Agu (Apg bk12 b) (Tf bk12 b a q) b a g h
def Apl bk12 b a:=Tf bk12 b a Ao
def Apd(j18:Int→Int→LX→Fc)(b a:Int)(k:LX):Fc:=
j18 a (Ah (Ah ((Ad a b)-a) 1) 1) k
def Agt bk12 b:=Apd (Apl bk12 b) b
def Apy(j17:Int→LX→Fc)(j22:LX→Fc)(b a:Int)(f:LX):Fc:=
if(Bw a (Ac f))then
(vwI (Ac f) a (Ad a b)).bind fun _=>
if(Ez (Ah ((Ad a b)-a) 1) 0)then
(Gw (decide (0≤(Ah ((Ad a b)-a) 1)∧(Ah ((Ad a b)-a) 1)<((Ad a b)-a)))).bind fun _=>
Option.bind (Gw (decide (0≤(Ah (Ah ((Ad a b)-a) 1) 1)∧(Ah (Ah ((Ad a b)-a) 1) 1)<((Ad a b)-a)))) fun _=>
(getI f (a+(Ah ((Ad a b)-a) 1))).bind fun v=>
(getI f (a+(Ah (Ah ((Ad a b)-a) 1) 1))).bind fun w=>
(Gw (decide (0≤(Ah ((Ad a b)-a) 1)∧(Ah ((Ad a b)-a) 1)<((Ad a b)-a)))).bind fun _=>
(Ia f (a+(Ah ((Ad a b)-a) 1)) (Ad v (Bs w 2))).bind fun y=>
j17 a y
else
j17 a f
else
j22 f
def Pg(b:Int):Nat→Int→LX→Fc
|0,_,_=>none
|q+1,a,f=>Apy (Agt (Pg b q) b) Axg b a f
def Aob b:=Pg b Ao
def Atm(j12:Int→Int→LX→Fc)(b:Int)(m:LX):Fc:=
(Amp b m).bind fun n=>
if(Bf n 0)then
some (([]:LX),n)
else
(Cr m).bind fun aa=>
j12 b 0 aa
def Axq:=Atm Aob
abbrev Bn:=Option (LX×Int)
def Af7(a b:Int)(k:LX):Bn:=
(Axq a k).bind fun(ah,af)=>
if(Bf af 0)then
some (([]:LX),af)
else
(Rs b ah).bind fun ae=>
if(Bf ae 0)then
some (([]:LX),ae)
else
some (ah,0)
def Jd:=Af7
def Af9(bk13:Int→(List (Int×Int32×(Int×LX×LX×Unit)×Unit))→LX→Bn)(a:Int)(f:LU)(b g:Int)(w:Int32)(u:Int)(h:List (Int×Int32×(Int×LX×LX×Unit)×Unit))(k:LX)(y:Int)(v:Int32)(aa:Int)(ab ac:LX):Bn:=
if(Bf u 0)then
some (([]:LX),u)
else
(Ia h (Ew g a) (y,v,(aa,ab,ac,()),())).bind fun ai=>
(Fj k ([w]:LX)).bind fun aj=>
bk13 (Ad g 1) ai aj
def Ue bk13:=Af9 bk13
def Jc(j16:Int→Int32→Int→(List (Int×Int32×(Int×LX×LX×Unit)×Unit))→LX→Int→Int32→Int→LX→LX→Bn)(j18:Int→Int→LX→Bn)(f:LU)(a b g:Int)(h:List (Int×Int32×(Int×LX×LX×Unit)×Unit))(k:LX):Bn:=
if(Bw g (Ac f))then
(getI f g).bind fun ag=>
(Gw (Bf a 0)).bind fun _=>
(getI h (Ew g a)).bind fun _=>
(
(getI h (Ew g a)).bind fun m=>
(
(Th ag).bind fun ae=>
(
(Is m.1 m.2.1 m.2.2.1.1 m.2.2.1.2.1 m.2.2.1.2.2.1 ae).bind fun(w,y,v,aa,ab,ac,u)=>
j16 g w u h k y v aa ab ac)))
else
j18 a b k
def Gs(f:LU)(a b:Int):Nat→Int→(List (Int×Int32×(Int×LX×LX×Unit)×Unit))→LX→Bn
|0,_,_,_=>none
|q+1,g,h,k=>Jc (Ue (Gs f a b q) a f b) Jd f a b g h k
def Agb f a b:=Gs f a b Ao
def Agc(j13:LU→Int→Int→Int→(List (Int×Int32×(Int×LX×LX×Unit)×Unit))→LX→Bn)(f:LU)(a b:Int)(n:List (Int×Int32×(Int×LX×LX×Unit)×Unit)):Bn:=
j13 f a b 0 n ([]:LX)
def Tl:=Agc Agb
def Agg(j12:LU→Int→Int→(List (Int×Int32×(Int×LX×LX×Unit)×Unit))→Bn)(bk10:Int→(List (Int×Int32×(Int×LX×LX×Unit)×Unit))→Bn)(f:LU)(a b:Int)(o:LX)(p:Int)(n:List (Int×Int32×(Int×LX×LX×Unit)×Unit)):Bn:=
if(Bw p 6)then
(Azt b o).bind fun(ak,af,ae,al,am,v)=>
(getI n p).bind fun _=>
(Ia n p (ak,af,(ae,al,am,()),())).bind fun an=>
bk10 (Ad p 1) an
else
j12 f a b n
def Tv(f:LU)(a b:Int)(o:LX):Nat→Int→(List (Int×Int32×(Int×LX×LX×Unit)×Unit))→Bn
|0,_,_=>none
|q+1,p,n=>Agg Tl (Tv f a b o q) f a b o p n
def Mo f a b o:=Tv f a b o Ao
def Wi(j10:LU→Int→Int→LX→Int→(List (Int×Int32×(Int×LX×LX×Unit)×Unit))→Bn)(a b:Int)(o:LX)(f:LU):Bn:=
j10 f a b o 0 (List.replicate 6 ((0:Int),(0:Int32),((0:Int),(List.replicate 16 (0:Int32)),(List.replicate 16 (0:Int32)),()),()))
def Pj:=Wi Mo
def deframe_Decode(a h:Int)(u:LX)(f:Int)(v:LB):Option (LX×Int):=
(Ep a h).bind fun k=>
if(Bf k 0)then
some (([]:LX),k)
else
if(Bw f 1)then
some (([]:LX),2)
else
(Gw (Bf a 0)).bind fun _=>
if(Ez f (Bs 4000 a))then
some (([]:LX),2)
else
(Yu v).bind fun(w,m)=>
if(Bf m 0)then
some (([]:LX),m)
else
(Bil w).bind fun(n,b,o)=>
if(Bf o 0)then
some (([]:LX),o)
else
(Zs a f n b).bind fun(y,g,p)=>
if(Bf p 0)then
some (([]:LX),p)
else
if(Jt (Ah b g) 8)then
some (([]:LX),12)
else
(Aau n b g (Ah b g)).bind fun(aa,ab)=>
if((Bf ab 0)||(Bf aa 0))then
some (([]:LX),12)
else
(Pj a h u y).bind fun(ac,ad)=>
some (ac,ad)
abbrev Cj:=Option (LB×Int)
def Bbh(g:LB):Cj:=
some (g,0)
def Ap3:=Bbh
def Ap1(bk16:Int→LB→Cj)(b:Int)(a:LX)(f:Int)(h:LB):Cj:=
bk16 (Ad f 1) h
def Afm bk16:=Ap1 bk16
def Vj(j28:Int→LB→Cj)(bk26:Int→LB→Cj)(b:Int)(a:LX)(k:Int32)(f m:Int)(h:LB):Cj:=
if(Bw m (Bs b 8))then
(Gw (Jt (Bg 8 m) 0)).bind fun _=>
(Fj h ([(Ae (Bl k (GI.toZ (Bg 8 m)).toNat):UInt8)]:LB)).bind fun p=>
bk26 (Ad m 1) p
else
j28 f h
def Gv(bk16:Int→LB→Cj)(b:Int)(a:LX)(k:Int32)(f:Int):Nat→Int→LB→Cj
|0,_,_=>none
|q+1,m,h=>Vj (Afm bk16 b a) (Gv bk16 b a k f q) b a k f m h
def Afo bk16 b a k f:=Gv bk16 b a k f Ao
def Afx(j26:Int32→Int→Int→LB→Cj)(b:Int)(a:LX)(f:Int)(g:LB)(k:Int32):Cj:=
j26 k f 0 g
def Iu bk16 b a:=Afx (Afo bk16 b a) b a
def Vr(j25:Int→LB→Int32→Cj)(j30:LB→Cj)(b:Int)(a:LX)(f:Int)(g:LB):Cj:=
if(Bw f (Ac a))then
(getI a f).bind fun n=>
if(geq b 8)then
j25 f g (Ad n 128)
else
j25 f g n
else
j30 g
def Er(b:Int)(a:LX):Nat→Int→LB→Cj
|0,_,_=>none
|q+1,f,g=>Vr (Iu (Er b a q) b a) Ap3 b a f g
def Ap4 b a:=Er b a Ao
def Ajk(j16:Int→LX→Int→LB→Cj)(b:Int)(a:LX):Cj:=
(Rs b a).bind fun o=>
if(Bf o 0)then
some (([]:LB),o)
else
j16 b a 0 ([]:LB)
def width_Bytes:=Ajk Ap4
abbrev Dj:=Option (LB×Int)
def Bbn(a ac:Int):Dj:=
if(Bf ac 0)then
some (([]:LB),ac)
else
if((Bw a 0)||(Jt a 0))then
some (([]:LB),2)
else
none
def Aqd:=Bbn
def Azc(ad:Int)(ae:LB):Dj:=
some (ae,ad)
def Aci:=Azc
def Afb(j10:Int→LB→Dj)(w a h b:Int)(aa:LX)(n o p k:Int)(m:LB)(u:LX)(v f g:LI):Dj:=
if(Bf w 0)then
j10 w ([]:LB)
else
(width_Bytes b aa).bind fun(ak,al)=>
j10 al ak
def Ae2:=Afb Aci
def Afd(j10:Int→LB→Dj)(j9:Int→Int→Int→Int→LX→Int→Int→Int→Int→LB→LX→LI→LI→LI→Dj)(a k ab y:Int)(m:LB)(h b:Int)(u:LX)(n o p:Int)(g v f:LI):Dj:=
if(Ez (Ad k y) (Ac m))then
j10 24 ([]:LB)
else
(getI g a).bind fun _=>
(Cf m (Ad k ab) (Ad k y)).bind fun am=>
(getI g a).bind fun an=>
(deframe_Decode h b u an am).bind fun(aa,w)=>
j9 w a h b aa n o p k m u v f g
def Ae4:=Afd Aci Ae2
def Aft(j8:Int→Int→Int→Int→LB→Int→Int→LX→Int→Int→Int→LI→LI→LI→Dj)(a:Int)(g:LI)(n h b o p k:Int)(m:LB)(u:LX)(v f:LI):Dj:=
if(Bf (0:Int) (0:Int))then
some (([]:LB),0)
else
if((Bw a 0)||(Jt a (Ac g)))then
some (([]:LB),2)
else
(getI f a).bind fun _=>
(getI f (Ad a 1)).bind fun _=>
(getI f a).bind fun ab=>
(getI f (Ad a 1)).bind fun y=>
j8 a k ab y m h b u n o p g v f
def Pp:=Aft Ae4
def Afg(j6:Int→Int→Dj)(j7:Int→LI→Int→Int→Int→Int→Int→Int→LB→LX→LI→LI→Dj)(m af:LB)(a:Int):Dj:=
(seekto_Open m af).bind fun(n,h,b,o,p,k,v,ag)=>
if(Bf ag 0)then
j6 a ag
else
(Qb n h b o p).bind fun(g,ah)=>
if(Bf ah 0)then
j6 a ah
else
(Vh v).bind fun(f,ai)=>
if(Bf ai 0)then
j6 a ai
else
(Xb af).bind fun(u,aj)=>
if(Bf aj 0)then
j6 a aj
else
(getI f (Ac g)).bind fun _=>
(getI f (Ac g)).bind fun ao=>
j7 a g n h b o p k m u v f
def Jk:=Afg Aqd Pp
abbrev Av0:=Option (Int×Int)
def Bar(a:LB):Av0:=
(Cf a (Ah (Ac a) 32) (Ac a)).bind fun g=>
(Ag7 g 0).bind fun(f,y,h)=>
if h then
if(Bw (Ah (Ac a) 32) f)then
some (0,24)
else
some ((Ad f 32),0)
else
(Cf a (Ah (Ac a) 32) (Ac a)).bind fun k=>
(Ag7 k 2147483648).bind fun(b,m,n)=>
if(!n)then
some (0,12)
else
if(Bw (Ac a) (Ad b 64))then
some (0,24)
else
(Cf a (Ah (Ac a) (Ad b 64)) (Ad (Ah (Ac a) (Ad b 64)) 32)).bind fun o=>
(At7 b m 2684354560).bind fun p=>
(Fy o p).bind fun u=>
if(!u)then
some (0,12)
else
some ((Ad b 64),0)
def Atq:=Bar
def Ase(j2:LB→Av0)(a:LB):Av0:=
if(Bw (Ah (Ac a) 32) 0)then
some (0,6)
else
(Cf a (Ah (Ac a) 32) (Ac a)).bind fun v=>
(Ir v ([(65:UInt8),(80:UInt8),(69:UInt8),(84:UInt8),(65:UInt8),(71:UInt8),(69:UInt8),(88:UInt8)]:LB)).bind fun w=>
if(!w)then
some (0,6)
else
j2 a
def Aya:=Ase Atq
abbrev Ei:=Option (Int×Int)
def Azj(a:Int):Ei:=
some (a,0)
def Amy:=Azj
def Ani(bk8:Int→LB→Ei)(a:Int)(g:LB):Ei:=
bk8 (Ad a 1) g
def Acr bk8:=Ani bk8
def Acx(j12:Int→LB→Ei)(a f:Int)(b:LB):Ei:=
if(geq f 0)then
some (0,38)
else
(Cf b 0 (Ah (Ac b) f)).bind fun g=>
j12 a g
def Ab5 bk8:=Acx (Acr bk8)
def Af5(j11:Int→Int→LB→Ei)(j14:Int→Ei)(a:Int)(b:LB):Ei:=
if(Ez (Ac b) 0)then
(Aya b).bind fun(f,k)=>
j11 a f b
else
j14 a
def Po:Nat→Int→LB→Ei
|0,_,_=>none
|q+1,a,b=>Af5 (Ab5 (Po q)) Amy a b
def Aqk:=Po Ao
def Afu(j8:Int→LB→Ei)(h:LB):Ei:=
if(Ez (Ac h) 4000)then
some (0,38)
else
j8 0 h
def Ti:=Afu Aqk
abbrev Ax:=Option (LB×Int)
def Bbj(a:LB):Ax:=
(Cf a 0 (Ac a)).bind fun ap=>
(Ti ap).bind fun(ay,aj)=>
if(Bf aj 0)then
some (([]:LB),38)
else
some (([]:LB),0)
def Aqb:=Bbj
def Aqc(j21:LB→Ax)(a:LB)(aa:Int):Ax:=
if(Bw aa 0)then
none
else
j21 a
def Ap6(a:LB)(aa:Int):Nat→Ax
|0=>none
|q+1=>Aqc Aqb a aa
def Aqh a aa:=Ap6 a aa Ao
def Aqq(j19:LB→Int→Ax)(a:LB)(aa ag:Int):Ax:=
if(Bf ag 0)then
some (([]:LB),ag)
else
if((Bw aa 0)||(Jt aa 0))then
some (([]:LB),2)
else
j19 a aa
def Ap8:=Aqq Aqh
def Apz(a:LB)(b m:Int)(y:LB):Ax:=
(Cf a (Ad b m) (Ac a)).bind fun aq=>
(Ti aq).bind fun(aj,ar)=>
if(Bf ar 0)then
some (([]:LB),38)
else
some (y,0)
def Ae5:=Apz
def Ap9(bk22:Int→LB→Ax)(a:LB)(f:LI)(b m n h g o p:Int)(u:LX)(v k:LI)(w:Int)(ad:LB):Ax:=
bk22 (Ad w 1) ad
def Afe bk22:=Ap9 bk22
def Aff(j30:Int→LB→Ax)(a:LB)(f:LI)(b m n h g o p:Int)(u:LX)(v k:LI)(w:Int)(y:LB)(ah:Int)(ai:LB):Ax:=
if(Bf ah 0)then
some (([]:LB),ah)
else
(Fj y ai).bind fun ad=>
j30 w ad
def Ps bk22 a f b m n h g o p u v k:=Aff (Afe bk22 a f b m n h g o p u v k) a f b m n h g o p u v k
def Afz(j29:Int→LB→Int→LB→Ax)(a:LB)(f:LI)(b m h g n o p:Int)(u:LX)(v k:LI)(ab w:Int)(ae:LX)(y:LB):Ax:=
if(Bf ab 0)then
j29 w y ab ([]:LB)
else
(width_Bytes g ae).bind fun(au,av)=>
j29 w y av au
def Afv bk22 a f b m h g n o p u v k:=Afz (Ps bk22 a f b m n h g o p u v k) a f b m h g n o p u v k
def Af1(j29:Int→LB→Int→LB→Ax)(j28:Int→Int→LX→LB→Ax)(b:Int)(a:LB)(f:LI)(m h g:Int)(u:LX)(n o p:Int)(v k:LI)(w af ac:Int)(y:LB):Ax:=
if(Ez (Ad b ac) (Ac a))then
j29 w y 24 ([]:LB)
else
(getI f w).bind fun _=>
(Cf a (Ad b af) (Ad b ac)).bind fun aw=>
(getI f w).bind fun ax=>
(deframe_Decode h g u ax aw).bind fun(ae,ab)=>
j28 ab w ae y
def Vp bk22 b a f m h g u n o p v k:=Af1 (Ps bk22 a f b m n h g o p u v k) (Afv bk22 a f b m h g n o p u v k) b a f m h g u n o p v k
def Vv(j27:Int→Int→Int→LB→Ax)(j32:LB→Int→Int→LB→Ax)(a:LB)(f:LI)(b m n h g o p:Int)(u:LX)(v k:LI)(w:Int)(y:LB):Ax:=
if(Bw w (Ac f))then
(getI k w).bind fun _=>
(getI k (Ad w 1)).bind fun _=>
(getI k w).bind fun af=>
(getI k (Ad w 1)).bind fun ac=>
j27 w af ac y
else
j32 a b m y
def Lk(a:LB)(f:LI)(b m n h g o p:Int)(u:LX)(v k:LI):Nat→Int→LB→Ax
|0,_,_=>none
|q+1,w,y=>Vv (Vp (Lk a f b m n h g o p u v k q) b a f m h g u n o p v k) Ae5 a f b m n h g o p u v k w y
def Aqj a f b m n h g o p u v k:=Lk a f b m n h g o p u v k Ao
def Af2(j22:LB→LI→Int→Int→Int→Int→Int→Int→Int→LX→LI→LI→Int→LB→Ax)(a:LB)(aa:Int)(f:LI)(b m n h g o p:Int)(u:LX)(v k:LI):Ax:=
if(Bf (0:Int) (0:Int))then
some (([]:LB),0)
else
if((Bw aa 0)||(Jt aa (Ac f)))then
some (([]:LB),2)
else
j22 a f b m n h g o p u v k aa ([]:LB)
def Afn:=Af2 Aqj
def Ah8(j17:LB→Int→Int→Ax)(j18:LB→Int→LI→Int→Int→Int→Int→Int→Int→Int→LX→LI→LI→Ax)(a ak:LB)(aa:Int):Ax:=
(seekto_Open a ak).bind fun(n,h,g,o,p,b,v,al)=>
if(Bf al 0)then
j17 a aa al
else
(Qb n h g o p).bind fun(f,am)=>
if(Bf am 0)then
j17 a aa am
else
(Vh v).bind fun(k,an)=>
if(Bf an 0)then
j17 a aa an
else
(Xb ak).bind fun(u,ao)=>
if(Bf ao 0)then
j17 a aa ao
else
(getI k (Ac f)).bind fun _=>
(getI k (Ac f)).bind fun m=>
j18 a aa f b m n h g o p u v k
def Lp:=Ah8 Ap8 Afn
def Avo(f g a:Int):Option (Int×Int×Int):=
(Fh f g).bind fun(k,h)=>
if(Bf h 0)then
some (0,0,h)
else
if((Bw a 0)||(Jt a g))then
some (0,0,2)
else
(Lm f).bind fun(b,m)=>
(Gw (Bf b 0)).bind fun _=>
(Gw (Bf b 0)).bind fun _=>
some ((Bs a b),(Ew a b),0)
def Ak9:Option Bool:=
some true
def Uv:=Ak9
def Ux(j6:Option Bool)(bk4:Int→Option Bool)(a b:LI)(f:Int):Option Bool:=
if(Bw f (Ac a))then
(getI a f).bind fun g=>
(getI b f).bind fun h=>
if(Bf g h)then
some false
else
bk4 (Ad f 1)
else
j6
def Ma(a b:LI):Nat→Int→Option Bool
|0,_=>none
|q+1,f=>Ux Uv (Ma a b q) a b f
def Ur a b:=Ma a b Ao
def Ut(j4:LI→LI→Int→Option Bool)(a b:LI):Option Bool:=
if(Bf (Ac a) (Ac b))then
some false
else
j4 a b 0
def Abq:=Ut Ur
def Arc(m b f:Int)(a:LB)(p u v w g n:Int)(h k:LB)(o:LI)(aa:LB)(ab:Int):Option Bool:=
(getI a 45).bind fun _=>
(getI a 45).bind fun ak=>
(getI a 45).bind fun _=>
(Ia a 45 (Nn ak 1)).bind fun ac=>
(Jk ac ([]:LB) 0).bind fun(ad,ae)=>
(Lp ac ([]:LB) 0).bind fun(av,af)=>
if((geq m 0)&&(geq n 34))then
(Abq o ([(6:Int),(6:Int)]:LI)).bind fun al=>
some ((((((((((al&&(geq g 2))&&(geq b 0))&&(h==([130]:LB)))&&(geq f 0))&&(k==([130]:LB)))&&(geq ab 0))&&(aa==([130]:LB)))&&(geq ae 0))&&(ad==([129]:LB)))&&(geq af 22))
else
some ((((((((((false&&(geq g 2))&&(geq b 0))&&(h==([130]:LB)))&&(geq f 0))&&(k==([130]:LB)))&&(geq ab 0))&&(aa==([130]:LB)))&&(geq ae 0))&&(ad==([129]:LB)))&&(geq af 22))
def Abz:=Arc
def Abh(j2:Int→Int→Int→LB→Int→Int→Int→Int→Int→Int→LB→LB→LI→LB→Int→Option Bool):Option Bool:=
(Ahj).bind fun(a,am)=>
if(!am)then
some false
else
(seekto_Open a ([]:LB)).bind fun(p,u,v,w,g,n,o,m)=>
(Jk a ([]:LB) 1).bind fun(h,b)=>
(Lp a ([]:LB) 1).bind fun(k,f)=>
(seekto_Open a ([]:LB)).bind fun(aw,an,ao,ap,ag,ax,ay,ah)=>
if(Bf ah 0)then
j2 m b f a p u v w g n h k o ([]:LB) ah
else
if((Bw (1:Int) (0:Int))||(Jt 1 ag))then
j2 m b f a p u v w g n h k o ([]:LB) 2
else
(Avo ap ag 1).bind fun(aq,ar,ai)=>
if(Bf ai 0)then
j2 m b f a p u v w g n h k o ([]:LB) ai
else
(Lp a ([]:LB) aq).bind fun(y,aj)=>
if(Bf aj 0)then
j2 m b f a p u v w g n h k o ([]:LB) aj
else
(Gw (decide ((Ac y)≤(Ac y)∧(Ac y)≤Ac y))).bind fun _=>
(Cf y (Bs (Bg (Bg ar an) ao) 8) (Ac y)).bind fun au=>
j2 m b f a p u v w g n h k o au 0
def Oz:=Abh Abz
def Ft(a b f:Int)(g:LX):Option (Int×Int):=
some (a,b)
def Gm(a:Int):Option Int:=
if(geq a 8)then
some 128
else
if(geq a 16)then
some 32768
else
if(geq a 24)then
some 8388608
else
some 0
def By(a b:Int):Option Int:=
if((Bw a 1)||(Ez a 6))then
some 2
else
(Gm b).bind fun f=>
if(geq f 0)then
some 2
else
some 0
def Aq8:Option Int:=
some 0
def Ab1:=Aq8
def Br(j6:Option Int)(bk4:Int→Option Int)(a:LX)(b f:Int):Option Int:=
if(Bw f (Ac a))then
(getI a f).bind fun g=>
if(Bw (Ae g:Int) (Aw7 b))then
some 16
else
(getI a f).bind fun h=>
if(Jt (Ae h:Int) b)then
some 16
else
bk4 (Ad f 1)
else
j6
def Ap(a:LX)(b:Int):Nat→Int→Option Int
|0,_=>none
|q+1,f=>Br Ab1 (Ap a b q) a b f
def Abd a b:=Ap a b Ao
def Ci(j4:LX→Int→Int→Option Int)(k:Int)(a:LX):Option Int:=
(Gm k).bind fun b=>
if(geq b 0)then
some 2
else
if(Ez (Ac a) 4000)then
some 4
else
j4 a b 0
def cadenzaref18_Check:=Ci Abd
def Bm(b f:Int)(a:LX):Option Int:=
(By b f).bind fun g=>
if(Bf g 0)then
some 2
else
(cadenzaref18_Check f a).bind fun h=>
if(Bf h 0)then
(cadenzaref18_Check f a).bind fun k=>
some k
else
if(Bw (Ac a) 1)then
some 2
else
(Gw (Bf b 0)).bind fun _=>
if(Ez (Ew (Ac a) b) 0)then
some 2
else
some 0
def Ch(a f b:Int):Option Int:=
(By a f).bind fun g=>
if((Bf g 0)||(Bw b 1))then
some 2
else
(Gw (Bf a 0)).bind fun _=>
if(Ez b (Bs 4000 a))then
some 2
else
some 0
def Lo(a:Int):Option (Int×Int):=
if((Bw a 1)||(Ez a 1048576))then
some (0,2)
else
if(geq (Bs (Bg a 256) 245) 0)then
some (1,0)
else
some ((Bs (Bg a 256) 245),0)
abbrev Fq:=Option (LI×Int)
def Agm(a:LI):Fq:=
if(Ez (Ac a) 1000)then
some (([]:LI),4)
else
some (a,0)
def Tn:=Agm
def Ms(j6:LI→Fq)(bk4:Int→LI→Fq)(b f:Int)(a:LI):Fq:=
if(Ez f 0)then
(Fj a ([(Da f b)]:LI)).bind fun h=>
bk4 (Ah f (Da f b)) h
else
j6 a
def Gq(b:Int):Nat→Int→LI→Fq
|0,_,_=>none
|q+1,f,a=>Ms Tn (Gq b q) b f a
def Tt b:=Gq b Ao
def Mt(j4:Int→Int→LI→Fq)(k g:Int):Fq:=
(Lo k).bind fun(b,m)=>
if(((Bf m 0)||(Bw g 1))||(Ez g 4000))then
some (([]:LI),2)
else
j4 b g ([]:LI)
def Sp:=Mt Tt
def Ht(a b:Int):Option (Int×Int):=
(Sp a b).bind fun(f,g)=>
some ((Ac f),g)
def Yw(f g a:Int)(h:LX)(b:Int):Option Bool:=
(Ft f g a h).bind fun(k,m)=>
(Ch k m b).bind fun n=>
if(Bf n 0)then
some false
else
(Ht a b).bind fun(p,o)=>
some (geq o 0)
def Bz(a f g:Int)(b:LX):Option Int:=
(Ft a f g b).bind fun(h,k)=>
(Bm h k b).bind fun m=>
if(Bf m 0)then
some 8
else
(Gw (Bf a 0)).bind fun _=>
(Yw a f g b (Bs (Ac b) a)).bind fun n=>
if(!n)then
some 8
else
some 0
def Ae7(f:Bool):Option Bool:=
some f
def Pq:=Ae7
def Fm(j6:Bool→Option Bool)(bk4:Int→Int→Option Bool)(h:LB)(b:Int)(f:Bool)(k:LB)(p u v w y a:Int)(o:LB)(n:LI)(g m:Int):Option Bool:=
if(Bw m (Ac n))then
(getI n m).bind fun _=>
(getI n m).bind fun aa=>
(Jk k h m).bind fun(ai,aj)=>
(Jk o h m).bind fun(ak,al)=>
(Lp k h m).bind fun(am,an)=>
(Lp o h m).bind fun(ao,ac)=>
if(((Bf aj 0)||(Bf an 0))||(((gle g (Ad a b))&&(Bw (Ad a b) (Ad g aa)))==(geq al 0)))then
some false
else
if((!((gle g (Ad a b))&&(Bw (Ad a b) (Ad g aa))))&&(ai !=ak))then
some false
else
if(Ez g (Ad a b))then
if((Bf ac 0)||(am !=ao))then
some false
else
if(((Ez (Ad g aa) (Ad a b))&&(gle g (Ad a b)))&&(geq ac 0))then
some false
else
bk4 (Ad g aa) (Ad m 1)
else
if false then
some false
else
if(((Ez (Ad g aa) (Ad a b))&&(gle g (Ad a b)))&&(geq ac 0))then
some false
else
bk4 (Ad g aa) (Ad m 1)
else
j6 f
def Cm(h:LB)(b:Int)(f:Bool)(k:LB)(p u v w y a:Int)(o:LB)(n:LI):Nat→Int→Int→Option Bool
|0,_,_=>none
|q+1,g,m=>Fm Pq (Cm h b f k p u v w y a o n q) h b f k p u v w y a o n g m
def Pm h b f k p u v w y a o n:=Cm h b f k p u v w y a o n Ao
def Iq(j4:LB→Int→Bool→LB→Int→Int→Int→Int→Int→Int→LB→LI→Int→Int→Option Bool)(ae af ag:Int)(ad:LX)(h:LB)(b:Int)(ah:UInt8):Option Bool:=
(Oz).bind fun f=>
(Bz ae af ag ad).bind fun ap=>
if(((((Bf ap 0)||(Ez (Ac ad) 400))||(Ez (Ac h) 64))||(Bw b 0))||(!f))then
some f
else
(Aeq ae af ag ad h).bind fun(k,aq)=>
(seekto_Open k h).bind fun(p,u,v,w,y,a,n,ar)=>
if((((Bf aq 0)||(Bf ar 0))||(Bw a 0))||(Ez a (Ac k)))then
some false
else
if(((Jt b (Ah (Ac k) a))||(geq ah 0))||(Ez (Ac n) 60))then
some f
else
(Fj ([]:LB) k).bind fun ab=>
(getI ab (Ad a b)).bind fun _=>
(getI ab (Ad a b)).bind fun au=>
(getI ab (Ad a b)).bind fun _=>
(Ia ab (Ad a b) (Nn au ah)).bind fun o=>
j4 h b f k p u v w y a o n a 0
def Gz:=Iq Pm
def Uh(f g b a h:Int):Option Bool:=
if((((geq f 1)||(geq f 2))&&(Jt g 1))&&(gle g 6))then
some ((((((geq b 8)||(geq b 16))||(geq b 24))&&(Jt a 1))&&(gle a 1048576))&&(Jt h 1))
else
some (((false&&(Jt a 1))&&(gle a 1048576))&&(Jt h 1))
def Rc(a:Int):Option Int:=
some (Auq 1 (Bs (Bg 256 a) 245))
def Kq(a:LI):Option (LI):=
some a
def Kr:=Kq
def He(j6:LI→Option (LI))(bk4:Int→LI→Option (LI))(b f:Int)(a:LI):Option (LI):=
if(Ez f 0)then
(Rc b).bind fun g=>
(Fj a ([(Da f g)]:LI)).bind fun h=>
(Rc b).bind fun k=>
bk4 (Ah f k) h
else
j6 a
def Dy(b:Int):Nat→Int→LI→Option (LI)
|0,_,_=>none
|q+1,f,a=>He Kr (Dy b q) b f a
def Ab2 b:=Dy b Ao
def Abv(j4:Int→Int→LI→Option (LI))(b m:Int):Option (LI):=
j4 b m ([]:LI)
def Kh:=Abv Ab2
def Aaf(h a k f b:Int):Option Bool:=
(
(Gw (Bf a 0)).bind fun _=>
(
if(Ez b (Bs 4000 a))then
some true
else
(Kh f b).bind fun g=>
some (Ez (Ac g) 1000)))
def Zc(b:Int):Option Int:=
if(Ez b 100000)then
some 8
else
some 0
def Aal:=Zc
def Abc(bk6:Int→Int→Option Int)(a:LI)(b f:Int):Option Int:=
(getI a f).bind fun g=>
bk6 (Ad b g) (Ad f 1)
def Abx bk6:=Abc bk6
def Qs(j8:Int→Int→Option Int)(j10:Int→Option Int)(a:LI)(b f:Int):Option Int:=
if(Bw f (Ac a))then
(getI a f).bind fun h=>
if(Bw h 5)then
some 8
else
(getI a f).bind fun k=>
if(Ez k 100000)then
some 8
else
j8 b f
else
j10 b
def Hf(a:LI):Nat→Int→Int→Option Int
|0,_,_=>none
|q+1,b,f=>Qs (Abx (Hf a q) a) Aal a b f
def Abw a:=Hf a Ao
def Qm(j6:LI→Int→Int→Option Int)(a:LI):Option Int:=
if((Bw (Ac a) 1)||(Ez (Ac a) 1000))then
some 8
else
j6 a 0 0
def Hp:=Qm Abw
abbrev El:=Option (Int×Int)
def Aqt(a:Int):El:=
some (a,0)
def Ara:=Aqt
def Qv(j6:Int→El)(bk4:Int→Int→El)(b:LB)(a f:Int):El:=
if(Bw f 4)then
(getI b f).bind fun g=>
if(Jt g 128)then
some (0,12)
else
(getI b f).bind fun h=>
bk4 (Ad (Bg 128 a) (Ae h:Int)) (Ad f 1)
else
j6 a
def Hj(b:LB):Nat→Int→Int→El
|0,_,_=>none
|q+1,a,f=>Qv Ara (Hj b q) b a f
def Abi b:=Hj b Ao
def Abt(j4:LB→Int→Int→El)(b:LB):El:=
if(Bf (Ac b) 4)then
some (0,2)
else
j4 b 0 0
def Vz:=Abt Abi
abbrev Fe:=Option (Int×Int)
def Ael(a:LB)(g:Int):Fe:=
if(Ez g 4000)then
some (0,4)
else
if(Bw (Ac a) g)then
some (0,24)
else
(getI a 5).bind fun h=>
if(geq h 16)then
(Cf a (Ah g 10) g).bind fun k=>
(Cf a 3 10).bind fun m=>
(Fj ([51,68,73]:LB) m).bind fun n=>
if(k !=n)then
some (0,12)
else
some (g,0)
else
some (g,0)
def Rz:=Ael
def Aef(j6:LB→Int→Fe)(a:LB)(b:Int):Fe:=
(getI a 5).bind fun o=>
if(geq o 16)then
j6 a (Ad (Ad 10 b) 10)
else
j6 a (Ad 10 b)
def Ru:=Aef Rz
def Ady(j5:LB→Int→Fe)(a:LB):Fe:=
if(Bw (Ac a) 10)then
some (0,24)
else
(Cf a 6 10).bind fun p=>
(Vz p).bind fun(b,f)=>
(getI a 3).bind fun u=>
if(Bw u 2)then
if true then
if true then
if(true||(Bf f 0))then
some (0,12)
else
j5 a b
else
(getI a 5).bind fun v=>
if(Bf v 0)then
(getI a 5).bind fun w=>
if(Bf w 16)then
if(true||(Bf f 0))then
some (0,12)
else
j5 a b
else
(getI a 3).bind fun y=>
if((Bf y 4)||(Bf f 0))then
some (0,12)
else
j5 a b
else
if(false||(Bf f 0))then
some (0,12)
else
j5 a b
else
(getI a 4).bind fun aa=>
if(Bf aa 0)then
if(true||(Bf f 0))then
some (0,12)
else
j5 a b
else
(getI a 5).bind fun ab=>
if(Bf ab 0)then
(getI a 5).bind fun ac=>
if(Bf ac 16)then
if(true||(Bf f 0))then
some (0,12)
else
j5 a b
else
(getI a 3).bind fun ad=>
if((Bf ad 4)||(Bf f 0))then
some (0,12)
else
j5 a b
else
if(false||(Bf f 0))then
some (0,12)
else
j5 a b
else
(getI a 3).bind fun ae=>
if(Ez ae 4)then
if true then
if(true||(Bf f 0))then
some (0,12)
else
j5 a b
else
(getI a 5).bind fun af=>
if(Bf af 0)then
(getI a 5).bind fun ag=>
if(Bf ag 16)then
if(true||(Bf f 0))then
some (0,12)
else
j5 a b
else
(getI a 3).bind fun ah=>
if((Bf ah 4)||(Bf f 0))then
some (0,12)
else
j5 a b
else
if(false||(Bf f 0))then
some (0,12)
else
j5 a b
else
(getI a 4).bind fun ai=>
if(Bf ai 0)then
if(true||(Bf f 0))then
some (0,12)
else
j5 a b
else
(getI a 5).bind fun aj=>
if(Bf aj 0)then
(getI a 5).bind fun ak=>
if(Bf ak 16)then
if(true||(Bf f 0))then
some (0,12)
else
j5 a b
else
(getI a 3).bind fun al=>
if((Bf al 4)||(Bf f 0))then
some (0,12)
else
j5 a b
else
if(false||(Bf f 0))then
some (0,12)
else
j5 a b
def Aeu:=Ady Ru
def Adw(j4:LB→Fe)(a:LB):Fe:=
if(Bw (Ac a) 3)then
some (0,6)
else
(Cf a 0 3).bind fun am=>
if(am !=([73,68,51]:LB))then
some (0,6)
else
j4 a
def Yh:=Adw Aeu
def Ai9(a:UInt64):Option UInt64:=
some a
def Aic:=Ai9
def Wa(j6:UInt64→Option UInt64)(bk4:UInt64→Int→Option UInt64)(b:LB)(a:UInt64)(f:Int):Option UInt64:=
if(Jt f 0)then
(getI b f).bind fun g=>
bk4 (Ad (Bg 256 a) (Ae g:UInt64)) (Ah f 1)
else
j6 a
def Kl(b:LB):Nat→UInt64→Int→Option UInt64
|0,_,_=>none
|q+1,a,f=>Wa Aic (Kl b q) b a f
def Ais b:=Kl b Ao
def Aha(j4:LB→UInt64→Int→Option UInt64)(b:LB):Option UInt64:=
j4 b 0 (Ah (Ac b) 1)
def Cp:=Aha Ais
def Zz(b:LB):Option (Int×Int×Bool):=
(Cf b 12 16).bind fun g=>
(Cp g).bind fun a=>
(Cf b 16 20).bind fun h=>
(Cp h).bind fun f=>
if(((Bw a 32)||(Ez a 3032))||(Ez f 1000))then
some (0,0,false)
else
some ((Ah (Ae a:Int) 32),(Ae f:Int),true)
def Xh(a:LB):Option (LB):=
some a
def Xv:=Xh
def Ni(j6:LB→Option (LB))(bk4:UInt64→Int→LB→Option (LB))(b:Int)(f:UInt64)(g:Int)(a:LB):Option (LB):=
if(Bw g b)then
(Fj a ([(Ae (Yb f 256):UInt8)]:LB)).bind fun h=>
bk4 (Bs f 256) (Ad g 1) h
else
j6 a
def Fx(b:Int):Nat→UInt64→Int→LB→Option (LB)
|0,_,_,_=>none
|q+1,f,g,a=>Ni Xv (Fx b q) b f g a
def Xz b:=Fx b Ao
def Xk(j4:Int→UInt64→Int→LB→Option (LB))(k:UInt64)(b:Int):Option (LB):=
j4 b k 0 ([]:LB)
def Dc:=Xk Xz
def Nd(a b:Int)(f:UInt64):Option (LB):=
(Dc 2000 4).bind fun g=>
(Fj ([(65:UInt8),(80:UInt8),(69:UInt8),(84:UInt8),(65:UInt8),(71:UInt8),(69:UInt8),(88:UInt8)]:LB) g).bind fun h=>
(Dc (Ae (Ad a 32):UInt64) 4).bind fun k=>
(Fj h k).bind fun m=>
(Dc (Ae b:UInt64) 4).bind fun n=>
(Fj m n).bind fun o=>
(Dc f 4).bind fun p=>
(Fj o p).bind fun u=>
(mkI (8:Int) (0:UInt8)).bind fun v=>
(Fj u v).bind fun w=>
some w
def Ajy(a b:Int):Option (LB):=
(Nd a b 2684354560).bind fun f=>
some f
def Ak0(a b:Int)(f:Bool):Option (LB):=
if f then
(Nd a b 2147483648).bind fun g=>
some g
else
(Nd a b 0).bind fun h=>
some h
abbrev Ic:=Option (Int×Int)
def Abo(a:LB)(b f:Int):Ic:=
if(Bw (Ac a) (Ad 64 b))then
some (0,24)
else
(Cf a (Ah (Ad 64 b) 32) (Ad 64 b)).bind fun g=>
(Ak0 b f true).bind fun h=>
if(g !=h)then
some (0,12)
else
some ((Ad 64 b),0)
def Abs:=Abo
def Ab3(j4:LB→Int→Int→Ic)(a:LB):Ic:=
if(Bw (Ac a) 32)then
some (0,24)
else
(Cf a 0 32).bind fun k=>
(Zz k).bind fun(b,f,m)=>
if(!m)then
some (0,12)
else
(Cf a 0 32).bind fun n=>
(Ajy b f).bind fun o=>
if(n !=o)then
some (0,12)
else
j4 a b f
def Abe:=Ab3 Abs
def Abn(j3:LB→Ic)(a:LB):Ic:=
if(Bw (Ac a) 8)then
some (0,6)
else
(Cf a 0 8).bind fun p=>
if(p !=([65,80,69,84,65,71,69,88]:LB))then
some (0,6)
else
j3 a
def Vy:=Abn Abe
abbrev En:=Option (LI×Int)
def Abb(bk6:Int→LI→En)(a:LB)(b:Int)(f:LI)(g h:Int):En:=
if(geq h 6)then
some (f,0)
else
if(Bf h 0)then
some (([]:LI),h)
else
if(Ez (Ad b g) 4000)then
some (([]:LI),4)
else
(Fj f ([g]:LI)).bind fun m=>
bk6 (Ad b g) m
def Ku bk6:=Abb bk6
def Qt(j9:Int→LI→Int→Int→En)(a:LB)(b:Int)(f:LI):En:=
(Cf a b (Ac a)).bind fun n=>
(Yh n).bind fun(o,k)=>
if(geq k 6)then
(Cf a b (Ac a)).bind fun p=>
(Vy p).bind fun(u,v)=>
j9 b f u v
else
j9 b f o k
def Ks(a:LB):Nat→Int→LI→En
|0,_,_=>none
|q+1,b,f=>Qt (Ku (Ks a q) a) a b f
def Aqu a:=Ks a Ao
def Arb(j6:LB→Int→LI→En)(a:LB):En:=
j6 a 0 ([]:LI)
def Aht:=Arb Aqu
abbrev Ej:=Option (Int×Int)
def Abm(a b:Int):Ej:=
some (b,a)
def Abp:=Abm
def Qh(j6:Int→Int→Ej)(bk4:Int→Int→Ej)(a:Int)(f:LI)(b g:Int):Ej:=
if(Bw g (Ac f))then
(getI f g).bind fun _=>
(getI f g).bind fun h=>
bk4 (Ad b h) (Ad g 1)
else
j6 a b
def Hk(a:Int)(f:LI):Nat→Int→Int→Ej
|0,_,_=>none
|q+1,b,g=>Qh Abp (Hk a f q) a f b g
def Qu a f:=Hk a f Ao
def Abj(j4:Int→LI→Int→Int→Ej)(k:LB):Ej:=
(Aht k).bind fun(f,a)=>
j4 a f 0 0
def Wj:=Abj Qu
def Aex(a:UInt32)(b:Bool):Option UInt32:=
if b then
some (Nn (Bs a 2) 3988292384)
else
some (Bs a 2)
def Adl:=Aex
def Aep(j2:UInt32→Bool→Option UInt32)(a:UInt32)(f:Int):Option UInt32:=
if(geq f 1)then
j2 a (!(geq (Yb a 2) 1))
else
j2 a (geq (Yb a 2) 1)
def Zf:=Aep Adl
def Adq(a:UInt32):Option UInt32:=
some a
def Ad9:=Adq
def Sf(j6:UInt32→Option UInt32)(bk4:UInt32→UInt8→Int→Option UInt32)(a:UInt32)(b:UInt8)(f:Int):Option UInt32:=
if(Bw f 8)then
(Zf a (Ae (Yb b 2):Int)).bind fun g=>
bk4 g (Bs b 2) (Ad f 1)
else
j6 a
def Hz:Nat→UInt32→UInt8→Int→Option UInt32
|0,_,_,_=>none
|q+1,a,b,f=>Sf Ad9 (Hz q) a b f
def Ate:=Hz Ao
def Asv(j4:UInt32→UInt8→Int→Option UInt32)(h:UInt32)(k:UInt8):Option UInt32:=
j4 h k 0
def Akj:=Asv Ate
def Aad(a:UInt32):Option UInt32:=
some a
def Aar:=Aad
def Pf(j6:UInt32→Option UInt32)(bk4:UInt32→Int→Option UInt32)(b:LB)(a:UInt32)(f:Int):Option UInt32:=
if(Bw f (Ac b))then
(getI b f).bind fun g=>
(Akj a g).bind fun h=>
bk4 h (Ad f 1)
else
j6 a
def Gp(b:LB):Nat→UInt32→Int→Option UInt32
|0,_,_=>none
|q+1,a,f=>Pf Aar (Gp b q) b a f
def Yv b:=Gp b Ao
def Aa1(j4:LB→UInt32→Int→Option UInt32)(k:UInt32)(b:LB):Option UInt32:=
j4 b k 0
def Agf:=Aa1 Yv
def Pn(a:LB):Option UInt32:=
(Agf 4294967295 a).bind fun b=>
some (Ah 4294967295 b)
abbrev Fa:=Option (Int×Int×Int×Int×Int×Int)
def Ad7(k h g f b:UInt64):Fa:=
(Uh (Ae k:Int) (Ae h:Int) (Ae g:Int) (Ae f:Int) (Ae b:Int)).bind fun v=>
if(!v)then
some (0,0,0,0,0,12)
else
(Aaf (Ae k:Int) (Ae h:Int) (Ae g:Int) (Ae f:Int) (Ae b:Int)).bind fun w=>
if w then
some (0,0,0,0,0,4)
else
some ((Ae k:Int),(Ae h:Int),(Ae g:Int),(Ae f:Int),(Ae b:Int),0)
def Aei:=Ad7
def Adp(j6:UInt64→UInt64→UInt64→UInt64→UInt64→Fa)(a:LB):Fa:=
(Cf a 4 6).bind fun u=>
(Cf a 6 8).bind fun p=>
(Cf a 8 10).bind fun o=>
(Cf a 10 14).bind fun n=>
(Cf a 14 18).bind fun m=>
(
(Cp u).bind fun k=>
(
(Cp p).bind fun h=>
(
(Cp o).bind fun g=>
(
(Cp n).bind fun f=>
(
(Cp m).bind fun b=>
(
j6 k h g f b))))))
def Aek:=Adp Aei
def Ad4(j5:LB→Fa)(a:LB):Fa:=
if(Bw (Ac a) 22)then
some (0,0,0,0,0,24)
else
(Cf a 18 22).bind fun y=>
(Cf a 0 18).bind fun aa=>
(Cp y).bind fun ab=>
(Pn aa).bind fun ac=>
if(Bf ab (Ae ac:UInt64))then
some (0,0,0,0,0,22)
else
j5 a
def Ad3:=Ad4 Aek
def Adr(j4:LB→Fa)(a:LB):Fa:=
(Cf a 0 (Da 4 (Ac a))).bind fun ad=>
(Cf ([84,84,65,49]:LB) 0 (Da 4 (Ac a))).bind fun ae=>
if(ad !=ae)then
some (0,0,0,0,0,12)
else
j4 a
def Yq:=Adr Ad3
def Aev(a:UInt64)(b:Bool):Option UInt64:=
if b then
some (Nn (Bg a 2) 4823603603198064275)
else
some (Bg a 2)
def Rl:=Aev
def Aes(j2:UInt64→Bool→Option UInt64)(a:UInt64)(f:Int):Option UInt64:=
if(geq f 1)then
j2 a (!(Jt a 9223372036854775808))
else
j2 a (Jt a 9223372036854775808)
def Zy:=Aes Rl
def Adk(a:UInt64):Option UInt64:=
some a
def Aee:=Adk
def Sd(j6:UInt64→Option UInt64)(bk4:UInt64→Int→Option UInt64)(b:UInt8)(a:UInt64)(f:Int):Option UInt64:=
if(Ez f 0)then
(Gw (Bf f 0)).bind fun _=>
(Zy a (Ew (Bs (Ae b:Int) f) 2)).bind fun g=>
bk4 g (Bs f 2)
else
j6 a
def Ib(b:UInt8):Nat→UInt64→Int→Option UInt64
|0,_,_=>none
|q+1,a,f=>Sd Aee (Ib b q) b a f
def Arz b:=Ib b Ao
def Aso(j4:UInt8→UInt64→Int→Option UInt64)(h:UInt64)(b:UInt8):Option UInt64:=
j4 b h 128
def Akg:=Aso Arz
def Zn(a:UInt64):Option UInt64:=
some a
def Aaq:=Zn
def Ox(j6:UInt64→Option UInt64)(bk4:UInt64→Int→Option UInt64)(b:LB)(a:UInt64)(f:Int):Option UInt64:=
if(Bw f (Ac b))then
(getI b f).bind fun g=>
(Akg a g).bind fun h=>
bk4 h (Ad f 1)
else
j6 a
def Gc(b:LB):Nat→UInt64→Int→Option UInt64
|0,_,_=>none
|q+1,a,f=>Ox Aaq (Gc b q) b a f
def Aok b:=Gc b Ao
def Apx(j4:LB→UInt64→Int→Option UInt64)(k:UInt64)(b:LB):Option UInt64:=
j4 b k 0
def Tq:=Apx Aok
def Ak1(a:LB):Option UInt64:=
(Tq 0 a).bind fun b=>
some b
def Rw(a:LB):Option (LB):=
(Ak1 a).bind fun b=>
(Dc b 8).bind fun f=>
some f
abbrev Cw:=Option (LI×Int)
def Adz(f:LI):Cw:=
(Hp f).bind fun h=>
if(Bf h 0)then
some (([]:LI),12)
else
some (f,0)
def Rr:=Adz
def Rm(j8:LI→Cw)(bk6:Int→LI→Cw)(b:LB)(a g:Int)(f:LI):Cw:=
if(Bw g a)then
(Cf b (Bg 4 g) (Ad (Bg 4 g) 4)).bind fun k=>
(Cp k).bind fun m=>
(Fj f ([(Ae m:Int)]:LI)).bind fun n=>
bk6 (Ad g 1) n
else
j8 f
def If(b:LB)(a:Int):Nat→Int→LI→Cw
|0,_,_=>none
|q+1,g,f=>Rm Rr (If b a q) b a g f
def Aez b a:=If b a Ao
def Aew(j6:LB→Int→Int→LI→Cw)(b:LB)(a:Int):Cw:=
j6 b a 0 ([]:LI)
def Adt:=Aew Aez
def Ads(j5:LB→Int→Cw)(b:LB)(a:Int):Cw:=
if((Bw a 1)||(Ez a 1000))then
some (([]:LI),2)
else
if(Bw (Ac b) (Ad (Bg 4 a) 4))then
some (([]:LI),24)
else
(Cf b (Bg 4 a) (Ad (Bg 4 a) 4)).bind fun o=>
(Cf b 0 (Bg 4 a)).bind fun p=>
(Cp o).bind fun u=>
(Pn p).bind fun v=>
if(Bf u (Ae v:UInt64))then
some (([]:LI),22)
else
j5 b a
def Zp:=Ads Adt
def Akf(b:UInt64)(a:LB):Option (UInt64×Int):=
if(Ez (Ac a) 100000)then
some (0,4)
else
(Tq b a).bind fun f=>
some (f,0)
def Amg(a:LB):Option (UInt64×Int):=
(Akf 0 a).bind fun(b,f)=>
some (b,f)
def Auy(a:LX):Option (LX):=
some a
def Aut:=Auy
def Ah7(bk6:UInt64→Int→LX→Option (LX))(b:UInt64)(f:Int)(a:LX)(g:Int32):Option (LX):=
(getI a f).bind fun _=>
(Ia a f g).bind fun h=>
bk6 (Bs b 256) (Ad f 1) h
def Wm bk6:=Ah7 bk6
def Vw(j8:UInt64→Int→LX→Int32→Option (LX))(j10:LX→Option (LX))(b:UInt64)(f:Int)(a:LX):Option (LX):=
if(Bw f 8)then
if(Ez (Ae (Yb b 256):Int32) 127)then
j8 b f a (Ah (Ae (Yb b 256):Int32) 256)
else
j8 b f a (Ae (Yb b 256):Int32)
else
j10 a
def Ho:Nat→UInt64→Int→LX→Option (LX)
|0,_,_,_=>none
|q+1,b,f,a=>Vw (Wm (Ho q)) Aut b f a
def Avx:=Ho Ao
def Avr(j6:UInt64→Int→LX→Option (LX))(k:UInt64):Option (LX):=
j6 k 0 (List.replicate 16 (0:Int32))
def Aql:=Avr Avx
def Zx(a:LB):Option (LX×Int):=
if(Ez (Ac a) 64)then
some (([(0:Int32),(0:Int32),(0:Int32),(0:Int32),(0:Int32),(0:Int32),(0:Int32),(0:Int32),(0:Int32),(0:Int32),(0:Int32),(0:Int32),(0:Int32),(0:Int32),(0:Int32),(0:Int32)]:LX),2)
else
(Amg a).bind fun(b,g)=>
(Aql b).bind fun f=>
some (f,0)
def Ua(b:LB):Option (LB):=
(Pn b).bind fun a=>
(Fj ([]:LB) b).bind fun f=>
(Fj f ([(Ae a:UInt8),(Ae (Bl a (GI.toZ (8:UInt64)).toNat):UInt8),(Ae (Bl a (GI.toZ (16:UInt64)).toNat):UInt8),(Ae (Bl a (GI.toZ (24:UInt64)).toNat):UInt8)]:LB)).bind fun g=>
some g
def Mu(a:LB):Option Int:=
if(Bw (Ac a) 5)then
some 24
else
if(Ez (Ac a) 41254)then
some 4
else
(Cf a 0 (Ah (Ac a) 4)).bind fun b=>
(Ua b).bind fun f=>
if(f !=a)then
some 22
else
some 0
def Kf:Option (Int×Int×UInt64×UInt64):=
some (10,10,16384,16384)
def Aqx(a:UInt64):Option UInt64:=
some a
def Aq6:=Aqx
def Qg(j6:UInt64→Option UInt64)(bk4:UInt64→Int→Option UInt64)(b:Int)(a:UInt64)(f:Int):Option UInt64:=
if(Bw f b)then
bk4 (Bg a 2) (Ad f 1)
else
j6 a
def Hb(b:Int):Nat→UInt64→Int→Option UInt64
|0,_,_=>none
|q+1,a,f=>Qg Aq6 (Hb b q) b a f
def Aq0 b:=Hb b Ao
def Aqr(j4:Int→UInt64→Int→Option UInt64)(b:Int):Option UInt64:=
j4 b 1 0
def Eg:=Aqr Aq0
def Acj(a g:Int)(h k:UInt64)(b:UInt32):Option Bool:=
(Eg a).bind fun f=>
some (Bw (Ae b:UInt64) f)
def Aat(a g:Int)(h k:UInt64)(b:UInt32):Option UInt32:=
(Eg a).bind fun f=>
some (Ae (Ah (Ae b:UInt64) f):UInt32)
abbrev Ui:=Option (Int×UInt64)
def Adx(b:Int)(a f:UInt64):Ui:=
if(Bw b 24)then
(Eg (Ad b 5)).bind fun g=>
if(Ez (Ah (Ad a f) (Bs a 16)) g)then
some ((Ad b 1),(Ah (Ad a f) (Bs a 16)))
else
some (b,(Ah (Ad a f) (Bs a 16)))
else
some (b,(Ah (Ad a f) (Bs a 16)))
def Ri:=Adx
def Ad1(j2:Int→UInt64→UInt64→Ui)(b:Int)(a f:UInt64):Ui:=
if(Ez b 0)then
(Eg (Ad b 4)).bind fun h=>
if(Bw (Ah (Ad a f) (Bs a 16)) h)then
some ((Ah b 1),(Ah (Ad a f) (Bs a 16)))
else
j2 b a f
else
j2 b a f
def Qz:=Ad1 Ri
abbrev Qj:=Option (Int×Int×UInt64×UInt64)
def Yl(h:UInt32)(f a:Int)(g b:UInt64)(o:Int)(p:UInt64):Qj:=
(Qz f g (Ae h:UInt64)).bind fun(aa,ab)=>
some (aa,o,ab,p)
def Pc:=Yl
def Zj(j2:UInt32→Int→Int→UInt64→UInt64→Int→UInt64→Qj)(f a:Int)(g b:UInt64)(h:UInt32):Qj:=
(Acj f a g b h).bind fun u=>
if(!u)then
(
(
(Aat f a g b h).bind fun k=>
(Qz a b (Ae k:UInt64)).bind fun(m,n)=>
j2 h f a g b m n))
else
j2 h f a g b a b
def Ud:=Zj Pc
abbrev Du:=Option (Int×Int×UInt64×UInt64)
def Apv(a b:Int)(f g:UInt64):Du:=
some (a,b,f,g)
def Aod:=Apv
def Yx(j6:Int→Int→UInt64→UInt64→Du)(bk4:Int→Int→Int→UInt64→UInt64→Du)(h:Int)(k:LU)(m a b:Int)(f g:UInt64):Du:=
if(Bw m (Ac k))then
(getI k m).bind fun n=>
(Ud a b f g n).bind fun(o,p,u,v)=>
bk4 (Ad m h) o p u v
else
j6 a b f g
def Ji(h:Int)(k:LU):Nat→Int→Int→Int→UInt64→UInt64→Du
|0,_,_,_,_,_=>none
|q+1,m,a,b,f,g=>Yx Aod (Ji h k q) h k m a b f g
def Aom h k:=Ji h k Ao
def Aab(j4:Int→LU→Int→Int→Int→UInt64→UInt64→Du)(h:Int)(k:LU):Du:=
(Kf).bind fun(w,y,aa,ab)=>
(Gw (Bf h 0)).bind fun _=>
j4 h k (Ew (Ac k) h) w y aa ab
def Mv:=Aab Aom
def Ah3(a:Int):Option Int:=
some (Ew a 2)
def Ahy:=Ah3
def We(j6:Int→Option Int)(bk4:Int→Int→Option Int)(b a f:Int):Option Int:=
if(Bw f (Ew b 8))then
bk4 (Bs a 2) (Ad f 1)
else
j6 a
def Jy(b:Int):Nat→Int→Int→Option Int
|0,_,_=>none
|q+1,a,f=>We Ahy (Jy b q) b a f
def Ajh b:=Jy b Ao
def Ahh(j4:Int→Int→Int→Option Int)(g:LB)(k b:Int):Option Int:=
(getI g (Bs b 8)).bind fun h=>
j4 b (Ae h:Int) 0
def It:=Ahh Ajh
abbrev Df:=Option (LB×Int)
def Af8(b g a:Int)(f:LB):Df:=
(getI f (Bs a 8)).bind fun _=>
(getI f (Bs a 8)).bind fun m=>
(getI f (Bs a 8)).bind fun _=>
(Ia f (Bs a 8) (Ad m (Ae (Bg b g):UInt8))).bind fun n=>
some (n,(Ad a 1))
def Tx:=Af8
def Tm(j8:Int→Int→Int→LB→Df)(bk6:Int→Int→Df)(b a:Int)(f:LB)(g h:Int):Df:=
if(Bw h (Ew a 8))then
bk6 (Bg g 2) (Ad h 1)
else
j8 b g a f
def Ja(b a:Int)(f:LB):Nat→Int→Int→Df
|0,_,_=>none
|q+1,g,h=>Tm Tx (Ja b a f q) b a f g h
def Agj b a f:=Ja b a f Ao
def Agk(j6:Int→Int→LB→Int→Int→Df)(b a:Int)(f:LB):Df:=
j6 b a f 1 0
def To:=Agk Agj
def Aga(j5:Int→Int→LB→Df)(k:LB)(a b:Int):Df:=
if(geq (Ew a 8) 0)then
(Fj k ([(0:UInt8)]:LB)).bind fun o=>
j5 b a o
else
j5 b a k
def Td:=Aga To
abbrev Dh:=Option (LB×Int)
def Anv(a:Int)(b:LB):Dh:=
some (b,a)
def Am8:=Anv
def Mz(j6:Int→LB→Dh)(bk4:Int→Int→LB→Dh)(f:Int)(g:LB)(h k a:Int)(b:LB):Dh:=
if(Bw k f)then
(It g h k).bind fun m=>
(Td b a m).bind fun(n,o)=>
bk4 (Ad k 1) o n
else
j6 a b
def Fu(f:Int)(g:LB)(h:Int):Nat→Int→Int→LB→Dh
|0,_,_,_=>none
|q+1,k,a,b=>Mz Am8 (Fu f g h q) f g h k a b
def Anp f g h:=Fu f g h Ao
def Amx(j4:Int→LB→Int→Int→Int→LB→Dh)(g:LB)(h p f:Int):Dh:=
j4 f g h p 0 ([]:LB)
def Aeh:=Amx Anp
def Arh(a:UInt64):Option UInt64:=
some a
def Aq5:=Arh
def Qr(j6:UInt64→Option UInt64)(bk4:UInt64→Int→Option UInt64)(b:Int)(f:LB)(g:Int)(a:UInt64)(h:Int):Option UInt64:=
if(Jt h 0)then
(It f g (Ad b h)).bind fun k=>
bk4 (Ad (Bg 2 a) (Ae k:UInt64)) (Ah h 1)
else
j6 a
def Hg(b:Int)(f:LB)(g:Int):Nat→UInt64→Int→Option UInt64
|0,_,_=>none
|q+1,a,h=>Qr Aq5 (Hg b f g q) b f g a h
def Aby b f g:=Hg b f g Ao
def Abf(j4:Int→LB→Int→UInt64→Int→Option UInt64)(f:LB)(g b m:Int):Option UInt64:=
j4 b f g 0 (Ah m 1)
def Pb:=Abf Aby
abbrev Fp:=Option (Int×Int)
def Age(b a:Int)(g:LB)(f:Int):Fp:=
if(geq a 48)then
some (a,(Ad b a))
else
if(Jt (Ad b a) f)then
some ((-1:Int),0)
else
some (a,(Ad (Ad b a) 1))
def Ty:=Age
def Ub(j6:Int→Int→LB→Int→Fp)(bk4:Int→Fp)(b:Int)(g:LB)(f a:Int):Fp:=
if((Bw (Ad b a) f)&&(Bw a 48))then
(It g f (Ad b a)).bind fun h=>
if(geq h 1)then
bk4 (Ad a 1)
else
j6 b a g f
else
j6 b a g f
def Iy(b:Int)(g:LB)(f:Int):Nat→Int→Fp
|0,_=>none
|q+1,a=>Ub Ty (Iy b g f q) b g f a
def Aup b g f:=Iy b g f Ao
def Auw(j4:Int→LB→Int→Int→Fp)(g:LB)(f b:Int):Fp:=
j4 b g f 0
def Amj:=Auw Aup
def Yr(b:UInt32)(f:Int):Option Int:=
(Eg f).bind fun a=>
(Gw (Bf a 0)).bind fun _=>
some (Ae (Da 48 (Bs (Ae b:UInt64) a)):Int)
abbrev Wc:=Option (UInt32×Int×Int)
def Tw(g a b:Int)(h:LB)(f k:Int):Wc:=
if((Bw a 0)||(Bw (Ah f b) k))then
some (0,0,24)
else
(Pb h f b k).bind fun m=>
if(Bw a 48)then
(Eg g).bind fun o=>
some ((Ae (Ad (Bg (Ae a:UInt64) o) m):UInt32),(Ad b k),0)
else
(Yr (Ae m:UInt32) g).bind fun p=>
if(Bw p a)then
some (0,0,12)
else
some ((Ae m:UInt32),(Ad b k),0)
def Tz:=Tw
def Agh(j2:Int→Int→Int→LB→Int→Int→Wc)(h:LB)(f n g:Int):Wc:=
if(Jt n f)then
some (0,0,24)
else
(Amj h f n).bind fun(a,b)=>
if(geq a 48)then
j2 g a b h f 32
else
j2 g a b h f g
def Acl:=Agh Tz
def Ab9(g:LB)(b a f n:Int)(v w:UInt64):Option (UInt32×Int×Int):=
if(Jt a b)then
some (0,0,24)
else
(It g b a).bind fun o=>
if(geq o 0)then
if(Bw (Ah (Ah b a) 1) f)then
some (0,0,24)
else
(Pb g b (Ad a 1) f).bind fun p=>
some ((Ae p:UInt32),(Ad (Ad a 1) f),0)
else
(Acl g b (Ad a 1) n).bind fun(h,u,k)=>
if(Bf k 0)then
some (0,0,k)
else
(Eg f).bind fun m=>
if(Ez (Ad (Ae h:UInt64) m) 4294967295)then
some (0,0,12)
else
some ((Ae (Ad (Ae h:UInt64) m):UInt32),u,0)
abbrev Bc:=Option (LU×Int)
def Aqv(b:LU):Bc:=
some (b,0)
def Aq3:=Aqv
def Qk(j18:LU→Bc)(bk16:Int→Bc)(a:LB)(b:LU)(m:Int):Bc:=
if(Bw m (Bg 8 (Ac a)))then
(It a (Bg 8 (Ac a)) m).bind fun n=>
if(Bf n 0)then
some (b,12)
else
bk16 (Ad m 1)
else
j18 b
def Hm(a:LB)(b:LU):Nat→Int→Bc
|0,_=>none
|q+1,m=>Qk Aq3 (Hm a b q) a b m
def Ab4 a b:=Hm a b Ao
def Abr(j16:LB→LU→Int→Bc)(f:Int)(a:LB)(b:LU):Bc:=
if(Ez (Ah (Bg 8 (Ac a)) f) 7)then
some (b,12)
else
j16 a b f
def Qi:=Abr Ab4
def Abl(bk10:Int→Int→LU→Bc)(g h:Int)(a:LB)(f k:Int)(b:LU)(o p:Int)(u v:UInt64):Bc:=
(Aeh a (Bg 8 (Ac a)) f (Da (Ad f 81) (Bg 8 (Ac a)))).bind fun(y,aa)=>
(Ab9 y aa 0 o p u v).bind fun(ab,ac,w)=>
if(Bf w 0)then
some (b,w)
else
(Fj b ([ab]:LU)).bind fun ad=>
bk10 (Ad f ac) (Ad k 1) ad
def Hl bk10:=Abl bk10
def Ab0(j13:Int→Int→LU→Int→Int→UInt64→UInt64→Bc)(j15:Int→LB→LU→Bc)(g h:Int)(a:LB)(f k:Int)(b:LU):Bc:=
if(Bw k (Bg h g))then
(Kf).bind fun(n,ae,af,ag)=>
if(Jt k g)then
(Mv g b).bind fun(ah,ai,aj,ak)=>
j13 f k b ah ai aj ak
else
j13 f k b n ae af ag
else
j15 f a b
def Dv(g h:Int)(a:LB):Nat→Int→Int→LU→Bc
|0,_,_,_=>none
|q+1,f,k,b=>Ab0 (Hl (Dv g h a q) g h a) Qi g h a f k b
def Aq2 g h a:=Dv g h a Ao
def Adv(j10:Int→Int→LB→Int→Int→LU→Bc)(g h:Int)(a:LB):Bc:=
j10 g h a 0 0 ([]:LU)
def Aax:=Adv Aq2
def Av8(a:Int):Option (Int×Int):=
if(geq a 8)then
some (4,0)
else
if((geq a 16)||(geq a 24))then
some (5,0)
else
some (0,2)
def Ayw(a:Int)(b:LX):Option (Int×LX×LX×Int):=
(Av8 a).bind fun(g,f)=>
if(Bf f 0)then
some (0,(List.replicate 16 (0:Int32)),(List.replicate 16 (0:Int32)),2)
else
if(geq a 16)then
some (9,b,(List.replicate 16 (0:Int32)),0)
else
some (10,b,(List.replicate 16 (0:Int32)),0)
def Aml(a:Int)(b:LX):Option (Int×Int32×Int×LX×LX×Int):=
(Ayw a b).bind fun(f,g,h,k)=>
if(Bf k 0)then
some (0,0,0,(List.replicate 16 (0:Int32)),(List.replicate 16 (0:Int32)),2)
else
some (a,0,f,g,h,0)
def Yf(a:UInt32):Option Int32:=
if(geq (Yb a 2) 0)then
some (Ae (Bs a 2):Int32)
else
some (Ae (Bs (Aw7 (Ad (Ae a:Int) 1)) 2):Int32)
def Bv(a:Int):Option Int32:=
some (Ae (Ae (Ae a:UInt64):UInt32):Int32)
def Af6(a:Int):Option Int32:=
some (Ae a:Int32)
def Agd:=Af6
def Tu(j6:Int→Option Int32)(bk4:Int→Int→Option Int32)(h:Int)(f g:LX)(a b:Int):Option Int32:=
if(Bw b 16)then
(getI f b).bind fun _=>
(getI g b).bind fun _=>
(getI f b).bind fun k=>
(getI g b).bind fun m=>
(Bv (Bg (Ae k:Int) (Ae m:Int))).bind fun n=>
(Bv (Ad a (Ae n:Int))).bind fun o=>
bk4 (Ae o:Int) (Ad b 1)
else
j6 a
def Jb(h:Int)(f g:LX):Nat→Int→Int→Option Int32
|0,_,_=>none
|q+1,a,b=>Tu Agd (Jb h f g q) h f g a b
def Aux h f g:=Jb h f g Ao
def Auv(j4:Int→LX→LX→Int→Int→Option Int32)(h:Int)(f g:LX):Option Int32:=
j4 h f g 0 0
def Ana:=Auv Aux
def Ae0(b:Int)(f g:LX)(a:Int):Option Int32:=
(Ana b f g).bind fun k=>
(Bv (Ad (Ae k:Int) (Bs a 2))).bind fun h=>
(Gw (Bf a 0)).bind fun _=>
(Gw (Bf a 0)).bind fun _=>
if(Bw (Ew (Ae h:Int) a) 0)then
some (Ae (Ah (Bs (Ae h:Int) a) 1):Int32)
else
some (Ae (Bs (Ae h:Int) a):Int32)
def Sj:=Ae0
def Aeg(j2:Int→LX→LX→Int→Option Int32)(b:Int)(f g:LX):Option Int32:=
if(geq b 9)then
j2 b f g 512
else
j2 b f g 1024
def Ys:=Aeg Sj
def Aac(a:Int):Option Int32:=
if(geq a 0)then
some 4
else
if(gle a 3)then
some 2
else
some 1
def Re(a:Int32):Option Int32:=
if(Bw a 0)then
some (-1:Int32)
else
if(Ez a 0)then
some 1
else
some 0
abbrev Di:=Option (Int×LX×LX)
def Amq(g:Int)(b a:LX):Di:=
some (g,b,a)
def Am9:=Amq
def Ng(j6:Int→LX→LX→Di)(bk4:Int→LX→Di)(h:Int32)(g:Int)(a:LX)(f:Int)(b:LX):Di:=
if(Bw f 16)then
(getI b f).bind fun _=>
(getI a f).bind fun _=>
(getI b f).bind fun k=>
(getI a f).bind fun m=>
(Aac f).bind fun n=>
(Re m).bind fun o=>
(Re h).bind fun p=>
(getI b f).bind fun _=>
(Ia b f (Ad k (Bg (Bg n o) p))).bind fun u=>
bk4 (Ad f 1) u
else
j6 g b a
def Fz(h:Int32)(g:Int)(a:LX):Nat→Int→LX→Di
|0,_,_=>none
|q+1,f,b=>Ng Am9 (Fz h g a q) h g a f b
def Amh h g a:=Fz h g a Ao
def Anw(j4:Int32→Int→LX→Int→LX→Di)(g:Int)(v a:LX)(h:Int32):Di:=
j4 h g a 0 v
def Aey:=Anw Amh
abbrev Dx:=Option (Int×LX×LX)
def Yg(b:Int32)(f:Int)(g a:LX):Dx:=
(getI a 0).bind fun _=>
(Ia a 0 b).bind fun k=>
some (f,g,k)
def Aaw:=Yg
def Om(j6:Int32→Int→LX→LX→Dx)(bk4:Int→LX→Dx)(b:Int32)(f:Int)(g:LX)(h:Int)(a:LX):Dx:=
if(Ez h 0)then
(getI a (Ah h 1)).bind fun _=>
(getI a (Ah h 1)).bind fun m=>
(getI a h).bind fun _=>
(Ia a h m).bind fun n=>
bk4 (Ah h 1) n
else
j6 b f g a
def Gf(b:Int32)(f:Int)(g:LX):Nat→Int→LX→Dx
|0,_,_=>none
|q+1,h,a=>Om Aaw (Gf b f g q) b f g h a
def Aol b f g:=Gf b f g Ao
def An5(j4:Int32→Int→LX→Int→LX→Dx)(f:Int)(g o:LX)(b:Int32):Dx:=
j4 b f g 15 o
def Agi:=An5 Aol
def Sa(a:Int)(b f:LX)(g:Int32):Option (Int32×Int×LX×LX):=
(Ys a b f).bind fun k=>
(Bv (Ad (Ae g:Int) (Ae k:Int))).bind fun h=>
(Aey a b f g).bind fun(m,n,o)=>
(Agi m n o h).bind fun(p,u,v)=>
some (h,p,u,v)
def Ym(b:Int32)(a:Int):Option Int32:=
(Gw (Bf a 0)).bind fun _=>
(Gw (Bf a 0)).bind fun _=>
if(Bw (Ew (Bg (Ah a 1) (Ae b:Int)) a) 0)then
some (Ae (Ah (Bs (Bg (Ah a 1) (Ae b:Int)) a) 1):Int32)
else
some (Ae (Bs (Bg (Ah a 1) (Ae b:Int)) a):Int32)
def Of:=Ym
def Zw(j2:Int32→Int→Option Int32)(f:Int)(b:Int32):Option Int32:=
if(geq f 5)then
j2 b 32
else
j2 b 16
def Mn:=Zw Of
def Uf(b:Int)(a:Int32)(h:Int)(k m:LX):Option Int:=
if(geq b 8)then
(Mn 4 a).bind fun f=>
some (Ae f:Int)
else
(Mn 5 a).bind fun g=>
some (Ae g:Int)
def Sg(a:Int)(k:Int32)(b:Int)(f g:LX)(m:Int32):Option (Int32×Int×Int32×Int×LX×LX):=
(Sa b f g m).bind fun(n,o,p,u)=>
(Uf a k b f g).bind fun v=>
(Bv (Ad (Ae n:Int) v)).bind fun h=>
some (h,a,h,o,p,u)
def Pa(a:Int)(b:LX):Option Int:=
if((Bw a 1)||(Ez a 6))then
some 2
else
if(Ez (Ac b) 4000)then
some 4
else
(Gw (Bf a 0)).bind fun _=>
if(Ez (Ew (Ac b) a) 0)then
some 2
else
some 0
def Anr(b:LX):Option (LX):=
some b
def Ank:=Anr
def Nq(j8:LX→Option (LX))(bk6:Int→LX→Option (LX))(a:LX)(f:Int)(b:LX):Option (LX):=
if(Jt f 0)then
(getI b (Ad f 1)).bind fun _=>
(getI a f).bind fun m=>
(getI b (Ad f 1)).bind fun n=>
(Bv (Ah (Ae n:Int) (Ae m:Int))).bind fun o=>
(getI b f).bind fun _=>
(Ia b f o).bind fun p=>
bk6 (Ah f 1) p
else
j8 b
def Fw(a:LX):Nat→Int→LX→Option (LX)
|0,_,_=>none
|q+1,f,b=>Nq Ank (Fw a q) a f b
def Ann a:=Fw a Ao
def Xi(j6:LX→Int→LX→Option (LX))(a g:LX):Option (LX):=
j6 a (Ah (Ac a) 2) g
def Np:=Xi Ann
def Xm(j5:LX→LX→Option (LX))(a:LX):Option (LX):=
(mkI (Ac a) (0:Int32)).bind fun k=>
(Gw (geq (Ac a) (Ac a))).bind fun _=>
(getI a (Ah (Ac a) 1)).bind fun u=>
(getI k (Ah (Ac a) 1)).bind fun _=>
(Ia k (Ah (Ac a) 1) u).bind fun h=>
if(Ez (Ac a) 1)then
(getI a (Ah (Ac a) 1)).bind fun v=>
(getI a (Ah (Ac a) 2)).bind fun w=>
(Bv (Ad (Ae v:Int) (Bs (Ae w:Int) 2))).bind fun y=>
(getI h (Ah (Ac a) 1)).bind fun _=>
(Ia h (Ah (Ac a) 1) y).bind fun aa=>
j5 a aa
else
j5 a h
def Rh:=Xm Np
abbrev Fb:=Option (LX×Int)
def Ar2(f:LX):Fb:=
some (f,0)
def Asf:=Ar2
def Aet(j6:LX→Fb)(bk4:Int→LX→Fb)(a:Int)(b:LX)(g:Int)(f:LX):Fb:=
if(Bw g (Ac b))then
(Cf b g (Ad g a)).bind fun h=>
(Rh h).bind fun k=>
(Fj f k).bind fun m=>
bk4 (Ad g a) m
else
j6 f
def Ln(a:Int)(b:LX):Nat→Int→LX→Fb
|0,_,_=>none
|q+1,g,f=>Aet Asf (Ln a b q) a b g f
def Asb a b:=Ln a b Ao
def Ad6(j4:Int→LX→Int→LX→Fb)(a:Int)(b:LX):Fb:=
(Pa a b).bind fun n=>
if(Bf n 0)then
(Pa a b).bind fun o=>
some (([]:LX),o)
else
j4 a b 0 ([]:LX)
def Yk:=Ad6 Asb
def Xo(a f:Int)(w:LX):Option (LX):=
(Yk a w).bind fun(aj,ai)=>
some aj
def Nr:=Xo
def Xc(bk18:Int→LX→Option (LX))(b:LU)(a f:Int)(g:LX)(h:Int)(m:LX):Option (LX):=
bk18 (Ad h 1) m
def Xf bk18:=Xc bk18
def Ww(bk26:Int→LX→Int→Int32→Int→LX→LX→Option (LX))(b:LU)(h a f:Int)(g:LX)(k:Int)(af:LX)(y:Int)(aa:Int32)(ab:Int)(ac ad:LX):Option (LX):=
bk26 (Ad k a) af y aa ab ac ad
def Xy bk26:=Ww bk26
def Xa(j30:Int→LX→Int→Int32→Int→LX→LX→Option (LX))(b:LU)(h a f:Int)(g:LX)(k:Int)(ae:Int32)(m:LX)(n:Int)(o:Int32)(p:Int)(u v:LX)(y:Int)(aa:Int32)(ab:Int)(ac ad:LX):Option (LX):=
(getI m k).bind fun _=>
(Ia m k ae).bind fun af=>
j30 k af y aa ab ac ad
def Xn bk26 b h a f g:=Xa (Xy bk26 b h a f g) b h a f g
def Xs(j29:Int→Int32→LX→Int→Int32→Int→LX→LX→Int→Int32→Int→LX→LX→Option (LX))(j32:Int→LX→Option (LX))(b:LU)(a f:Int)(g:LX)(h k:Int)(m:LX)(n:Int)(o:Int32)(p:Int)(u v:LX):Option (LX):=
if(Bw k (Ac b))then
(getI b k).bind fun ah=>
(
(Yf ah).bind fun ag=>
(
(Sg n o p u v ag).bind fun(ae,y,aa,ab,ac,ad)=>
j29 k ae m n o p u v y aa ab ac ad))
else
j32 h m
def Ii(bk18:Int→LX→Option (LX))(b:LU)(a f:Int)(g:LX)(h:Int):Nat→Int→LX→Int→Int32→Int→LX→LX→Option (LX)
|0,_,_,_,_,_,_,_=>none
|q+1,k,m,n,o,p,u,v=>Xs (Xn (Ii bk18 b a f g h q) b h a f g) (Xf bk18 b a f g) b a f g h k m n o p u v
def Xd bk18 b a f g h:=Ii bk18 b a f g h Ao
def Nh(j26:Int→Int→LX→Int→Int32→Int→LX→LX→Option (LX))(j34:Int→Int→LX→Option (LX))(b:LU)(a f:Int)(g:LX)(h:Int)(w:LX):Option (LX):=
if(Bw h a)then
(Aml f g).bind fun(ak,ai,al,am,an,aq)=>
j26 h h w ak ai al am an
else
j34 a f w
def Ed(b:LU)(a f:Int)(g:LX):Nat→Int→LX→Option (LX)
|0,_,_=>none
|q+1,h,w=>Nh (Xd (Ed b a f g q) b a f g) Nr b a f g h w
def Wx b a f g:=Ed b a f g Ao
def Ze(j18:LU→Int→Int→LX→Int→LX→Option (LX))(a f:Int)(g:LX)(b:LU):Option (LX):=
(mkI (Ac b) (0:Int32)).bind fun ao=>
(Gw (geq (Ac b) (Ac b))).bind fun _=>
j18 b a f g 0 ao
def Mq:=Ze Wx
def Mr(g f:Int)(a:LX):Option (LX×Int):=
(cadenzaref18_Check f a).bind fun b=>
if(Bf b 0)then
some (([]:LX),b)
else
some (a,0)
abbrev Qn:=Option (LX×Int)
def Jg(f a b:Int)(g:LX)(h:LU):Qn:=
if(Bf f 0)then
some (([]:LX),f)
else
(
(
(Mq a b g h).bind fun m=>
(Mr a b m).bind fun(n,o)=>
some (n,o)))
def Jj:=Jg
def Jl(j2:Int→Int→Int→LX→LU→Qn)(a b:Int)(g:LX)(p:Int)(k:LB):Qn:=
(Ch a b p).bind fun y=>
if(Bf y 0)then
some (([]:LX),2)
else
(Mu k).bind fun aa=>
if(Bf aa 0)then
(Mu k).bind fun ab=>
some (([]:LX),ab)
else
(Cf k 0 (Ah (Ac k) 4)).bind fun ac=>
(Aax a p ac).bind fun(h,f)=>
j2 f a b g h
def cadenzaref21_Decode:=Jl Jj
def Uc(a b:Int):Option (LB):=
if(geq a 24)then
(Fj ([(Ae (Ew b 256):UInt8),(Ae (Ew (Bs b 256) 256):UInt8)]:LB) ([(Ae (Bs b 65536):UInt8)]:LB)).bind fun g=>
some g
else
some ([(Ae (Ew b 256):UInt8),(Ae (Ew (Bs b 256) 256):UInt8)]:LB)
def Iz:=Uc
def Agl(j2:Int→Int→Option (LB))(a:Int)(f:Int32):Option (LB):=
if(geq a 8)then
some ([(Ae (Ad (Ae f:Int) 128):UInt8)]:LB)
else
if(Bw (Ae f:Int) 0)then
(Gm a).bind fun h=>
j2 a (Ad (Ae f:Int) (Bg 2 h))
else
j2 a (Ae f:Int)
def Acd:=Agl Iz
abbrev Eh:=Option (LB×Int)
def Aq9(b:LB):Eh:=
some (b,0)
def Ard:=Aq9
def Qq(j6:LB→Eh)(bk4:Int→LB→Eh)(f:Int)(a:LX)(g:Int)(b:LB):Eh:=
if(Bw g (Ac a))then
(getI a g).bind fun h=>
(Acd f h).bind fun k=>
(Fj b k).bind fun m=>
bk4 (Ad g 1) m
else
j6 b
def Hh(f:Int)(a:LX):Nat→Int→LB→Eh
|0,_,_=>none
|q+1,g,b=>Qq Ard (Hh f a q) f a g b
def Aq1 f a:=Hh f a Ao
def Abk(j4:Int→LX→Int→LB→Eh)(f:Int)(a:LX):Eh:=
(cadenzaref18_Check f a).bind fun n=>
if(Bf n 0)then
(cadenzaref18_Check f a).bind fun o=>
some (([]:LB),o)
else
j4 f a 0 ([]:LB)
def Wv:=Abk Aq1
abbrev Hc:=Option (Int×Int×Int×Int×Int×Int×LI×Int)
def Aa4(m n b h k f g:Int)(o:LI):Hc:=
if(Bf n 0)then
some (0,0,0,0,0,0,([]:LI),n)
else
some (b,h,k,f,g,(Ad (Ad m (Bg 4 (Ac o))) 4),o,0)
def Zt:=Aa4
def Za(j4:Int→Int→Int→Int→Int→Int→Int→LI→Hc)(a:LB)(b h k f g m:Int):Hc:=
(Cf a m (Ac a)).bind fun y=>
(Kh f g).bind fun aa=>
(Zp y (Ac aa)).bind fun(o,n)=>
j4 m n b h k f g o
def Jr:=Za Zt
def Oc(j3:LB→Int→Int→Int→Int→Int→Int→Hc)(a u:LB):Hc:=
if(Ez (Ac a) 100000)then
some (0,0,0,0,0,0,([]:LI),4)
else
(Wj a).bind fun(p,v)=>
if(Bf v 0)then
some (0,0,0,0,0,0,([]:LI),v)
else
(Cf a p (Ac a)).bind fun ab=>
(Yq ab).bind fun(b,h,k,f,g,w)=>
if(Bf w 0)then
some (0,0,0,0,0,0,([]:LI),w)
else
if((u==([]:LB)) !=(geq b 1))then
some (0,0,0,0,0,0,([]:LI),26)
else
if(geq b 2)then
if(Bw (Ah (Ac a) (Ad p 22)) 8)then
some (0,0,0,0,0,0,([]:LI),24)
else
(Cf a (Ad p 22) (Ad (Ad p 22) 8)).bind fun ac=>
(Rw u).bind fun ad=>
if(ac !=ad)then
some (0,0,0,0,0,0,([]:LI),26)
else
j3 a b h k f g (Ad (Ad p 22) 8)
else
j3 a b h k f g (Ad p 22)
def cadenzaref40_Opened:=Oc Jr
def Aqs(a:Int):Option Int:=
some a
def Arf:=Aqs
def Qp(j6:Int→Option Int)(bk4:Int→Int→Option Int)(b h k m n o f:Int)(g:LI)(a p:Int):Option Int:=
if(Bw p b)then
(getI g p).bind fun u=>
bk4 (Ad a u) (Ad p 1)
else
j6 a
def Hi(b h k m n o f:Int)(g:LI):Nat→Int→Int→Option Int
|0,_,_=>none
|q+1,a,p=>Qp Arf (Hi b h k m n o f g q) b h k m n o f g a p
def Aqy b h k m n o f g:=Hi b h k m n o f g Ao
def Aq7(j4:Int→Int→Int→Int→Int→Int→Int→LI→Int→Int→Option Int)(h k m n o f:Int)(g:LI)(b:Int):Option Int:=
j4 b h k m n o f g f 0
def Ahb:=Aq7 Aqy
abbrev Wr:=Option (LB×Int)
def Ug(p:LX)(m n g b h k o:Int)(a:LI):Wr:=
if(Bf m 0)then
some (([]:LB),m)
else
(Wv b p).bind fun(af,ai)=>
some (af,0)
def Tp:=Ug
def Ts(j2:LX→Int→Int→Int→Int→Int→Int→Int→LI→Wr)(v y:LB)(n g b h k o:Int)(a:LI)(f:Int):Wr:=
(Ahb n g b h k o a f).bind fun u=>
(getI a f).bind fun aa=>
if(Bw (Ah (Ac v) u) aa)then
some (([]:LB),24)
else
(Zx y).bind fun(ab,ag)=>
(getI a f).bind fun ac=>
(Cf v u (Ad u ac)).bind fun ad=>
(
(Kh h k).bind fun w=>
(getI w f).bind fun _=>
(getI w f).bind fun ae=>
(cadenzaref21_Decode g b ab ae ad).bind fun(p,m)=>
j2 p m n g b h k o a)
def cadenzaref40_Got:=Ts Tp
abbrev Oq:=Option (Int×Int×Int×LX×Int)
def Asj(a:LB)(aa b f h:Int)(ad:LX):Oq:=
(Cf a aa (Ac a)).bind fun aq=>
(Ti aq).bind fun(bb,ar)=>
if(Bf ar 0)then
some (0,0,0,([]:LX),38)
else
some (b,f,h,ad,0)
def Arp:=Asj
def Atv(bk21:Int→Int→LX→Oq)(a:LB)(w:LI)(m b f h o p n g y ab:Int)(ac:LX)(k:LI)(aa aj ak ae:Int)(am ad:LX):Oq:=
if(Bf ak 0)then
some (0,0,0,([]:LX),ak)
else
(Fj ad am).bind fun au=>
bk21 (Ad aa aj) (Ad ae 1) au
def Ash bk21:=Atv bk21
def Aiq(j24:Int→Int→Int→Int→LX→LX→Oq)(j26:LB→Int→Int→Int→Int→LX→Oq)(a:LB)(w:LI)(m b f h o p n g y ab:Int)(ac:LX)(k:LI)(aa ae:Int)(ad:LX):Oq:=
if(Bw ae (Ac w))then
(getI w ae).bind fun _=>
(getI w ae).bind fun aj=>
if(Bw (Ac a) (Ad aa aj))then
some (0,0,0,([]:LX),24)
else
(getI k ae).bind fun _=>
(Cf a aa (Ad aa aj)).bind fun av=>
(getI k ae).bind fun aw=>
(deframe_Decode b f ac aw av).bind fun(am,ak)=>
j24 aa aj ak ae am ad
else
j26 a aa b f h ad
def Aav(a:LB)(w:LI)(m b f h o p n g y ab:Int)(ac:LX)(k:LI):Nat→Int→Int→LX→Oq
|0,_,_,_=>none
|q+1,aa,ae,ad=>Aiq (Ash (Aav a w m b f h o p n g y ab ac k q) a w m b f h o p n g y ab ac k) Arp a w m b f h o p n g y ab ac k aa ae ad
end Go.Pl
