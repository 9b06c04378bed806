/- A part of the proof of a statement of this seat (see the text that ends in Proof): CwPure. No conditions of its own. -/
import Derived.Test.YtfcmocdmhnafcaaGreatDoorCwBA
set_option linter.unusedVariables false
namespace Go.Pl
open Go Go.Lv
abbrev LB:=List UInt8
abbrev LI:=List Int
abbrev LX:=List Int32
abbrev LU:=List UInt32
abbrev LQ:=List UInt64
abbrev Kk:=Option (LI×Int)
def Bb1(b:LI):Kk:=
some (b,0)
def Ap3:=Bb1
def Aoj(j6:LI→Kk)(bk4:Int→Int→LI→Kk)(f:Int)(g:UInt64)(h a:Int)(b:LI):Kk:=
if(Bs a f)then
if(geq a (Ah f 1))then
(Cw b ([(Ah (Ae a 1) h)]:LI)).bind fun k=>
bk4 (Ae a 1) (Ae a 1) k
else
(Hx (Il (Fz a 64) 0)).bind fun _=>
if(geq (Dq (Bv g (GI.toZ (Fz a 64)).toNat) 1) 1)then
(Cw b ([(Ah (Ae a 1) h)]:LI)).bind fun m=>
bk4 (Ae a 1) (Ae a 1) m
else
bk4 h (Ae a 1) b
else
j6 b
def Aea(f:Int)(g:UInt64):Nat→Int→Int→LI→Kk
|0,_,_,_=>none
|q+1,h,a,b=>Aoj Ap3 (Aea f g q) f g h a b
def Apq f g:=Aea f g FUEL
def Ao6(j4:Int→UInt64→Int→Int→LI→Kk)(f:Int)(g:UInt64):Kk:=
if((Bs f 0)||(Di f 100000))then
some (([]:LI),2)
else
j4 f g 0 0 ([]:LI)
def Ae9:=Ao6 Apq
def Qp(a:Int):Option (Int×Int):=
if((Bs a 1)||(Di a 1048576))then
some (0,2)
else
some ((Aw5 1 (Bw (Bk 256 a) 245)),0)
abbrev Anw:=Option (Int32×Int32×Int)
def Bf8(a:Int)(b:Bool):Anw:=
if b then
(Hx (Il (Ah a 1) 0)).bind fun _=>
some ((Azu (Df (1:Int32) (GI.toZ (Ah a 1)).toNat)),(Ah (Df (1:Int32) (GI.toZ (Ah a 1)).toNat) 1),0)
else
some (0,0,2)
def At7:=Bf8
def Avi(j2:Int→Bool→Anw)(a:Int):Anw:=
if(geq a 8)then
j2 a (geq a 8)
else
if(geq a 16)then
j2 a (geq a 16)
else
j2 a (geq a 24)
def Zq:=Avi At7
def Rc(a b:Int):Option Int:=
(Zq b).bind fun(g,h,f)=>
if(((Ay f 0)||(Bs a 1))||(Di a 6))then
some 2
else
some 0
def Anr(a b f:Int)(g:LB):Option (Int×Bool):=
(Qp f).bind fun(h,k)=>
(Rc a b).bind fun m=>
some (h,(((geq m 0)&&(geq k 0))&&(gle (Ac g) 64)))
def Bds(a b f:Int)(g:LB):Option (Int×Int×Int×LB×LB×LX×(List LB)×LB×Bool×Int×Int):=
(Anr a b f g).bind fun(k,h)=>
if(!h)then
some (0,0,0,([]:LB),([]:LB),([]:LX),([]:List LB),([]:LB),false,0,2)
else
some (a,b,f,g,([]:LB),([]:LX),([]:List LB),([]:LB),false,0,0)
def Ak1(a b:Int):Option Int:=
some (Bw (Bk a b) 8)
def Bgs:Option Int:=
some 0
def Auz:=Bgs
def Ab1(j6:Option Int)(bk4:Int→Option Int)(b f:Int32)(a:LX)(g:Int):Option Int:=
if(Bs g (Ac a))then
(Ak a g).bind fun h=>
if((Bs h b)||(Di h f))then
some 16
else
bk4 (Ae g 1)
else
j6
def Pj(b f:Int32)(a:LX):Nat→Int→Option Int
|0,_=>none
|q+1,g=>Ab1 Auz (Pj b f a q) b f a g
def Avb b f a:=Pj b f a FUEL
def Aky(j4:Int32→Int32→LX→Int→Option Int)(m:Int)(a:LX):Option Int:=
(Zq m).bind fun(b,f,k)=>
if(Ay k 0)then
some k
else
if(Di (Ac a) 4000)then
some 4
else
j4 b f a 0
def Ub:=Aky Avb
def Ae4(a h k:Int)(m n:LB)(b:LX)(f:List LB)(o:LB)(p:Bool)(u g:Int):Option Int:=
(Hx (Ay a 0)).bind fun _=>
some (Ae (Bk (Ac f) g) (Bw (Ac b) a))
def Aqj(a g h:Int)(k m:LB)(n:LX)(o:List LB)(p:LB)(u:Bool)(v b f:Int):Option Bool:=
some ((gle b 1000)&&(gle (Bk f a) 4000))
def Aw4(w:Bool):Option Bool:=
some (!w)
def Ah2:=Aw4
def Ah3(j24:Bool→Option Bool)(w:Bool):Option Bool:=
j24 w
def Ws:=Ah3 Ah2
def Aia(j23:Bool→Option Bool):Option Bool:=
j23 (Il (-1:Int) (0:Int))
def Ail:=Aia Ws
def Awv(bk16:Int→Option Bool)(b:List LB)(f a g:Int):Option Bool:=
bk16 (Ae g 1)
def Aiq bk16:=Awv bk16
def Aip(j23:Bool→Option Bool)(j20:Int→Option Bool)(b:List LB)(f a g:Int)(y:LB):Option Bool:=
if((Bs (Ac y) 5)||(Di (Ac y) (Ae (Bw (Ae (Bk (Bk 81 f) a) 7) 8) 4)))then
j23 (Il g 0)
else
j20 g
def Aio bk16 b f a:=Aip Ws (Aiq bk16 b f a) b f a
def Aim(j19:Int→LB→Option Bool)(j22:Option Bool)(b:List LB)(f a g:Int):Option Bool:=
if(Bs g (Ac b))then
(Ak b g).bind fun y=>
j19 g y
else
j22
def We(b:List LB)(f a:Int):Nat→Int→Option Bool
|0,_=>none
|q+1,g=>Aim (Aio (We b f a q) b f a) Ail b f a g
def Aih b f a:=We b f a FUEL
def Aii(j16:(List LB)→Int→Int→Int→Option Bool)(f a k o:Int)(p m:LB)(h:LX)(b:List LB)(n:LB)(u:Bool)(v:Int):Option Bool:=
j16 b f a 0
def Aic:=Aii Aih
def Aik(j15:Int→Int→Int→Int→LB→LB→LX→(List LB)→LB→Bool→Int→Option Bool)(f a k o:Int)(p m:LB)(h:LX)(b:List LB)(n:LB)(u:Bool)(v aa:Int):Option Bool:=
(Ae4 a k o p m h b n u v f).bind fun ab=>
(Aqj a k o p m h b n u v aa ab).bind fun ac=>
if(!ac)then
some false
else
j15 f a k o p m h b n u v
def Aib:=Aik Aic
def Aiu(j14:Int→Int→Int→Int→LB→LB→LX→(List LB)→LB→Bool→Int→Int→Option Bool)(f a k o:Int)(p m:LB)(h:LX)(b:List LB)(n:LB)(u:Bool)(v:Int):Option Bool:=
(Ub k h).bind fun ad=>
if(Ay ad 0)then
some false
else
if(Di (Ac h) 0)then
j14 f a k o p m h b n u v (Ae (Ac b) 1)
else
j14 f a k o p m h b n u v (Ac b)
def Aig:=Aiu Aib
def Akc(j13:Int→Int→Int→Int→LB→LB→LX→(List LB)→LB→Bool→Int→Option Bool)(a k o:Int)(p m:LB)(h:LX)(b:List LB)(n:LB)(u:Bool)(v f:Int):Option Bool:=
if(Di (Ac n) 0)then
if true then
if true then
if(true||(Di (Ac b) 1000))then
some false
else
j13 f a k o p m h b n u v
else
(Hx (Ay a 0)).bind fun _=>
if((Il (Bw (Ac h) a) f)||(Di (Ac b) 1000))then
some false
else
j13 f a k o p m h b n u v
else
(Hx (Ay a 0)).bind fun _=>
if(Ay (Fz (Ac h) a) 0)then
if(true||(Di (Ac b) 1000))then
some false
else
j13 f a k o p m h b n u v
else
(Hx (Ay a 0)).bind fun _=>
if((Il (Bw (Ac h) a) f)||(Di (Ac b) 1000))then
some false
else
j13 f a k o p m h b n u v
else
(Ak1 a k).bind fun ae=>
if(Il (Ac m) ae)then
if true then
if(true||(Di (Ac b) 1000))then
some false
else
j13 f a k o p m h b n u v
else
(Hx (Ay a 0)).bind fun _=>
if((Il (Bw (Ac h) a) f)||(Di (Ac b) 1000))then
some false
else
j13 f a k o p m h b n u v
else
(Hx (Ay a 0)).bind fun _=>
if(Ay (Fz (Ac h) a) 0)then
if(true||(Di (Ac b) 1000))then
some false
else
j13 f a k o p m h b n u v
else
(Hx (Ay a 0)).bind fun _=>
if((Il (Bw (Ac h) a) f)||(Di (Ac b) 1000))then
some false
else
j13 f a k o p m h b n u v
def Ar9:=Akc Aig
def Ant(m n o:Int)(p b:LB)(f:LX)(g:List LB)(h:LB)(k:Bool)(a:Int):Option Int:=
(Anr m n o p).bind fun(u,v)=>
if(!v)then
some 8
else
if(Ay a 0)then
if(!(((((geq a 18)||(geq a 24))&&(!k))&&(geq (Ae (Ae (Ac b) (Ac f)) (Ac g)) 0))&&(geq (Ac h) 0)))then
some 8
else
some 0
else
if k then
if(!((geq (Ae (Ae (Ac b) (Ac f)) (Ac g)) 0)&&(gle (Ac h) 100000)))then
some 8
else
some 0
else
(Ar9 m n o p b f g h k a u).bind fun w=>
if(!w)then
some 8
else
some 0
def Cc(a:LB):Option (LB):=
(
(Cw ([]:LB) a).bind fun b=>
some b)
def Dj(a:LX):Option (LX):=
(
(Cw ([]:LX) a).bind fun b=>
some b)
abbrev Ht:=Option (Int×Int×Int×LB×LB×LX×(List LB)×LB×Bool×Int)
def Bd3(b f g:Int)(h:LB)(a:List LB)(k:Bool)(m:Int)(u:List LB)(n:LB)(o:LX)(p:LB):Ht:=
some (b,f,g,h,n,o,u,p,k,m)
def Asl:=Bd3
def As4(j8:Int→Int→Int→LB→(List LB)→Bool→Int→(List LB)→LB→LX→LB→Ht)(bk6:Int→(List LB)→Ht)(w a:List LB)(b f g:Int)(h:LB)(k:Bool)(m:Int)(n:LB)(o:LX)(p:LB)(v:Int)(u:List LB):Ht:=
if(Bs v (Ac (Axf w a)))then
(Ak u v).bind fun _=>
(Ak u v).bind fun y=>
(Cc y).bind fun aa=>
(Ak u v).bind fun _=>
(Kw u v aa).bind fun ab=>
bk6 (Ae v 1) ab
else
j8 b f g h a k m u n o p
def Ahh(w a:List LB)(b f g:Int)(h:LB)(k:Bool)(m:Int)(n:LB)(o:LX)(p:LB):Nat→Int→(List LB)→Ht
|0,_,_=>none
|q+1,v,u=>As4 Asl (Ahh w a b f g h k m n o p q) w a b f g h k m n o p v u
def Asn w a b f g h k m n o p:=Ahh w a b f g h k m n o p FUEL
def Ast(j6:(List LB)→(List LB)→Int→Int→Int→LB→Bool→Int→LB→LX→LB→Int→(List LB)→Ht)(b f g:Int)(h:LB)(a:List LB)(k:Bool)(m:Int)(n:LB)(o:LX)(p:LB):Ht:=
(mkI (Ac a) ([]:LB)).bind fun w=>
(Hx (geq (Ac a) (Ac a))).bind fun _=>
j6 w a b f g h k m n o p 0 (Axf w a)
def Asv:=Ast Asn
def Ar7(j5:Int→Int→Int→LB→(List LB)→Bool→Int→LB→LX→LB→Ht)(b f g:Int)(h ac:LB)(ad:LX)(a:List LB)(ae:LB)(k:Bool)(m:Int):Ht:=
(Cc ac).bind fun n=>
(Dj ad).bind fun o=>
(Cc ae).bind fun p=>
j5 b f g h a k m n o p
def Aq5:=Ar7 Asv
abbrev Ahj:=Option (Int×Int×Int×LB×LB×LX×(List LB)×LB×Bool×Int×Int×Int)
def Bbo(u g h b:Int)(k m:LB)(n:LX)(o:List LB)(p:LB)(f:Bool)(a v:Int):Ahj:=
(Aq5 g h b k m n o p f a).bind fun(y,aa,ab,ac,ad,ae,af,ag,ah,ai)=>
some (y,aa,ab,ac,ad,ae,af,ag,ah,ai,u,v)
def Ao7:=Bbo
def Apu(j2:Int→Int→Int→Int→LB→LB→LX→(List LB)→LB→Bool→Int→Int→Ahj)(g h b:Int)(k m:LB)(n:LX)(o:List LB)(p:LB)(f:Bool)(a:Int):Ahj:=
(Ant g h b k m n o p f a).bind fun w=>
if(Ay w 0)then
some (0,0,0,([]:LB),([]:LB),([]:LX),([]:List LB),([]:LB),false,0,0,w)
else
(Qp b).bind fun(u,aj)=>
if(Ay a 0)then
j2 u g h b k m n o p f a a
else
if f then
j2 u g h b k m n o p f a 36
else
j2 u g h b k m n o p f a aj
def Anq:=Apu Ao7
abbrev Bz:=Option (LX×Int)
def Baq(g:LX):Bz:=
some (g,0)
def Al7:=Baq
def Bbe(bk16:Int→LX→Bz)(a:Int)(b:LB)(f:Int)(m:LX):Bz:=
bk16 (Ae f (Bw a 8)) m
def Acy bk16:=Bbe bk16
def Amw(j28:Int→LX→Bz)(a:Int)(b:LB)(f:Int)(h:Int32)(g:LX):Bz:=
(Hx (Il (Ah 32 a) 0)).bind fun _=>
(Hx (Il (Ah 32 a) 0)).bind fun _=>
(Cw g ([(Bv (Df h (GI.toZ (Ah 32 a)).toNat) (GI.toZ (Ah 32 a)).toNat)]:LX)).bind fun p=>
j28 f p
def Amb bk16 a b:=Amw (Acy bk16 a b) a b
def Amn(j27:Int→Int32→LX→Bz)(bk25:Int32→Int→Bz)(a:Int)(b:LB)(f:Int)(g:LX)(h:Int32)(k:Int):Bz:=
if(Bs k (Bw a 8))then
(Ak b (Ae f k)).bind fun n=>
(Hx (Il (Bk 8 k) 0)).bind fun _=>
bk25 (gor h (Df (Ad n:Int32) (GI.toZ (Bk 8 k)).toNat)) (Ae k 1)
else
j27 f h g
def Acq(bk16:Int→LX→Bz)(a:Int)(b:LB)(f:Int)(g:LX):Nat→Int32→Int→Bz
|0,_,_=>none
|q+1,h,k=>Amn (Amb bk16 a b) (Acq bk16 a b f g q) a b f g h k
def Aml bk16 a b f g:=Acq bk16 a b f g FUEL
def Amt(j28:Int→LX→Bz)(j25:Int→LX→Int32→Int→Bz)(j30:LX→Bz)(a:Int)(b:LB)(f:Int)(g:LX):Bz:=
if(Bs f (Ac b))then
if(geq a 8)then
(Ak b f).bind fun n=>
(Cw g ([(Ah (Ad n:Int32) 128)]:LX)).bind fun u=>
j28 f u
else
j25 f g 0 0
else
j30 g
def Sk(a:Int)(b:LB):Nat→Int→LX→Bz
|0,_,_=>none
|q+1,f,g=>Amt (Acy (Sk a b q) a b) (Aml (Sk a b q) a b) Al7 a b f g
def Am6 a b:=Sk a b FUEL
def Ao2(j16:Int→LB→Int→LX→Bz)(a:Int)(b:LB):Bz:=
(Zq a).bind fun(v,w,o)=>
if(Ay o 0)then
some (([]:LX),o)
else
(Hx (Ay (Bw a 8) 0)).bind fun _=>
if(Ay (Fz (Ac b) (Bw a 8)) 0)then
some (([]:LX),12)
else
(Hx (Ay (Bw a 8) 0)).bind fun _=>
if(Di (Bw (Ac b) (Bw a 8)) 4000)then
some (([]:LX),4)
else
j16 a b 0 ([]:LX)
def Axp:=Ao2 Am6
abbrev Bo:=Option (UInt64×Int)
def Avf(h:UInt64):Bo:=
some (h,0)
def Ak9:=Avf
def Ak5(j30:UInt64→Bo)(h b:UInt64)(a:LB)(f:LQ):Bo:=
j30 h
def Alo:=Ak5 Ak9
def Abb(j29:UInt64→UInt64→LB→LQ→Bo)(bk27:UInt64→Int→Bo)(a:LB)(b:UInt64)(f:LQ)(h:UInt64)(m:Int):Bo:=
if(Bs m (Ac a))then
(Ak a m).bind fun p=>
Option.bind (Ak f (GI.toZ (Wm (Ad (Bv h (GI.toZ (56:UInt64)).toNat):UInt8) p))) fun _=>
Option.bind (Ak f (GI.toZ (Wm (Ad (Bv h (GI.toZ (56:UInt64)).toNat):UInt8) p))) fun u=>
bk27 (Wm (Df h (GI.toZ (8:UInt64)).toNat) u) (Ae m 1)
else
j29 h b a f
def Ox(a:LB)(b:UInt64)(f:LQ):Nat→UInt64→Int→Bo
|0,_,_=>none
|q+1,h,m=>Abb Alo (Ox a b f q) a b f h m
def Ali a b f:=Ox a b f FUEL
def Ajx(j27:LB→UInt64→LQ→UInt64→Int→Bo)(b:UInt64)(a:LB)(f:LQ):Bo:=
j27 a b f b 0
def Acx:=Ajx Ali
def Ave(bk16:Int→LQ→Bo)(b:UInt64)(a:LB)(g:Int)(o:LQ):Bo:=
bk16 (Ae g 1) o
def Als bk16:=Ave bk16
def Ajq(j24:Int→LQ→Bo)(b:UInt64)(a:LB)(g:Int)(k:UInt64)(f:LQ):Bo:=
(Ak f g).bind fun _=>
(Kw f g k).bind fun o=>
j24 g o
def Abl bk16 b a:=Ajq (Als bk16 b a) b a
def Acz(j23:Int→UInt64→LQ→Bo)(bk21:UInt64→Int→Bo)(b:UInt64)(a:LB)(g:Int)(f:LQ)(k:UInt64)(n:Int):Bo:=
if(Bs n 8)then
bk21 (Wm (Df k (GI.toZ (1:UInt64)).toNat) (Bk 4823603603198064275 (Bv k (GI.toZ (63:UInt64)).toNat))) (Ae n 1)
else
j23 g k f
def Pf(bk16:Int→LQ→Bo)(b:UInt64)(a:LB)(g:Int)(f:LQ):Nat→UInt64→Int→Bo
|0,_,_=>none
|q+1,k,n=>Acz (Abl bk16 b a) (Pf bk16 b a g f q) b a g f k n
def All bk16 b a g f:=Pf bk16 b a g f FUEL
def Ac5(j21:Int→LQ→UInt64→Int→Bo)(j26:UInt64→LB→LQ→Bo)(b:UInt64)(a:LB)(g:Int)(f:LQ):Bo:=
if(Bs g 256)then
j21 g f (Df (Ad g:UInt64) (GI.toZ (56:UInt64)).toNat) 0
else
j26 b a f
def Lu(b:UInt64)(a:LB):Nat→Int→LQ→Bo
|0,_,_=>none
|q+1,g,f=>Ac5 (All (Lu b a q) b a) Acx b a g f
def Akg b a:=Lu b a FUEL
def An9(j16:UInt64→LB→Int→LQ→Bo)(b:UInt64)(a:LB):Bo:=
if(Di (Ac a) 100000)then
some (0,4)
else
j16 b a 0 (List.replicate 256 (0:UInt64))
def Aqx:=An9 Akg
def Apk(a:LB):Option (UInt64×Int):=
(Aqx 0 a).bind fun(b,f)=>
some (b,f)
def Brb(a:LX):Option (LX):=
some a
def Bfs:=Brb
def Arc(j6:LX→Option (LX))(bk4:Int→LX→Option (LX))(f:UInt64)(b:Int)(a:LX):Option (LX):=
if(Bs b 8)then
(Hx (Il (Bk 8 b) 0)).bind fun _=>
(Ak a b).bind fun _=>
(Kw a b (Ad (Ad (Bv f (GI.toZ (Bk 8 b)).toNat):Int8):Int32)).bind fun g=>
bk4 (Ae b 1) g
else
j6 a
def Aes(f:UInt64):Nat→Int→LX→Option (LX)
|0,_,_=>none
|q+1,b,a=>Arc Bfs (Aes f q) f b a
def Bev f:=Aes f FUEL
def Bf0(j4:UInt64→Int→LX→Option (LX))(f:UInt64):Option (LX):=
j4 f 0 (List.replicate 16 (0:Int32))
def Bk6:=Bf0 Bev
def Rg(a:LB):Option (LX×Int):=
if(Di (Ac a) 64)then
some (([(0:Int32),(0:Int32),(0:Int32),(0:Int32),(0:Int32),(0:Int32),(0:Int32),(0:Int32),(0:Int32),(0:Int32),(0:Int32),(0:Int32),(0:Int32),(0:Int32),(0:Int32),(0:Int32)]:LX),2)
else
(Apk a).bind fun(f,b)=>
if(Ay b 0)then
some (([(0:Int32),(0:Int32),(0:Int32),(0:Int32),(0:Int32),(0:Int32),(0:Int32),(0:Int32),(0:Int32),(0:Int32),(0:Int32),(0:Int32),(0:Int32),(0:Int32),(0:Int32),(0:Int32)]:LX),b)
else
(Bk6 f).bind fun g=>
some (g,0)
def Ax2(a f:Int)(b:LX):Option Int:=
(Rc a f).bind fun g=>
if(Ay g 0)then
some g
else
(Ub f b).bind fun h=>
if(Ay h 0)then
some h
else
if(geq (Ac b) 0)then
some 2
else
(Hx (Ay a 0)).bind fun _=>
if(Ay (Fz (Ac b) a) 0)then
some 2
else
some 0
def Ap4(a:Int)(b:LX):Option Int:=
if((Bs a 1)||(Di a 6))then
some 2
else
if(Di (Ac b) 4000)then
some 4
else
(Hx (Ay a 0)).bind fun _=>
if(Ay (Fz (Ac b) a) 0)then
some 2
else
some 0
abbrev Hw:=Option (LX×Int)
def Bob(f:LX):Hw:=
some (f,0)
def Bdr:=Bob
def Bnx(bk12:Int→LX→Hw)(b a:Int)(k:LX):Hw:=
bk12 (Ae a b) k
def Bcs bk12:=Bnx bk12
def Bcr(j20:Int→LX→Hw)(b a:Int)(g:LX):Hw:=
if(Di (Ah ((Ae a b)-a) 1) 0)then
(Hx (decide (0≤(Ah ((Ae a b)-a) 1)∧(Ah ((Ae a b)-a) 1)<((Ae a b)-a)))).bind fun _=>
Option.bind (Hx (decide (0≤(Ah (Ah ((Ae a b)-a) 1) 1)∧(Ah (Ah ((Ae a b)-a) 1) 1)<((Ae a b)-a)))) fun _=>
(Ak g (a+(Ah ((Ae a b)-a) 1))).bind fun m=>
(Ak g (a+(Ah (Ah ((Ae a b)-a) 1) 1))).bind fun n=>
(Hx (decide (0≤(Ah ((Ae a b)-a) 1)∧(Ah ((Ae a b)-a) 1)<((Ae a b)-a)))).bind fun _=>
(Kw g (a+(Ah ((Ae a b)-a) 1)) (Ah m (Bw n 2))).bind fun o=>
j20 a o
else
j20 a g
def Bc4 bk12 b:=Bcr (Bcs bk12 b) b
def Bcp(j19:Int→LX→Hw)(bk17:Int→LX→Hw)(b a h:Int)(g:LX):Hw:=
if(Bs h (Ah ((Ae a b)-a) 1))then
(Hx (decide (0≤(Ae h 1)∧(Ae h 1)<((Ae a b)-a)))).bind fun _=>
(Hx (decide (0≤h∧h<((Ae a b)-a)))).bind fun _=>
(Ak g (a+(Ae h 1))).bind fun m=>
(Ak g (a+h)).bind fun n=>
(Hx (decide (0≤h∧h<((Ae a b)-a)))).bind fun _=>
(Kw g (a+h) (Ah m n)).bind fun o=>
bk17 (Ae h 1) o
else
j19 a g
def Auj(bk12:Int→LX→Hw)(b a:Int):Nat→Int→LX→Hw
|0,_,_=>none
|q+1,h,g=>Bcp (Bc4 bk12 b) (Auj bk12 b a q) b a h g
def Bc8 bk12 b a:=Auj bk12 b a FUEL
def Bdh(j17:Int→Int→LX→Hw)(j22:LX→Hw)(b a:Int)(f:LX):Hw:=
if(Bs a (Ac f))then
(vwI (Ac f) a (Ae a b)).bind fun _=>
j17 a 0 f
else
j22 f
def At1(b:Int):Nat→Int→LX→Hw
|0,_,_=>none
|q+1,a,f=>Bdh (Bc8 (At1 b q) b) Bdr b a f
def Bcy b:=At1 b FUEL
def Bib(j12:Int→Int→LX→Hw)(b:Int)(p:LX):Hw:=
(Ap4 b p).bind fun u=>
if(Ay u 0)then
some (([]:LX),u)
else
(Dj p).bind fun v=>
j12 b 0 v
def Bso:=Bib Bcy
abbrev Azd:=Option (Int×LX×LX×Int)
def Bnv(a:Int)(b:LX)(f:Bool):Azd:=
if f then
some (10,b,(List.replicate 16 (0:Int32)),0)
else
if(geq a 16)then
some (9,b,(List.replicate 16 (0:Int32)),0)
else
some (0,(List.replicate 16 (0:Int32)),(List.replicate 16 (0:Int32)),2)
def Bcz:=Bnv
def Bdq(j2:Int→LX→Bool→Azd)(a:Int)(b:LX):Azd:=
if(geq a 8)then
j2 a b (geq a 8)
else
j2 a b (geq a 24)
def Azj:=Bdq Bcz
def Bcb(a:Int)(f:LX):Option (Int×Int32×Int×LX×LX×Int):=
(Azj a f).bind fun(g,h,k,b)=>
if(Ay b 0)then
some (0,0,0,(List.replicate 16 (0:Int32)),(List.replicate 16 (0:Int32)),b)
else
some (a,0,g,h,k,0)
def Tz(a:Int)(k:Int32)(b:Int)(f m:LX):Option Int:=
(Azj a f).bind fun(g,n,o,h)=>
if((Ay h 0)||(Ay g b))then
some 8
else
some 0
def Auw(a:Int):Option (Int×Int):=
if(geq a 8)then
some (4,0)
else
if(geq a 16)then
if(geq a 16)then
some (5,0)
else
some (0,2)
else
if(geq a 24)then
some (5,0)
else
some (0,2)
def Amk(a:Int)(b:Int32):Option Int32:=
(Hx (Il a 0)).bind fun _=>
(Hx (Il a 0)).bind fun _=>
some (Ad (Bd6 (Ah (Df (Ad b:Int) (GI.toZ a).toNat) (Ad b:Int)) (GI.toZ a).toNat):Int32)
def Uz(b:Int)(f:Int32):Option (Int32×Int):=
(Auw b).bind fun(g,a)=>
if(Ay a 0)then
some (0,a)
else
(Amk g f).bind fun h=>
some (h,0)
def Aeh(a:Int)(b f:LX):Option Int:=
if((Ay a 9)&&(Ay a 10))then
some 8
else
some 0
abbrev Qi:=Option (Int32×Int)
def Axa(g:Int32)(a:Int)(b f:LX):Qi:=
(Hx (Il a 0)).bind fun _=>
some ((Bv g (GI.toZ a).toNat),0)
def Anl:=Axa
def Aff(j6:Int32→Int→LX→LX→Qi)(bk4:Int32→Int→Qi)(b:LX)(a:Int)(f:LX)(g:Int32)(h:Int):Qi:=
if(Bs h 16)then
(Ak b h).bind fun m=>
(Ak f h).bind fun _=>
(Ak f h).bind fun n=>
bk4 (Ae g (Bk m n)) (Ae h 1)
else
j6 g a b f
def Rh(b:LX)(a:Int)(f:LX):Nat→Int32→Int→Qi
|0,_,_=>none
|q+1,g,h=>Aff Anl (Rh b a f q) b a f g h
def Anu b a f:=Rh b a f FUEL
def An5(j4:LX→Int→LX→Int32→Int→Qi)(a:Int)(b f:LX):Qi:=
(Aeh a b f).bind fun k=>
if(Ay k 0)then
some (0,k)
else
(Hx (Il (Ah a 1) 0)).bind fun _=>
j4 b a f (Df (1:Int32) (GI.toZ (Ah a 1)).toNat) 0
def Alh:=An5 Anu
def Aoc(a:Int):Option Int32:=
if(geq a 0)then
some 4
else
if(Bs a 4)then
some 2
else
some 1
abbrev Qb:=Option (Int×LX×LX×Int)
def Biv(g:Int)(b f:LX):Qb:=
some (g,b,f,0)
def Axi:=Biv
def Afb(j6:Int→LX→LX→Qb)(bk4:Int→LX→Qb)(h:Int32)(f:LX)(g a:Int)(b:LX):Qb:=
if(Bs a 16)then
(Ak f a).bind fun m=>
if(geq m 0)then
bk4 (Ae a 1) b
else
if((Bs m 0)==(Bs h 0))then
(Ak b a).bind fun _=>
(Ak b a).bind fun o=>
(Aoc a).bind fun p=>
(Ak b a).bind fun _=>
(Kw b a (Ae o p)).bind fun u=>
bk4 (Ae a 1) u
else
(Ak b a).bind fun _=>
(Ak b a).bind fun v=>
(Aoc a).bind fun w=>
(Ak b a).bind fun _=>
(Kw b a (Ah v w)).bind fun y=>
bk4 (Ae a 1) y
else
j6 g b f
def Rj(h:Int32)(f:LX)(g:Int):Nat→Int→LX→Qb
|0,_,_=>none
|q+1,a,b=>Afb Axi (Rj h f g q) h f g a b
def Ax0 h f g:=Rj h f g FUEL
def Ans(j4:Int32→LX→Int→Int→LX→Qb)(g:Int)(k f:LX)(h:Int32):Qb:=
(Aeh g k f).bind fun n=>
if(Ay n 0)then
some (0,(List.replicate 16 (0:Int32)),(List.replicate 16 (0:Int32)),n)
else
if(geq h 0)then
some (g,k,f,0)
else
j4 h f g 0 k
def Arl:=Ans Ax0
abbrev Aue:=Option (Int×LX×LX×Int)
def Ba5(g:Int32)(b:Int)(f a:LX):Aue:=
(Ak (Rn a 1 ((16:Int)-(1:Int)) (Anh a 0 ((16:Int)-(0:Int)))) 0).bind fun _=>
(Kw (Rn a 1 ((16:Int)-(1:Int)) (Anh a 0 ((16:Int)-(0:Int)))) 0 g).bind fun k=>
some (b,f,k,0)
def Art:=Ba5
def Ai5(j2:Int32→Int→LX→LX→Aue)(b:Int)(f a:LX)(g:Int32):Aue:=
(Aeh b f a).bind fun h=>
if(Ay h 0)then
some (0,(List.replicate 16 (0:Int32)),(List.replicate 16 (0:Int32)),h)
else
(
(vwI 16 1 16).bind fun _=>
(vwI 16 0 16).bind fun _=>
j2 g b f a)
def Awf:=Ai5 Art
def Aq2(a:Int)(b f:LX)(g h:Int32):Option (Int×LX×LX):=
(Arl a b f h).bind fun(k,m,n,v)=>
(Awf k m n g).bind fun(o,p,u,w)=>
some (o,p,u)
def Auv(b:Int)(f g:LX)(a:Int32):Option (Int32×Int×LX×LX×Int):=
(Alh b f g).bind fun(h,k)=>
if(Ay k 0)then
some (0,0,(List.replicate 16 (0:Int32)),(List.replicate 16 (0:Int32)),k)
else
(Aq2 b f g a (Ah a h)).bind fun(m,n,o)=>
some ((Ah a h),m,n,o,0)
def Ae7(a:Int)(b:Int32)(f:Int)(g h:LX)(k:Int32):Option (Int32×Int×Int32×Int×LX×LX×Int):=
(Tz a b f g h).bind fun m=>
if(Ay m 0)then
some (0,0,0,0,(List.replicate 16 (0:Int32)),(List.replicate 16 (0:Int32)),m)
else
(Uz a b).bind fun(n,y)=>
(Auv f g h (Ah k n)).bind fun(o,p,u,v,w)=>
(
some (o,a,k,p,u,v,w))
def Bki(a:Int32):Option UInt32:=
some (Wm (Df (Ad a:UInt32) (GI.toZ (1:UInt64)).toNat) (Ad (Bv a (GI.toZ (31:UInt64)).toNat):UInt32))
abbrev Cs:=Option (LU×Int)
def Ayw(k:LU):Cs:=
some (k,0)
def Aj1:=Ayw
def Ak0(j12:LU→Cs)(bk10:Int→(List (Int×Int32×(Int×LX×LX×Unit)×Unit))→LU→Cs)(b:LX)(a f g:Int)(o:List (Int×Int32×(Int×LX×LX×Unit)×Unit))(k:LU):Cs:=
if(Bs g (Ac b))then
(Ak b g).bind fun _=>
(Ak b g).bind fun ac=>
(Hx (Ay a 0)).bind fun _=>
(Ak o (Fz g a)).bind fun _=>
(Ak o (Fz g a)).bind fun p=>
(Ae7 p.1 p.2.1 p.2.2.1.1 p.2.2.1.2.1 p.2.2.1.2.2.1 ac).bind fun(u,ad,ae,v,af,ag,w)=>
if(Ay w 0)then
some (([]:LU),w)
else
(Kw o (Fz g a) (ad,ae,(v,af,ag,()),())).bind fun ah=>
(Bki u).bind fun ai=>
(Cw k ([ai]:LU)).bind fun aj=>
bk10 (Ae g 1) ah aj
else
j12 k
def Yo(b:LX)(a f:Int):Nat→Int→(List (Int×Int32×(Int×LX×LX×Unit)×Unit))→LU→Cs
|0,_,_,_=>none
|q+1,g,o,k=>Ak0 Aj1 (Yo b a f q) b a f g o k
def Ajp b a f:=Yo b a f FUEL
def Al6(j10:LX→Int→Int→Int→(List (Int×Int32×(Int×LX×LX×Unit)×Unit))→LU→Cs)(a f:Int)(b:LX)(h:List (Int×Int32×(Int×LX×LX×Unit)×Unit)):Cs:=
j10 b a f 0 h ([]:LU)
def Al9:=Al6 Ajp
def Amr(j9:Int→Int→LX→(List (Int×Int32×(Int×LX×LX×Unit)×Unit))→Cs)(bk7:Int→(List (Int×Int32×(Int×LX×LX×Unit)×Unit))→Cs)(a f:Int)(m b:LX)(n:Int)(h:List (Int×Int32×(Int×LX×LX×Unit)×Unit)):Cs:=
if(Bs n 6)then
(Bcb f m).bind fun(ak,al,u,am,an,v)=>
(Ak h n).bind fun _=>
(Kw h n (ak,al,(u,am,an,()),())).bind fun ao=>
bk7 (Ae n 1) ao
else
j9 a f b h
def Abm(a f:Int)(m b:LX):Nat→Int→(List (Int×Int32×(Int×LX×LX×Unit)×Unit))→Cs
|0,_,_=>none
|q+1,n,h=>Amr Al9 (Abm a f m b q) a f m b n h
def Am7 a f m b:=Abm a f m b FUEL
def Amm(j7:Int→Int→LX→LX→Int→(List (Int×Int32×(Int×LX×LX×Unit)×Unit))→Cs)(a f:Int)(m y:LX):Cs:=
(Ax2 a f y).bind fun aa=>
if(Ay aa 0)then
some (([]:LU),aa)
else
(Bso a y).bind fun(b,ab)=>
if(Ay ab 0)then
some (([]:LU),ab)
else
j7 a f m b 0 (List.replicate 6 ((0:Int),(0:Int32),((0:Int),(List.replicate 16 (0:Int32)),(List.replicate 16 (0:Int32)),()),()))
def Avj:=Amm Am7
def Ay7:Option (Int×Int×UInt64×UInt64):=
some (10,10,16384,16384)
abbrev Jh:=Option ((List (Int×Int×UInt64×UInt64×Unit)))
def Bac(a:List (Int×Int×UInt64×UInt64×Unit)):Jh:=
some a
def Amj:=Bac
def Amq(j6:(List (Int×Int×UInt64×UInt64×Unit))→Jh)(bk4:Int→(List (Int×Int×UInt64×UInt64×Unit))→Jh)(b:Int)(a:List (Int×Int×UInt64×UInt64×Unit)):Jh:=
if(Bs b 6)then
(Ay7).bind fun(f,g,h,k)=>
(Ak a b).bind fun _=>
(Kw a b (f,g,h,k,())).bind fun m=>
bk4 (Ae b 1) m
else
j6 a
def Abc:Nat→Int→(List (Int×Int×UInt64×UInt64×Unit))→Jh
|0,_,_=>none
|q+1,b,a=>Amq Amj (Abc q) b a
def Am1:=Abc FUEL
def Am3(j4:Int→(List (Int×Int×UInt64×UInt64×Unit))→Jh):Jh:=
j4 0 (List.replicate 6 ((0:Int),(0:Int),(0:UInt64),(0:UInt64),()))
def Aut:=Am3 Am1
def Jg(b:LB)(a:Int):Option Int:=
if(((Bs a 0)||(Di a 330000))||(Ay (Ac b) (Bd6 (Ae a 7) (GI.toZ (3:UInt64)).toNat)))then
some 8
else
if(Di (Dq a 7) 0)then
(Ak b (Ah (Ac b) 1)).bind fun f=>
(Hx (Il (Dq a 7) 0)).bind fun _=>
if(Ay (Bv f (GI.toZ (Dq a 7)).toNat) 0)then
some 8
else
some 0
else
some 0
def Axn(a b:Int)(f g:UInt64):Option Int:=
if(!((geq (Ec (Aw5 a 0) 24) a)&&((geq (Ec (Aw5 b 0) 24) b)&&((geq (Ec f 68719476735) f)&&((geq (Ec g 68719476735) g)&&true)))))then
some 8
else
some 0
def An6:=Axn
def Afd(j4:Int→Int→UInt64→UInt64→Option Int)(a b:Int)(f g:UInt64):Option Int:=
(
(
j4 a b f g))
def Anx:=Afd An6
def Ae8(j3:Int→Int→UInt64→UInt64→Option Int)(a b:Int)(f g:UInt64):Option Int:=
(
(
j3 a b f g))
def Aj7:=Ae8 Anx
def Aeu(a f:Int)(g h:UInt64)(b:UInt32):Option (Int×UInt32):=
(Hx (Il a 0)).bind fun _=>
if(geq (Bv b (GI.toZ a).toNat) 0)then
some (0,b)
else
(Hx (Il a 0)).bind fun _=>
some (1,(Ah b (Df (1:UInt32) (GI.toZ a).toNat)))
def Bbj(a:LB)(b:Int):Option (LB×Int):=
(Cc a).bind fun f=>
some (f,b)
abbrev Dm:=Option (LB×Int×Int)
def Bla(f:Int)(o:LB):Dm:=
some (o,f,0)
def Bbd:=Bla
def Blh(bk15:UInt64→Int→Int→LB→Dm)(b:UInt64)(a:Int)(m:UInt64)(h f:Int)(w:LB):Dm:=
(Hx (Il (Ec h (Ah 8 (Dq f 7))) 0)).bind fun _=>
bk15 (Bv m (GI.toZ (Ec h (Ah 8 (Dq f 7)))).toNat) (Ah h (Ec h (Ah 8 (Dq f 7)))) (Ae f (Ec h (Ah 8 (Dq f 7)))) w
def Az3 bk15:=Blh bk15
def Azs(j19:UInt64→Int→Int→LB→Dm)(b:UInt64)(a:Int)(m:UInt64)(h f:Int)(u:LB):Dm:=
(Ak u (Ah (Ac u) 1)).bind fun _=>
(Hx (Il (Ec h (Ah 8 (Dq f 7))) 0)).bind fun _=>
(Hx (Il (Dq f 7) 0)).bind fun _=>
(Ak u (Ah (Ac u) 1)).bind fun ad=>
(Ak u (Ah (Ac u) 1)).bind fun _=>
Option.bind (Kw u (Ah (Ac u) 1) (gor ad (Df (Ad (Dq m (Ah (Df (1:UInt64) (GI.toZ (Ec h (Ah 8 (Dq f 7)))).toNat) 1)):UInt8) (GI.toZ (Dq f 7)).toNat))) fun w=>
j19 m h f w
def Az0 bk15 b a:=Azs (Az3 bk15 b a) b a
def Ba4(j18:UInt64→Int→Int→LB→Dm)(j21:Int→LB→Dm)(b:UInt64)(a:Int)(m:UInt64)(h f:Int)(o:LB):Dm:=
if(Di h 0)then
if(geq (Dq f 7) 0)then
(Cw o ([(0:UInt8)]:LB)).bind fun ab=>
j18 m h f ab
else
j18 m h f o
else
j21 f o
def Arh(b:UInt64)(a:Int):Nat→UInt64→Int→Int→LB→Dm
|0,_,_,_,_=>none
|q+1,m,h,f,o=>Ba4 (Az0 (Arh b a q) b a) Bbd b a m h f o
def Bax b a:=Arh b a FUEL
def Bma(g:Int)(p:LB):Dm:=
some (p,g,0)
def Az2:=Bma
def Bl7(bk22:UInt64→Int→Int→LB→Dm)(b:UInt64)(a:Int)(n:UInt64)(k g:Int)(y:LB):Dm:=
(Hx (Il (Ec k (Ah 8 (Dq g 7))) 0)).bind fun _=>
bk22 (Bv n (GI.toZ (Ec k (Ah 8 (Dq g 7)))).toNat) (Ah k (Ec k (Ah 8 (Dq g 7)))) (Ae g (Ec k (Ah 8 (Dq g 7)))) y
def Azy bk22:=Bl7 bk22
def Azl(j26:UInt64→Int→Int→LB→Dm)(b:UInt64)(a:Int)(n:UInt64)(k g:Int)(v:LB):Dm:=
(Ak v (Ah (Ac v) 1)).bind fun _=>
(Hx (Il (Ec k (Ah 8 (Dq g 7))) 0)).bind fun _=>
(Hx (Il (Dq g 7) 0)).bind fun _=>
(Ak v (Ah (Ac v) 1)).bind fun ae=>
(Ak v (Ah (Ac v) 1)).bind fun _=>
Option.bind (Kw v (Ah (Ac v) 1) (gor ae (Df (Ad (Dq n (Ah (Df (1:UInt64) (GI.toZ (Ec k (Ah 8 (Dq g 7)))).toNat) 1)):UInt8) (GI.toZ (Dq g 7)).toNat))) fun y=>
j26 n k g y
def Azn bk22 b a:=Azl (Azy bk22 b a) b a
def Baj(j25:UInt64→Int→Int→LB→Dm)(j28:Int→LB→Dm)(b:UInt64)(a:Int)(n:UInt64)(k g:Int)(p:LB):Dm:=
if(Di k 0)then
if(geq (Dq g 7) 0)then
(Cw p ([(0:UInt8)]:LB)).bind fun w=>
j25 n k g w
else
j25 n k g p
else
j28 g p
def Arr(b:UInt64)(a:Int):Nat→UInt64→Int→Int→LB→Dm
|0,_,_,_,_=>none
|q+1,n,k,g,p=>Baj (Azn (Arr b a q) b a) Az2 b a n k g p
def Az9 b a:=Arr b a FUEL
def Bdc(j15:UInt64→Int→UInt64→Int→Int→LB→Dm)(j22:UInt64→Int→UInt64→Int→Int→LB→Dm)(ac:LB)(aa:Int)(b:UInt64)(a:Int):Dm:=
(Jg ac aa).bind fun af=>
if(Ay af 0)then
some (([]:LB),0,8)
else
if((Bs a 0)||(Di a 64))then
some (([]:LB),0,2)
else
if(Bs a 64)then
(Hx (Il a 0)).bind fun _=>
if(Ay (Bv b (GI.toZ a).toNat) 0)then
some (([]:LB),0,16)
else
if(Di (Ae aa a) 330000)then
some (([]:LB),0,18)
else
(Bbj ac aa).bind fun(ag,ah)=>
j15 b a b a ah ag
else
if(Di (Ae aa a) 330000)then
some (([]:LB),0,18)
else
(Bbj ac aa).bind fun(ab,ai)=>
j22 b a b a ai ab
def Av3:=Bdc Bax Az9
def Ajb(b:UInt32)(a:Int):Option Bool:=
(Hx (Il a 0)).bind fun _=>
some (Il (Bv b (GI.toZ a).toNat) 48)
def Bae(a:Int):Option (Int×Int):=
if((Bs a 0)||(Di a 48))then
some (0,2)
else
some ((Ec (Ae a 1) 48),0)
def Bcx(b:LB)(f a:Int):Option (LB×Int×Int):=
(Jg b f).bind fun g=>
if(Ay g 0)then
some (([]:LB),0,g)
else
(Bae a).bind fun(k,h)=>
if(Ay h 0)then
some (([]:LB),0,h)
else
(Hx (Il a 0)).bind fun _=>
(Av3 b f (Ah (Df (1:UInt64) (GI.toZ a).toNat) 1) k).bind fun(m,n,o)=>
some (m,n,o)
abbrev Ar2:=Option (LB×Int×Int)
def Biw(b:LB)(f h:Int)(k:UInt32)(m:Int):Ar2:=
(Bcx b f h).bind fun(p,u,n)=>
if(Ay n 0)then
some (([]:LB),0,n)
else
(Av3 p u (Ad k:UInt64) m).bind fun(v,w,y)=>
some (v,w,y)
def Axg:=Biw
def Axb(j2:LB→Int→Int→UInt32→Int→Ar2)(b:LB)(f:Int)(g:UInt32)(a:Int):Ar2:=
(Jg b f).bind fun o=>
if(Ay o 0)then
some (([]:LB),0,o)
else
if((Bs a 0)||(Di a 24))then
some (([]:LB),0,2)
else
(Hx (Il a 0)).bind fun _=>
(Hx (Il a 0)).bind fun _=>
(Ajb g a).bind fun aa=>
if aa then
j2 b f 48 g 32
else
j2 b f (Ad (Bv g (GI.toZ a).toNat):Int) (Dq g (Ah (Df (1:UInt32) (GI.toZ a).toNat) 1)) a
def Bey:=Axb Axg
abbrev Hu:=Option (LB×Int×Int×Int×UInt64×UInt64×Int)
def Akb(k u n:Int)(a:UInt64)(b:UInt32)(o:UInt64)(m:LB):Hu:=
(
(
some (m,k,u,n,(Ae a (Ah (Ad b:UInt64) (Bv a (GI.toZ (4:UInt64)).toNat))),o,0)))
def Atx:=Akb
def Ax5(j10:Int→Int→Int→UInt64→UInt32→UInt64→LB→Hu)(b:UInt32)(k n:Int)(a o:UInt64)(m:LB)(u:Int):Hu:=
j10 k u n a b o m
def Axo:=Ax5 Atx
def Axq(j9:UInt32→Int→Int→UInt64→UInt64→LB→Int→Hu)(b:UInt32)(f:Int)(a:UInt64)(k:Int)(m:LB)(n:Int)(o:UInt64):Hu:=
if(Di f 0)then
(Hx (Il f 0)).bind fun _=>
if(Bs (Ae a (Ah (Ad b:UInt64) (Bv a (GI.toZ (4:UInt64)).toNat))) (Df (16:UInt64) (GI.toZ f).toNat))then
j9 b k n a o m (Ah f 1)
else
if(Bs f 24)then
(Hx (Il f 0)).bind fun _=>
if(Di (Ae a (Ah (Ad b:UInt64) (Bv a (GI.toZ (4:UInt64)).toNat))) (Df (32:UInt64) (GI.toZ f).toNat))then
j9 b k n a o m (Ae f 1)
else
j9 b k n a o m f
else
j9 b k n a o m f
else
if(Bs f 24)then
(Hx (Il f 0)).bind fun _=>
if(Di (Ae a (Ah (Ad b:UInt64) (Bv a (GI.toZ (4:UInt64)).toNat))) (Df (32:UInt64) (GI.toZ f).toNat))then
j9 b k n a o m (Ae f 1)
else
j9 b k n a o m f
else
j9 b k n a o m f
def Ax4:=Axq Axo
def Axc(j8:UInt32→Int→UInt64→Int→LB→Int→UInt64→Hu)(b:UInt32)(f h:Int)(a g:UInt64)(y k:Int)(m:LB):Hu:=
if(Ay y 0)then
some (([]:LB),0,0,0,0,0,y)
else
(Aeu f h a g b).bind fun(ag,p)=>
if(geq ag 1)then
if(Di h 0)then
(Hx (Il h 0)).bind fun _=>
if(Bs (Ae g (Ah (Ad p:UInt64) (Bv g (GI.toZ (4:UInt64)).toNat))) (Df (16:UInt64) (GI.toZ h).toNat))then
j8 b f a k m (Ah h 1) (Ae g (Ah (Ad p:UInt64) (Bv g (GI.toZ (4:UInt64)).toNat)))
else
if(Bs h 24)then
(Hx (Il h 0)).bind fun _=>
if(Di (Ae g (Ah (Ad p:UInt64) (Bv g (GI.toZ (4:UInt64)).toNat))) (Df (32:UInt64) (GI.toZ h).toNat))then
j8 b f a k m (Ae h 1) (Ae g (Ah (Ad p:UInt64) (Bv g (GI.toZ (4:UInt64)).toNat)))
else
j8 b f a k m h (Ae g (Ah (Ad p:UInt64) (Bv g (GI.toZ (4:UInt64)).toNat)))
else
j8 b f a k m h (Ae g (Ah (Ad p:UInt64) (Bv g (GI.toZ (4:UInt64)).toNat)))
else
if(Bs h 24)then
(Hx (Il h 0)).bind fun _=>
if(Di (Ae g (Ah (Ad p:UInt64) (Bv g (GI.toZ (4:UInt64)).toNat))) (Df (32:UInt64) (GI.toZ h).toNat))then
j8 b f a k m (Ae h 1) (Ae g (Ah (Ad p:UInt64) (Bv g (GI.toZ (4:UInt64)).toNat)))
else
j8 b f a k m h (Ae g (Ah (Ad p:UInt64) (Bv g (GI.toZ (4:UInt64)).toNat)))
else
j8 b f a k m h (Ae g (Ah (Ad p:UInt64) (Bv g (GI.toZ (4:UInt64)).toNat)))
else
j8 b f a k m h g
def Axh:=Axc Ax4
def Axr(j7:UInt32→Int→Int→UInt64→UInt64→Int→Int→LB→Hu)(b:UInt32)(v:LB)(w f h:Int)(a g:UInt64):Hu:=
(Aeu f h a g b).bind fun(ad,ae)=>
(Av3 v w (Ad ad:UInt64) 1).bind fun(aa,ab,ac)=>
if((geq ac 0)&&(geq ad 0))then
(Av3 aa ab (Ad ae:UInt64) f).bind fun(ah,ai,aj)=>
j7 b f h a g aj ai ah
else
if(geq ac 0)then
(Bey aa ab ae h).bind fun(ak,al,am)=>
j7 b f h a g am al ak
else
j7 b f h a g ac ab aa
def Axt:=Axr Axh
def Axy(j6:UInt32→LB→Int→Int→Int→UInt64→UInt64→Hu)(v:LB)(w f h:Int)(a g:UInt64)(b:UInt32):Hu:=
(Jg v w).bind fun an=>
if(Ay an 0)then
some (([]:LB),0,0,0,0,0,8)
else
(Aj7 f h a g).bind fun ao=>
if(Ay ao 0)then
some (([]:LB),0,0,0,0,0,8)
else
j6 b v w f h a g
def Bgr:=Axy Axt
abbrev Bn:=Option (UInt32×Int)
def Avx(h:UInt32):Bn:=
some (h,0)
def Ald:=Avx
def Ac0(j30:UInt32→Bn)(bk28:UInt32→Int→Bn)(a:LB)(b:LU)(h:UInt32)(m:Int):Bn:=
if(Bs m (Ac a))then
(Ak a m).bind fun p=>
(Ak b (GI.toZ (Wm (Ad h:UInt8) p))).bind fun _=>
(Ak b (GI.toZ (Wm (Ad h:UInt8) p))).bind fun u=>
bk28 (Wm (Bv h (GI.toZ (8:UInt64)).toNat) u) (Ae m 1)
else
j30 h
def Po(a:LB)(b:LU):Nat→UInt32→Int→Bn
|0,_,_=>none
|q+1,h,m=>Ac0 Ald (Po a b q) a b h m
def Alc a b:=Po a b FUEL
def Ajw(j28:LB→LU→UInt32→Int→Bn)(f:UInt32)(a:LB)(b:LU):Bn:=
j28 a b f 0
def Aj6:=Ajw Alc
def Akh(j27:UInt32→LB→LU→Bn)(f:UInt32)(a:LB)(b:LU):Bn:=
j27 f a b
def Ab7:=Akh Aj6
def At4(bk16:Int→LU→Bn)(f:UInt32)(a:LB)(g:Int)(o:LU):Bn:=
bk16 (Ae g 1) o
def Akv bk16:=At4 bk16
def Alm(j24:Int→LU→Bn)(f:UInt32)(a:LB)(g:Int)(k:UInt32)(b:LU):Bn:=
(Ak b g).bind fun _=>
(Kw b g k).bind fun o=>
j24 g o
def Abw bk16 f a:=Alm (Akv bk16 f a) f a
def Ada(j23:Int→UInt32→LU→Bn)(bk21:UInt32→Int→Bn)(f:UInt32)(a:LB)(g:Int)(b:LU)(k:UInt32)(n:Int):Bn:=
if(Bs n 8)then
bk21 (Wm (Bv k (GI.toZ (1:UInt64)).toNat) (Bk 3988292384 (Dq k 1))) (Ae n 1)
else
j23 g k b
def Ou(bk16:Int→LU→Bn)(f:UInt32)(a:LB)(g:Int)(b:LU):Nat→UInt32→Int→Bn
|0,_,_=>none
|q+1,k,n=>Ada (Abw bk16 f a) (Ou bk16 f a g b q) f a g b k n
def Ak3 bk16 f a g b:=Ou bk16 f a g b FUEL
def Aay(j21:Int→LU→UInt32→Int→Bn)(j26:UInt32→LB→LU→Bn)(f:UInt32)(a:LB)(g:Int)(b:LU):Bn:=
if(Bs g 256)then
j21 g b (Ad g:UInt32) 0
else
j26 f a b
def Lw(f:UInt32)(a:LB):Nat→Int→LU→Bn
|0,_,_=>none
|q+1,g,b=>Aay (Ak3 (Lw f a q) f a) Ab7 f a g b
def Alr f a:=Lw f a FUEL
def Anj(j16:UInt32→LB→Int→LU→Bn)(f:UInt32)(a:LB):Bn:=
if(Di (Ac a) 100000)then
some (0,4)
else
j16 f a 0 (List.replicate 256 (0:UInt32))
def Aqq:=Anj Alr
def Vk(b:LB):Option (UInt32×Int):=
(Aqq 4294967295 b).bind fun(f,a)=>
if(Ay a 0)then
some (0,a)
else
some ((Be3 f),0)
def Beq(b:UInt64)(a:Int):Option Bool:=
if(geq a 8)then
some true
else
(Hx (Il (Bk 8 a) 0)).bind fun _=>
some (geq (Bv b (GI.toZ (Bk 8 a)).toNat) 0)
abbrev Yr:=Option (LB×Int)
def Bc5(a:LB):Yr:=
some (a,0)
def Aun:=Bc5
def Amd(j6:LB→Yr)(bk4:Int→LB→Yr)(f:UInt64)(g:LB)(b:Int)(a:LB):Yr:=
if(Bs b (Ac g))then
(Hx (Il (Bk 8 b) 0)).bind fun _=>
(Ak a b).bind fun _=>
(Kw a b (Ad (Bv f (GI.toZ (Bk 8 b)).toNat):UInt8)).bind fun k=>
bk4 (Ae b 1) k
else
j6 a
def Zc(f:UInt64)(g:LB):Nat→Int→LB→Yr
|0,_,_=>none
|q+1,b,a=>Amd Aun (Zc f g q) f g b a
def Auh f g:=Zc f g FUEL
def Aud(j4:UInt64→LB→Int→LB→Yr)(f:UInt64)(h:Int):Yr:=
if((Bs h 1)||(Di h 8))then
some (([]:LB),2)
else
(Beq f h).bind fun m=>
if(!m)then
some (([]:LB),16)
else
(mkI h (0:UInt8)).bind fun g=>
(Hx (geq h h)).bind fun _=>
j4 f g 0 g
def Xm:=Aud Auh
def Ajd(f:LB):Option (LB):=
some f
def Sg:=Ajd
def Ti(j16:LB→Option (LB))(bk14:Int→LB→Option (LB))(a:List LB)(g:Int)(f:LB):Option (LB):=
if(Bs g (Ac a))then
(Ak a g).bind fun o=>
(Cw f o).bind fun p=>
bk14 (Ae g 1) p
else
j16 f
def Kz(a:List LB):Nat→Int→LB→Option (LB)
|0,_,_=>none
|q+1,g,f=>Ti Sg (Kz a q) a g f
def Tm a:=Kz a FUEL
def Sr(j14:(List LB)→Int→LB→Option (LB))(a:List LB)(k:LB):Option (LB):=
j14 a 0 k
def Te:=Sr Tm
def Sy(j13:(List LB)→LB→Option (LB))(b:Int)(a:List LB):Option (LB):=
if(Di (Ah b (Ah (0:Int) (0:Int))) 0)then
(vwI 0 0 0).bind fun _=>
(mkI (Ah b (Ah (0:Int) (0:Int))) (0:UInt8)).bind fun u=>
(Cw ([]:LB) u).bind fun m=>
(vwI (Ac m) 0 0).bind fun _=>
j13 a (Anh m 0 ((0:Int)-(0:Int)))
else
j13 a ([]:LB)
def Tf:=Sy Te
def Tk(j12:Int→(List LB)→Option (LB))(a:List LB)(b:Int):Option (LB):=
if(Bs b 0)then
none
else
j12 b a
def Th:=Tk Tf
def Ui(j11:(List LB)→Int→Option (LB))(bk9:Int→Int→Option (LB))(a:List LB)(b h:Int):Option (LB):=
if(Bs h (Ac a))then
(Ak a h).bind fun n=>
if(Bs (Ae b (Ac n)) 0)then
none
else
bk9 (Ae b (Ac n)) (Ae h 1)
else
j11 a b
def Lt(a:List LB):Nat→Int→Int→Option (LB)
|0,_,_=>none
|q+1,b,h=>Ui Th (Lt a q) a b h
def Vb a:=Lt a FUEL
def Uf(j9:(List LB)→Int→Int→Option (LB))(a:List LB):Option (LB):=
j9 a 0 0
def Jy:=Uf Vb
abbrev Bf:=Option (LB×Int)
def Ayr(u:Int)(p:LB):Bf:=
(Vk p).bind fun(af,ac)=>
if(Ay ac 0)then
some (([]:LB),ac)
else
(Xm (Ad af:UInt64) 4).bind fun(m,h)=>
if(Ay h 0)then
some (([]:LB),h)
else
(Jy ([p,m]:List LB)).bind fun ag=>
some (ag,0)
def Akn:=Ayr
def Ayt(bk27:Int→(List (Int×Int×UInt64×UInt64×Unit))→Int→LB→Bf)(a:LU)(b f g:Int)(k:List (Int×Int×UInt64×UInt64×Unit))(n:Int)(v:LB):Bf:=
bk27 (Ae g 1) k n v
def Ajm bk27:=Ayt bk27
def Ay5(bk44:Int→Int→LB→Bf)(h:Int)(a:LU)(g b f:Int)(k:List (Int×Int×UInt64×UInt64×Unit))(m:LB)(o n:Int)(aa:LB):Bf:=
bk44 (Ae o 1) (Ae n 1) aa
def Alf bk44:=Ay5 bk44
def Akd(j48:Int→Int→LB→Bf)(h:Int)(a:LU)(g b f:Int)(k:List (Int×Int×UInt64×UInt64×Unit))(m:LB)(o n:Int)(y:LB):Bf:=
(Ak m (Bw o 8)).bind fun _=>
(Ak m (Bw o 8)).bind fun ah=>
(Hx (Il (Fz o 8) 0)).bind fun _=>
(Ak y (Bw n 8)).bind fun _=>
(Hx (Il (Fz n 8) 0)).bind fun _=>
(Ak y (Bw n 8)).bind fun ai=>
(Ak y (Bw n 8)).bind fun _=>
Option.bind (Kw y (Bw n 8) (gor ai (Df (Dq (Bv ah (GI.toZ (Fz o 8)).toNat) 1) (GI.toZ (Fz n 8)).toNat))) fun aa=>
j48 o n aa
def Aj9 bk44 h a g b f k m:=Akd (Alf bk44 h a g b f k m) h a g b f k m
def Ale(j47:Int→Int→LB→Bf)(j50:Int→(List (Int×Int×UInt64×UInt64×Unit))→Int→LB→Bf)(a:LU)(b f h g:Int)(k:List (Int×Int×UInt64×UInt64×Unit))(m:LB)(o n:Int)(v:LB):Bf:=
if(Bs o h)then
if(geq (Fz n 8) 0)then
(Cw v ([(0:UInt8)]:LB)).bind fun aj=>
j47 o n aj
else
j47 o n v
else
j50 g k n v
def Yu(bk27:Int→(List (Int×Int×UInt64×UInt64×Unit))→Int→LB→Bf)(a:LU)(b f h g:Int)(k:List (Int×Int×UInt64×UInt64×Unit))(m:LB):Nat→Int→Int→LB→Bf
|0,_,_,_=>none
|q+1,o,n,v=>Ale (Aj9 (Yu bk27 a b f h g k m q) h a g b f k m) (Ajm bk27 a b f) a b f h g k m o n v
def Ala bk27 a b f h g k m:=Yu bk27 a b f h g k m FUEL
def Akp(j44:Int→Int→(List (Int×Int×UInt64×UInt64×Unit))→LB→Int→Int→LB→Bf)(j52:Int→LB→Bf)(a:LU)(b f g:Int)(w:List (Int×Int×UInt64×UInt64×Unit))(u:Int)(p:LB):Bf:=
if(Bs g (Ac a))then
(Ak a g).bind fun _=>
(Ak a g).bind fun ak=>
(Hx (Ay b 0)).bind fun _=>
(Ak w (Fz g b)).bind fun _=>
(Ak w (Fz g b)).bind fun ab=>
(Bgr ([]:LB) 0 ab.1 ab.2.1 ab.2.2.1 ab.2.2.2.1 ak).bind fun(m,h,al,am,an,ao,ad)=>
if(Ay ad 0)then
some (([]:LB),ad)
else
(Hx (Ay b 0)).bind fun _=>
(Ak w (Fz g b)).bind fun _=>
(Kw w (Fz g b) (al,am,an,ao,())).bind fun k=>
j44 h g k m 0 u p
else
j52 u p
def Za(a:LU)(b f:Int):Nat→Int→(List (Int×Int×UInt64×UInt64×Unit))→Int→LB→Bf
|0,_,_,_,_=>none
|q+1,g,w,u,p=>Akp (Ala (Za a b f q) a b f) Akn a b f g w u p
def Alj a b f:=Za a b f FUEL
def Am5(j27:LU→Int→Int→Int→(List (Int×Int×UInt64×UInt64×Unit))→Int→LB→Bf)(b f:Int)(ap aq:LX):Bf:=
(Avj b f ap aq).bind fun(a,ae)=>
if(Ay ae 0)then
some (([]:LB),ae)
else
(Aut).bind fun ar=>
j27 a b f 0 ar 0 ([]:LB)
def Aks:=Am5 Alj
def Aa1(b f g:Int)(h k:LB)(m:LX)(n:List LB)(o:LB)(p:Bool)(u a:Int):Option (Int×Int×Int×LB×LB×LX×(List LB)×LB×Bool×Int×Int):=
some (b,f,g,h,([]:LB),([]:LX),([]:List LB),([]:LB),false,a,a)
abbrev Bg:=Option (Int×Int×Int×LB×LB×LX×(List LB)×LB×Bool×Int×Int)
def Bbp(a b g:Int)(f:LB)(h:Bool)(k:Int)(y:LB)(w:LX)(v:List LB)(m:LB):Bg:=
some (a,b,g,f,y,w,v,m,h,k,0)
def Apn:=Bbp
def Bb4(bk14:Int→LB→LX→(List LB)→Bg)(p:Int)(n:LB)(a b g:Int)(f:LB)(h:Bool)(k o:Int)(m:LB)(u:Int)(ah:LB)(ai:LX)(aj:List LB):Bg:=
bk14 (Ae u 1) ah ai aj
def Ae1 bk14:=Bb4 bk14
def Ao5(j24:Int→LB→LX→(List LB)→Bg)(p:Int)(n:LB)(a b g:Int)(f:LB)(h:Bool)(k o:Int)(m:LB)(u ad:Int)(ae:LB)(af:LX)(ag:List LB):Bg:=
if(Ay ad 0)then
(Aa1 a b g f ae af ag m h k ad).bind fun(au,av,aw,ax,ay,az,ba,bb,bc,bd,be)=>
some (au,av,aw,ax,ay,az,ba,bb,bc,bd,be)
else
j24 u ae af ag
def Pd bk14 p n a b g f h k o m:=Ao5 (Ae1 bk14 p n a b g f h k o m) p n a b g f h k o m
def Aoo(j23:Int→Int→LB→LX→(List LB)→Bg)(p:Int)(n:LB)(a b g:Int)(f:LB)(h:Bool)(k o:Int)(m:LB)(u:Int)(ab:LX)(v:List LB)(ak:Int):Bg:=
j23 u ak ([]:LB) ab v
def Apz bk14 p n a b g f h k o m:=Aoo (Pd bk14 p n a b g f h k o m) p n a b g f h k o m
def Aog(j23:Int→Int→LB→LX→(List LB)→Bg)(p:Int)(n:LB)(a b g:Int)(f:LB)(h:Bool)(k o:Int)(m:LB)(u:Int)(ac:List LB):Bg:=
j23 u 0 ([]:LB) ([]:LX) ac
def Aop bk14 p n a b g f h k o m:=Aog (Pd bk14 p n a b g f h k o m) p n a b g f h k o m
def Aon(j23:Int→Int→LB→LX→(List LB)→Bg)(j21:Int→LX→(List LB)→Int→Bg)(j22:Int→(List LB)→Bg)(p:Int)(n:LB)(a b g:Int)(f:LB)(h:Bool)(k o:Int)(m:LB)(u:Int)(aa:LB)(w:LX)(v:List LB):Bg:=
(Axp b aa).bind fun(bf,al)=>
if(Ay al 0)then
j23 u al aa w v
else
(Cw w bf).bind fun ab=>
if(Bs (Ac ab) (Bk o a))then
j23 u 0 ([]:LB) ab v
else
(Rg f).bind fun(bg,am)=>
if(Ay am 0)then
j21 u ab v am
else
(Aks a b bg ab).bind fun(bh,an)=>
if(Ay an 0)then
j21 u ab v an
else
(Cw v ([bh]:List LB)).bind fun ac=>
j22 u ac
def Apo bk14 p n a b g f h k o m:=Aon (Pd bk14 p n a b g f h k o m) (Apz bk14 p n a b g f h k o m) (Aop bk14 p n a b g f h k o m) p n a b g f h k o m
def Apg(j24:Int→LB→LX→(List LB)→Bg)(j23:Int→Int→LB→LX→(List LB)→Bg)(j20:Int→LB→LX→(List LB)→Bg)(j26:Int→Int→Int→LB→Bool→Int→LB→LX→(List LB)→LB→Bg)(p:Int)(n:LB)(a b g:Int)(f:LB)(h:Bool)(k o:Int)(m:LB)(u:Int)(y:LB)(w:LX)(v:List LB):Bg:=
if(Bs u (Ac n))then
(Ak n u).bind fun bi=>
(Cw y ([bi]:LB)).bind fun aa=>
if(Bs (Ac aa) p)then
j24 u aa w v
else
(Ae4 a b g f aa w v m h k o).bind fun bj=>
(Aqj a b g f aa w v m h k (Ae (Ac v) 1) (Ae bj 1)).bind fun bk=>
if(!bk)then
j23 u 18 aa w v
else
j20 u aa w v
else
j26 a b g f h k y w v m
def Pg(p:Int)(n:LB)(a b g:Int)(f:LB)(h:Bool)(k o:Int)(m:LB):Nat→Int→LB→LX→(List LB)→Bg
|0,_,_,_,_=>none
|q+1,u,y,w,v=>Apg (Ae1 (Pg p n a b g f h k o m q) p n a b g f h k o m) (Pd (Pg p n a b g f h k o m q) p n a b g f h k o m) (Apo (Pg p n a b g f h k o m q) p n a b g f h k o m) Apn p n a b g f h k o m u y w v
def Aoz p n a b g f h k o m:=Pg p n a b g f h k o m FUEL
def Asq(j14:Int→LB→Int→Int→Int→LB→Bool→Int→Int→LB→Int→LB→LX→(List LB)→Bg)(bl bm bn:Int)(bp bq:LB)(br:LX)(bs:List LB)(bt:LB)(bu:Bool)(bv:Int)(n:LB):Bg:=
(Anq bl bm bn bp bq br bs bt bu bv).bind fun(a,b,g,f,ao,ap,aq,m,h,k,o,ar)=>
if(Ay ar 0)then
some (a,b,g,f,ao,ap,aq,m,h,k,ar)
else
(Ak1 a b).bind fun p=>
j14 p n a b g f h k o m 0 ao ap aq
def Azr:=Asq Aoz
def Ax7(a:LB):Option (Int×Int):=
if(Di (Ac a) 64)then
some (0,2)
else
if(geq (Ac a) 0)then
some (1,0)
else
some (2,0)
def Aet(b f a g h:Int):Option Bool:=
some (((((((geq b 1)||(geq b 2))&&(Di f 0))&&(gle f 6))&&(Di g 0))&&(gle g 1048576))&&(Di h 0))
def Li:=Aet
def Vl(j2:Int→Int→Int→Int→Int→Option Bool)(b f a g h:Int):Option Bool:=
if(geq a 8)then
if(geq a 8)then
j2 b f a g h
else
some false
else
if(geq a 16)then
if(geq a 16)then
j2 b f a g h
else
some false
else
if(geq a 24)then
j2 b f a g h
else
some false
def Nv:=Vl Li
def Xh(g b:Int):Option (Int×Int):=
(Qp g).bind fun(a,f)=>
if(Ay f 0)then
some (0,f)
else
if((Bs b 1)||(Di b 4000))then
some (0,2)
else
(Hx (Ay a 0)).bind fun _=>
if(Di (Bw (Ah (Ae b a) 1) a) 1000)then
some (0,4)
else
some ((Bw (Ah (Ae b a) 1) a),0)
def Afy(k a m f b:Int):Option Bool:=
(Hx (Ay a 0)).bind fun _=>
if(Di b (Bw 4000 a))then
some false
else
(Xh f b).bind fun(g,h)=>
some ((geq h 0)&&(gle g 1000))
def Qr(a b f g h:Int):Option Int:=
(Nv a b f g h).bind fun k=>
if(!k)then
some 8
else
(Afy a b f g h).bind fun m=>
if(!m)then
some 8
else
some 0
abbrev Ls:=Option (LB×Int)
def Bd2(a:LB):Ls:=
(Vk a).bind fun(u,aa)=>
(Xm (Ad u:UInt64) 4).bind fun(n,v)=>
(Cw a n).bind fun o=>
some (o,0)
def As5:=Bd2
def Asg(j6:LB→Ls)(bk4:Int→LB→Ls)(b f g h k m:Int)(a:LB):Ls:=
if(Bs m 5)then
(Ak ([b,f,g,h,k]:LI) m).bind fun w=>
(Ak ([(2:Int),(2:Int),(2:Int),(4:Int),(4:Int)]:LI) m).bind fun y=>
(Xm (Ad w:UInt64) y).bind fun(n,v)=>
(Cw a n).bind fun o=>
bk4 (Ae m 1) o
else
j6 a
def Ag5(b f g h k:Int):Nat→Int→LB→Ls
|0,_,_=>none
|q+1,m,a=>Asg As5 (Ag5 b f g h k q) b f g h k m a
def Asc b f g h k:=Ag5 b f g h k FUEL
def Ar6(j4:Int→Int→Int→Int→Int→Int→LB→Ls)(b f g h k:Int):Ls:=
(Qr b f g h k).bind fun p=>
if(Ay p 0)then
some (([]:LB),p)
else
j4 b f g h k 0 ([(84:UInt8),(84:UInt8),(65:UInt8),(49:UInt8)]:LB)
def Ba2:=Ar6 Asc
def Bcn(a:LB):Option (UInt64×Int):=
if(Di (Ac a) 64)then
some (0,2)
else
(Apk a).bind fun(b,f)=>
some (b,0)
def Ac2(b:LB):Option (LB×Int):=
(Bcn b).bind fun(f,a)=>
if(Ay a 0)then
some (([]:LB),a)
else
(Xm f 8).bind fun(g,h)=>
some (g,h)
def Bg4:Option Int:=
some 0
def Avp:=Bg4
def Abx(j6:Option Int)(bk4:Int→Int→Option Int)(a:LI)(f b:Int):Option Int:=
if(Bs b (Ac a))then
(Ak a b).bind fun g=>
if((Bs g 5)||(Di g f))then
some 8
else
bk4 (Ah f g) (Ae b 1)
else
j6
def Pp(a:LI):Nat→Int→Int→Option Int
|0,_,_=>none
|q+1,f,b=>Abx Avp (Pp a q) a f b
def Alk a:=Pp a FUEL
def Acm(j4:LI→Int→Int→Option Int)(a:LI):Option Int:=
if((geq (Ac a) 0)||(Di (Ac a) 1000))then
some 8
else
j4 a 100000 0
def Nk:=Acm Alk
abbrev Gf:=Option (LB×Int)
def Bd8(g:LB):Gf:=
some (g,0)
def Ar8:=Bd8
def Asf(j14:LB→Gf)(b:LB):Gf:=
(Vk b).bind fun(m,u)=>
(Xm (Ad m:UInt64) 4).bind fun(n,v)=>
(Cw b n).bind fun g=>
j14 g
def Asm:=Asf Ar8
def Bd9(bk8:Int→LB→Gf)(a:LI)(f:Int)(h:LB):Gf:=
bk8 (Ae f 1) h
def Asr bk8:=Bd9 bk8
def Auk(j11:Int→LB→Gf)(j13:LB→Gf)(a:LI)(f:Int)(b:LB):Gf:=
if(Bs f (Ac a))then
(Ak a f).bind fun o=>
(Xm (Ad o:UInt64) 4).bind fun(p,w)=>
(Cw b p).bind fun h=>
j11 f h
else
j13 b
def Ajo(a:LI):Nat→Int→LB→Gf
|0,_,_=>none
|q+1,f,b=>Auk (Asr (Ajo a q) a) Asm a f b
def Aum a:=Ajo a FUEL
def Au4(j8:LI→Int→LB→Gf)(a:LI):Gf:=
(Nk a).bind fun k=>
if(Ay k 0)then
some (([]:LB),k)
else
j8 a 0 ([]:LB)
def Av1:=Au4 Aum
abbrev Hi:=Option (LB×Int)
def Ahm(f g h:Int)(b k:LB)(m:LX)(a:List LB)(n:LB)(o:Bool)(p:Int)(u:LB)(v:LI):Hi:=
(Av1 v).bind fun(aa,y)=>
if(Ay y 0)then
some (([]:LB),y)
else
(
(Cw u aa).bind fun ab=>
(Jy a).bind fun ac=>
(Cw ab ac).bind fun ad=>
some (ad,0))
def As7:=Ahm
def Asp(j8:Int→Int→Int→LB→LB→LX→(List LB)→LB→Bool→Int→LB→LI→Hi)(bk6:Int→LI→Hi)(a:List LB)(f g h:Int)(b k:LB)(m:LX)(n:LB)(o:Bool)(p:Int)(u:LB)(w:Int)(v:LI):Hi:=
if(Bs w (Ac a))then
(Ak a w).bind fun ai=>
(Cw v ([(Ac ai)]:LI)).bind fun aj=>
bk6 (Ae w 1) aj
else
j8 f g h b k m a n o p u v
def Ahf(a:List LB)(f g h:Int)(b k:LB)(m:LX)(n:LB)(o:Bool)(p:Int)(u:LB):Nat→Int→LI→Hi
|0,_,_=>none
|q+1,w,v=>Asp As7 (Ahf a f g h b k m n o p u q) a f g h b k m n o p u w v
def Asd a f g h b k m n o p u:=Ahf a f g h b k m n o p u FUEL
def Asu(j6:(List LB)→Int→Int→Int→LB→LB→LX→LB→Bool→Int→LB→Int→LI→Hi)(f g h:Int)(b k:LB)(m:LX)(a:List LB)(n:LB)(o:Bool)(p:Int)(u:LB):Hi:=
j6 a f g h b k m n o p u 0 ([]:LI)
def Ash:=Asu Asd
def Asy(j5:Int→Int→Int→LB→LB→LX→(List LB)→LB→Bool→Int→LB→Hi)(f g h:Int)(b k:LB)(m:LX)(a:List LB)(n:LB)(o:Bool)(p ak:Int):Hi:=
(Ax7 b).bind fun(al,ae)=>
if(Ay ae 0)then
some (([]:LB),ae)
else
(Ba2 al f g h ak).bind fun(af,ag)=>
if(Ay ag 0)then
some (([]:LB),ag)
else
if(b !=([]:LB))then
(Ac2 b).bind fun(am,ah)=>
if(Ay ah 0)then
some (([]:LB),ah)
else
(Cw af am).bind fun an=>
j5 f g h b k m a n o p an
else
j5 f g h b k m a n o p af
def Az8:=Asy Ash
abbrev Le:=Option (Int×Int×Int×LB×LB×LX×(List LB)×LB×Bool×Int×Int)
def Bbc(o a b g:Int)(f:LB)(k:Bool)(m:Int)(h n:LB)(v:LX)(w:List LB):Le:=
(Az8 a b g f h v w n k m o).bind fun(aj,y)=>
if(Ay y 0)then
(Aa1 a b g f h v w n k m y).bind fun(ad,ak,al,am,ae,af,an,ao,ap,aq,ar)=>
some (ad,ak,al,am,ae,af,an,ao,ap,aq,ar)
else
some (a,b,g,f,([]:LB),([]:LX),([]:List LB),aj,true,0,0)
def Ack:=Bbc
def Am2(j4:Int→Int→Int→Int→LB→Bool→Int→LB→LB→LX→(List LB)→Le)(o a b g:Int)(f:LB)(k:Bool)(m:Int)(h n:LB)(aa:Int)(ab:LX)(ac:List LB):Le:=
if(Ay aa 0)then
(Aa1 a b g f h ab ac n k m aa).bind fun(au,y,ad,av,aw,ax,ae,af,ay,az,ba)=>
some (au,y,ad,av,aw,ax,ae,af,ay,az,ba)
else
j4 o a b g f k m h n ab ac
def Al5:=Am2 Ack
def Am0(j3:Int→Int→Int→Int→LB→Bool→Int→LB→LB→Int→LX→(List LB)→Le)(j4:Int→Int→Int→Int→LB→Bool→Int→LB→LB→LX→(List LB)→Le)(bb bc bd:Int)(be bf:LB)(bg:LX)(bh:List LB)(bi:LB)(bj:Bool)(bk:Int):Le:=
(Anq bb bc bd be bf bg bh bi bj bk).bind fun(a,b,g,f,h,p,u,n,k,m,bl,ag)=>
if(Ay ag 0)then
some (a,b,g,f,h,p,u,n,k,m,ag)
else
(Ae4 a b g f h p u n k m bl).bind fun o=>
if((Di (Ac h) 0)||(geq o 0))then
(Aa1 a b g f h p u n k m 24).bind fun(bm,bn,bp,bq,br,bs,bt,bu,bv,bw,bx)=>
some (bm,bn,bp,bq,br,bs,bt,bu,bv,bw,bx)
else
if(Di (Ac p) 0)then
(Rg f).bind fun(bz,ah)=>
if(Ay ah 0)then
j3 o a b g f k m h n ah p u
else
(Aks a b bz p).bind fun(da,ai)=>
if(Ay ai 0)then
j3 o a b g f k m h n ai p u
else
(Cw u ([da]:List LB)).bind fun db=>
j3 o a b g f k m h n 0 ([]:LX) db
else
j4 o a b g f k m h n p u
def Ava:=Am0 Al5 Ack
def Axx(f g h:Int)(k m:LB)(n:LX)(o:List LB)(p:LB)(u:Bool)(v b:Int):Option (Int×Int×Int×LB×LB×LX×(List LB)×LB×Bool×Int×LB×Int):=
(Ant f g h k m n o p u v).bind fun w=>
if(Ay w 0)then
some (0,0,0,([]:LB),([]:LB),([]:LX),([]:List LB),([]:LB),false,0,([]:LB),w)
else
if(Bs b 0)then
some (0,0,0,([]:LB),([]:LB),([]:LX),([]:List LB),([]:LB),false,0,([]:LB),2)
else
(Aq5 f g h k m n o p u v).bind fun(y,aa,ab,ac,ad,ae,af,a,ag,ah)=>
(Bc a 0 (Ec b (Ac a))).bind fun ai=>
(Cc ai).bind fun aj=>
(Bc a (Ec b (Ac a)) (Ac a)).bind fun ak=>
some (y,aa,ab,ac,ad,ae,af,ak,ag,ah,aj,0)
abbrev Gm:=Option (LB×Int)
def Bba(g h k:Int)(m:LB)(n:Bool)(o:Int)(p:LB)(u:LX)(v:List LB)(w:LB):Gm:=
(Ava g h k m p u v w n o).bind fun(ap,aq,y,ar,au,av,aa,ab,aw,ax,al)=>
if(Ay al 0)then
some (([]:LB),al)
else
(Axx ap aq y ar au av aa ab aw ax 100000).bind fun(ad,ac,bs,bt,bu,bv,bw,bx,bz,da,ay,az)=>
some (ay,az)
def Amo:=Bba
def Bbk(bk6:LB→Int→Int→Int→Int→LB→Bool→Int→LB→LX→(List LB)→LB→Gm)(a:LI)(f:LB)(ac ae b y af ag:Int)(ah:LB)(ai:Bool)(ad:Int)(aa:LB)(ab:LX)(aj:List LB)(ak:LB):Gm:=
if(Ay ac 0)then
some (([]:LB),ac)
else
(Bc f ae (Ac f)).bind fun ba=>
bk6 ba (Ae b 1) y af ag ah ai ad aa ab aj ak
def Aom bk6:=Bbk bk6
def Api(j8:LB→Int→Int→Int→Int→Int→Int→LB→Bool→Int→LB→LX→(List LB)→LB→Gm)(j10:Int→Int→Int→LB→Bool→Int→LB→LX→(List LB)→LB→Gm)(a:LI)(f:LB)(b g h k:Int)(m:LB)(n:Bool)(o:Int)(p:LB)(u:LX)(v:List LB)(w:LB):Gm:=
if(Bs b (Ac a))then
(Ak a b).bind fun _=>
(Ak a b).bind fun ae=>
(Bc f 0 ae).bind fun bb=>
(Azr g h k m p u v w n o bb).bind fun(y,af,ag,ah,aa,ab,aj,ak,ai,ad,ac)=>
j8 f ac ae b y af ag ah ai ad aa ab aj ak
else
j10 g h k m n o p u v w
def Aen(a:LI):Nat→LB→Int→Int→Int→Int→LB→Bool→Int→LB→LX→(List LB)→LB→Gm
|0,_,_,_,_,_,_,_,_,_,_,_,_=>none
|q+1,f,b,g,h,k,m,n,o,p,u,v,w=>Api (Aom (Aen a q) a) Amo a f b g h k m n o p u v w
def Aow a:=Aen a FUEL
def Apl(j6:LI→LB→Int→Int→Int→Int→LB→Bool→Int→LB→LX→(List LB)→LB→Gm)(bc bd be:Int)(bf am:LB)(bg:UInt64):Gm:=
(Ae9 (Ac am) bg).bind fun(a,an)=>
if(Ay an 0)then
some (([]:LB),an)
else
(Bds bc bd be bf).bind fun(bh,bi,bj,bk,bl,bm,bn,bp,bq,br,ao)=>
if(Ay ao 0)then
some (([]:LB),ao)
else
j6 a am 0 bh bi bj bk bq br bl bm bn bp
def Axv:=Apl Aow
def Aaa(a:LB):Option (LB×LB×Int×Int×Int×Int×Int×LI×Int×LB×Bool×Int×Int):=
if(Di (Ac a) 64)then
some (([]:LB),([]:LB),0,0,0,0,0,([]:LI),0,([]:LB),false,0,2)
else
some (a,([]:LB),0,0,0,0,0,([]:LI),0,([]:LB),false,0,0)
def Jq(a:LB):Option (LB):=
(
(Cw ([]:LB) a).bind fun b=>
some b)
def Fj(a:LI):Option (LI):=
(
(Cw ([]:LI) a).bind fun b=>
some b)
def De(a b:LB)(f g h k m:Int)(n:LI)(o:Int)(p:LB)(u:Bool)(v:Int):Option (LB×LB×Int×Int×Int×Int×Int×LI×Int×LB×Bool×Int):=
(Jq b).bind fun w=>
(Jq p).bind fun y=>
(Fj n).bind fun aa=>
some (a,w,f,g,h,k,m,aa,o,y,u,v)
def Ahl(a b:UInt64):Option (UInt64×UInt64):=
some ((Ae (Ae (Bk (Bv a (GI.toZ (32:UInt64)).toNat) (Bv b (GI.toZ (32:UInt64)).toNat)) (Bv (Ae (Bk (Bv a (GI.toZ (32:UInt64)).toNat) (Dq b 4294967295)) (Bv (Bk (Dq a 4294967295) (Dq b 4294967295)) (GI.toZ (32:UInt64)).toNat)) (GI.toZ (32:UInt64)).toNat)) (Bv (Ae (Dq (Ae (Bk (Bv a (GI.toZ (32:UInt64)).toNat) (Dq b 4294967295)) (Bv (Bk (Dq a 4294967295) (Dq b 4294967295)) (GI.toZ (32:UInt64)).toNat)) 4294967295) (Bk (Dq a 4294967295) (Bv b (GI.toZ (32:UInt64)).toNat))) (GI.toZ (32:UInt64)).toNat)),(Bk a b))
def Ae3(a b:UInt64):Option (UInt64×UInt64):=
(Ahl a b).bind fun(f,g)=>
some (f,g)
def Mm(a:LI):Option (LI):=
some a
def Ik:=Mm
def Ge(j10:LI→Option (LI))(bk8:Int→LI→Option (LI))(b:Int)(a:LI):Option (LI):=
if(Bs b (Ac a))then
(
(vwI (Ac a) b (Ac a)).bind fun _=>
(vwI (Ac a) 0 b).bind fun _=>
bk8 (Ae b (Aki ((Ac a)-b) (Anh a 0 (b-(0:Int))).length)) (Rn a b ((Ac a)-b) (Anh a 0 (b-(0:Int)))))
else
j10 a
def Eg:Nat→Int→LI→Option (LI)
|0,_,_=>none
|q+1,b,a=>Ge Ik (Eg q) b a
def Ny:=Eg FUEL
def Oc(j8:Int→LI→Option (LI))(f:LI)(g:UInt64):Option (LI):=
(mkI (Ad g:Int) (0:Int)).bind fun k=>
(Hx (geq (Ad g:Int) (Ad g:Int))).bind fun _=>
j8 (Aki (Ac k) f.length) (Axf k f)
def Nq:=Oc Ny
def Nr(j7:LI→UInt64→Option (LI))(f:LI)(h:Int):Option (LI):=
(Ae3 (Ad (Ac f):UInt64) (Ad h:UInt64)).bind fun(m,g)=>
if((Di m 0)||(Di g 9223372036854775807))then
none
else
j7 f g
def Ns:=Nr Nq
def Oa(j6:LI→Int→Option (LI))(f:LI)(h:Int):Option (LI):=
if(Bs h 0)then
none
else
j6 f h
def Me:=Oa Ns
def Alx(f:LI):Option (LI):=
some f
def Vv:=Alx
def Fu(j16:LI→Option (LI))(bk14:Int→LI→Option (LI))(a:List LI)(g:Int)(f:LI):Option (LI):=
if(Bs g (Ac a))then
(Ak a g).bind fun o=>
(Cw f o).bind fun p=>
bk14 (Ae g 1) p
else
j16 f
def Dv(a:List LI):Nat→Int→LI→Option (LI)
|0,_,_=>none
|q+1,g,f=>Fu Vv (Dv a q) a g f
def Ms a:=Dv a FUEL
def Mn(j14:(List LI)→Int→LI→Option (LI))(a:List LI)(k:LI):Option (LI):=
j14 a 0 k
def Ii:=Mn Ms
def Mt(j13:(List LI)→LI→Option (LI))(b:Int)(a:List LI):Option (LI):=
if(Di (Ah b (Ah (0:Int) (0:Int))) 0)then
(vwI 0 0 0).bind fun _=>
(mkI (Ah b (Ah (0:Int) (0:Int))) (0:Int)).bind fun u=>
(Cw ([]:LI) u).bind fun m=>
(vwI (Ac m) 0 0).bind fun _=>
j13 a (Anh m 0 ((0:Int)-(0:Int)))
else
j13 a ([]:LI)
def Mp:=Mt Ii
def Mo(j12:Int→(List LI)→Option (LI))(a:List LI)(b:Int):Option (LI):=
if(Bs b 0)then
none
else
j12 b a
def Mu:=Mo Mp
def Gg(j11:(List LI)→Int→Option (LI))(bk9:Int→Int→Option (LI))(a:List LI)(b h:Int):Option (LI):=
if(Bs h (Ac a))then
(Ak a h).bind fun n=>
if(Bs (Ae b (Ac n)) 0)then
none
else
bk9 (Ae b (Ac n)) (Ae h 1)
else
j11 a b
def Ef(a:List LI):Nat→Int→Int→Option (LI)
|0,_,_=>none
|q+1,b,h=>Gg Mu (Ef a q) a b h
def Oe a:=Ef a FUEL
def Nt(j9:(List LI)→Int→Int→Option (LI))(a:List LI):Option (LI):=
j9 a 0 0
def Md:=Nt Oe
def Ajn(a b:LI):Option (LI):=
(Md ([a,b]:List LI)).bind fun f=>
some f
def Amp(a b:Int):Option (LI×Int):=
(Xh a b).bind fun(f,g)=>
if(Ay g 0)then
some (([]:LI),g)
else
(Qp a).bind fun(h,n)=>
(Me ([h]:LI) (Ah f 1)).bind fun k=>
(Ajn k ([(Ah b (Bk (Ah f 1) h))]:LI)).bind fun m=>
some (m,0)
def Dk(g h k a b:Int):Option (LI×Int):=
(Qr g h k a b).bind fun f=>
if(Ay f 0)then
some (([]:LI),f)
else
(Amp a b).bind fun(m,n)=>
some (m,n)
def Lm(a f g h k:Int)(b:LB):Option Int:=
if((b==([]:LB)) !=(geq a 1))then
some 26
else
some 0
def Asa(w:Int)(o p:LB)(h b f k m:Int)(g:LI)(a:Int)(n:LB)(u:Bool)(v:Int):Option Bool:=
some (gle (Ac n) w)
def Ahq:=Asa
def Ya(j8:Int→LB→LB→Int→Int→Int→Int→Int→LI→Int→LB→Bool→Int→Option Bool)(bk6:Int→Int→Option Bool)(y:LI)(o p:LB)(h b f k m:Int)(g:LI)(a:Int)(n:LB)(u:Bool)(v w aa:Int):Option Bool:=
if(Bs aa (Ac y))then
(Ak y aa).bind fun ac=>
bk6 (Ae w (Bw (Bk (Bk ac b) f) 8)) (Ae aa 1)
else
j8 w o p h b f k m g a n u v
def Nb(y:LI)(o p:LB)(h b f k m:Int)(g:LI)(a:Int)(n:LB)(u:Bool)(v:Int):Nat→Int→Int→Option Bool
|0,_,_=>none
|q+1,w,aa=>Ya Ahq (Nb y o p h b f k m g a n u v q) y o p h b f k m g a n u v w aa
def Ahp y o p h b f k m g a n u v:=Nb y o p h b f k m g a n u v FUEL
def Ag4(j6:LI→LB→LB→Int→Int→Int→Int→Int→LI→Int→LB→Bool→Int→Int→Int→Option Bool)(o p:LB)(h b f k m:Int)(g:LI)(a:Int)(n:LB)(u:Bool)(v:Int)(ab:LI):Option Bool:=
if(geq (Ac g) 0)then
some ((geq a 0)&&(geq (Ac n) 0))
else
(Nk g).bind fun ad=>
if((((Ay ad 0)||(Ay (Ac g) (Ac ab)))||(Bs a 0))||(Di a (Ac ab)))then
some false
else
(Bc ab 0 a).bind fun y=>
j6 y o p h b f k m g a n u v 0 0
def Ahr:=Ag4 Ahp
def Ahk(j5:LB→LB→Int→Int→Int→Int→Int→LI→Int→LB→Bool→Int→LI→Option Bool)(o p:LB)(h b f k m:Int)(g:LI)(a:Int)(n:LB)(u:Bool)(v:Int):Option Bool:=
if((geq h 0)&&((geq b 0)&&((geq f 0)&&((geq k 0)&&((geq m 0)&&true)))))then
some (((geq (Ac g) 0)&&(geq a 0))&&(geq (Ac n) 0))
else
(Dk h b f k m).bind fun(ab,ae)=>
if(Ay ae 0)then
some false
else
(Lm h b f k m o).bind fun af=>
if(Ay af 0)then
some false
else
j5 o p h b f k m g a n u v ab
def Vr:=Ahk Ahr
def Ff(a b:LB):Option Bool:=
some (a==b)
def Kl(b a:LB):Option Bool:=
if(Il (Ac b) (Ac a))then
(Bc b 0 (Ac a)).bind fun f=>
(Ff f a).bind fun g=>
some g
else
some false
abbrev Kj:=Option (Int×Int)
def Bbs(b:Int):Kj:=
some (b,0)
def Apf:=Bbs
def Vm(j6:Int→Kj)(bk4:Int→Int→Kj)(a:LB)(b f:Int):Kj:=
if(Bs f (Ac a))then
(Ak a f).bind fun g=>
if(Di g 127)then
some (0,12)
else
bk4 (gor (Df b (GI.toZ (7:UInt64)).toNat) (Ad g:Int)) (Ae f 1)
else
j6 b
def Lg(a:LB):Nat→Int→Int→Kj
|0,_,_=>none
|q+1,b,f=>Vm Apf (Lg a q) a b f
def Aer a:=Lg a FUEL
def Aex(j4:LB→Int→Int→Kj)(a:LB):Kj:=
if(Ay (Ac a) 4)then
some (0,2)
else
j4 a 0 0
def Afg:=Aex Aer
abbrev Ho:=Option (Int×Int)
def Asb(a:LB)(b:UInt8)(h:Int):Ho:=
if(Di h 4000)then
some (0,4)
else
if(Bs (Ac a) h)then
some (0,24)
else
if(geq b 16)then
(Bc a (Ah h 10) h).bind fun k=>
(Bc k 0 3).bind fun u=>
if(u !=([51,68,73]:LB))then
some (0,12)
else
(Bc k 3 (Ac k)).bind fun v=>
(Bc a 3 10).bind fun w=>
(Ff v w).bind fun y=>
if(!y)then
some (0,12)
else
some (h,0)
else
some (h,0)
def Xt:=Asb
def Ahi(j8:LB→UInt8→Int→Ho)(a:LB)(g:Int)(b:UInt8):Ho:=
if(geq b 16)then
j8 a b (Ae (Ae g 10) 10)
else
j8 a b (Ae g 10)
def Xu:=Ahi Xt
def Ahb(j7:LB→Int→UInt8→Ho)(a:LB)(g:Int)(b:UInt8)(m:Bool):Ho:=
if m then
some (0,12)
else
j7 a g b
def Ag7:=Ahb Xu
def Ahv(j6:LB→Int→UInt8→Bool→Ho)(a:LB)(f b:UInt8):Ho:=
(Bc a 6 10).bind fun aa=>
(Afg aa).bind fun(g,ab)=>
if(Ay ab 0)then
if true then
j6 a g b true
else
if(geq b 0)then
j6 a g b (!((Il f 2)&&(gle f 4)))
else
if(geq b 16)then
j6 a g b (!(geq f 4))
else
j6 a g b (!false)
else
(Ak a 4).bind fun ac=>
if(Ay ac 0)then
j6 a g b true
else
if(geq b 0)then
j6 a g b (!((Il f 2)&&(gle f 4)))
else
if(geq b 16)then
j6 a g b (!(geq f 4))
else
j6 a g b (!false)
def Ahw:=Ahv Ag7
def Xr(j5:LB→UInt8→UInt8→Ho)(a:LB):Ho:=
(Kl a ([(73:UInt8),(68:UInt8),(51:UInt8)]:LB)).bind fun n=>
if(!n)then
some (0,6)
else
if(Bs (Ac a) 10)then
some (0,24)
else
(Ak a 3).bind fun f=>
(Ak a 5).bind fun b=>
(
(
(
j5 a f b)))
def Aja:=Xr Ahw
abbrev Yh:=Option (UInt64×Int)
def Bps(b:UInt64):Yh:=
some (b,0)
def Bdp:=Bps
def Am4(j6:UInt64→Yh)(bk4:UInt64→Int→Yh)(a:LB)(b:UInt64)(f:Int):Yh:=
if(Bs f (Ac a))then
(Ak a f).bind fun g=>
(Hx (Il (Bk 8 f) 0)).bind fun _=>
bk4 (gor b (Df (Ad g:UInt64) (GI.toZ (Bk 8 f)).toNat)) (Ae f 1)
else
j6 b
def Zj(a:LB):Nat→UInt64→Int→Yh
|0,_,_=>none
|q+1,b,f=>Am4 Bdp (Zj a q) a b f
def Auf a:=Zj a FUEL
def Au6(j4:LB→UInt64→Int→Yh)(a:LB):Yh:=
if((Bs (Ac a) 1)||(Di (Ac a) 8))then
some (0,2)
else
j4 a 0 0
def Auy:=Au6 Auf
def Ap5(f:LB)(a b:Int):Option (UInt64×Int):=
if(((Bs b 1)||(Di b 8))||(Bs a 0))then
some (0,2)
else
if(Di a (Ah (Ac f) b))then
some (0,24)
else
(Bc f a (Ae a b)).bind fun g=>
(Auy g).bind fun(h,k)=>
some (h,k)
def Bf1(g:LB):Option (LB):=
some g
def Ayq:=Bf1
def Arx(j6:LB→Option (LB))(bk4:Int→LB→Option (LB))(a b:Int)(f:UInt64)(h:Int)(g:LB):Option (LB):=
if(Bs h (Ac ([(2000:UInt64),(Ad (Ae a 32):UInt64),(Ad b:UInt64),f,(0:UInt64),(0:UInt64)]:LQ)))then
(Ak ([(2000:UInt64),(Ad (Ae a 32):UInt64),(Ad b:UInt64),f,(0:UInt64),(0:UInt64)]:LQ) h).bind fun _=>
(Ak ([(2000:UInt64),(Ad (Ae a 32):UInt64),(Ad b:UInt64),f,(0:UInt64),(0:UInt64)]:LQ) h).bind fun k=>
(Xm k 4).bind fun(m,o)=>
(Cw g m).bind fun n=>
bk4 (Ae h 1) n
else
j6 g
def Yx(a b:Int)(f:UInt64):Nat→Int→LB→Option (LB)
|0,_,_=>none
|q+1,h,g=>Arx Ayq (Yx a b f q) a b f h g
def Ay0 a b f:=Yx a b f FUEL
def Aza(j4:Int→Int→UInt64→Int→LB→Option (LB))(a b:Int)(f:UInt64):Option (LB):=
j4 a b f 0 ([(65:UInt8),(80:UInt8),(69:UInt8),(84:UInt8),(65:UInt8),(71:UInt8),(69:UInt8),(88:UInt8)]:LB)
def Awl:=Aza Ay0
def Ajg(b:LB)(g:UInt64):Option (Int×Int×Bool):=
(Ap5 b 12 4).bind fun(a,m)=>
(Ap5 b 16 4).bind fun(f,n)=>
if(((Bs a 32)||(Di a 3032))||(Di f 1000))then
some (0,0,false)
else
(Awl (Ah (Ad a:Int) 32) (Ad f:Int) g).bind fun h=>
(Ff b h).bind fun k=>
some ((Ah (Ad a:Int) 32),(Ad f:Int),k)
def Aws(a:LB):Option (Int×Int):=
(Kl a ([(65:UInt8),(80:UInt8),(69:UInt8),(84:UInt8),(65:UInt8),(71:UInt8),(69:UInt8),(88:UInt8)]:LB)).bind fun f=>
if(!f)then
some (0,6)
else
if(Bs (Ac a) 32)then
some (0,24)
else
(Bc a 0 32).bind fun g=>
(Ajg g 2684354560).bind fun(b,h,k)=>
if(!k)then
some (0,12)
else
if(Bs (Ac a) (Ae b 64))then
some (0,24)
else
(Bc a (Ah (Ae b 64) 32) (Ae b 64)).bind fun m=>
(Awl b h 2147483648).bind fun n=>
(Ff m n).bind fun o=>
if(!o)then
some (0,12)
else
some ((Ae b 64),0)
def Vd(a:LB):Option (Int×Int):=
(Aja a).bind fun(f,b)=>
if(Ay b 6)then
some (f,b)
else
(Aws a).bind fun(g,h)=>
some (g,h)
def Rb(b:List UInt8):Nat→Int→Option (Int×Int)
  |0,_=>none
  |q+1,x=>Option.bind (Bc b x (Ac b)) fun s=>Option.bind (Vd s) fun r=>
    if geq r.2 (6:Int)=true then some (x,0)
    else if(geq r.2 (0:Int)&&Di (Ae x r.1) (4000:Int))=true then some (0,4)
    else if Ay r.2 (0:Int)=true then some (0,r.2)
    else Rb b q (Ae x r.1)
def Js(b:List UInt8):Option (Int×Int):=Rb b FUEL 0
def Ag(a:Int):Option (Bool×Int):=
some (false,a)
def Fo(b a:LB):Option Bool:=
if(Il (Ac b) (Ac a))then
(Bc b 0 (Ac a)).bind fun f=>
some (f==a)
else
some false
def Hs(a b:LB):Option Bool:=
(Fo a b).bind fun f=>
some f
def Bd5:Option Bool:=
some false
def As6:=Bd5
def Qx(j6:Option Bool)(bk4:Int→Option Bool)(a:LB)(b:Int):Option Bool:=
if(Bs b 2)then
(Ak ([([73,68,51]:LB),([65,80,69,84,65,71,69,88]:LB)]:List LB) b).bind fun f=>
if(Bs (Ac a) (Ac f))then
(Hs f a).bind fun g=>
if g then
some true
else
bk4 (Ae b 1)
else
bk4 (Ae b 1)
else
j6
def If(a:LB):Nat→Int→Option Bool
|0,_=>none
|q+1,b=>Qx As6 (If a q) a b
def Ahx a:=If a FUEL
def Aho(j4:LB→Int→Option Bool)(a:LB):Option Bool:=
j4 a 0
def Nm:=Aho Ahx
abbrev Nx:=Option (Int×Int×Int×Int×Int×Int)
def Avd(a:LI):Nx:=
(Ak a 0).bind fun _=>
(Ak a 0).bind fun h=>
(Ak a 1).bind fun _=>
(Ak a 1).bind fun k=>
(Ak a 2).bind fun _=>
(Ak a 2).bind fun m=>
(Ak a 3).bind fun _=>
(Ak a 3).bind fun n=>
(Ak a 4).bind fun _=>
(Ak a 4).bind fun o=>
(Nv h k m n o).bind fun p=>
if(!p)then
some (0,0,0,0,0,12)
else
(Afy h k m n o).bind fun u=>
if(!u)then
some (0,0,0,0,0,4)
else
some (h,k,m,n,o,0)
def Ac6:=Avd
def Aa0(j6:LI→Nx)(bk4:Int→Int→LI→Nx)(b:LB)(g f:Int)(a:LI):Nx:=
if(Bs f 5)then
(Ak ([(2:Int),(2:Int),(2:Int),(4:Int),(4:Int)]:LI) f).bind fun h=>
(Ap5 b g h).bind fun(v,ae)=>
(Ak a f).bind fun _=>
(Kw a f (Ad v:Int)).bind fun w=>
bk4 (Ae g h) (Ae f 1) w
else
j6 a
def Ma(b:LB):Nat→Int→Int→LI→Nx
|0,_,_,_=>none
|q+1,g,f,a=>Aa0 Ac6 (Ma b q) b g f a
def Ab3 b:=Ma b FUEL
def Alg(j4:LB→Int→Int→LI→Nx)(b:LB):Nx:=
(Bc b 0 (Ec 4 (Ac b))).bind fun y=>
(Hs ([84,84,65,49]:LB) y).bind fun aa=>
if(!aa)then
some (0,0,0,0,0,12)
else
if(Bs (Ac b) 22)then
some (0,0,0,0,0,24)
else
(Ap5 b 18 4).bind fun(ab,af)=>
(Bc b 0 18).bind fun ac=>
(Vk ac).bind fun(ad,ag)=>
if(Ay (Ad ad:UInt64) ab)then
some (0,0,0,0,0,22)
else
j4 b 4 0 (List.replicate 5 (0:Int))
def Nh:=Alg Ab3
def Acu(a f:LB):Option (Bool×Int):=
(Ac2 f).bind fun(b,g)=>
if((Ay g 0)||(Ay (Ac a) (Ac b)))then
some (false,2)
else
(Ff a b).bind fun h=>
some (h,0)
abbrev Ql:=Option (LI×Int)
def Axk(a:LI):Ql:=
(Nk a).bind fun k=>
if(Ay k 0)then
some (([]:LI),12)
else
some (a,0)
def Ae6:=Axk
def Afe(j6:LI→Ql)(bk4:Int→LI→Ql)(b:LB)(f:LI)(g:Int)(a:LI):Ql:=
if(Bs g (Ac f))then
(Ap5 b (Bk 4 g) 4).bind fun(k,u)=>
(Ak a g).bind fun _=>
(Kw a g (Ad k:Int)).bind fun m=>
bk4 (Ae g 1) m
else
j6 a
def Ri(b:LB)(f:LI):Nat→Int→LI→Ql
|0,_,_=>none
|q+1,g,a=>Afe Ae6 (Ri b f q) b f g a
def Ani b f:=Ri b f FUEL
def An8(j4:LB→LI→Int→LI→Ql)(b:LB)(h:Int):Ql:=
if((Bs h 1)||(Di h 1000))then
some (([]:LI),2)
else
if(Bs (Ac b) (Ae (Bk 4 h) 4))then
some (([]:LI),24)
else
(Ap5 b (Bk 4 h) 4).bind fun(n,v)=>
(Bc b 0 (Bk 4 h)).bind fun o=>
(Vk o).bind fun(p,w)=>
if(Ay (Ad p:UInt64) n)then
some (([]:LI),22)
else
(mkI h (0:Int)).bind fun f=>
(Hx (geq h h)).bind fun _=>
j4 b f 0 f
def Akk:=An8 Ani
def Xk(f a b g h:Int):Option (Int×Int):=
some (a,b)
def Abz(a:LB):Option (LB×Int):=
if(Bs (Ac a) 5)then
some (([]:LB),24)
else
if(Di (Ac a) 41254)then
some (([]:LB),4)
else
(Bc a 0 (Ah (Ac a) 4)).bind fun f=>
(Vk f).bind fun(g,b)=>
if(Ay b 0)then
some (([]:LB),b)
else
(Bc a (Ah (Ac a) 4) (Ac a)).bind fun h=>
(Auy h).bind fun(k,m)=>
if((Ay m 0)||(Ay k (Ad g:UInt64)))then
some (([]:LB),22)
else
(Bc a 0 (Ah (Ac a) 4)).bind fun n=>
some (n,0)
def Blb(a:LB):Option (LB×Int×Int):=
if(Di (Ac a) 41250)then
some (([]:LB),0,4)
else
(Cc a).bind fun b=>
some (b,(Bk 8 (Ac a)),0)
def Boo(g:UInt64):Option UInt64:=
some g
def Bc6:=Boo
def Atz(j6:UInt64→Option UInt64)(bk4:UInt64→Int→Option UInt64)(b f:Int)(h:LB)(k:Int)(g:UInt64)(a:Int):Option UInt64:=
if(Bs a f)then
(Ak h (Bd6 (Ae b a) (GI.toZ (3:UInt64)).toNat)).bind fun m=>
(Hx (Il (Dq (Ae b a) 7) 0)).bind fun _=>
(Hx (Il (Ec (Ah f a) (Ah 8 (Dq (Ae b a) 7))) 0)).bind fun _=>
(Hx (Il a 0)).bind fun _=>
bk4 (gor g (Df (Ad (Dq (Bv m (GI.toZ (Dq (Ae b a) 7)).toNat) (Ah (Df (1:UInt8) (GI.toZ (Ec (Ah f a) (Ah 8 (Dq (Ae b a) 7)))).toNat) 1)):UInt64) (GI.toZ a).toNat)) (Ae a (Ec (Ah f a) (Ah 8 (Dq (Ae b a) 7))))
else
j6 g
def Afm(b f:Int)(h:LB)(k:Int):Nat→UInt64→Int→Option UInt64
|0,_,_=>none
|q+1,g,a=>Atz Bc6 (Afm b f h k q) b f h k g a
def Bdk b f h k:=Afm b f h k FUEL
def Bdd(j4:Int→Int→LB→Int→UInt64→Int→Option UInt64)(h:LB)(k b f:Int):Option UInt64:=
j4 b f h k 0 0
def Bas:=Bdd Bdk
abbrev Ep:=Option (LB×Int×Int)
def Baa(o:Int)(p:LB):Ep:=
some (p,o,0)
def Aqb:=Baa
def Baz(bk27:Int→Int→LB→Ep)(a:Int)(g:LB)(f b h:Int)(u:LB):Ep:=
bk27 (Ae b 64) h u
def Ai6 bk27:=Baz bk27
def Ba7(bk44:UInt64→Int→Int→LB→Ep)(a b:Int)(g:LB)(f:Int)(k n:UInt64)(m h:Int)(w:LB):Ep:=
(Hx (Il (Ec m (Ah 8 (Dq h 7))) 0)).bind fun _=>
bk44 (Bv n (GI.toZ (Ec m (Ah 8 (Dq h 7)))).toNat) (Ah m (Ec m (Ah 8 (Dq h 7)))) (Ae h (Ec m (Ah 8 (Dq h 7)))) w
def Arn bk44:=Ba7 bk44
def Aqn(j48:UInt64→Int→Int→LB→Ep)(a b:Int)(g:LB)(f:Int)(k n:UInt64)(m h:Int)(v:LB):Ep:=
(Ak v (Ah (Ac v) 1)).bind fun _=>
(Hx (Il (Ec m (Ah 8 (Dq h 7))) 0)).bind fun _=>
(Hx (Il (Dq h 7) 0)).bind fun _=>
(Ak v (Ah (Ac v) 1)).bind fun aa=>
(Ak v (Ah (Ac v) 1)).bind fun _=>
Option.bind (Kw v (Ah (Ac v) 1) (gor aa (Df (Ad (Dq n (Ah (Df (1:UInt64) (GI.toZ (Ec m (Ah 8 (Dq h 7)))).toNat) 1)):UInt8) (GI.toZ (Dq h 7)).toNat))) fun w=>
j48 n m h w
def Aiz bk44 a b g f k:=Aqn (Arn bk44 a b g f k) a b g f k
def Ai8(j47:UInt64→Int→Int→LB→Ep)(j50:Int→Int→LB→Ep)(a:Int)(g:LB)(f b:Int)(k n:UInt64)(m h:Int)(u:LB):Ep:=
if(Di m 0)then
if(geq (Dq h 7) 0)then
(Cw u ([(0:UInt8)]:LB)).bind fun ab=>
j47 n m h ab
else
j47 n m h u
else
j50 b h u
def Nf(bk27:Int→Int→LB→Ep)(a:Int)(g:LB)(f b:Int)(k:UInt64):Nat→UInt64→Int→Int→LB→Ep
|0,_,_,_,_=>none
|q+1,n,m,h,u=>Ai8 (Aiz (Nf bk27 a g f b k q) a b g f k) (Ai6 bk27 a g f) a g f b k n m h u
def Aru bk27 a g f b k:=Nf bk27 a g f b k FUEL
def Ari(j44:Int→UInt64→UInt64→Int→Int→LB→Ep)(j52:Int→LB→Ep)(a:Int)(g:LB)(f b o:Int)(p:LB):Ep:=
if(Bs b a)then
(Bas g f b (Ec 64 (Ah a b))).bind fun k=>
j44 b k k (Ec 64 (Ah a b)) o p
else
j52 o p
def Vu(a:Int)(g:LB)(f:Int):Nat→Int→Int→LB→Ep
|0,_,_,_=>none
|q+1,b,o,p=>Ari (Aru (Vu a g f q) a g f) Aqb a g f b o p
def Aqc a g f:=Vu a g f FUEL
def Avt(j27:Int→LB→Int→Int→Int→LB→Ep)(g:LB)(f y a:Int):Ep:=
(Jg g f).bind fun ac=>
if(Ay ac 0)then
some (([]:LB),0,8)
else
if(((Bs y 0)||(Di y a))||(Di a f))then
some (([]:LB),0,2)
else
j27 a g f y 0 ([]:LB)
def Att:=Avt Aqc
def Aau(g:LB)(b f a:Int):Option (UInt64×Int):=
(Jg g b).bind fun h=>
if(Ay h 0)then
some (0,8)
else
if(((Bs a 0)||(Di a 64))||(Bs f 0))then
some (0,2)
else
if(Di f (Ah b a))then
some (0,24)
else
(Bas g b f a).bind fun k=>
some (k,0)
def Ft(a:UInt64):Option Int:=
if(geq a 0)then
some 64
else
(Ak ([(0:UInt8),(1:UInt8),(56:UInt8),(2:UInt8),(57:UInt8),(49:UInt8),(28:UInt8),(3:UInt8),(61:UInt8),(58:UInt8),(42:UInt8),(50:UInt8),(38:UInt8),(29:UInt8),(17:UInt8),(4:UInt8),(62:UInt8),(47:UInt8),(59:UInt8),(36:UInt8),(45:UInt8),(43:UInt8),(51:UInt8),(22:UInt8),(53:UInt8),(39:UInt8),(33:UInt8),(30:UInt8),(24:UInt8),(18:UInt8),(12:UInt8),(5:UInt8),(63:UInt8),(55:UInt8),(48:UInt8),(27:UInt8),(60:UInt8),(41:UInt8),(37:UInt8),(16:UInt8),(46:UInt8),(35:UInt8),(44:UInt8),(21:UInt8),(52:UInt8),(32:UInt8),(23:UInt8),(11:UInt8),(54:UInt8),(26:UInt8),(40:UInt8),(15:UInt8),(34:UInt8),(20:UInt8),(31:UInt8),(10:UInt8),(25:UInt8),(14:UInt8),(19:UInt8),(9:UInt8),(13:UInt8),(8:UInt8),(7:UInt8),(6:UInt8)]:LB) (GI.toZ (Bv (Bk (Dq a (Azu a)) 285870213051353865) (GI.toZ (58:UInt64)).toNat))).bind fun b=>
some (Ad b:Int)
abbrev Hp:=Option (Int×Int×Int)
def Bgh:Hp:=
some (0,0,24)
def Avm:=Bgh
def Aw8(j10:Hp):Hp:=
j10
def Ax6:=Aw8 Avm
def Anf(j9:Hp)(f a:Int):Hp:=
if(geq f 48)then
some (f,(Ae 0 (Ae a f)),0)
else
j9
def Ann:=Anf Ax6
def Anm(j8:Int→Int→Hp)(f b a:Int):Hp:=
if(Bs f (Ec 48 (Ah b a)))then
some (f,(Ae (Ae (0:Int) (1:Int)) (Ae a f)),0)
else
j8 f a
def An7:=Anm Ann
def An4(j7:Int→Int→Int→Hp)(h:Int)(k:UInt64)(a:Int)(g:LB)(b:Int):Hp:=
if(Ay h 0)then
some (0,0,h)
else
(Ft (Be3 k)).bind fun f=>
j7 f b a
def An0:=An4 An7
def Xe(j6:Int→UInt64→Int→LB→Int→Hp)(g:LB)(b a:Int):Hp:=
(Jg g b).bind fun m=>
if(Ay m 0)then
some (0,0,m)
else
if(Bs a 0)then
some (0,0,2)
else
if(Il a b)then
some (0,0,24)
else
(
(
(Aau g b a (Ec 48 (Ah b a))).bind fun(k,h)=>
j6 h k a g b))
def Ad9:=Xe An0
abbrev Avc:=Option (UInt32×Int×Int)
def Aqe(a b f:Int)(g:LB)(h k:Int):Avc:=
(Aau g h b k).bind fun(m,n)=>
if(Ay n 0)then
some (0,0,n)
else
if(Bs f 48)then
(Hx (Il a 0)).bind fun _=>
some ((gor (Df (Ad f:UInt32) (GI.toZ a).toNat) (Ad m:UInt32)),(Ae b k),0)
else
(Ajb (Ad m:UInt32) a).bind fun u=>
if(!u)then
some (0,0,12)
else
some ((Ad m:UInt32),(Ae b k),0)
def Ai4:=Aqe
def Aq8(j2:Int→Int→Int→LB→Int→Int→Avc)(g:LB)(h v a:Int):Avc:=
(Jg g h).bind fun o=>
if(Ay o 0)then
some (0,0,o)
else
if((Bs a 0)||(Di a 24))then
some (0,0,2)
else
(Ad9 g h v).bind fun(f,b,p)=>
if(Ay p 0)then
some (0,0,p)
else
if(geq f 48)then
j2 a b f g h 32
else
j2 a b f g h a
def Awq:=Aq8 Ai4
abbrev Jp:=Option (UInt32×Int×Int×Int×UInt64×UInt64×Int)
def Axs(f:UInt32)(k w m:Int)(a n:UInt64):Jp:=
some (f,k,w,m,(Ae a (Ah (Ad f:UInt64) (Bv a (GI.toZ (4:UInt64)).toNat))),n,0)
def Ano:=Axs
def Aqw(j10:UInt32→Int→Int→Int→UInt64→UInt64→Jp)(f:UInt32)(k m:Int)(a n:UInt64)(w:Int):Jp:=
j10 f k w m a n
def Ar3:=Aqw Ano
def Aqs(j9:UInt32→Int→Int→UInt64→UInt64→Int→Jp)(f:UInt32)(k b:Int)(a:UInt64)(m:Int)(n:UInt64):Jp:=
if(Di b 0)then
(Hx (Il b 0)).bind fun _=>
if(Bs (Ae a (Ah (Ad f:UInt64) (Bv a (GI.toZ (4:UInt64)).toNat))) (Df (16:UInt64) (GI.toZ b).toNat))then
j9 f k m a n (Ah b 1)
else
if(Bs b 24)then
(Hx (Il b 0)).bind fun _=>
if(Di (Ae a (Ah (Ad f:UInt64) (Bv a (GI.toZ (4:UInt64)).toNat))) (Df (32:UInt64) (GI.toZ b).toNat))then
j9 f k m a n (Ae b 1)
else
j9 f k m a n b
else
j9 f k m a n b
else
if(Bs b 24)then
(Hx (Il b 0)).bind fun _=>
if(Di (Ae a (Ah (Ad f:UInt64) (Bv a (GI.toZ (4:UInt64)).toNat))) (Df (32:UInt64) (GI.toZ b).toNat))then
j9 f k m a n (Ae b 1)
else
j9 f k m a n b
else
j9 f k m a n b
def Acp:=Aqs Ar3
def Ara(j8:UInt32→Int→Int→UInt64→Int→UInt64→Jp)(b h:Int)(a g:UInt64)(f:UInt32)(k:Int):Jp:=
(Aeu b h a g f).bind fun(ad,o)=>
if(geq ad 1)then
if(Di h 0)then
(Hx (Il h 0)).bind fun _=>
if(Bs (Ae g (Ah (Ad o:UInt64) (Bv g (GI.toZ (4:UInt64)).toNat))) (Df (16:UInt64) (GI.toZ h).toNat))then
j8 f k b a (Ah h 1) (Ae g (Ah (Ad o:UInt64) (Bv g (GI.toZ (4:UInt64)).toNat)))
else
if(Bs h 24)then
(Hx (Il h 0)).bind fun _=>
if(Di (Ae g (Ah (Ad o:UInt64) (Bv g (GI.toZ (4:UInt64)).toNat))) (Df (32:UInt64) (GI.toZ h).toNat))then
j8 f k b a (Ae h 1) (Ae g (Ah (Ad o:UInt64) (Bv g (GI.toZ (4:UInt64)).toNat)))
else
j8 f k b a h (Ae g (Ah (Ad o:UInt64) (Bv g (GI.toZ (4:UInt64)).toNat)))
else
j8 f k b a h (Ae g (Ah (Ad o:UInt64) (Bv g (GI.toZ (4:UInt64)).toNat)))
else
if(Bs h 24)then
(Hx (Il h 0)).bind fun _=>
if(Di (Ae g (Ah (Ad o:UInt64) (Bv g (GI.toZ (4:UInt64)).toNat))) (Df (32:UInt64) (GI.toZ h).toNat))then
j8 f k b a (Ae h 1) (Ae g (Ah (Ad o:UInt64) (Bv g (GI.toZ (4:UInt64)).toNat)))
else
j8 f k b a h (Ae g (Ah (Ad o:UInt64) (Bv g (GI.toZ (4:UInt64)).toNat)))
else
j8 f k b a h (Ae g (Ah (Ad o:UInt64) (Bv g (GI.toZ (4:UInt64)).toNat)))
else
j8 f k b a h g
def Ajc:=Ara Acp
def Arm(j7:Int→Int→UInt64→UInt64→UInt32→Int→Jp)(p:Int)(u:LB)(v b h:Int)(a g:UInt64):Jp:=
(Aau u v p 1).bind fun(ae,aa)=>
if(Ay aa 0)then
some (0,0,0,0,0,0,aa)
else
if(geq ae 0)then
(Aau u v (Ae p 1) b).bind fun(af,ab)=>
if(Ay ab 0)then
some (0,0,0,0,0,0,ab)
else
j7 b h a g (Ad af:UInt32) (Ae (Ae p 1) b)
else
(Awq u v (Ae p 1) h).bind fun(y,ag,ac)=>
if(Ay ac 0)then
some (0,0,0,0,0,0,ac)
else
(Hx (Il b 0)).bind fun _=>
if(Bs (Ae y (Df (1:UInt32) (GI.toZ b).toNat)) y)then
some (0,0,0,0,0,0,12)
else
j7 b h a g (Ae y (Df (1:UInt32) (GI.toZ b).toNat)) ag
def Ard:=Arm Ajc
def Arp(j6:Int→LB→Int→Int→Int→UInt64→UInt64→Jp)(u:LB)(v p b h:Int)(a g:UInt64):Jp:=
(Jg u v).bind fun ah=>
if(Ay ah 0)then
some (0,0,0,0,0,0,8)
else
(Aj7 b h a g).bind fun ai=>
if(Ay ai 0)then
some (0,0,0,0,0,0,8)
else
j6 p u v b h a g
def Ae2:=Arp Ard
abbrev Bm:=Option (LU×Int×Int)
def Ays(k:Int)(m:LU):Bm:=
some (m,k,0)
def Alb:=Ays
def Aka(bk16:Int→Int→(List (Int×Int×UInt64×UInt64×Unit))→LU→Bm)(a f:Int)(g:LB)(b k v:Int)(w:UInt32)(h:Int)(ag:List (Int×Int×UInt64×UInt64×Unit))(m:LU):Bm:=
(Cw m ([w]:LU)).bind fun ak=>
bk16 (Ae k v) (Ae h 1) ag ak
def Yt bk16:=Aka bk16
def Qk(j22:Int→Int→UInt32→Int→(List (Int×Int×UInt64×UInt64×Unit))→LU→Bm)(a f:Int)(g:LB)(b k h y:Int)(w:UInt32)(v:Int)(n:List (Int×Int×UInt64×UInt64×Unit))(m:LU)(aa ab:Int)(ac ad:UInt64):Bm:=
if(Ay y 0)then
some (([]:LU),0,y)
else
(Hx (Ay a 0)).bind fun _=>
(Ak n (Fz h a)).bind fun _=>
(Kw n (Fz h a) (aa,ab,ac,ad,())).bind fun ag=>
j22 k v w h ag m
def Py bk16 a f g b:=Qk (Yt bk16 a f g b) a f g b
def Qu(j21:Int→Int→Int→UInt32→Int→(List (Int×Int×UInt64×UInt64×Unit))→LU→Int→Int→UInt64→UInt64→Bm)(j24:Int→LU→Bm)(a f:Int)(g:LB)(b k h:Int)(n:List (Int×Int×UInt64×UInt64×Unit))(m:LU):Bm:=
if(Bs h (Bk f a))then
(Att g b k (Ec (Ae k 81) b)).bind fun(ah,ae,af)=>
if(Ay af 0)then
some (([]:LU),0,af)
else
(Hx (Ay a 0)).bind fun _=>
(Ak n (Fz h a)).bind fun _=>
(
(
(Ak n (Fz h a)).bind fun p=>
(
(Ae2 ah ae 0 p.1 p.2.1 p.2.2.1 p.2.2.2.1).bind fun(w,v,aa,ab,ac,ad,y)=>
j21 k h y w v n m aa ab ac ad)))
else
j24 k m
def Lk(a f:Int)(g:LB)(b:Int):Nat→Int→Int→(List (Int×Int×UInt64×UInt64×Unit))→LU→Bm
|0,_,_,_,_=>none
|q+1,k,h,n,m=>Qu (Py (Lk a f g b q) a f g b) Alb a f g b k h n m
def Ajy a f g b:=Lk a f g b FUEL
def Akx(j16:Int→Int→LB→Int→Int→Int→(List (Int×Int×UInt64×UInt64×Unit))→LU→Bm)(a f:Int)(g:LB)(b:Int)(o:List (Int×Int×UInt64×UInt64×Unit)):Bm:=
j16 a f g b 0 0 o ([]:LU)
def Yj:=Akx Ajy
def Alv(j15:Int→Int→LB→Int→(List (Int×Int×UInt64×UInt64×Unit))→Bm)(bk13:Int→(List (Int×Int×UInt64×UInt64×Unit))→Bm)(a f:Int)(g:LB)(b u:Int)(o:List (Int×Int×UInt64×UInt64×Unit)):Bm:=
if(Bs u 6)then
(Ay7).bind fun(al,ae,af,am)=>
(Ak o u).bind fun _=>
(Kw o u (al,ae,af,am,())).bind fun an=>
bk13 (Ae u 1) an
else
j15 a f g b o
def Yq(a f:Int)(g:LB)(b:Int):Nat→Int→(List (Int×Int×UInt64×UInt64×Unit))→Bm
|0,_,_=>none
|q+1,u,o=>Alv Yj (Yq a f g b q) a f g b u o
def Qe a f g b:=Yq a f g b FUEL
def Aar(j13:Int→Int→LB→Int→Int→(List (Int×Int×UInt64×UInt64×Unit))→Bm)(a f:Int)(g:LB)(b:Int):Bm:=
j13 a f g b 0 (List.replicate 6 ((0:Int),(0:Int),(0:UInt64),(0:UInt64),()))
def Acn:=Aar Qe
def Vn(a:UInt32):Option Int32:=
some (Wm (Ad (Bv a (GI.toZ (1:UInt64)).toNat):Int32) (Azu (Ad (Dq a 1):Int32)))
def Au1(b:Int)(f g:LX)(a:Int32):Option (Int32×Int×LX×LX×Int):=
(Alh b f g).bind fun(h,k)=>
if(Ay k 0)then
some (0,0,(List.replicate 16 (0:Int32)),(List.replicate 16 (0:Int32)),k)
else
(Aq2 b f g (Ae a h) a).bind fun(m,n,o)=>
some ((Ae a h),m,n,o,0)
def Kh(a:Int)(b:Int32)(f:Int)(g h:LX)(o:Int32):Option (Int32×Int×Int32×Int×LX×LX×Int):=
(Tz a b f g h).bind fun k=>
if(Ay k 0)then
some (0,0,0,0,(List.replicate 16 (0:Int32)),(List.replicate 16 (0:Int32)),k)
else
(Uz a b).bind fun(m,y)=>
(Au1 f g h o).bind fun(n,p,u,v,w)=>
(
some ((Ae n m),a,(Ae n m),p,u,v,w))
abbrev Fx:=Option (LX×Int)
def Blv(f:LX):Fx:=
some (f,0)
def Az7:=Blv
def Azk(bk12:Int→LX→Fx)(b a:Int)(h:LX):Fx:=
bk12 (Ae a b) h
def Are bk12:=Azk bk12
def Ai7(j20:Int→LX→Fx)(bk18:Int→LX→Fx)(b a g:Int)(h:LX):Fx:=
if(Il g 0)then
(Hx (decide (0≤(Ae g 1)∧(Ae g 1)<((Ae a b)-a)))).bind fun _=>
(Hx (decide (0≤g∧g<((Ae a b)-a)))).bind fun _=>
(Ak h (a+(Ae g 1))).bind fun o=>
(Ak h (a+g)).bind fun p=>
(Hx (decide (0≤g∧g<((Ae a b)-a)))).bind fun _=>
(Kw h (a+g) (Ah o p)).bind fun u=>
bk18 (Ah g 1) u
else
j20 a h
def Vj(bk12:Int→LX→Fx)(b a:Int):Nat→Int→LX→Fx
|0,_,_=>none
|q+1,g,h=>Ai7 (Are bk12 b) (Vj bk12 b a q) b a g h
def Ark bk12 b a:=Vj bk12 b a FUEL
def Aqd(j18:Int→Int→LX→Fx)(b a:Int)(k:LX):Fx:=
j18 a (Ah (Ah ((Ae a b)-a) 1) 1) k
def Ai0 bk12 b:=Aqd (Ark bk12 b) b
def Arv(j17:Int→LX→Fx)(j22:LX→Fx)(b a:Int)(f:LX):Fx:=
if(Bs a (Ac f))then
(vwI (Ac f) a (Ae a b)).bind fun _=>
if(Di (Ah ((Ae a b)-a) 1) 0)then
(Hx (decide (0≤(Ah ((Ae a b)-a) 1)∧(Ah ((Ae a b)-a) 1)<((Ae a b)-a)))).bind fun _=>
Option.bind (Hx (decide (0≤(Ah (Ah ((Ae a b)-a) 1) 1)∧(Ah (Ah ((Ae a b)-a) 1) 1)<((Ae a b)-a)))) fun _=>
(Ak f (a+(Ah ((Ae a b)-a) 1))).bind fun v=>
(Ak f (a+(Ah (Ah ((Ae a b)-a) 1) 1))).bind fun w=>
(Hx (decide (0≤(Ah ((Ae a b)-a) 1)∧(Ah ((Ae a b)-a) 1)<((Ae a b)-a)))).bind fun _=>
(Kw f (a+(Ah ((Ae a b)-a) 1)) (Ae v (Bw w 2))).bind fun y=>
j17 a y
else
j17 a f
else
j22 f
def Qt(b:Int):Nat→Int→LX→Fx
|0,_,_=>none
|q+1,a,f=>Arv (Ai0 (Qt b q) b) Az7 b a f
def Aq7 b:=Qt b FUEL
def Avn(j12:Int→Int→LX→Fx)(b:Int)(m:LX):Fx:=
(Ap4 b m).bind fun n=>
if(Ay n 0)then
some (([]:LX),n)
else
(Dj m).bind fun aa=>
j12 b 0 aa
def Aze:=Avn Aq7
abbrev Bt:=Option (LX×Int)
def Aiw(a b:Int)(k:LX):Bt:=
(Aze a k).bind fun(ah,af)=>
if(Ay af 0)then
some (([]:LX),af)
else
(Ub b ah).bind fun ae=>
if(Ay ae 0)then
some (([]:LX),ae)
else
some (ah,0)
def Kr:=Aiw
def Aie(bk13:Int→(List (Int×Int32×(Int×LX×LX×Unit)×Unit))→LX→Bt)(a:Int)(f:LU)(b g:Int)(w:Int32)(u:Int)(h:List (Int×Int32×(Int×LX×LX×Unit)×Unit))(k:LX)(y:Int)(v:Int32)(aa:Int)(ab ac:LX):Bt:=
if(Ay u 0)then
some (([]:LX),u)
else
(Kw h (Fz g a) (y,v,(aa,ab,ac,()),())).bind fun ai=>
(Cw k ([w]:LX)).bind fun aj=>
bk13 (Ae g 1) ai aj
def Wx bk13:=Aie bk13
def Kq(j16:Int→Int32→Int→(List (Int×Int32×(Int×LX×LX×Unit)×Unit))→LX→Int→Int32→Int→LX→LX→Bt)(j18:Int→Int→LX→Bt)(f:LU)(a b g:Int)(h:List (Int×Int32×(Int×LX×LX×Unit)×Unit))(k:LX):Bt:=
if(Bs g (Ac f))then
(Ak f g).bind fun ag=>
(Hx (Ay a 0)).bind fun _=>
(Ak h (Fz g a)).bind fun _=>
(
(Ak h (Fz g a)).bind fun m=>
(
(Vn ag).bind fun ae=>
(
(Kh m.1 m.2.1 m.2.2.1.1 m.2.2.1.2.1 m.2.2.1.2.2.1 ae).bind fun(w,y,v,aa,ab,ac,u)=>
j16 g w u h k y v aa ab ac)))
else
j18 a b k
def Hy(f:LU)(a b:Int):Nat→Int→(List (Int×Int32×(Int×LX×LX×Unit)×Unit))→LX→Bt
|0,_,_,_=>none
|q+1,g,h,k=>Kq (Wx (Hy f a b q) a f b) Kr f a b g h k
def Ah4 f a b:=Hy f a b FUEL
def Ais(j13:LU→Int→Int→Int→(List (Int×Int32×(Int×LX×LX×Unit)×Unit))→LX→Bt)(f:LU)(a b:Int)(n:List (Int×Int32×(Int×LX×LX×Unit)×Unit)):Bt:=
j13 f a b 0 n ([]:LX)
def Wy:=Ais Ah4
def Ah5(j12:LU→Int→Int→(List (Int×Int32×(Int×LX×LX×Unit)×Unit))→Bt)(bk10:Int→(List (Int×Int32×(Int×LX×LX×Unit)×Unit))→Bt)(f:LU)(a b:Int)(o:LX)(p:Int)(n:List (Int×Int32×(Int×LX×LX×Unit)×Unit)):Bt:=
if(Bs p 6)then
(Bcb b o).bind fun(ak,af,ae,al,am,v)=>
(Ak n p).bind fun _=>
(Kw n p (ak,af,(ae,al,am,()),())).bind fun an=>
bk10 (Ae p 1) an
else
j12 f a b n
def Wp(f:LU)(a b:Int)(o:LX):Nat→Int→(List (Int×Int32×(Int×LX×LX×Unit)×Unit))→Bt
|0,_,_=>none
|q+1,p,n=>Ah5 Wy (Wp f a b o q) f a b o p n
def Oi f a b o:=Wp f a b o FUEL
def Yv(j10:LU→Int→Int→LX→Int→(List (Int×Int32×(Int×LX×LX×Unit)×Unit))→Bt)(a b:Int)(o:LX)(f:LU):Bt:=
j10 f a b o 0 (List.replicate 6 ((0:Int),(0:Int32),((0:Int),(List.replicate 16 (0:Int32)),(List.replicate 16 (0:Int32)),()),()))
def Ra:=Yv Oi
def Uh(a h:Int)(u:LX)(f:Int)(v:LB):Option (LX×Int):=
(Rc a h).bind fun k=>
if(Ay k 0)then
some (([]:LX),k)
else
if(Bs f 1)then
some (([]:LX),2)
else
(Hx (Ay a 0)).bind fun _=>
if(Di f (Bw 4000 a))then
some (([]:LX),2)
else
(Abz v).bind fun(w,m)=>
if(Ay m 0)then
some (([]:LX),m)
else
(Blb w).bind fun(n,b,o)=>
if(Ay o 0)then
some (([]:LX),o)
else
(Acn a f n b).bind fun(y,g,p)=>
if(Ay p 0)then
some (([]:LX),p)
else
if(Il (Ah b g) 8)then
some (([]:LX),12)
else
(Aau n b g (Ah b g)).bind fun(aa,ab)=>
if((Ay ab 0)||(Ay aa 0))then
some (([]:LX),12)
else
(Ra a h u y).bind fun(ac,ad)=>
some (ac,ad)
abbrev Cz:=Option (LB×Int)
def Bd1(g:LB):Cz:=
some (g,0)
def As1:=Bd1
def Asz(bk16:Int→LB→Cz)(b:Int)(a:LX)(f:Int)(h:LB):Cz:=
bk16 (Ae f 1) h
def Ahg bk16:=Asz bk16
def Xw(j28:Int→LB→Cz)(bk26:Int→LB→Cz)(b:Int)(a:LX)(k:Int32)(f m:Int)(h:LB):Cz:=
if(Bs m (Bw b 8))then
(Hx (Il (Bk 8 m) 0)).bind fun _=>
(Cw h ([(Ad (Bv k (GI.toZ (Bk 8 m)).toNat):UInt8)]:LB)).bind fun p=>
bk26 (Ae m 1) p
else
j28 f h
def Ic(bk16:Int→LB→Cz)(b:Int)(a:LX)(k:Int32)(f:Int):Nat→Int→LB→Cz
|0,_,_=>none
|q+1,m,h=>Xw (Ahg bk16 b a) (Ic bk16 b a k f q) b a k f m h
def Aha bk16 b a k f:=Ic bk16 b a k f FUEL
def Ahn(j26:Int32→Int→Int→LB→Cz)(b:Int)(a:LX)(f:Int)(g:LB)(k:Int32):Cz:=
j26 k f 0 g
def Ke bk16 b a:=Ahn (Aha bk16 b a) b a
def Xy(j25:Int→LB→Int32→Cz)(j30:LB→Cz)(b:Int)(a:LX)(f:Int)(g:LB):Cz:=
if(Bs f (Ac a))then
(Ak a f).bind fun n=>
if(geq b 8)then
j25 f g (Ae n 128)
else
j25 f g n
else
j30 g
def Fl(b:Int)(a:LX):Nat→Int→LB→Cz
|0,_,_=>none
|q+1,f,g=>Xy (Ke (Fl b a q) b a) As1 b a f g
def Ar4 b a:=Fl b a FUEL
def Aj5(j16:Int→LX→Int→LB→Cz)(b:Int)(a:LX):Cz:=
(Ub b a).bind fun o=>
if(Ay o 0)then
some (([]:LB),o)
else
j16 b a 0 ([]:LB)
def Ut:=Aj5 Ar4
def Xb:Option Int:=
some (-1:Int)
def Ld:=Xb
def Dr(j6:Option Int)(bk4:Int→Option Int)(a:LI)(b f:Int):Option Int:=
if(Bs f (Ac a))then
(Ak a f).bind fun g=>
if(geq b g)then
some f
else
bk4 (Ae f 1)
else
j6
def Bi(a:LI)(b:Int):Nat→Int→Option Int
|0,_=>none
|q+1,f=>Dr Ld (Bi a b q) a b f
def Gh a b:=Bi a b FUEL
def Gj(j4:LI→Int→Int→Option Int)(a:LI)(b:Int):Option Int:=
j4 a b 0
def Hq:=Gj Gh
def Gi(a:LI)(b:Int):Option Bool:=
(Hq a b).bind fun f=>
some (Il f 0)
def Nw(a:Int):Option Bool:=
(Gi ([(4:Int),(12:Int),(16:Int),(22:Int),(24:Int),(26:Int),(38:Int)]:LI) a).bind fun b=>
some b
def Al3(bi:Bool):Option Int:=
if(!bi)then
some 8
else
some 0
def Bb:=Al3
def Ab0(j22:Bool→Option Int):Option Int:=
j22 ((true==true)&&((geq (0:Int) (0:Int))&&true))
def Ta:=Ab0 Bb
def Abs(j22:Bool→Option Int)(bj:Bool)(bk:Int):Option Int:=
j22 ((bj==true)&&((geq bk 0)&&true))
def Ds:=Abs Bb
def Acs(j13:Bool→Int→Option Int)(g ak:LB)(ae af aa ag ab b:Int)(m:Bool)(n:Int)(f:LI)(h:LB):Option Int:=
(Lm ae af aa ag ab g).bind fun dm=>
(Ag dm).bind fun(dn,am)=>
j13 dn am
def To:=Acs Ds
def Abf(j22:Bool→Option Int)(bl:Bool)(bm:Int):Option Int:=
j22 ((bl==true)&&((geq bm 0)&&true))
def Hl:=Abf Bb
def Aap(j25:Bool→Int→Option Int)(g a:LB)(k p o u v b:Int)(m:Bool)(n:Int)(f:LI)(h:LB)(bg:Int):Option Int:=
(Dk k p o u v).bind fun(dp,bh)=>
if(Ay bh 0)then
(Ag bh).bind fun(an,bn)=>
j25 an bn
else
(Bc a bg (Ac a)).bind fun dq=>
(Akk dq (Ac dp)).bind fun(dr,aa)=>
if(geq aa 24)then
j25 true 0
else
if(Ay aa 0)then
(Ag aa).bind fun(ds,ab)=>
j25 ds ab
else
(Bc a (Ae (Ae bg (Bk 4 (Ac dr))) 4) (Ac a)).bind fun fc=>
j25 false 0
def Hj:=Aap Hl
def Acw(j25:Bool→Int→Option Int)(j24:LB→LB→Int→Int→Int→Int→Int→Int→Bool→Int→LI→LB→Int→Option Int)(bd:Bool)(bc:Int)(g a:LB)(k p o u v b:Int)(m:Bool)(n:Int)(f:LI)(h:LB):Option Int:=
if(Ay bc 0)then
(Ag bc).bind fun(dt,bh)=>
j25 dt bh
else
if(!bd)then
(Ag 26).bind fun(an,bn)=>
j25 an bn
else
j24 g a k p o u v b m n f h 8
def Abo:=Acw Hl Hj
def Abp(j15:Bool→Int→LB→LB→Int→Int→Int→Int→Int→Int→Bool→Int→LI→LB→Option Int)(g a:LB)(k p o u v b:Int)(m:Bool)(n:Int)(f:LI)(h:LB):Option Int:=
(Bc a 0 8).bind fun du=>
(Acu du g).bind fun(bd,bc)=>
j15 bd bc g a k p o u v b m n f h
def Tn:=Abp Abo
def Acf(j22:Bool→Option Int)(bp:Bool)(bq:Int):Option Int:=
j22 ((bp==true)&&((geq bq 0)&&true))
def Gb:=Acf Bb
def Sf(j28:Bool→Int→Option Int)(w ah:Int)(g a:LB)(k p o u v b:Int)(m:Bool)(n:Int)(ao:LX)(f:LI)(h:LB):Option Int:=
if(Ay ah 0)then
(Ag ah).bind fun(br,bs)=>
j28 br bs
else
(Ut o ao).bind fun(bt,be)=>
if(Ay be 0)then
(Ag be).bind fun(bu,bv)=>
j28 bu bv
else
(Cw h bt).bind fun dv=>
(
(Bc a w (Ac a)).bind fun dw=>
j28 false 0)
def Acr:=Sf Gb
def Abj(j27:Int→Int→LB→LB→Int→Int→Int→Int→Int→Int→Bool→Int→LX→LI→LB→Option Int)(w:Int)(g a:LB)(k p o u v b:Int)(m:Bool)(n:Int)(ap:LX)(ad f:LI)(h:LB):Option Int:=
(Ak ad b).bind fun _=>
(Bc a 0 w).bind fun dx=>
(Ak ad b).bind fun dy=>
(Xk k p o u v).bind fun(dz,bf)=>
(Uh dz bf ap dy dx).bind fun(ao,ah)=>
j27 w ah g a k p o u v b m n ao f h
def Tc:=Abj Acr
def Vi(j13:Bool→Int→Option Int)(j12:LB→LB→Int→Int→Int→Int→Int→Int→Bool→Int→LI→LB→Option Int)(j25:Bool→Int→Option Int)(j23:LB→LB→Int→Int→Int→Int→Int→Int→Bool→Int→LI→LB→Option Int)(j24:LB→LB→Int→Int→Int→Int→Int→Int→Bool→Int→LI→LB→Int→Option Int)(j28:Bool→Int→Option Int)(j26:Int→LB→LB→Int→Int→Int→Int→Int→Int→Bool→Int→LX→LI→LI→LB→Option Int)(j22:Bool→Option Int)(j21:Option Int)(aq ar:LB)(au av aw ax ay:Int)(az:LI)(ai:Int)(aj:LB)(ac:Bool)(y:Int):Option Int:=
if(Di (Ac aq) 64)then
some 8
else
if((geq y 0)&&(!ac))then
(De aq ar au av aw ax ay az ai aj ac y).bind fun(g,a,k,p,o,u,v,f,b,h,m,n)=>
(Vr aq ar au av aw ax ay az ai aj ac y).bind fun bw=>
if bw then
if(geq k 0)then
(Js a).bind fun(al,ba)=>
if(geq ba 24)then
j13 true 0
else
if(Ay ba 0)then
(Ag ba).bind fun(bx,bz)=>
j13 bx bz
else
(Bc a al (Ac a)).bind fun da=>
(Nm da).bind fun an=>
if an then
j13 true 0
else
(Bc a al (Ac a)).bind fun db=>
(Nh db).bind fun(ae,af,aa,ag,ab,bb)=>
if(geq bb 24)then
j13 true 0
else
if(Ay bb 0)then
(Ag bb).bind fun(dc,dd)=>
j13 dc dd
else
(
(Bc a (Ae al 22) (Ac a)).bind fun ak=>
(
j12 g ak ae af aa ag ab b m n f h))
else
if(geq (Ac f) 0)then
if(geq k 2)then
if(Bs (Ac a) 8)then
j25 true 0
else
j23 g a k p o u v b m n f h
else
j24 g a k p o u v b m n f h 0
else
if(Bs b (Ac f))then
(Ak f b).bind fun _=>
(Ak f b).bind fun w=>
if(Bs (Ac a) w)then
j28 true 0
else
(Rg g).bind fun(ap,am)=>
if(Ay am 0)then
(Ag am).bind fun(de,df)=>
j28 de df
else
(Dk k p o u v).bind fun(ad,dg)=>
if((Ay dg 0)||(Il b (Ac ad)))then
(Ag 8).bind fun(dh,di)=>
j28 dh di
else
j26 w g a k p o u v b m n ap ad f h
else
if(Di (Ac a) 4000)then
(Ag 38).bind fun(dj,bf)=>
j22 ((dj==true)&&((geq bf 0)&&true))
else
j21
else
j22 false
else
if((geq (Ac ar) 0)&&(geq (Ac az) 0))then
if((((geq au 0)&&((geq av 0)&&((geq aw 0)&&((geq ax 0)&&((geq ay 0)&&true)))))&&(geq ai 0))&&(gle (Ac aj) 12000))then
if(geq y 0)then
j22 true
else
if(!ac)then
(Nw y).bind fun dk=>
j22 dk
else
j22 false
else
j22 false
else
if((false&&(geq ai 0))&&(gle (Ac aj) 12000))then
if(geq y 0)then
j22 true
else
if(!ac)then
(Nw y).bind fun dl=>
j22 dl
else
j22 false
else
j22 false
def Od:=Vi Ds To Hl Tn Hj Gb Tc Bb Ta
def Np(f g:LB)(h k m n o:Int)(p:LI)(u:Int)(v:LB)(b:Bool)(a:Int):Option (LB×LB×Int×Int×Int×Int×Int×LI×Int×LB×Bool×Int×Int):=
(Od f g h k m n o p u v b a).bind fun w=>
if(Ay w 0)then
some (([]:LB),([]:LB),0,0,0,0,0,([]:LI),0,([]:LB),false,0,w)
else
if(Ay a 0)then
(
(
(De f g h k m n o p u v b a).bind fun(y,aa,ab,ac,ad,ae,af,ag,ah,ai,aj,ak)=>
(
some (y,aa,ab,ac,ad,ae,af,ag,ah,ai,aj,ak,a))))
else
if b then
(De f g h k m n o p u v b a).bind fun(al,am,an,ao,ap,aq,ar,au,av,aw,ax,ay)=>
some (al,am,an,ao,ap,aq,ar,au,av,aw,ax,ay,36)
else
(De f g h k m n o p u v b a).bind fun(az,ba,bb,bc,bd,be,bf,bg,bh,bi,bj,bk)=>
some (az,ba,bb,bc,bd,be,bf,bg,bh,bi,bj,bk,0)
def Aqi(b g:LB)(h k m n o:Int)(p:LI)(u:Int)(f:LB)(v:Bool)(w a:Int):Option (LB×LB×Int×Int×Int×Int×Int×LI×Int×LB×Bool×Int×Int):=
some (b,([]:LB),0,0,0,0,0,([]:LI),0,f,false,a,a)
abbrev pushdec_Feed_O:=Option (LB×LB×Int×Int×Int×Int×Int×LI×Int×LB×Bool×Int×Int)
def Ad6(bk37:LB→Int→Int→Int→Int→Int→Int→LI→LB→pushdec_Feed_O)(a:LB)(b:Bool)(f:Int)(ar:LB)(au av aw ax ay az:Int)(bh:Bool)(be:Int)(ba:LI)(bb:LB):pushdec_Feed_O:=
if bh then
(De a ar au av aw ax ay ba az bb b f).bind fun(fh,fi,fj,bc,bi,ai,fk,fl,fm,fn,fo,aj)=>
some (fh,fi,fj,bc,bi,ai,fk,fl,fm,fn,fo,aj,0)
else
if(Ay be 0)then
(Aqi a ar au av aw ax ay ba az bb b f be).bind fun(fp,fq,fs,ft,fu,fv,fw,fx,fy,fz,ga,gb,gc)=>
some (fp,fq,fs,ft,fu,fv,fw,fx,fy,fz,ga,gb,gc)
else
bk37 ar au av aw ax ay az ba bb
def Bu bk37:=Ad6 bk37
def Aof(j71:LB→Int→Int→Int→Int→Int→Int→Bool→Int→LI→LB→pushdec_Feed_O)(a:LB)(b:Bool)(f:Int)(g:LB)(m p o u v h:Int)(k:LI)(n:LB):pushdec_Feed_O:=
j71 g m p o u v h true 0 k n
def Vt bk37 a b f:=Aof (Bu bk37 a b f) a b f
def Aos(j71:LB→Int→Int→Int→Int→Int→Int→Bool→Int→LI→LB→pushdec_Feed_O)(a:LB)(b:Bool)(f h:Int)(k:LI)(n:LB)(bj:Bool)(bk:Int)(bl:LB)(bm bn bp bq br:Int):pushdec_Feed_O:=
j71 bl bm bn bp bq br h bj bk k n
def Lf bk37 a b f:=Aos (Bu bk37 a b f) a b f
def Aej(j62:Int→LI→LB→Bool→Int→LB→Int→Int→Int→Int→Int→pushdec_Feed_O)(a:LB)(b:Bool)(f:Int)(af:LB)(ab ac y ad aa h:Int)(k:LI)(n:LB):pushdec_Feed_O:=
(Lm ab ac y ad aa a).bind fun gd=>
(Ag gd).bind fun(ge,ak)=>
j62 h k n ge ak af ab ac y ad aa
def Ph bk37 a b f:=Aej (Lf bk37 a b f) a b f
def Ap2(j71:LB→Int→Int→Int→Int→Int→Int→Bool→Int→LI→LB→pushdec_Feed_O)(a:LB)(b:Bool)(f m p o u v h:Int)(n:LB)(bs:Bool)(bt:Int)(bu:LB)(bv:LI):pushdec_Feed_O:=
j71 bu m p o u v h bs bt bv n
def Je bk37 a b f:=Ap2 (Bu bk37 a b f) a b f
def Ad5(j75:Int→Int→Int→Int→Int→Int→LB→Bool→Int→LB→LI→pushdec_Feed_O)(a:LB)(b:Bool)(f:Int)(g:LB)(m p o u v h:Int)(k:LI)(n:LB)(bf:Int):pushdec_Feed_O:=
(Dk m p o u v).bind fun(gf,bg)=>
if(Ay bg 0)then
(Ag bg).bind fun(al,bw)=>
j75 m p o u v h n al bw g k
else
(Bc g bf (Ac g)).bind fun gg=>
(Akk gg (Ac gf)).bind fun(dw,y)=>
if(geq y 24)then
j75 m p o u v h n true 0 g k
else
if(Ay y 0)then
(Ag y).bind fun(gh,aa)=>
j75 m p o u v h n gh aa g k
else
(Bc g (Ae (Ae bf (Bk 4 (Ac dw))) 4) (Ac g)).bind fun gi=>
j75 m p o u v h n false 0 gi dw
def Jf bk37 a b f:=Ad5 (Je bk37 a b f) a b f
def Aep(j75:Int→Int→Int→Int→Int→Int→LB→Bool→Int→LB→LI→pushdec_Feed_O)(j74:LB→Int→Int→Int→Int→Int→Int→LI→LB→Int→pushdec_Feed_O)(a:LB)(b:Bool)(f:Int)(bd:Bool)(aq:Int)(g:LB)(m p o u v h:Int)(k:LI)(n:LB):pushdec_Feed_O:=
if(Ay aq 0)then
(Ag aq).bind fun(gj,bg)=>
j75 m p o u v h n gj bg g k
else
if(!bd)then
(Ag 26).bind fun(al,bw)=>
j75 m p o u v h n al bw g k
else
j74 g m p o u v h k n 8
def Ad7 bk37 a b f:=Aep (Je bk37 a b f) (Jf bk37 a b f) a b f
def Aev(j64:Bool→Int→LB→Int→Int→Int→Int→Int→Int→LI→LB→pushdec_Feed_O)(a:LB)(b:Bool)(f:Int)(g:LB)(m p o u v h:Int)(k:LI)(n:LB):pushdec_Feed_O:=
(Bc g 0 8).bind fun gk=>
(Acu gk a).bind fun(bd,aq)=>
j64 bd aq g m p o u v h k n
def Pc bk37 a b f:=Aev (Ad7 bk37 a b f) a b f
def Aoq(j71:LB→Int→Int→Int→Int→Int→Int→Bool→Int→LI→LB→pushdec_Feed_O)(a:LB)(b:Bool)(f m p o u v:Int)(k:LI)(bx:Bool)(bz:Int)(da:LB)(db:Int)(dc:LB):pushdec_Feed_O:=
j71 da m p o u v db bx bz k dc
def Oy bk37 a b f:=Aoq (Bu bk37 a b f) a b f
def Vg(j78:Int→Int→Int→Int→Int→LI→Bool→Int→LB→Int→LB→pushdec_Feed_O)(a:LB)(b:Bool)(f w ag:Int)(g:LB)(m p o u v h:Int)(am:LX)(k:LI)(n:LB):pushdec_Feed_O:=
if(Ay ag 0)then
(Ag ag).bind fun(dd,de)=>
j78 m p o u v k dd de g h n
else
(Ut o am).bind fun(df,aj)=>
if(Ay aj 0)then
(Ag aj).bind fun(dg,dh)=>
j78 m p o u v k dg dh g h n
else
(Cw n df).bind fun di=>
(
(Bc g w (Ac g)).bind fun dj=>
j78 m p o u v k false 0 dj (Ae h 1) di)
def Aek bk37 a b f:=Vg (Oy bk37 a b f) a b f
def Aez(j77:Int→Int→LB→Int→Int→Int→Int→Int→Int→LX→LI→LB→pushdec_Feed_O)(a:LB)(b:Bool)(f w:Int)(g:LB)(m p o u v h:Int)(an:LX)(ae k:LI)(n:LB):pushdec_Feed_O:=
(Ak ae h).bind fun _=>
(Bc g 0 w).bind fun gl=>
(Ak ae h).bind fun gm=>
(Xk m p o u v).bind fun(bi,ai)=>
(Uh bi ai an gm gl).bind fun(am,ag)=>
j77 w ag g m p o u v h am k n
def Pr bk37 a b f:=Aez (Aek bk37 a b f) a b f
def Gv(j62:Int→LI→LB→Bool→Int→LB→Int→Int→Int→Int→Int→pushdec_Feed_O)(j61:LB→Int→Int→Int→Int→Int→Int→LI→LB→pushdec_Feed_O)(j75:Int→Int→Int→Int→Int→Int→LB→Bool→Int→LB→LI→pushdec_Feed_O)(j73:LB→Int→Int→Int→Int→Int→Int→LI→LB→pushdec_Feed_O)(j74:LB→Int→Int→Int→Int→Int→Int→LI→LB→Int→pushdec_Feed_O)(j78:Int→Int→Int→Int→Int→LI→Bool→Int→LB→Int→LB→pushdec_Feed_O)(j76:Int→LB→Int→Int→Int→Int→Int→Int→LX→LI→LI→LB→pushdec_Feed_O)(j71:LB→Int→Int→Int→Int→Int→Int→Bool→Int→LI→LB→pushdec_Feed_O)(j70:LB→Int→Int→Int→Int→Int→Int→LI→LB→pushdec_Feed_O)(a:LB)(b:Bool)(f:Int)(g:LB)(m p o u v h:Int)(k:LI)(n:LB):pushdec_Feed_O:=
if(geq m 0)then
(Js g).bind fun(ah,ao)=>
if(geq ao 24)then
j62 h k n true 0 g m p o u v
else
if(Ay ao 0)then
(Ag ao).bind fun(dk,dl)=>
j62 h k n dk dl g m p o u v
else
(Bc g ah (Ac g)).bind fun dm=>
(Nm dm).bind fun al=>
if al then
j62 h k n true 0 g m p o u v
else
(Bc g ah (Ac g)).bind fun dn=>
(Nh dn).bind fun(ab,ac,y,ad,aa,ap)=>
if(geq ap 24)then
j62 h k n true 0 g m p o u v
else
if(Ay ap 0)then
(Ag ap).bind fun(dp,dq)=>
j62 h k n dp dq g m p o u v
else
(
(Bc g (Ae ah 22) (Ac g)).bind fun af=>
(
j61 af ab ac y ad aa h k n))
else
if(geq (Ac k) 0)then
if(geq m 2)then
if(Bs (Ac g) 8)then
j75 m p o u v h n true 0 g k
else
j73 g m p o u v h k n
else
j74 g m p o u v h k n 0
else
if(Bs h (Ac k))then
(Ak k h).bind fun _=>
(Ak k h).bind fun w=>
if(Bs (Ac g) w)then
j78 m p o u v k true 0 g h n
else
(Rg a).bind fun(an,ak)=>
if(Ay ak 0)then
(Ag ak).bind fun(dr,ds)=>
j78 m p o u v k dr ds g h n
else
(Dk m p o u v).bind fun(ae,dt)=>
if((Ay dt 0)||(Il h (Ac ae)))then
(Ag 8).bind fun(du,bc)=>
j78 m p o u v k du bc g h n
else
j76 w g m p o u v h an ae k n
else
if(Di (Ac g) 4000)then
(Ag 38).bind fun(dv,ai)=>
j71 g m p o u v h dv ai k n
else
j70 g m p o u v h k n
def Aq(a:LB)(b:Bool)(f:Int):Nat→LB→Int→Int→Int→Int→Int→Int→LI→LB→pushdec_Feed_O
|0,_,_,_,_,_,_,_,_,_=>none
|q+1,g,m,p,o,u,v,h,k,n=>Gv (Lf (Aq a b f q) a b f) (Ph (Aq a b f q) a b f) (Je (Aq a b f q) a b f) (Pc (Aq a b f q) a b f) (Jf (Aq a b f q) a b f) (Oy (Aq a b f q) a b f) (Pr (Aq a b f q) a b f) (Bu (Aq a b f q) a b f) (Vt (Aq a b f q) a b f) a b f g m p o u v h k n
def Ap1 a b f:=Aq a b f FUEL
def Xv(j37:LB→Bool→Int→LB→Int→Int→Int→Int→Int→Int→LI→LB→pushdec_Feed_O)(gn go:LB)(gp gq gr gs gt:Int)(gu:LI)(gv:Int)(gw:LB)(gx:Bool)(gy:Int)(gz:LB):pushdec_Feed_O:=
(Np gn go gp gq gr gs gt gu gv gw gx gy).bind fun(a,dx,dy,dz,fa,fb,fc,fd,fe,ff,b,f,fg)=>
if(Ay fg 0)then
some (a,dx,dy,dz,fa,fb,fc,fd,fe,ff,b,f,fg)
else
(Cw dx gz).bind fun ha=>
j37 a b f ha dy dz fa fb fc fe fd ff
def Px:=Xv Ap1
abbrev Azb:=Option (Int×Int)
def Bco(a:LB):Azb:=
(Bc a (Ah (Ac a) 32) (Ac a)).bind fun g=>
(Ajg g 0).bind fun(f,y,h)=>
if h then
if(Bs (Ah (Ac a) 32) f)then
some (0,24)
else
some ((Ae f 32),0)
else
(Bc a (Ah (Ac a) 32) (Ac a)).bind fun k=>
(Ajg k 2147483648).bind fun(b,m,n)=>
if(!n)then
some (0,12)
else
if(Bs (Ac a) (Ae b 64))then
some (0,24)
else
(Bc a (Ah (Ac a) (Ae b 64)) (Ae (Ah (Ac a) (Ae b 64)) 32)).bind fun o=>
(Awl b m 2684354560).bind fun p=>
(Ff o p).bind fun u=>
if(!u)then
some (0,12)
else
some ((Ae b 64),0)
def At6:=Bco
def At0(j2:LB→Azb)(a:LB):Azb:=
if(Bs (Ah (Ac a) 32) 0)then
some (0,6)
else
(Bc a (Ah (Ac a) 32) (Ac a)).bind fun v=>
(Kl v ([(65:UInt8),(80:UInt8),(69:UInt8),(84:UInt8),(65:UInt8),(71:UInt8),(69:UInt8),(88:UInt8)]:LB)).bind fun w=>
if(!w)then
some (0,6)
else
j2 a
def Az1:=At0 At6
abbrev Fi:=Option (Int×Int)
def Bbl(a:Int):Fi:=
some (a,0)
def Aol:=Bbl
def Ao8(bk8:Int→LB→Fi)(a:Int)(g:LB):Fi:=
bk8 (Ae a 1) g
def Aem bk8:=Ao8 bk8
def Aeo(j12:Int→LB→Fi)(a f:Int)(b:LB):Fi:=
if(geq f 0)then
some (0,38)
else
(Bc b 0 (Ah (Ac b) f)).bind fun g=>
j12 a g
def Aeb bk8:=Aeo (Aem bk8)
def Ahs(j11:Int→Int→LB→Fi)(j14:Int→Fi)(a:Int)(b:LB):Fi:=
if(Di (Ac b) 0)then
(Az1 b).bind fun(f,k)=>
j11 a f b
else
j14 a
def Qz:Nat→Int→LB→Fi
|0,_,_=>none
|q+1,a,b=>Ahs (Aeb (Qz q)) Aol a b
def Asi:=Qz FUEL
def Ahu(j8:Int→LB→Fi)(h:LB):Fi:=
if(Di (Ac h) 4000)then
some (0,38)
else
j8 0 h
def Ai1:=Ahu Asi
def Aca(p a:LB)(g u v w y:Int)(b:LI)(h:Int)(aa:LB)(ab:Bool)(ac:Int):Option Int:=
if(geq g 0)then
(Js a).bind fun(k,f)=>
if(Ay f 0)then
some f
else
(Bc a k (Ac a)).bind fun m=>
(Nh m).bind fun(ad,ae,af,ag,ah,n)=>
some n
else
if((Bs h (Ac b))||(geq (Ac b) 0))then
some 24
else
(Ai1 a).bind fun(ai,o)=>
some o
def Ux(aa ab:LB)(ac ad ae af ag:Int)(ah:LI)(ai:Int)(aj:LB)(ak:Bool)(al:Int):Option (LB×LB×Int×Int×Int×Int×Int×LI×Int×LB×Bool×Int×Int):=
(Np aa ab ac ad ae af ag ah ai aj ak al).bind fun(a,f,g,h,k,m,n,o,p,b,u,v,w)=>
if(Ay w 0)then
some (a,f,g,h,k,m,n,o,p,b,u,v,w)
else
(Aca a f g h k m n o p b u v).bind fun y=>
if(Ay y 0)then
(Aqi a f g h k m n o p b u v y).bind fun(am,an,ao,ap,aq,ar,au,av,aw,ax,ay,az,ba)=>
some (am,an,ao,ap,aq,ar,au,av,aw,ax,ay,az,ba)
else
some (a,([]:LB),0,0,0,0,0,([]:LI),0,b,true,0,0)
abbrev Gl:=Option (LB×Int)
def Ac9(g:LB)(h k m n o p:Int)(u:LB)(v:Bool)(w:Int)(y:LB)(aa:LI):Gl:=
(Ux g y h k m n o aa p u v w).bind fun(bj,ap,bk,bl,ac,ad,ae,bm,af,ab,bn,bp,ar)=>
some (ab,ar)
def Tr:=Ac9
def Aa6(bk7:LB→Int→LB→Int→Int→Int→Int→Int→Int→LB→Bool→Int→LB→LI→Gl)(a:LI)(b:LB)(ag ah f:Int)(aj:LB)(ac ad ae ak af al:Int)(ai:LB)(am:Bool)(an:Int)(ao:LB)(ab:LI):Gl:=
if(Ay ag 0)then
some (ai,ag)
else
(Bc b ah (Ac b)).bind fun au=>
bk7 au (Ae f 1) aj ac ad ae ak af al ai am an ao ab
def Td bk7:=Aa6 bk7
def Vh(j10:LB→Int→Int→Int→LB→Int→Int→Int→Int→Int→Int→LB→Bool→Int→LB→LI→Gl)(j12:LB→Int→Int→Int→Int→Int→Int→LB→Bool→Int→LB→LI→Gl)(a:LI)(b:LB)(f:Int)(g:LB)(h k m n o p:Int)(u:LB)(v:Bool)(w:Int)(y:LB)(aa:LI):Gl:=
if(Bs f (Ac a))then
(Ak a f).bind fun ah=>
(Bc b 0 ah).bind fun ap=>
(Px g y h k m n o aa p u v w ap).bind fun(aj,ao,ac,ad,ae,ak,af,ab,al,ai,am,an,ag)=>
j10 b ag ah f aj ac ad ae ak af al ai am an ao ab
else
j12 g h k m n o p u v w y aa
def Iy(a:LI):Nat→LB→Int→LB→Int→Int→Int→Int→Int→Int→LB→Bool→Int→LB→LI→Gl
|0,_,_,_,_,_,_,_,_,_,_,_,_,_,_=>none
|q+1,b,f,g,h,k,m,n,o,p,u,v,w,y,aa=>Vh (Td (Iy a q) a) Tr a b f g h k m n o p u v w y aa
def Ap9 a:=Iy a FUEL
def Vf(j7:LI→LB→Int→LB→Int→Int→Int→Int→Int→Int→LB→Bool→Int→LB→LI→Gl)(av aw:LB)(a:LI):Gl:=
(Aaa av).bind fun(ax,ay,az,ba,bb,bc,bd,be,bf,bg,bh,bi,aq)=>
if(Ay aq 0)then
some (([]:LB),aq)
else
j7 a aw 0 ax az ba bb bc bd bf bg bh bi ay be
def Jj:=Vf Ap9
def Axl(f a:LB)(g:UInt64):Option (LB×Int):=
(Ae9 (Ac a) g).bind fun(h,b)=>
if(Ay b 0)then
some (([]:LB),b)
else
(Jj f a h).bind fun(k,m)=>
some (k,m)
def Anz:Option Bool:=
some true
def Xg:=Anz
def Xn(j6:Option Bool)(bk4:Int→Option Bool)(a b:LI)(f:Int):Option Bool:=
if(Bs f (Ac a))then
(Ak a f).bind fun g=>
(Ak b f).bind fun h=>
if(Ay g h)then
some false
else
bk4 (Ae f 1)
else
j6
def Nn(a b:LI):Nat→Int→Option Bool
|0,_=>none
|q+1,f=>Xn Xg (Nn a b q) a b f
def Xq a b:=Nn a b FUEL
def Xo(j4:LI→LI→Int→Option Bool)(a b:LI):Option Bool:=
if(Ay (Ac a) (Ac b))then
some false
else
j4 a b 0
def Ads:=Xo Xq
def Wz(a:Int)(b:UInt64)(f:LI):Option Bool:=
(Ae9 a b).bind fun(g,h)=>
if(geq h 0)then
(Ads g f).bind fun k=>
some k
else
some false
def Qw:Option Bool:=
(Axv 1 8 8000 ([]:LB) ([(200:UInt8)]:LB) 0).bind fun(a,b)=>
(Axl ([]:LB) a 18446744073709551615).bind fun(f,g)=>
(Wz 7 10 ([(2:Int),(2:Int),(3:Int)]:LI)).bind fun h=>
if h then
(Wz 130 1 ([(1:Int),(64:Int),(64:Int),(1:Int)]:LI)).bind fun k=>
some ((((k&&(geq b 0))&&(geq (Ac a) 36))&&(geq g 0))&&(f==([200]:LB)))
else
some ((((false&&(geq b 0))&&(geq (Ac a) 36))&&(geq g 0))&&(f==([200]:LB)))
abbrev Ce:=Option (Int×Int)
def Bd7(n:Int):Ce:=
some (n,0)
def Ar5:=Bd7
def Asw(bk12:Int→Int→Ce)(g b:LB)(f a:Int)(h:LB)(k m v:Int):Ce:=
bk12 v (Ae m 1)
def Mz bk12:=Asw bk12
def Ahz(j20:Int→Int→Ce)(g b:LB)(f a:Int)(h:LB)(k n o m:Int)(p:LI):Ce:=
(Cw p ([(Ah (Ac b) o)]:LI)).bind fun w=>
(Jj g b w).bind fun(aa,ab)=>
if(Ay ab k)then
j20 m (Ae n 1)
else
(Ff aa h).bind fun ac=>
if(!ac)then
j20 m (Ae n 1)
else
j20 m n
def Ag9 bk12 g b f a h k:=Ahz (Mz bk12 g b f a h k) g b f a h k
def Xz(j19:Int→Int→Int→LI→Ce)(bk17:Int→Int→LI→Ce)(g b:LB)(f a:Int)(h:LB)(k n m o u:Int)(p:LI):Ce:=
if(Bs u a)then
(Hx (Il u 0)).bind fun _=>
if(geq (Dq (Bd6 m (GI.toZ u).toNat) 1) 1)then
(Cw p ([(Ah (Ae (Ae f u) 1) o)]:LI)).bind fun w=>
bk17 (Ae (Ae f u) 1) (Ae u 1) w
else
bk17 o (Ae u 1) p
else
j19 n o m p
def My(bk12:Int→Int→Ce)(g b:LB)(f a:Int)(h:LB)(k n m:Int):Nat→Int→Int→LI→Ce
|0,_,_,_=>none
|q+1,o,u,p=>Xz (Ag9 bk12 g b f a h k) (My bk12 g b f a h k n m q) g b f a h k n m o u p
def Ag6 bk12 g b f a h k n m:=My bk12 g b f a h k n m FUEL
def Aht(j17:Int→Int→Int→Int→LI→Ce)(j22:Int→Ce)(g b:LB)(f a:Int)(h:LB)(k n m:Int):Ce:=
if(Bs m (Df (1:Int) (GI.toZ a).toNat))then
j17 n m 0 0 ([]:LI)
else
j22 n
def Na(g b:LB)(f a:Int)(h:LB)(k:Int):Nat→Int→Int→Ce
|0,_,_=>none
|q+1,n,m=>Aht (Ag6 (Na g b f a h k q) g b f a h k) Ar5 g b f a h k n m
def Ahy g b f a h k:=Na g b f a h k FUEL
def Ajz(j12:LB→LB→Int→Int→LB→Int→Int→Int→Ce)(g b:LB)(f a:Int):Ce:=
if(Di (Ac b) 100000)then
some (0,2)
else
(Aaa g).bind fun(ad,ae,af,ag,ah,ai,aj,ak,al,am,an,ao,y)=>
if(Ay y 0)then
some (0,y)
else
if(((((Bs a 0)||(Di a 8))||(Bs f 0))||(Di f (Ac b)))||(Di a (Ah (Ac b) f)))then
some (0,2)
else
(Jj g b ([(Ac b)]:LI)).bind fun(h,k)=>
(Hx (Il a 0)).bind fun _=>
j12 g b f a h k 0 0
def Aug:=Ajz Ahy
def Jv(h a:LB)(b f:Int):Option Bool:=
(Qw).bind fun g=>
if((((((((Di (Ac h) 64)||(Di (Ac a) 400))||(Bs f 0))||(Di f 8))||(Bs b 0))||(Di b (Ac a)))||(Di f (Ah (Ac a) b)))||(!g))then
some g
else
(Aug h a b f).bind fun(k,m)=>
some ((g&&(geq m 0))&&(geq k 0))
def Ap0(a:LB):Option (LB×LB×Int×Int×Int×Int×Int×LI×Int×LB×Bool×Int×Int):=
if(Di (Ac a) 64)then
some (([]:LB),([]:LB),0,0,0,0,0,([]:LI),0,([]:LB),false,0,2)
else
some (a,([]:LB),0,0,0,0,0,([]:LI),0,([]:LB),false,0,0)
def Hv(f g b a h:Int):Option Bool:=
if((((geq f 1)||(geq f 2))&&(Il g 1))&&(gle g 6))then
some ((((((geq b 8)||(geq b 16))||(geq b 24))&&(Il a 1))&&(gle a 1048576))&&(Il h 1))
else
some (((false&&(Il a 1))&&(gle a 1048576))&&(Il h 1))
def Tp(a:Int):Option Int:=
some (Aw5 1 (Bw (Bk 256 a) 245))
def Mk(a:LI):Option (LI):=
some a
def Mi:=Mk
def Ix(j6:LI→Option (LI))(bk4:Int→LI→Option (LI))(b f:Int)(a:LI):Option (LI):=
if(Di f 0)then
(Tp b).bind fun g=>
(Cw a ([(Ec f g)]:LI)).bind fun h=>
(Tp b).bind fun k=>
bk4 (Ah f k) h
else
j6 a
def Eo(b:Int):Nat→Int→LI→Option (LI)
|0,_,_=>none
|q+1,f,a=>Ix Mi (Eo b q) b f a
def Ad2 b:=Eo b FUEL
def Adu(j4:Int→Int→LI→Option (LI))(b m:Int):Option (LI):=
j4 b m ([]:LI)
def Pw:=Adu Ad2
def Tl(h a k f b:Int):Option Bool:=
(
(Hx (Ay a 0)).bind fun _=>
(
if(Di b (Bw 4000 a))then
some true
else
(Pw f b).bind fun g=>
some (Di (Ac g) 1000)))
def Iz(a b f g h:Int):Option Int:=
(Hv a b f g h).bind fun k=>
if(!k)then
some 8
else
(Tl a b f g h).bind fun m=>
if m then
some 8
else
some 0
def Dz(a f g h k:Int)(b:LB):Option Int:=
if((b==([]:LB)) !=(geq a 1))then
some 26
else
some 0
def Acb(b:Int):Option Int:=
if(Di b 100000)then
some 8
else
some 0
def Abd:=Acb
def Adi(bk6:Int→Int→Option Int)(a:LI)(b f:Int):Option Int:=
(Ak a f).bind fun g=>
bk6 (Ae b g) (Ae f 1)
def Adx bk6:=Adi bk6
def Sd(j8:Int→Int→Option Int)(j10:Int→Option Int)(a:LI)(b f:Int):Option Int:=
if(Bs f (Ac a))then
(Ak a f).bind fun h=>
if(Bs h 5)then
some 8
else
(Ak a f).bind fun k=>
if(Di k 100000)then
some 8
else
j8 b f
else
j10 b
def Is(a:LI):Nat→Int→Int→Option Int
|0,_,_=>none
|q+1,b,f=>Sd (Adx (Is a q) a) Abd a b f
def Adj a:=Is a FUEL
def Rr(j6:LI→Int→Int→Option Int)(a:LI):Option Int:=
if((Bs (Ac a) 1)||(Di (Ac a) 1000))then
some 8
else
j6 a 0 0
def Gt:=Rr Adj
def Fe(g h k a b:Int):Option (LI):=
(Pw a b).bind fun f=>
some f
def Gq(f a b g h:Int):Option (Int×Int):=
some (a,b)
def Air(a b:Int):Option Int:=
some (Bw (Bk a b) 8)
def Agl(k a b f g h:Int):Option Int:=
(Gq a b f g h).bind fun(p,u)=>
(Air p u).bind fun v=>
some (Bk k v)
def Agi:=Agl
def Uq(j6:Int→Int→Int→Int→Int→Int→Option Int)(bk4:Int→Int→Option Int)(n a b f g h:Int)(m:LI)(k o:Int):Option Int:=
if(Bs o n)then
(Ak m o).bind fun _=>
(Ak m o).bind fun w=>
bk4 (Ae k w) (Ae o 1)
else
j6 k a b f g h
def Jo(n a b f g h:Int)(m:LI):Nat→Int→Int→Option Int
|0,_,_=>none
|q+1,k,o=>Uq Agi (Jo n a b f g h m q) n a b f g h m k o
def Auc n a b f g h m:=Jo n a b f g h m FUEL
def Agc(j4:Int→Int→Int→Int→Int→Int→LI→Int→Int→Option Int)(a b f g h n:Int):Option Int:=
(Fe a b f g h).bind fun m=>
j4 n a b f g h m 0 0
def Tj:=Agc Auc
abbrev Fc:=Option (Int×Int)
def As9(a:Int):Fc:=
some (a,0)
def Ate:=As9
def Ru(j6:Int→Fc)(bk4:Int→Int→Fc)(b:LB)(a f:Int):Fc:=
if(Bs f 4)then
(Ak b f).bind fun g=>
if(Il g 128)then
some (0,12)
else
(Ak b f).bind fun h=>
bk4 (Ae (Bk 128 a) (Ad h:Int)) (Ae f 1)
else
j6 a
def Ip(b:LB):Nat→Int→Int→Fc
|0,_,_=>none
|q+1,a,f=>Ru Ate (Ip b q) b a f
def Ady b:=Ip b FUEL
def Adt(j4:LB→Int→Int→Fc)(b:LB):Fc:=
if(Ay (Ac b) 4)then
some (0,2)
else
j4 b 0 0
def Yz:=Adt Ady
abbrev Fv:=Option (Int×Int)
def Af4(a:LB)(g:Int):Fv:=
if(Di g 4000)then
some (0,4)
else
if(Bs (Ac a) g)then
some (0,24)
else
(Ak a 5).bind fun h=>
if(geq h 16)then
(Bc a (Ah g 10) g).bind fun k=>
(Bc a 3 10).bind fun m=>
(Cw ([51,68,73]:LB) m).bind fun n=>
if(k !=n)then
some (0,12)
else
some (g,0)
else
some (g,0)
def Uk:=Af4
def Aga(j6:LB→Int→Fv)(a:LB)(b:Int):Fv:=
(Ak a 5).bind fun o=>
if(geq o 16)then
j6 a (Ae (Ae 10 b) 10)
else
j6 a (Ae 10 b)
def Ty:=Aga Uk
def Afl(j5:LB→Int→Fv)(a:LB):Fv:=
if(Bs (Ac a) 10)then
some (0,24)
else
(Bc a 6 10).bind fun p=>
(Yz p).bind fun(b,f)=>
(Ak a 3).bind fun u=>
if(Bs u 2)then
if true then
if true then
if(true||(Ay f 0))then
some (0,12)
else
j5 a b
else
(Ak a 5).bind fun v=>
if(Ay v 0)then
(Ak a 5).bind fun w=>
if(Ay w 16)then
if(true||(Ay f 0))then
some (0,12)
else
j5 a b
else
(Ak a 3).bind fun y=>
if((Ay y 4)||(Ay f 0))then
some (0,12)
else
j5 a b
else
if(false||(Ay f 0))then
some (0,12)
else
j5 a b
else
(Ak a 4).bind fun aa=>
if(Ay aa 0)then
if(true||(Ay f 0))then
some (0,12)
else
j5 a b
else
(Ak a 5).bind fun ab=>
if(Ay ab 0)then
(Ak a 5).bind fun ac=>
if(Ay ac 16)then
if(true||(Ay f 0))then
some (0,12)
else
j5 a b
else
(Ak a 3).bind fun ad=>
if((Ay ad 4)||(Ay f 0))then
some (0,12)
else
j5 a b
else
if(false||(Ay f 0))then
some (0,12)
else
j5 a b
else
(Ak a 3).bind fun ae=>
if(Di ae 4)then
if true then
if(true||(Ay f 0))then
some (0,12)
else
j5 a b
else
(Ak a 5).bind fun af=>
if(Ay af 0)then
(Ak a 5).bind fun ag=>
if(Ay ag 16)then
if(true||(Ay f 0))then
some (0,12)
else
j5 a b
else
(Ak a 3).bind fun ah=>
if((Ay ah 4)||(Ay f 0))then
some (0,12)
else
j5 a b
else
if(false||(Ay f 0))then
some (0,12)
else
j5 a b
else
(Ak a 4).bind fun ai=>
if(Ay ai 0)then
if(true||(Ay f 0))then
some (0,12)
else
j5 a b
else
(Ak a 5).bind fun aj=>
if(Ay aj 0)then
(Ak a 5).bind fun ak=>
if(Ay ak 16)then
if(true||(Ay f 0))then
some (0,12)
else
j5 a b
else
(Ak a 3).bind fun al=>
if((Ay al 4)||(Ay f 0))then
some (0,12)
else
j5 a b
else
if(false||(Ay f 0))then
some (0,12)
else
j5 a b
def Afr:=Afl Ty
def Agn(j4:LB→Fv)(a:LB):Fv:=
if(Bs (Ac a) 3)then
some (0,6)
else
(Bc a 0 3).bind fun am=>
if(am !=([73,68,51]:LB))then
some (0,6)
else
j4 a
def Ac1:=Agn Afr
def Akf(a:UInt64):Option UInt64:=
some a
def Ajs:=Akf
def Yn(j6:UInt64→Option UInt64)(bk4:UInt64→Int→Option UInt64)(b:LB)(a:UInt64)(f:Int):Option UInt64:=
if(Il f 0)then
(Ak b f).bind fun g=>
bk4 (Ae (Bk 256 a) (Ad g:UInt64)) (Ah f 1)
else
j6 a
def Lp(b:LB):Nat→UInt64→Int→Option UInt64
|0,_,_=>none
|q+1,a,f=>Yn Ajs (Lp b q) b a f
def Ajr b:=Lp b FUEL
def Aj8(j4:LB→UInt64→Int→Option UInt64)(b:LB):Option UInt64:=
j4 b 0 (Ah (Ac b) 1)
def Dd:=Aj8 Ajr
def Tt(b:LB):Option (Int×Int×Bool):=
(Bc b 12 16).bind fun g=>
(Dd g).bind fun a=>
(Bc b 16 20).bind fun h=>
(Dd h).bind fun f=>
if(((Bs a 32)||(Di a 3032))||(Di f 1000))then
some (0,0,false)
else
some ((Ah (Ad a:Int) 32),(Ad f:Int),true)
def Zi(a:LB):Option (LB):=
some a
def Aab:=Zi
def Ot(j6:LB→Option (LB))(bk4:UInt64→Int→LB→Option (LB))(b:Int)(f:UInt64)(g:Int)(a:LB):Option (LB):=
if(Bs g b)then
(Cw a ([(Ad (Aaj f 256):UInt8)]:LB)).bind fun h=>
bk4 (Bw f 256) (Ae g 1) h
else
j6 a
def Hb(b:Int):Nat→UInt64→Int→LB→Option (LB)
|0,_,_,_=>none
|q+1,f,g,a=>Ot Aab (Hb b q) b f g a
def Zh b:=Hb b FUEL
def Zu(j4:Int→UInt64→Int→LB→Option (LB))(k:UInt64)(b:Int):Option (LB):=
j4 b k 0 ([]:LB)
def Du:=Zu Zh
def Oq(a b:Int)(f:UInt64):Option (LB):=
(Du 2000 4).bind fun g=>
(Cw ([(65:UInt8),(80:UInt8),(69:UInt8),(84:UInt8),(65:UInt8),(71:UInt8),(69:UInt8),(88:UInt8)]:LB) g).bind fun h=>
(Du (Ad (Ae a 32):UInt64) 4).bind fun k=>
(Cw h k).bind fun m=>
(Du (Ad b:UInt64) 4).bind fun n=>
(Cw m n).bind fun o=>
(Du f 4).bind fun p=>
(Cw o p).bind fun u=>
(mkI (8:Int) (0:UInt8)).bind fun v=>
(Cw u v).bind fun w=>
some w
def Sp(a b:Int):Option (LB):=
(Oq a b 2684354560).bind fun f=>
some f
def Jz(a b:Int)(f:Bool):Option (LB):=
if f then
(Oq a b 2147483648).bind fun g=>
some g
else
(Oq a b 0).bind fun h=>
some h
abbrev Jr:=Option (Int×Int)
def Adm(a:LB)(b f:Int):Jr:=
if(Bs (Ac a) (Ae 64 b))then
some (0,24)
else
(Bc a (Ah (Ae 64 b) 32) (Ae 64 b)).bind fun g=>
(Jz b f true).bind fun h=>
if(g !=h)then
some (0,12)
else
some ((Ae 64 b),0)
def Adr:=Adm
def Adh(j4:LB→Int→Int→Jr)(a:LB):Jr:=
if(Bs (Ac a) 32)then
some (0,24)
else
(Bc a 0 32).bind fun k=>
(Tt k).bind fun(b,f,m)=>
if(!m)then
some (0,12)
else
(Bc a 0 32).bind fun n=>
(Sp b f).bind fun o=>
if(n !=o)then
some (0,12)
else
j4 a b f
def Adv:=Adh Adr
def Adg(j3:LB→Jr)(a:LB):Jr:=
if(Bs (Ac a) 8)then
some (0,6)
else
(Bc a 0 8).bind fun p=>
if(p !=([65,80,69,84,65,71,69,88]:LB))then
some (0,6)
else
j3 a
def Yy:=Adg Adv
abbrev Fh:=Option (LI×Int)
def Ad0(bk6:Int→LI→Fh)(a:LB)(b:Int)(f:LI)(g h:Int):Fh:=
if(geq h 6)then
some (f,0)
else
if(Ay h 0)then
some (([]:LI),h)
else
if(Di (Ae b g) 4000)then
some (([]:LI),4)
else
(Cw f ([g]:LI)).bind fun m=>
bk6 (Ae b g) m
def Mc bk6:=Ad0 bk6
def Rl(j9:Int→LI→Int→Int→Fh)(a:LB)(b:Int)(f:LI):Fh:=
(Bc a b (Ac a)).bind fun n=>
(Ac1 n).bind fun(o,k)=>
if(geq k 6)then
(Bc a b (Ac a)).bind fun p=>
(Yy p).bind fun(u,v)=>
j9 b f u v
else
j9 b f o k
def Mf(a:LB):Nat→Int→LI→Fh
|0,_,_=>none
|q+1,b,f=>Rl (Mc (Mf a q) a) a b f
def Atg a:=Mf a FUEL
def Atr(j6:LB→Int→LI→Fh)(a:LB):Fh:=
j6 a 0 ([]:LI)
def Akr:=Atr Atg
abbrev Fb:=Option (Int×Int)
def Adp(a b:Int):Fb:=
some (b,a)
def Adz:=Adp
def Rp(j6:Int→Int→Fb)(bk4:Int→Int→Fb)(a:Int)(f:LI)(b g:Int):Fb:=
if(Bs g (Ac f))then
(Ak f g).bind fun _=>
(Ak f g).bind fun h=>
bk4 (Ae b h) (Ae g 1)
else
j6 a b
def Im(a:Int)(f:LI):Nat→Int→Int→Fb
|0,_,_=>none
|q+1,b,g=>Rp Adz (Im a f q) a f b g
def Rt a f:=Im a f FUEL
def Ado(j4:Int→LI→Int→Int→Fb)(k:LB):Fb:=
(Akr k).bind fun(f,a)=>
j4 a f 0 0
def Qn:=Ado Rt
def Ok(a b:LB):Option Bool:=
if(Bs (Ac a) (Ac b))then
(Bc b 0 (Ac a)).bind fun f=>
some (a==f)
else
some false
def Ag0(a:UInt32)(b:Bool):Option UInt32:=
if b then
some (Wm (Bw a 2) 3988292384)
else
some (Bw a 2)
def Agh:=Ag0
def Agz(j2:UInt32→Bool→Option UInt32)(a:UInt32)(f:Int):Option UInt32:=
if(geq f 1)then
j2 a (!(geq (Aaj a 2) 1))
else
j2 a (geq (Aaj a 2) 1)
def Aa4:=Agz Agh
def Ags(a:UInt32):Option UInt32:=
some a
def Afv:=Ags
def Uw(j6:UInt32→Option UInt32)(bk4:UInt32→UInt8→Int→Option UInt32)(a:UInt32)(b:UInt8)(f:Int):Option UInt32:=
if(Bs f 8)then
(Aa4 a (Ad (Aaj b 2):Int)).bind fun g=>
bk4 g (Bw b 2) (Ae f 1)
else
j6 a
def Jn:Nat→UInt32→UInt8→Int→Option UInt32
|0,_,_,_=>none
|q+1,a,b,f=>Uw Afv (Jn q) a b f
def Avw:=Jn FUEL
def Atw(j4:UInt32→UInt8→Int→Option UInt32)(h:UInt32)(k:UInt8):Option UInt32:=
j4 h k 0
def Ame:=Atw Avw
def Acl(a:UInt32):Option UInt32:=
some a
def Aaz:=Acl
def Qs(j6:UInt32→Option UInt32)(bk4:UInt32→Int→Option UInt32)(b:LB)(a:UInt32)(f:Int):Option UInt32:=
if(Bs f (Ac b))then
(Ak b f).bind fun g=>
(Ame a g).bind fun h=>
bk4 h (Ae f 1)
else
j6 a
def Hg(b:LB):Nat→UInt32→Int→Option UInt32
|0,_,_=>none
|q+1,a,f=>Qs Aaz (Hg b q) b a f
def Aa8 b:=Hg b FUEL
def Abr(j4:LB→UInt32→Int→Option UInt32)(k:UInt32)(b:LB):Option UInt32:=
j4 b k 0
def Aiv:=Abr Aa8
def Qy(a:LB):Option UInt32:=
(Aiv 4294967295 a).bind fun b=>
some (Ah 4294967295 b)
abbrev Ga:=Option (Int×Int×Int×Int×Int×Int)
def Afj(k h g f b:UInt64):Ga:=
(Hv (Ad k:Int) (Ad h:Int) (Ad g:Int) (Ad f:Int) (Ad b:Int)).bind fun v=>
if(!v)then
some (0,0,0,0,0,12)
else
(Tl (Ad k:Int) (Ad h:Int) (Ad g:Int) (Ad f:Int) (Ad b:Int)).bind fun w=>
if w then
some (0,0,0,0,0,4)
else
some ((Ad k:Int),(Ad h:Int),(Ad g:Int),(Ad f:Int),(Ad b:Int),0)
def Af8:=Afj
def Af9(j6:UInt64→UInt64→UInt64→UInt64→UInt64→Ga)(a:LB):Ga:=
(Bc a 4 6).bind fun u=>
(Bc a 6 8).bind fun p=>
(Bc a 8 10).bind fun o=>
(Bc a 10 14).bind fun n=>
(Bc a 14 18).bind fun m=>
(
(Dd u).bind fun k=>
(
(Dd p).bind fun h=>
(
(Dd o).bind fun g=>
(
(Dd n).bind fun f=>
(
(Dd m).bind fun b=>
(
j6 k h g f b))))))
def Agp:=Af9 Af8
def Af2(j5:LB→Ga)(a:LB):Ga:=
if(Bs (Ac a) 22)then
some (0,0,0,0,0,24)
else
(Bc a 18 22).bind fun y=>
(Bc a 0 18).bind fun aa=>
(Dd y).bind fun ab=>
(Qy aa).bind fun ac=>
if(Ay ab (Ad ac:UInt64))then
some (0,0,0,0,0,22)
else
j5 a
def Agy:=Af2 Agp
def Agj(j4:LB→Ga)(a:LB):Ga:=
(Bc a 0 (Ec 4 (Ac a))).bind fun ad=>
(Bc ([84,84,65,49]:LB) 0 (Ec 4 (Ac a))).bind fun ae=>
if(ad !=ae)then
some (0,0,0,0,0,12)
else
j4 a
def Tg:=Agj Agy
abbrev Pz:=Option (Int×Int×Int×Int×Int×Int×Int)
def Ze(b:Int)(a:LB):Pz:=
(Tg a).bind fun(k,m,n,o,p,h)=>
if(geq h 24)then
some (0,0,0,0,0,0,(-1:Int))
else
some ((Ae b 22),k,m,n,o,p,h)
def Zs:=Ze
def Zm(j2:Int→LB→Pz)(f:LB):Pz:=
(Qn f).bind fun(b,g)=>
if(geq g 24)then
some (0,0,0,0,0,0,(-1:Int))
else
if(Ay g 0)then
some (0,0,0,0,0,0,g)
else
(Bc f b (Ac f)).bind fun a=>
(Ok a ([73,68,51]:LB)).bind fun u=>
if u then
some (0,0,0,0,0,0,(-1:Int))
else
(Ok a ([65,80,69,84,65,71,69,88]:LB)).bind fun v=>
if v then
some (0,0,0,0,0,0,(-1:Int))
else
j2 b a
def Ul:=Zm Zs
def Agq(a:UInt64)(b:Bool):Option UInt64:=
if b then
some (Wm (Bk a 2) 4823603603198064275)
else
some (Bk a 2)
def Us:=Agq
def Afo(j2:UInt64→Bool→Option UInt64)(a:UInt64)(f:Int):Option UInt64:=
if(geq f 1)then
j2 a (!(Il a 9223372036854775808))
else
j2 a (Il a 9223372036854775808)
def Aam:=Afo Us
def Afi(a:UInt64):Option UInt64:=
some a
def Ag1:=Afi
def Va(j6:UInt64→Option UInt64)(bk4:UInt64→Int→Option UInt64)(b:UInt8)(a:UInt64)(f:Int):Option UInt64:=
if(Di f 0)then
(Hx (Ay f 0)).bind fun _=>
(Aam a (Fz (Bw (Ad b:Int) f) 2)).bind fun g=>
bk4 g (Bw f 2)
else
j6 a
def Ju(b:UInt8):Nat→UInt64→Int→Option UInt64
|0,_,_=>none
|q+1,a,f=>Va Ag1 (Ju b q) b a f
def Aul b:=Ju b FUEL
def Au0(j4:UInt8→UInt64→Int→Option UInt64)(h:UInt64)(b:UInt8):Option UInt64:=
j4 b h 128
def Ama:=Au0 Aul
def Ab8(a:UInt64):Option UInt64:=
some a
def Ac7:=Ab8
def Qd(j6:UInt64→Option UInt64)(bk4:UInt64→Int→Option UInt64)(b:LB)(a:UInt64)(f:Int):Option UInt64:=
if(Bs f (Ac b))then
(Ak b f).bind fun g=>
(Ama a g).bind fun h=>
bk4 h (Ae f 1)
else
j6 a
def Hm(b:LB):Nat→UInt64→Int→Option UInt64
|0,_,_=>none
|q+1,a,f=>Qd Ac7 (Hm b q) b a f
def Aqp b:=Hm b FUEL
def Aql(j4:LB→UInt64→Int→Option UInt64)(k:UInt64)(b:LB):Option UInt64:=
j4 b k 0
def Wd:=Aql Aqp
def Ams(a:LB):Option UInt64:=
(Wd 0 a).bind fun b=>
some b
def Ur(a:LB):Option (LB):=
(Ams a).bind fun b=>
(Du b 8).bind fun f=>
some f
abbrev Dp:=Option (LI×Int)
def Afs(f:LI):Dp:=
(Gt f).bind fun h=>
if(Ay h 0)then
some (([]:LI),12)
else
some (f,0)
def Ud:=Afs
def Ua(j8:LI→Dp)(bk6:Int→LI→Dp)(b:LB)(a g:Int)(f:LI):Dp:=
if(Bs g a)then
(Bc b (Bk 4 g) (Ae (Bk 4 g) 4)).bind fun k=>
(Dd k).bind fun m=>
(Cw f ([(Ad m:Int)]:LI)).bind fun n=>
bk6 (Ae g 1) n
else
j8 f
def Jm(b:LB)(a:Int):Nat→Int→LI→Dp
|0,_,_=>none
|q+1,g,f=>Ua Ud (Jm b a q) b a g f
def Afk b a:=Jm b a FUEL
def Af5(j6:LB→Int→Int→LI→Dp)(b:LB)(a:Int):Dp:=
j6 b a 0 ([]:LI)
def Aft:=Af5 Afk
def Afz(j5:LB→Int→Dp)(b:LB)(a:Int):Dp:=
if((Bs a 1)||(Di a 1000))then
some (([]:LI),2)
else
if(Bs (Ac b) (Ae (Bk 4 a) 4))then
some (([]:LI),24)
else
(Bc b (Bk 4 a) (Ae (Bk 4 a) 4)).bind fun o=>
(Bc b 0 (Bk 4 a)).bind fun p=>
(Dd o).bind fun u=>
(Qy p).bind fun v=>
if(Ay u (Ad v:UInt64))then
some (([]:LI),22)
else
j5 b a
def Abt:=Afz Aft
abbrev Io:=Option (Int×LI×Int)
def Aas(b g:Int)(h:LI):Io:=
if(geq g 24)then
some (0,([]:LI),(-1:Int))
else
some ((Ae (Ae b (Bk 4 (Ac h))) 4),h,g)
def Ab4:=Aas
def Abv(j4:Int→Int→LI→Io)(a:LB)(f k m n o b:Int):Io:=
(Bc a b (Ac a)).bind fun p=>
(Fe f k m n o).bind fun u=>
(Abt p (Ac u)).bind fun(h,g)=>
j4 b g h
def Dg:=Abv Ab4
def Hn(j3:LB→Int→Int→Int→Int→Int→Int→Io)(a:LB)(f k m n o:Int)(v:LB):Io:=
if(geq f 2)then
if(Bs (Ac a) 8)then
some (0,([]:LI),(-1:Int))
else
(Bc a 0 8).bind fun w=>
(Ur v).bind fun y=>
if(w !=y)then
some (0,([]:LI),26)
else
j3 a f k m n o 8
else
j3 a f k m n o 0
def Ej:=Hn Dg
def Aly(b:UInt64)(a:LB):Option (UInt64×Int):=
if(Di (Ac a) 100000)then
some (0,4)
else
(Wd b a).bind fun f=>
some (f,0)
def Apb(a:LB):Option (UInt64×Int):=
(Aly 0 a).bind fun(b,f)=>
some (b,f)
def Awt(a:LX):Option (LX):=
some a
def Awu:=Awt
def Aj4(bk6:UInt64→Int→LX→Option (LX))(b:UInt64)(f:Int)(a:LX)(g:Int32):Option (LX):=
(Ak a f).bind fun _=>
(Kw a f g).bind fun h=>
bk6 (Bw b 256) (Ae f 1) h
def Yk bk6:=Aj4 bk6
def Ye(j8:UInt64→Int→LX→Int32→Option (LX))(j10:LX→Option (LX))(b:UInt64)(f:Int)(a:LX):Option (LX):=
if(Bs f 8)then
if(Di (Ad (Aaj b 256):Int32) 127)then
j8 b f a (Ah (Ad (Aaj b 256):Int32) 256)
else
j8 b f a (Ad (Aaj b 256):Int32)
else
j10 a
def Jc:Nat→UInt64→Int→LX→Option (LX)
|0,_,_,_=>none
|q+1,b,f,a=>Ye (Yk (Jc q)) Awu b f a
def Ayd:=Jc FUEL
def Ay6(j6:UInt64→Int→LX→Option (LX))(k:UInt64):Option (LX):=
j6 k 0 (List.replicate 16 (0:Int32))
def Asx:=Ay6 Ayd
def Abh(a:LB):Option (LX×Int):=
if(Di (Ac a) 64)then
some (([(0:Int32),(0:Int32),(0:Int32),(0:Int32),(0:Int32),(0:Int32),(0:Int32),(0:Int32),(0:Int32),(0:Int32),(0:Int32),(0:Int32),(0:Int32),(0:Int32),(0:Int32),(0:Int32)]:LX),2)
else
(Apb a).bind fun(b,g)=>
(Asx b).bind fun f=>
some (f,0)
def Tu(a:Int):Option Int:=
if(geq a 8)then
some 128
else
if(geq a 16)then
some 32768
else
if(geq a 24)then
some 8388608
else
some 0
def Yc(a b:Int):Option Int:=
if((Bs a 1)||(Di a 6))then
some 2
else
(Tu b).bind fun f=>
if(geq f 0)then
some 2
else
some 0
def Lz(a f b:Int):Option Int:=
(Yc a f).bind fun g=>
if((Ay g 0)||(Bs b 1))then
some 2
else
(Hx (Ay a 0)).bind fun _=>
if(Di b (Bw 4000 a))then
some 2
else
some 0
def Wh(b:LB):Option (LB):=
(Qy b).bind fun a=>
(Cw ([]:LB) b).bind fun f=>
(Cw f ([(Ad a:UInt8),(Ad (Bv a (GI.toZ (8:UInt64)).toNat):UInt8),(Ad (Bv a (GI.toZ (16:UInt64)).toNat):UInt8),(Ad (Bv a (GI.toZ (24:UInt64)).toNat):UInt8)]:LB)).bind fun g=>
some g
def Oh(a:LB):Option Int:=
if(Bs (Ac a) 5)then
some 24
else
if(Di (Ac a) 41254)then
some 4
else
(Bc a 0 (Ah (Ac a) 4)).bind fun b=>
(Wh b).bind fun f=>
if(f !=a)then
some 22
else
some 0
def Lr:Option (Int×Int×UInt64×UInt64):=
some (10,10,16384,16384)
def Atb(a:UInt64):Option UInt64:=
some a
def Atd:=Atb
def Rk(j6:UInt64→Option UInt64)(bk4:UInt64→Int→Option UInt64)(b:Int)(a:UInt64)(f:Int):Option UInt64:=
if(Bs f b)then
bk4 (Bk a 2) (Ae f 1)
else
j6 a
def Iu(b:Int):Nat→UInt64→Int→Option UInt64
|0,_,_=>none
|q+1,a,f=>Rk Atd (Iu b q) b a f
def Ato b:=Iu b FUEL
def Ata(j4:Int→UInt64→Int→Option UInt64)(b:Int):Option UInt64:=
j4 b 1 0
def Fg:=Ata Ato
def Aew(a g:Int)(h k:UInt64)(b:UInt32):Option Bool:=
(Fg a).bind fun f=>
some (Bs (Ad b:UInt64) f)
def Ac4(a g:Int)(h k:UInt64)(b:UInt32):Option UInt32:=
(Fg a).bind fun f=>
some (Ad (Ah (Ad b:UInt64) f):UInt32)
abbrev Ww:=Option (Int×UInt64)
def Afh(b:Int)(a f:UInt64):Ww:=
if(Bs b 24)then
(Fg (Ae b 5)).bind fun g=>
if(Di (Ah (Ae a f) (Bw a 16)) g)then
some ((Ae b 1),(Ah (Ae a f) (Bw a 16)))
else
some (b,(Ah (Ae a f) (Bw a 16)))
else
some (b,(Ah (Ae a f) (Bw a 16)))
def Ue:=Afh
def Afp(j2:Int→UInt64→UInt64→Ww)(b:Int)(a f:UInt64):Ww:=
if(Di b 0)then
(Fg (Ae b 4)).bind fun h=>
if(Bs (Ah (Ae a f) (Bw a 16)) h)then
some ((Ah b 1),(Ah (Ae a f) (Bw a 16)))
else
j2 b a f
else
j2 b a f
def Tq:=Afp Ue
abbrev Rs:=Option (Int×Int×UInt64×UInt64)
def Abi(h:UInt32)(f a:Int)(g b:UInt64)(o:Int)(p:UInt64):Rs:=
(Tq f g (Ad h:UInt64)).bind fun(aa,ab)=>
some (aa,o,ab,p)
def Qh:=Abi
def Aa3(j2:UInt32→Int→Int→UInt64→UInt64→Int→UInt64→Rs)(f a:Int)(g b:UInt64)(h:UInt32):Rs:=
(Aew f a g b h).bind fun u=>
if(!u)then
(
(
(Ac4 f a g b h).bind fun k=>
(Tq a b (Ad k:UInt64)).bind fun(m,n)=>
j2 h f a g b m n))
else
j2 h f a g b a b
def Xa:=Aa3 Qh
abbrev Er:=Option (Int×Int×UInt64×UInt64)
def Aqz(a b:Int)(f g:UInt64):Er:=
some (a,b,f,g)
def Aqu:=Aqz
def Aaw(j6:Int→Int→UInt64→UInt64→Er)(bk4:Int→Int→Int→UInt64→UInt64→Er)(h:Int)(k:LU)(m a b:Int)(f g:UInt64):Er:=
if(Bs m (Ac k))then
(Ak k m).bind fun n=>
(Xa a b f g n).bind fun(o,p,u,v)=>
bk4 (Ae m h) o p u v
else
j6 a b f g
def Ky(h:Int)(k:LU):Nat→Int→Int→Int→UInt64→UInt64→Er
|0,_,_,_,_,_=>none
|q+1,m,a,b,f,g=>Aaw Aqu (Ky h k q) h k m a b f g
def Ary h k:=Ky h k FUEL
def Aci(j4:Int→LU→Int→Int→Int→UInt64→UInt64→Er)(h:Int)(k:LU):Er:=
(Lr).bind fun(w,y,aa,ab)=>
(Hx (Ay h 0)).bind fun _=>
j4 h k (Fz (Ac k) h) w y aa ab
def Of:=Aci Ary
def Alp(a:Int):Option Int:=
some (Fz a 2)
def Akm:=Alp
def Ym(j6:Int→Option Int)(bk4:Int→Int→Option Int)(b a f:Int):Option Int:=
if(Bs f (Fz b 8))then
bk4 (Bw a 2) (Ae f 1)
else
j6 a
def Lo(b:Int):Nat→Int→Int→Option Int
|0,_,_=>none
|q+1,a,f=>Ym Akm (Lo b q) b a f
def Ak4 b:=Lo b FUEL
def Ake(j4:Int→Int→Int→Option Int)(g:LB)(k b:Int):Option Int:=
(Ak g (Bw b 8)).bind fun h=>
j4 b (Ad h:Int) 0
def Kf:=Ake Ak4
abbrev Dw:=Option (LB×Int)
def Ah9(b g a:Int)(f:LB):Dw:=
(Ak f (Bw a 8)).bind fun _=>
(Ak f (Bw a 8)).bind fun m=>
(Ak f (Bw a 8)).bind fun _=>
(Kw f (Bw a 8) (Ae m (Ad (Bk b g):UInt8))).bind fun n=>
some (n,(Ae a 1))
def Wu:=Ah9
def Vz(j8:Int→Int→Int→LB→Dw)(bk6:Int→Int→Dw)(b a:Int)(f:LB)(g h:Int):Dw:=
if(Bs h (Fz a 8))then
bk6 (Bk g 2) (Ae h 1)
else
j8 b g a f
def Ks(b a:Int)(f:LB):Nat→Int→Int→Dw
|0,_,_=>none
|q+1,g,h=>Vz Wu (Ks b a f q) b a f g h
def Aif b a f:=Ks b a f FUEL
def Ah7(j6:Int→Int→LB→Int→Int→Dw)(b a:Int)(f:LB):Dw:=
j6 b a f 1 0
def Wq:=Ah7 Aif
def Ain(j5:Int→Int→LB→Dw)(k:LB)(a b:Int):Dw:=
if(geq (Fz a 8) 0)then
(Cw k ([(0:UInt8)]:LB)).bind fun o=>
j5 b a o
else
j5 b a k
def Vq:=Ain Wq
abbrev Dy:=Option (LB×Int)
def Aoe(a:Int)(b:LB):Dy:=
some (b,a)
def Apv:=Aoe
def Pa(j6:Int→LB→Dy)(bk4:Int→Int→LB→Dy)(f:Int)(g:LB)(h k a:Int)(b:LB):Dy:=
if(Bs k f)then
(Kf g h k).bind fun m=>
(Vq b a m).bind fun(n,o)=>
bk4 (Ae k 1) o n
else
j6 a b
def Gz(f:Int)(g:LB)(h:Int):Nat→Int→Int→LB→Dy
|0,_,_,_=>none
|q+1,k,a,b=>Pa Apv (Gz f g h q) f g h k a b
def Ap8 f g h:=Gz f g h FUEL
def Ao0(j4:Int→LB→Int→Int→Int→LB→Dy)(g:LB)(h p f:Int):Dy:=
j4 f g h p 0 ([]:LB)
def Agd:=Ao0 Ap8
def Atf(a:UInt64):Option UInt64:=
some a
def Ati:=Atf
def Rw(j6:UInt64→Option UInt64)(bk4:UInt64→Int→Option UInt64)(b:Int)(f:LB)(g:Int)(a:UInt64)(h:Int):Option UInt64:=
if(Il h 0)then
(Kf f g (Ae b h)).bind fun k=>
bk4 (Ae (Bk 2 a) (Ad k:UInt64)) (Ah h 1)
else
j6 a
def Iq(b:Int)(f:LB)(g:Int):Nat→UInt64→Int→Option UInt64
|0,_,_=>none
|q+1,a,h=>Rw Ati (Iq b f g q) b f g a h
def Adf b f g:=Iq b f g FUEL
def Adl(j4:Int→LB→Int→UInt64→Int→Option UInt64)(f:LB)(g b m:Int):Option UInt64:=
j4 b f g 0 (Ah m 1)
def Qf:=Adl Adf
abbrev Gp:=Option (Int×Int)
def Ah6(b a:Int)(g:LB)(f:Int):Gp:=
if(geq a 48)then
some (a,(Ae b a))
else
if(Il (Ae b a) f)then
some ((-1:Int),0)
else
some (a,(Ae (Ae b a) 1))
def Wv:=Ah6
def Wr(j6:Int→Int→LB→Int→Gp)(bk4:Int→Gp)(b:Int)(g:LB)(f a:Int):Gp:=
if((Bs (Ae b a) f)&&(Bs a 48))then
(Kf g f (Ae b a)).bind fun h=>
if(geq h 1)then
bk4 (Ae a 1)
else
j6 b a g f
else
j6 b a g f
def Kt(b:Int)(g:LB)(f:Int):Nat→Int→Gp
|0,_=>none
|q+1,a=>Wr Wv (Kt b g f q) b g f a
def Aww b g f:=Kt b g f FUEL
def Awy(j4:Int→LB→Int→Int→Gp)(g:LB)(f b:Int):Gp:=
j4 b g f 0
def Apx:=Awy Aww
def Ac8(b:UInt32)(f:Int):Option Int:=
(Fg f).bind fun a=>
(Hx (Ay a 0)).bind fun _=>
some (Ad (Ec 48 (Bw (Ad b:UInt64) a)):Int)
abbrev Yp:=Option (UInt32×Int×Int)
def Wb(g a b:Int)(h:LB)(f k:Int):Yp:=
if((Bs a 0)||(Bs (Ah f b) k))then
some (0,0,24)
else
(Qf h f b k).bind fun m=>
if(Bs a 48)then
(Fg g).bind fun o=>
some ((Ad (Ae (Bk (Ad a:UInt64) o) m):UInt32),(Ae b k),0)
else
(Ac8 (Ad m:UInt32) g).bind fun p=>
if(Bs p a)then
some (0,0,12)
else
some ((Ad m:UInt32),(Ae b k),0)
def Wl:=Wb
def Aid(j2:Int→Int→Int→LB→Int→Int→Yp)(h:LB)(f n g:Int):Yp:=
if(Il n f)then
some (0,0,24)
else
(Apx h f n).bind fun(a,b)=>
if(geq a 48)then
j2 g a b h f 32
else
j2 g a b h f g
def Aey:=Aid Wl
def Aed(g:LB)(b a f n:Int)(v w:UInt64):Option (UInt32×Int×Int):=
if(Il a b)then
some (0,0,24)
else
(Kf g b a).bind fun o=>
if(geq o 0)then
if(Bs (Ah (Ah b a) 1) f)then
some (0,0,24)
else
(Qf g b (Ae a 1) f).bind fun p=>
some ((Ad p:UInt32),(Ae (Ae a 1) f),0)
else
(Aey g b (Ae a 1) n).bind fun(h,u,k)=>
if(Ay k 0)then
some (0,0,k)
else
(Fg f).bind fun m=>
if(Di (Ae (Ad h:UInt64) m) 4294967295)then
some (0,0,12)
else
some ((Ad (Ae (Ad h:UInt64) m):UInt32),u,0)
abbrev Bd:=Option (LU×Int)
def Atk(b:LU):Bd:=
some (b,0)
def Atc:=Atk
def Rq(j18:LU→Bd)(bk16:Int→Bd)(a:LB)(b:LU)(m:Int):Bd:=
if(Bs m (Bk 8 (Ac a)))then
(Kf a (Bk 8 (Ac a)) m).bind fun n=>
if(Ay n 0)then
some (b,12)
else
bk16 (Ae m 1)
else
j18 b
def Iv(a:LB)(b:LU):Nat→Int→Bd
|0,_=>none
|q+1,m=>Rq Atc (Iv a b q) a b m
def Adk a b:=Iv a b FUEL
def Ad1(j16:LB→LU→Int→Bd)(f:Int)(a:LB)(b:LU):Bd:=
if(Di (Ah (Bk 8 (Ac a)) f) 7)then
some (b,12)
else
j16 a b f
def Ro:=Ad1 Adk
def Adq(bk10:Int→Int→LU→Bd)(g h:Int)(a:LB)(f k:Int)(b:LU)(o p:Int)(u v:UInt64):Bd:=
(Agd a (Bk 8 (Ac a)) f (Ec (Ae f 81) (Bk 8 (Ac a)))).bind fun(y,aa)=>
(Aed y aa 0 o p u v).bind fun(ab,ac,w)=>
if(Ay w 0)then
some (b,w)
else
(Cw b ([ab]:LU)).bind fun ad=>
bk10 (Ae f ac) (Ae k 1) ad
def Iw bk10:=Adq bk10
def Adn(j13:Int→Int→LU→Int→Int→UInt64→UInt64→Bd)(j15:Int→LB→LU→Bd)(g h:Int)(a:LB)(f k:Int)(b:LU):Bd:=
if(Bs k (Bk h g))then
(Lr).bind fun(n,ae,af,ag)=>
if(Il k g)then
(Of g b).bind fun(ah,ai,aj,ak)=>
j13 f k b ah ai aj ak
else
j13 f k b n ae af ag
else
j15 f a b
def Em(g h:Int)(a:LB):Nat→Int→Int→LU→Bd
|0,_,_,_=>none
|q+1,f,k,b=>Adn (Iw (Em g h a q) g h a) Ro g h a f k b
def Ath g h a:=Em g h a FUEL
def Agx(j10:Int→Int→LB→Int→Int→LU→Bd)(g h:Int)(a:LB):Bd:=
j10 g h a 0 0 ([]:LU)
def Aa9:=Agx Ath
def Ayj(a:Int):Option (Int×Int):=
if(geq a 8)then
some (4,0)
else
if((geq a 16)||(geq a 24))then
some (5,0)
else
some (0,2)
def Bbv(a:Int)(b:LX):Option (Int×LX×LX×Int):=
(Ayj a).bind fun(g,f)=>
if(Ay f 0)then
some (0,(List.replicate 16 (0:Int32)),(List.replicate 16 (0:Int32)),2)
else
if(geq a 16)then
some (9,b,(List.replicate 16 (0:Int32)),0)
else
some (10,b,(List.replicate 16 (0:Int32)),0)
def Ape(a:Int)(b:LX):Option (Int×Int32×Int×LX×LX×Int):=
(Bbv a b).bind fun(f,g,h,k)=>
if(Ay k 0)then
some (0,0,0,(List.replicate 16 (0:Int32)),(List.replicate 16 (0:Int32)),2)
else
some (a,0,f,g,h,0)
def Acv(a:UInt32):Option Int32:=
if(geq (Aaj a 2) 0)then
some (Ad (Bw a 2):Int32)
else
some (Ad (Bw (Azu (Ae (Ad a:Int) 1)) 2):Int32)
def Cl(a:Int):Option Int32:=
some (Ad (Ad (Ad a:UInt64):UInt32):Int32)
def Ait(a:Int):Option Int32:=
some (Ad a:Int32)
def Ah8:=Ait
def Vy(j6:Int→Option Int32)(bk4:Int→Int→Option Int32)(h:Int)(f g:LX)(a b:Int):Option Int32:=
if(Bs b 16)then
(Ak f b).bind fun _=>
(Ak g b).bind fun _=>
(Ak f b).bind fun k=>
(Ak g b).bind fun m=>
(Cl (Bk (Ad k:Int) (Ad m:Int))).bind fun n=>
(Cl (Ae a (Ad n:Int))).bind fun o=>
bk4 (Ad o:Int) (Ae b 1)
else
j6 a
def Km(h:Int)(f g:LX):Nat→Int→Int→Option Int32
|0,_,_=>none
|q+1,a,b=>Vy Ah8 (Km h f g q) h f g a b
def Aw3 h f g:=Km h f g FUEL
def Awz(j4:Int→LX→LX→Int→Int→Option Int32)(h:Int)(f g:LX):Option Int32:=
j4 h f g 0 0
def Apa:=Awz Aw3
def Age(b:Int)(f g:LX)(a:Int):Option Int32:=
(Apa b f g).bind fun k=>
(Cl (Ae (Ad k:Int) (Bw a 2))).bind fun h=>
(Hx (Ay a 0)).bind fun _=>
(Hx (Ay a 0)).bind fun _=>
if(Bs (Fz (Ad h:Int) a) 0)then
some (Ad (Ah (Bw (Ad h:Int) a) 1):Int32)
else
some (Ad (Bw (Ad h:Int) a):Int32)
def Uj:=Age
def Af0(j2:Int→LX→LX→Int→Option Int32)(b:Int)(f g:LX):Option Int32:=
if(geq b 9)then
j2 b f g 512
else
j2 b f g 1024
def Ab2:=Af0 Uj
def Aao(a:Int):Option Int32:=
if(geq a 0)then
some 4
else
if(gle a 3)then
some 2
else
some 1
def So(a:Int32):Option Int32:=
if(Bs a 0)then
some (-1:Int32)
else
if(Di a 0)then
some 1
else
some 0
abbrev Ea:=Option (Int×LX×LX)
def Aor(g:Int)(b a:LX):Ea:=
some (g,b,a)
def Apj:=Aor
def Pb(j6:Int→LX→LX→Ea)(bk4:Int→LX→Ea)(h:Int32)(g:Int)(a:LX)(f:Int)(b:LX):Ea:=
if(Bs f 16)then
(Ak b f).bind fun _=>
(Ak a f).bind fun _=>
(Ak b f).bind fun k=>
(Ak a f).bind fun m=>
(Aao f).bind fun n=>
(So m).bind fun o=>
(So h).bind fun p=>
(Ak b f).bind fun _=>
(Kw b f (Ae k (Bk (Bk n o) p))).bind fun u=>
bk4 (Ae f 1) u
else
j6 g b a
def Gu(h:Int32)(g:Int)(a:LX):Nat→Int→LX→Ea
|0,_,_=>none
|q+1,f,b=>Pb Apj (Gu h g a q) h g a f b
def Aoh h g a:=Gu h g a FUEL
def Ap7(j4:Int32→Int→LX→Int→LX→Ea)(g:Int)(v a:LX)(h:Int32):Ea:=
j4 h g a 0 v
def Afw:=Ap7 Aoh
abbrev Ek:=Option (Int×LX×LX)
def Ab6(b:Int32)(f:Int)(g a:LX):Ek:=
(Ak a 0).bind fun _=>
(Kw a 0 b).bind fun k=>
some (f,g,k)
def Aal:=Ab6
def Qg(j6:Int32→Int→LX→LX→Ek)(bk4:Int→LX→Ek)(b:Int32)(f:Int)(g:LX)(h:Int)(a:LX):Ek:=
if(Di h 0)then
(Ak a (Ah h 1)).bind fun _=>
(Ak a (Ah h 1)).bind fun m=>
(Ak a h).bind fun _=>
(Kw a h m).bind fun n=>
bk4 (Ah h 1) n
else
j6 b f g a
def Hh(b:Int32)(f:Int)(g:LX):Nat→Int→LX→Ek
|0,_,_=>none
|q+1,h,a=>Qg Aal (Hh b f g q) b f g h a
def Aro b f g:=Hh b f g FUEL
def Aqy(j4:Int32→Int→LX→Int→LX→Ek)(f:Int)(g o:LX)(b:Int32):Ek:=
j4 b f g 15 o
def Aij:=Aqy Aro
def Tw(a:Int)(b f:LX)(g:Int32):Option (Int32×Int×LX×LX):=
(Ab2 a b f).bind fun k=>
(Cl (Ae (Ad g:Int) (Ad k:Int))).bind fun h=>
(Afw a b f g).bind fun(m,n,o)=>
(Aij m n o h).bind fun(p,u,v)=>
some (h,p,u,v)
def Aat(b:Int32)(a:Int):Option Int32:=
(Hx (Ay a 0)).bind fun _=>
(Hx (Ay a 0)).bind fun _=>
if(Bs (Fz (Bk (Ah a 1) (Ad b:Int)) a) 0)then
some (Ad (Ah (Bw (Bk (Ah a 1) (Ad b:Int)) a) 1):Int32)
else
some (Ad (Bw (Bk (Ah a 1) (Ad b:Int)) a):Int32)
def Qq:=Aat
def Aco(j2:Int32→Int→Option Int32)(f:Int)(b:Int32):Option Int32:=
if(geq f 5)then
j2 b 32
else
j2 b 16
def Og:=Aco Qq
def Wa(b:Int)(a:Int32)(h:Int)(k m:LX):Option Int:=
if(geq b 8)then
(Og 4 a).bind fun f=>
some (Ad f:Int)
else
(Og 5 a).bind fun g=>
some (Ad g:Int)
def Up(a:Int)(k:Int32)(b:Int)(f g:LX)(m:Int32):Option (Int32×Int×Int32×Int×LX×LX):=
(Tw b f g m).bind fun(n,o,p,u)=>
(Wa a k b f g).bind fun v=>
(Cl (Ae (Ad n:Int) v)).bind fun h=>
some (h,a,h,o,p,u)
def Qm(a:Int)(b:LX):Option Int:=
if((Bs a 1)||(Di a 6))then
some 2
else
if(Di (Ac b) 4000)then
some 4
else
(Hx (Ay a 0)).bind fun _=>
if(Di (Fz (Ac b) a) 0)then
some 2
else
some 0
def Ao9(b:LX):Option (LX):=
some b
def Aou:=Ao9
def Pe(j8:LX→Option (LX))(bk6:Int→LX→Option (LX))(a:LX)(f:Int)(b:LX):Option (LX):=
if(Il f 0)then
(Ak b (Ae f 1)).bind fun _=>
(Ak a f).bind fun m=>
(Ak b (Ae f 1)).bind fun n=>
(Cl (Ah (Ad n:Int) (Ad m:Int))).bind fun o=>
(Ak b f).bind fun _=>
(Kw b f o).bind fun p=>
bk6 (Ah f 1) p
else
j8 b
def Gx(a:LX):Nat→Int→LX→Option (LX)
|0,_,_=>none
|q+1,f,b=>Pe Aou (Gx a q) a f b
def Ao1 a:=Gx a FUEL
def Zk(j6:LX→Int→LX→Option (LX))(a g:LX):Option (LX):=
j6 a (Ah (Ac a) 2) g
def Pq:=Zk Ao1
def Aac(j5:LX→LX→Option (LX))(a:LX):Option (LX):=
(mkI (Ac a) (0:Int32)).bind fun k=>
(Hx (geq (Ac a) (Ac a))).bind fun _=>
(Ak a (Ah (Ac a) 1)).bind fun u=>
(Ak k (Ah (Ac a) 1)).bind fun _=>
(Kw k (Ah (Ac a) 1) u).bind fun h=>
if(Di (Ac a) 1)then
(Ak a (Ah (Ac a) 1)).bind fun v=>
(Ak a (Ah (Ac a) 2)).bind fun w=>
(Cl (Ae (Ad v:Int) (Bw (Ad w:Int) 2))).bind fun y=>
(Ak h (Ah (Ac a) 1)).bind fun _=>
(Kw h (Ah (Ac a) 1) y).bind fun aa=>
j5 a aa
else
j5 a h
def Uu:=Aac Pq
abbrev Fy:=Option (LX×Int)
def Aua(f:LX):Fy:=
some (f,0)
def Auo:=Aua
def Af7(j6:LX→Fy)(bk4:Int→LX→Fy)(a:Int)(b:LX)(g:Int)(f:LX):Fy:=
if(Bs g (Ac b))then
(Bc b g (Ae g a)).bind fun h=>
(Uu h).bind fun k=>
(Cw f k).bind fun m=>
bk4 (Ae g a) m
else
j6 f
def Ni(a:Int)(b:LX):Nat→Int→LX→Fy
|0,_,_=>none
|q+1,g,f=>Af7 Auo (Ni a b q) a b g f
def Avg a b:=Ni a b FUEL
def Afu(j4:Int→LX→Int→LX→Fy)(a:Int)(b:LX):Fy:=
(Qm a b).bind fun n=>
if(Ay n 0)then
(Qm a b).bind fun o=>
some (([]:LX),o)
else
j4 a b 0 ([]:LX)
def Ab5:=Afu Avg
def Zw(a f:Int)(w:LX):Option (LX):=
(Ab5 a w).bind fun(aj,ai)=>
some aj
def Oz:=Zw
def Zp(bk18:Int→LX→Option (LX))(b:LU)(a f:Int)(g:LX)(h:Int)(m:LX):Option (LX):=
bk18 (Ae h 1) m
def Zv bk18:=Zp bk18
def Zx(bk26:Int→LX→Int→Int32→Int→LX→LX→Option (LX))(b:LU)(h a f:Int)(g:LX)(k:Int)(af:LX)(y:Int)(aa:Int32)(ab:Int)(ac ad:LX):Option (LX):=
bk26 (Ae k a) af y aa ab ac ad
def Aad bk26:=Zx bk26
def Zz(j30:Int→LX→Int→Int32→Int→LX→LX→Option (LX))(b:LU)(h a f:Int)(g:LX)(k:Int)(ae:Int32)(m:LX)(n:Int)(o:Int32)(p:Int)(u v:LX)(y:Int)(aa:Int32)(ab:Int)(ac ad:LX):Option (LX):=
(Ak m k).bind fun _=>
(Kw m k ae).bind fun af=>
j30 k af y aa ab ac ad
def Zo bk26 b h a f g:=Zz (Aad bk26 b h a f g) b h a f g
def Zt(j29:Int→Int32→LX→Int→Int32→Int→LX→LX→Int→Int32→Int→LX→LX→Option (LX))(j32:Int→LX→Option (LX))(b:LU)(a f:Int)(g:LX)(h k:Int)(m:LX)(n:Int)(o:Int32)(p:Int)(u v:LX):Option (LX):=
if(Bs k (Ac b))then
(Ak b k).bind fun ah=>
(
(Acv ah).bind fun ag=>
(
(Up n o p u v ag).bind fun(ae,y,aa,ab,ac,ad)=>
j29 k ae m n o p u v y aa ab ac ad))
else
j32 h m
def Kb(bk18:Int→LX→Option (LX))(b:LU)(a f:Int)(g:LX)(h:Int):Nat→Int→LX→Int→Int32→Int→LX→LX→Option (LX)
|0,_,_,_,_,_,_,_=>none
|q+1,k,m,n,o,p,u,v=>Zt (Zo (Kb bk18 b a f g h q) b h a f g) (Zv bk18 b a f g) b a f g h k m n o p u v
def Zg bk18 b a f g h:=Kb bk18 b a f g h FUEL
def Pn(j26:Int→Int→LX→Int→Int32→Int→LX→LX→Option (LX))(j34:Int→Int→LX→Option (LX))(b:LU)(a f:Int)(g:LX)(h:Int)(w:LX):Option (LX):=
if(Bs h a)then
(Ape f g).bind fun(ak,ai,al,am,an,aq)=>
j26 h h w ak ai al am an
else
j34 a f w
def Ey(b:LU)(a f:Int)(g:LX):Nat→Int→LX→Option (LX)
|0,_,_=>none
|q+1,h,w=>Pn (Zg (Ey b a f g q) b a f g) Oz b a f g h w
def Zd b a f g:=Ey b a f g FUEL
def Acg(j18:LU→Int→Int→LX→Int→LX→Option (LX))(a f:Int)(g:LX)(b:LU):Option (LX):=
(mkI (Ac b) (0:Int32)).bind fun ao=>
(Hx (geq (Ac b) (Ac b))).bind fun _=>
j18 b a f g 0 ao
def Oo:=Acg Zd
def Atn:Option Int:=
some 0
def Atj:=Atn
def En(j6:Option Int)(bk4:Int→Option Int)(a:LX)(b f:Int):Option Int:=
if(Bs f (Ac a))then
(Ak a f).bind fun g=>
if(Bs (Ad g:Int) (Azu b))then
some 16
else
(Ak a f).bind fun h=>
if(Il (Ad h:Int) b)then
some 16
else
bk4 (Ae f 1)
else
j6
def Be(a:LX)(b:Int):Nat→Int→Option Int
|0,_=>none
|q+1,f=>En Atj (Be a b q) a b f
def Atl a b:=Be a b FUEL
def Ir(j4:LX→Int→Int→Option Int)(k:Int)(a:LX):Option Int:=
(Tu k).bind fun b=>
if(geq b 0)then
some 2
else
if(Di (Ac a) 4000)then
some 4
else
j4 a b 0
def Bl:=Ir Atl
def Wf(g f:Int)(a:LX):Option (LX×Int):=
(Bl f a).bind fun b=>
if(Ay b 0)then
some (([]:LX),b)
else
some (a,0)
abbrev Rm:=Option (LX×Int)
def Hk(f a b:Int)(g:LX)(h:LU):Rm:=
if(Ay f 0)then
some (([]:LX),f)
else
(
(
(Oo a b g h).bind fun m=>
(Wf a b m).bind fun(n,o)=>
some (n,o)))
def Hf:=Hk
def Qo(j2:Int→Int→Int→LX→LU→Rm)(a b:Int)(g:LX)(p:Int)(k:LB):Rm:=
(Lz a b p).bind fun y=>
if(Ay y 0)then
some (([]:LX),2)
else
(Oh k).bind fun aa=>
if(Ay aa 0)then
(Oh k).bind fun ab=>
some (([]:LX),ab)
else
(Bc k 0 (Ah (Ac k) 4)).bind fun ac=>
(Aa9 a p ac).bind fun(h,f)=>
j2 f a b g h
def Hz:=Qo Hf
def Wj(a b:Int):Option (LB):=
if(geq a 24)then
(Cw ([(Ad (Fz b 256):UInt8),(Ad (Fz (Bw b 256) 256):UInt8)]:LB) ([(Ad (Bw b 65536):UInt8)]:LB)).bind fun g=>
some g
else
some ([(Ad (Fz b 256):UInt8),(Ad (Fz (Bw b 256) 256):UInt8)]:LB)
def Kn:=Wj
def Ah1(j2:Int→Int→Option (LB))(a:Int)(f:Int32):Option (LB):=
if(geq a 8)then
some ([(Ad (Ae (Ad f:Int) 128):UInt8)]:LB)
else
if(Bs (Ad f:Int) 0)then
(Tu a).bind fun h=>
j2 a (Ae (Ad f:Int) (Bk 2 h))
else
j2 a (Ad f:Int)
def Aei:=Ah1 Kn
abbrev Fa:=Option (LB×Int)
def Atp(b:LB):Fa:=
some (b,0)
def Atm:=Atp
def Sa(j6:LB→Fa)(bk4:Int→LB→Fa)(f:Int)(a:LX)(g:Int)(b:LB):Fa:=
if(Bs g (Ac a))then
(Ak a g).bind fun h=>
(Aei f h).bind fun k=>
(Cw b k).bind fun m=>
bk4 (Ae g 1) m
else
j6 b
def It(f:Int)(a:LX):Nat→Int→LB→Fa
|0,_,_=>none
|q+1,g,b=>Sa Atm (It f a q) f a g b
def Atq f a:=It f a FUEL
def Adw(j4:Int→LX→Int→LB→Fa)(f:Int)(a:LX):Fa:=
(Bl f a).bind fun n=>
if(Ay n 0)then
(Bl f a).bind fun o=>
some (([]:LB),o)
else
j4 f a 0 ([]:LB)
def Ys:=Adw Atq
abbrev Ry:=Option (LB×Int)
def Fp(o:LX)(f:Int)(p g:LB)(h k a m n:Int)(u:LI)(b:Int)(v:LB)(w:Bool)(y:Int):Ry:=
if(Ay f 0)then
some (([]:LB),f)
else
(Ys a o).bind fun(ac,ai)=>
some (ac,0)
def Fs:=Fp
def Fq(j2:LX→Int→LB→LB→Int→Int→Int→Int→Int→LI→Int→LB→Bool→Int→Ry)(p g:LB)(h k a m n:Int)(u:LI)(b:Int)(v:LB)(w:Bool)(y:Int):Ry:=
(Ak u b).bind fun aa=>
if(Bs (Ac g) aa)then
some (([]:LB),(-1:Int))
else
(Abh p).bind fun(ad,aj)=>
(Bc g 0 aa).bind fun ae=>
(Gq h k a m n).bind fun(af,ag)=>
(Fe h k a m n).bind fun ab=>
(Ak ab b).bind fun _=>
(Ak ab b).bind fun ah=>
(Hz af ag ad ah ae).bind fun(o,f)=>
j2 o f p g h k a m n u b v w y
def Da:=Fq Fs
abbrev Ku:=Option (LB×LB×Int×Int×Int×Int×Int×LI×Int×LB×Bool×Int×Int)
def Cj(g a:LB)(m o p u v:Int)(b:LI)(f:Int)(n:LB)(h:Bool)(k:Int):Ku:=
if(geq (Ac b) 0)then
(Ej a m o p u v g).bind fun(ag,ak,w)=>
if(Ay w 0)then
some (g,a,m,o,p,u,v,b,f,n,h,k,w)
else
(Bc a ag (Ac a)).bind fun al=>
some (g,al,m,o,p,u,v,ak,f,n,h,k,0)
else
if(geq f (Ac b))then
if(Di (Ac a) 4000)then
some (g,a,m,o,p,u,v,b,f,n,h,k,38)
else
some (g,a,m,o,p,u,v,b,f,n,h,k,(-1:Int))
else
(Da g a m o p u v b f n h k).bind fun(am,y)=>
if(Ay y 0)then
some (g,a,m,o,p,u,v,b,f,n,h,k,y)
else
(Cw ([]:LB) n).bind fun an=>
(Cw an am).bind fun ah=>
(
(
(
(Ak b f).bind fun ad=>
(
(Bc a ad (Ac a)).bind fun ae=>
some (g,ae,m,o,p,u,v,b,(Ae f 1),ah,h,k,0)))))
def Ci:=Cj
def Gy(g af:LB)(aa w ab ac y:Int)(b:LI)(f:Int)(n:LB)(h:Bool)(k:Int):Ku:=
(Dz aa w ab ac y g).bind fun aw=>
some (g,af,aa,w,ab,ac,y,b,f,n,h,k,aw)
def Ha:=Gy
def Ck(j3:LB→LB→Int→Int→Int→Int→Int→LI→Int→LB→Bool→Int→Ku)(j4:LB→LB→Int→Int→Int→Int→Int→LI→Int→LB→Bool→Int→Ku)(g a:LB)(m o p u v:Int)(b:LI)(f:Int)(n:LB)(h:Bool)(k:Int):Ku:=
if(geq m 0)then
(Ul a).bind fun(ag,aa,w,ab,ac,y,ai)=>
if(Ay ai 0)then
some (g,a,m,o,p,u,v,b,f,n,h,k,ai)
else
(
(Bc a ag (Ac a)).bind fun af=>
(
j3 g af aa w ab ac y b f n h k))
else
j4 g a m o p u v b f n h k
def cadenzaref37_take:=Ck Ha Ci
def Rz(o p:LB)(b f g h k:Int)(m:LI)(a:Int)(n:LB)(u:Bool)(v:Int):Option Bool:=
(cadenzaref37_take o p b f g h k m a n u v).bind fun(af,ag,ah,ai,aj,ak,al,am,an,ao,ap,aq,w)=>
some (geq w (-1:Int))
def Br:=Rz
def Mg(j4:LB→LB→Int→Int→Int→Int→Int→LI→Int→LB→Bool→Int→Option Bool)(o p:LB)(b f g h k:Int)(m:LI)(a:Int)(n:LB)(u:Bool)(v:Int):Option Bool:=
if(geq (Ac m) 0)then
if((Ay a 0)||(Di (Ac n) 0))then
some false
else
j4 o p b f g h k m a n u v
else
(Gt m).bind fun y=>
if(Ay y 0)then
if((true||(Bs a 0))||(Di a (Ac m)))then
some false
else
(Tj b f g h k a).bind fun aa=>
if(Di (Ac n) aa)then
some false
else
j4 o p b f g h k m a n u v
else
(Fe b f g h k).bind fun ab=>
if(((Ay (Ac m) (Ac ab))||(Bs a 0))||(Di a (Ac m)))then
some false
else
(Tj b f g h k a).bind fun ac=>
if(Di (Ac n) ac)then
some false
else
j4 o p b f g h k m a n u v
def Ml:=Mg Br
def Se(j4:LB→LB→Int→Int→Int→Int→Int→LI→Int→LB→Bool→Int→Option Bool)(j3:LB→LB→Int→Int→Int→Int→Int→LI→Int→LB→Bool→Int→Option Bool)(o p:LB)(b f g h k:Int)(m:LI)(a:Int)(n:LB)(u:Bool)(v:Int):Option Bool:=
if((geq b 0)&&((geq f 0)&&((geq g 0)&&((geq h 0)&&((geq k 0)&&true)))))then
if(((Di (Ac m) 0)||(Ay a 0))||(Di (Ac n) 0))then
some false
else
j4 o p b f g h k m a n u v
else
(Iz b f g h k).bind fun ad=>
if(Ay ad 0)then
some false
else
(Dz b f g h k o).bind fun ae=>
if(Ay ae 0)then
some false
else
j3 o p b f g h k m a n u v
def Jb:=Se Br Ml
def Um(a:Int):Option Bool:=
some (((((((geq a 4)||(geq a 12))||(geq a 16))||(geq a 22))||(geq a 24))||(geq a 26))||(geq a 38))
def Dl(h k:LB)(m n o p u:Int)(v:LI)(f:Int)(g:LB)(b:Bool)(a:Int):Option Int:=
if(Di (Ac h) 64)then
some 8
else
if((geq a 0)&&(!b))then
(Jb h k m n o p u v f g b a).bind fun w=>
if(!w)then
some 8
else
some 0
else
if((geq (Ac k) 0)&&(geq (Ac v) 0))then
if((!(((geq m 0)&&((geq n 0)&&((geq o 0)&&((geq p 0)&&((geq u 0)&&true)))))&&(geq f 0)))||(Di (Ac g) 12000))then
some 8
else
if(Ay a 0)then
if b then
some 8
else
(Um a).bind fun y=>
if(!y)then
some 8
else
some 0
else
some 0
else
if((!(false&&(geq f 0)))||(Di (Ac g) 12000))then
some 8
else
if(Ay a 0)then
if b then
some 8
else
(Um a).bind fun aa=>
if(!aa)then
some 8
else
some 0
else
some 0
abbrev Wk:=Option (LB×LB×Int×Int×Int×Int×Int×LI×Int×LB×Bool×Int)
def Afq(f:LB)(g h k m n:Int)(o:LI)(p:Int)(u:Bool)(v:Int)(a b:LB):Wk:=
(Cw ([]:LI) o).bind fun af=>
some (f,a,g,h,k,m,n,af,p,b,u,v)
def Agk:=Afq
def Ago(j2:LB→Int→Int→Int→Int→Int→LI→Int→Bool→Int→LB→LB→Wk)(f w:LB)(g h k m n:Int)(o:LI)(p:Int)(y:LB)(u:Bool)(v:Int):Wk:=
(
(
(
(Cw ([]:LB) w).bind fun a=>
(
(Cw ([]:LB) y).bind fun b=>
j2 f g h k m n o p u v a b))))
def Nl:=Ago Agk
def Hc(f g:LB)(h k m n o:Int)(p:LI)(u:Int)(v:LB)(b:Bool)(a:Int):Option Int:=
if(Ay a 0)then
some a
else
if b then
some 36
else
some 0
def Ts(a m:LB)(n o p u v:Int)(w:LI)(y:Int)(b:LB)(aa:Bool)(ab:Int):Option (LB×LB×Int×Int×Int×Int×Int×LI×Int×LB×Bool×Int):=
(
(
(Cw ([]:LB) b).bind fun f=>
some (a,([]:LB),0,0,0,0,0,([]:LI),0,f,false,0)))
def Om(b f:LB)(g h k m n:Int)(o:LI)(p:Int)(u:LB)(v:Bool)(w a:Int):Option (LB×LB×Int×Int×Int×Int×Int×LI×Int×LB×Bool×Int×Int):=
(Ts b f g h k m n o p u v w).bind fun(y,aa,ab,ac,ad,ae,af,ag,ah,ai,aj,ak)=>
some (y,aa,ab,ac,ad,ae,af,ag,ah,ai,aj,a,a)
abbrev Ko:=Option (LB×LB×Int×Int×Int×Int×Int×LI×Int×LB×Bool×Int×Int)
def Cr(bk3:LB→LB→Int→Int→Int→Int→Int→LI→Int→LB→Bool→Int→Ko)(a b:LB)(f g h k m:Int)(n:LI)(o:Int)(p:LB)(u:Bool)(v:Int):Ko:=
(cadenzaref37_take a b f g h k m n o p u v).bind fun(bb,bc,bd,be,bf,bg,bh,bi,bj,bk,bl,bm,w)=>
if(geq w (-1:Int))then
(Nl a b f g h k m n o p u v).bind fun(bn,bp,bq,br,bs,bt,bu,bv,bw,bx,bz,da)=>
some (bn,bp,bq,br,bs,bt,bu,bv,bw,bx,bz,da,0)
else
if(Ay w 0)then
(Om a b f g h k m n o p u v w).bind fun(db,dc,dd,de,df,dg,dh,di,dj,dk,dl,dm,dn)=>
some (db,dc,dd,de,df,dg,dh,di,dj,dk,dl,dm,dn)
else
bk3 bb bc bd be bf bg bh bi bj bk bl bm
def Ba:Nat→LB→LB→Int→Int→Int→Int→Int→LI→Int→LB→Bool→Int→Ko
|0,_,_,_,_,_,_,_,_,_,_,_,_=>none
|q+1,a,b,f,g,h,k,m,n,o,p,u,v=>Cr (Ba q) a b f g h k m n o p u v
def Aur:=Ba FUEL
def Nd(j3:LB→LB→Int→Int→Int→Int→Int→LI→Int→LB→Bool→Int→Ko)(al am:LB)(an ao ap aq ar:Int)(au:LI)(av:Int)(aw:LB)(ax:Bool)(ay:Int)(dp:LB):Ko:=
(Dl al am an ao ap aq ar au av aw ax ay).bind fun az=>
if(Ay az 0)then
some (([]:LB),([]:LB),0,0,0,0,0,([]:LI),0,([]:LB),false,0,az)
else
(Nl al am an ao ap aq ar au av aw ax ay).bind fun(y,aa,ab,ac,ad,ae,af,ag,ah,ai,aj,ak)=>
(Hc y aa ab ac ad ae af ag ah ai aj ak).bind fun ba=>
if(Ay ba 0)then
some (y,aa,ab,ac,ad,ae,af,ag,ah,ai,aj,ak,ba)
else
(Cw aa dp).bind fun dq=>
j3 y dq ab ac ad ae af ag ah ai aj ak
def Gc:=Nd Aur
abbrev Fw:=Option (Int×Int)
def Ve(a:LB)(f g:Int)(b h:LB)(k:Int):Fw:=
if(Bs (Ac a) k)then
some (0,24)
else
if(b==h)then
(Bc a (Ah (Ac a) k) (Ae (Ah (Ac a) k) 32)).bind fun o=>
(Sp f g).bind fun p=>
if(o !=p)then
some (0,12)
else
some (k,0)
else
some (k,0)
def Vc:=Ve
def Uv(j6:LB→Int→Int→LB→LB→Int→Fw)(a:LB)(f g:Int)(b h:LB):Fw:=
if(b==h)then
j6 a f g b h (Ae (Ae 32 f) 32)
else
j6 a f g b h (Ae 32 f)
def Un:=Uv Vc
def Af6(j5:LB→Int→Int→LB→LB→Fw)(a:LB):Fw:=
(Bc a (Ah (Ac a) 32) (Ac a)).bind fun b=>
(Tt b).bind fun(f,g,n)=>
if(!n)then
some (0,12)
else
(Jz f g true).bind fun h=>
(
if(!(b==h))then
(Jz f g false).bind fun m=>
if(b !=m)then
some (0,12)
else
j5 a f g b h
else
j5 a f g b h)
def Af1:=Af6 Un
def Agu(j4:LB→Fw)(a:LB):Fw:=
if(Bs (Ac a) 32)then
some (0,6)
else
(Bc a (Ah (Ac a) 32) (Ae (Ah (Ac a) 32) 8)).bind fun u=>
if(u !=([65,80,69,84,65,71,69,88]:LB))then
some (0,6)
else
j4 a
def Aaq:=Agu Af1
abbrev El:=Option (Int×Int)
def Ar0(a:Int):El:=
some (a,0)
def Arw:=Ar0
def Acd(j6:Int→El)(bk4:LB→Int→El)(b:LB)(a:Int):El:=
if(Di (Ac b) 0)then
(Aaq b).bind fun(g,h)=>
if(Ay h 0)then
some (0,38)
else
(Bc b 0 (Ah (Ac b) g)).bind fun k=>
bk4 k (Ae a 1)
else
j6 a
def Kx:Nat→LB→Int→El
|0,_,_=>none
|q+1,b,a=>Acd Arw (Kx q) b a
def Aq0:=Kx FUEL
def Aax(j4:LB→Int→El)(f:LB):El:=
if(Di (Ac f) 4000)then
some (0,38)
else
j4 f 0
def Wn:=Aax Aq0
def Wg(p a:LB)(g u v w y:Int)(b:LI)(h:Int)(aa:LB)(ab:Bool)(ac:Int):Option Int:=
if(geq g 0)then
(Qn a).bind fun(k,f)=>
if(Ay f 0)then
some f
else
(Bc a k (Ac a)).bind fun m=>
(Tg m).bind fun(ad,ae,af,ag,ah,n)=>
some n
else
if((geq (Ac b) 0)||(Bs h (Ac b)))then
some 24
else
(Wn a).bind fun(ai,o)=>
if(Ay o 0)then
some 38
else
some 0
def Wo(w y:LB)(aa ab ac ad ae:Int)(af:LI)(ag:Int)(ah:LB)(ai:Bool)(aj:Int):Option (LB×LB×Int×Int×Int×Int×Int×LI×Int×LB×Bool×Int×Int):=
(Dl w y aa ab ac ad ae af ag ah ai aj).bind fun ak=>
if(Ay ak 0)then
some (([]:LB),([]:LB),0,0,0,0,0,([]:LI),0,([]:LB),false,0,ak)
else
(Nl w y aa ab ac ad ae af ag ah ai aj).bind fun(a,b,f,g,h,k,m,n,o,p,u,v)=>
(Hc a b f g h k m n o p u v).bind fun al=>
if(Ay al 0)then
some (a,b,f,g,h,k,m,n,o,p,u,v,al)
else
(Wg a b f g h k m n o p u v).bind fun am=>
if(Ay am 0)then
(Om a b f g h k m n o p u v am).bind fun(an,ao,ap,aq,ar,au,av,aw,ax,ay,az,ba,bb)=>
some (an,ao,ap,aq,ar,au,av,aw,ax,ay,az,ba,bb)
else
(Ts a b f g h k m n o p u v).bind fun(bc,bd,be,bf,bg,bh,bi,bj,bk,bl,bn,bm)=>
some (bc,bd,be,bf,bg,bh,bi,bj,bk,bl,true,bm,0)
abbrev Cx:=Option (LB×Int)
def Zr(h:LB)(k m n o p u:Int)(v:Bool)(w:Int)(y:LB)(aa:LI)(ab:LB):Cx:=
(Wo h y k m n o p aa u ab v w).bind fun(bk,bl,bm,bn,ad,ae,af,bp,ag,ac,bq,br,au)=>
some (ac,au)
def Aai:=Zr
def Ace(bk6:Int→Int→LB→Int→Int→Int→Int→Int→Int→Bool→Int→LB→LI→LB→Cx)(b:LB)(a:LI)(ah g f:Int)(aj:LB)(ad ae af ak ag al:Int)(am:Bool)(an:Int)(ao:LB)(ac:LI)(ai:LB):Cx:=
if(Ay ah 0)then
some (ai,ah)
else
(Ak a f).bind fun av=>
bk6 (Ae g av) (Ae f 1) aj ad ae af ak ag al am an ao ac ai
def Ac3 bk6:=Ace bk6
def Abk(j8:Int→Int→Int→LB→Int→Int→Int→Int→Int→Int→Bool→Int→LB→LI→LB→Cx)(j10:LB→Int→Int→Int→Int→Int→Int→Bool→Int→LB→LI→LB→Cx)(b:LB)(a:LI)(g f:Int)(h:LB)(k m n o p u:Int)(v:Bool)(w:Int)(y:LB)(aa:LI)(ab:LB):Cx:=
if(Bs f (Ac a))then
(Ak a f).bind fun ap=>
(
(Bc b g (Ae g ap)).bind fun aq=>
(Gc h y k m n o p aa u ab v w aq).bind fun(aj,ao,ad,ae,af,ak,ag,ac,al,ai,am,an,ah)=>
j8 ah g f aj ad ae af ak ag al am an ao ac ai)
else
j10 h k m n o p u v w y aa ab
def Lc(b:LB)(a:LI):Nat→Int→Int→LB→Int→Int→Int→Int→Int→Int→Bool→Int→LB→LI→LB→Cx
|0,_,_,_,_,_,_,_,_,_,_,_,_,_,_=>none
|q+1,g,f,h,k,m,n,o,p,u,v,w,y,aa,ab=>Abk (Ac3 (Lc b a q) b a) Aai b a g f h k m n o p u v w y aa ab
def Aqr b a:=Lc b a FUEL
def Aan(j6:LB→LI→Int→Int→LB→Int→Int→Int→Int→Int→Int→Bool→Int→LB→LI→LB→Cx)(aw b:LB)(a:LI):Cx:=
(Ap0 aw).bind fun(ax,ay,az,ba,bb,bc,bd,be,bf,bg,bh,bi,ar)=>
if(Ay ar 0)then
some (([]:LB),ar)
else
j6 b a 0 0 ax az ba bb bc bd bf bh bi ay be bg
def Aix:=Aan Aqr
end Go.Pl
