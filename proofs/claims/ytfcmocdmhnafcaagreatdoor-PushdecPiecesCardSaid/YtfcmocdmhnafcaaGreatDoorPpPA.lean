/- A part of the proof of a statement of this seat (see the text that ends in Proof): PpPure. No conditions of its own. -/
import Derived.Test.YtfcmocdmhnafcaaGreatDoorPpBA
set_option linter.unusedVariables false
namespace Go.Pl
open Go Go.Lv
abbrev LB:=List UInt8
abbrev LI:=List Int
abbrev LX:=List Int32
abbrev LU:=List UInt32
abbrev LQ:=List UInt64
def Awr(a b f:Int)(g:LX):Option (Int×Int):=
some (a,b)
abbrev Amr:=Option (Int32×Int32×Int)
def Bgg(a:Int)(b:Bool):Amr:=
if b then
(Jp (Lk (Aj a 1) 0)).bind fun _=>
some ((Axz (Dm (1:Int32) (GI.toZ (Aj a 1)).toNat)),(Aj (Dm (1:Int32) (GI.toZ (Aj a 1)).toNat) 1),0)
else
some (0,0,2)
def Aro:=Bgg
def Asj(j2:Int→Bool→Amr)(a:Int):Amr:=
if(geq a 8)then
j2 a (geq a 8)
else
if(geq a 16)then
j2 a (geq a 16)
else
j2 a (geq a 24)
def Afg:=Asj Aro
def Rb(a b:Int):Option Int:=
(Afg b).bind fun(g,h,f)=>
if(((Ax f 0)||(Bz a 1))||(Dw a 6))then
some 2
else
some 0
def Aby(a:Int):Option (Int×Int):=
if((Bz a 1)||(Dw a 1048576))then
some (0,2)
else
some ((Ant 1 (Ck (Bi 256 a) 245)),0)
def Rg(g b:Int):Option (Int×Int):=
(Aby g).bind fun(a,f)=>
if(Ax f 0)then
some (0,f)
else
if((Bz b 1)||(Dw b 4000))then
some (0,2)
else
(Jp (Ax a 0)).bind fun _=>
if(Dw (Ck (Aj (Ae b a) 1) a) 1000)then
some (0,4)
else
some ((Ck (Aj (Ae b a) 1) a),0)
def Bh9(a g f:Int)(h:LX)(b:Int):Option Int:=
(Awr a g f h).bind fun(k,m)=>
(Rb k m).bind fun n=>
if((Ax n 0)||(Bz b 1))then
some 8
else
(Jp (Ax a 0)).bind fun _=>
if(Dw b (Ck 4000 a))then
some 8
else
(Rg f b).bind fun(p,o)=>
if(Ax o 0)then
some 8
else
some 0
def Bdo:Option Int:=
some 0
def Asf:=Bdo
def Ab9(j6:Option Int)(bk4:Int→Option Int)(b f:Int32)(a:LX)(g:Int):Option Int:=
if(Bz g (Ac a))then
(getI a g).bind fun h=>
if((Bz h b)||(Dw h f))then
some 16
else
bk4 (Ae g 1)
else
j6
def Oo(b f:Int32)(a:LX):Nat→Int→Option Int
|0,_=>none
|q+1,g=>Ab9 Asf (Oo b f a q) b f a g
def Ar9 b f a:=Oo b f a FUEL
def Aiu(j4:Int32→Int32→LX→Int→Option Int)(m:Int)(a:LX):Option Int:=
(Afg m).bind fun(b,f,k)=>
if(Ax k 0)then
some k
else
if(Dw (Ac a) 4000)then
some 4
else
j4 b f a 0
def Um:=Aiu Ar9
def Adq(a f h:Int)(b:LX):Option Int:=
if(Bz a 1)then
some 8
else
(Jp (Ax a 0)).bind fun _=>
if(Ax (Gp (Ac b) a) 0)then
some 8
else
(Jp (Ax a 0)).bind fun _=>
(Bh9 a f h b (Ck (Ac b) a)).bind fun g=>
if(Ax g 0)then
some g
else
(Um f b).bind fun k=>
if(Ax k 0)then
some 8
else
some 0
abbrev Amq:=Option (Int×Int×Int×Int×Int×Int)
def Bet(h:LB)(a b f:Int)(g:LX):Amq:=
if(h !=([]:LB))then
some (2,a,b,f,(Ck (Ac g) a),0)
else
some (1,a,b,f,(Ck (Ac g) a),0)
def Atx:=Bet
def Ajq(j2:LB→Int→Int→Int→LX→Amq)(a b f:Int)(g:LX)(h:LB):Amq:=
(Adq a b f g).bind fun k=>
if(Ax k 0)then
some (0,0,0,0,0,k)
else
if(Dw (Ac h) 64)then
some (0,0,0,0,0,2)
else
(Jp (Ax a 0)).bind fun _=>
(
j2 h a b f g)
def Bbi:=Ajq Atx
abbrev Bm:=Option (UInt64×Int)
def Auc(h:UInt64):Bm:=
some (h,0)
def Ait:=Auc
def Ai4(j30:UInt64→Bm)(h b:UInt64)(a:LB)(f:LQ):Bm:=
j30 h
def Aiq:=Ai4 Ait
def Abt(j29:UInt64→UInt64→LB→LQ→Bm)(bk27:UInt64→Int→Bm)(a:LB)(b:UInt64)(f:LQ)(h:UInt64)(m:Int):Bm:=
if(Bz m (Ac a))then
(getI a m).bind fun p=>
Option.bind (getI f (GI.toZ (Wn (Ad (Bu h (GI.toZ (56:UInt64)).toNat):UInt8) p))) fun _=>
Option.bind (getI f (GI.toZ (Wn (Ad (Bu h (GI.toZ (56:UInt64)).toNat):UInt8) p))) fun u=>
bk27 (Wn (Dm h (GI.toZ (8:UInt64)).toNat) u) (Ae m 1)
else
j29 h b a f
def Pm(a:LB)(b:UInt64)(f:LQ):Nat→UInt64→Int→Bm
|0,_,_=>none
|q+1,h,m=>Abt Aiq (Pm a b f q) a b f h m
def Ai5 a b f:=Pm a b f FUEL
def Aj5(j27:LB→UInt64→LQ→UInt64→Int→Bm)(b:UInt64)(a:LB)(f:LQ):Bm:=
j27 a b f b 0
def Aau:=Aj5 Ai5
def Ath(bk16:Int→LQ→Bm)(b:UInt64)(a:LB)(g:Int)(o:LQ):Bm:=
bk16 (Ae g 1) o
def Ain bk16:=Ath bk16
def Ai9(j24:Int→LQ→Bm)(b:UInt64)(a:LB)(g:Int)(k:UInt64)(f:LQ):Bm:=
(getI f g).bind fun _=>
(Kt f g k).bind fun o=>
j24 g o
def Aaq bk16 b a:=Ai9 (Ain bk16 b a) b a
def Abn(j23:Int→UInt64→LQ→Bm)(bk21:UInt64→Int→Bm)(b:UInt64)(a:LB)(g:Int)(f:LQ)(k:UInt64)(n:Int):Bm:=
if(Bz n 8)then
bk21 (Wn (Dm k (GI.toZ (1:UInt64)).toNat) (Bi 4823603603198064275 (Bu k (GI.toZ (63:UInt64)).toNat))) (Ae n 1)
else
j23 g k f
def Ot(bk16:Int→LQ→Bm)(b:UInt64)(a:LB)(g:Int)(f:LQ):Nat→UInt64→Int→Bm
|0,_,_=>none
|q+1,k,n=>Abn (Aaq bk16 b a) (Ot bk16 b a g f q) b a g f k n
def Ajg bk16 b a g f:=Ot bk16 b a g f FUEL
def Aa5(j21:Int→LQ→UInt64→Int→Bm)(j26:UInt64→LB→LQ→Bm)(b:UInt64)(a:LB)(g:Int)(f:LQ):Bm:=
if(Bz g 256)then
j21 g f (Dm (Ad g:UInt64) (GI.toZ (56:UInt64)).toNat) 0
else
j26 b a f
def Ly(b:UInt64)(a:LB):Nat→Int→LQ→Bm
|0,_,_=>none
|q+1,g,f=>Aa5 (Ajg (Ly b a q) b a) Aau b a g f
def Aj0 b a:=Ly b a FUEL
def Amj(j16:UInt64→LB→Int→LQ→Bm)(b:UInt64)(a:LB):Bm:=
if(Dw (Ac a) 100000)then
some (0,4)
else
j16 b a 0 (List.replicate 256 (0:UInt64))
def Aoe:=Amj Aj0
def Anv(a:LB):Option (UInt64×Int):=
(Aoe 0 a).bind fun(b,f)=>
some (b,f)
def Bre(a:LX):Option (LX):=
some a
def Bd0:=Bre
def Aoc(j6:LX→Option (LX))(bk4:Int→LX→Option (LX))(f:UInt64)(b:Int)(a:LX):Option (LX):=
if(Bz b 8)then
(Jp (Lk (Bi 8 b) 0)).bind fun _=>
(getI a b).bind fun _=>
(Kt a b (Ad (Ad (Bu f (GI.toZ (Bi 8 b)).toNat):Int8):Int32)).bind fun g=>
bk4 (Ae b 1) g
else
j6 a
def Adm(f:UInt64):Nat→Int→LX→Option (LX)
|0,_,_=>none
|q+1,b,a=>Aoc Bd0 (Adm f q) f b a
def Bem f:=Adm f FUEL
def Bgv(j4:UInt64→Int→LX→Option (LX))(f:UInt64):Option (LX):=
j4 f 0 (List.replicate 16 (0:Int32))
def Bj1:=Bgv Bem
def Pf(a:LB):Option (LX×Int):=
if(Dw (Ac a) 64)then
some (([(0:Int32),(0:Int32),(0:Int32),(0:Int32),(0:Int32),(0:Int32),(0:Int32),(0:Int32),(0:Int32),(0:Int32),(0:Int32),(0:Int32),(0:Int32),(0:Int32),(0:Int32),(0:Int32)]:LX),2)
else
(Anv a).bind fun(f,b)=>
if(Ax b 0)then
some (([(0:Int32),(0:Int32),(0:Int32),(0:Int32),(0:Int32),(0:Int32),(0:Int32),(0:Int32),(0:Int32),(0:Int32),(0:Int32),(0:Int32),(0:Int32),(0:Int32),(0:Int32),(0:Int32)]:LX),b)
else
(Bj1 f).bind fun g=>
some (g,0)
def Agz(a b:UInt64):Option (UInt64×UInt64):=
some ((Ae (Ae (Bi (Bu a (GI.toZ (32:UInt64)).toNat) (Bu b (GI.toZ (32:UInt64)).toNat)) (Bu (Ae (Bi (Bu a (GI.toZ (32:UInt64)).toNat) (Ds b 4294967295)) (Bu (Bi (Ds a 4294967295) (Ds b 4294967295)) (GI.toZ (32:UInt64)).toNat)) (GI.toZ (32:UInt64)).toNat)) (Bu (Ae (Ds (Ae (Bi (Bu a (GI.toZ (32:UInt64)).toNat) (Ds b 4294967295)) (Bu (Bi (Ds a 4294967295) (Ds b 4294967295)) (GI.toZ (32:UInt64)).toNat)) 4294967295) (Bi (Ds a 4294967295) (Bu b (GI.toZ (32:UInt64)).toNat))) (GI.toZ (32:UInt64)).toNat)),(Bi a b))
def Aeo(a b:UInt64):Option (UInt64×UInt64):=
(Agz a b).bind fun(f,g)=>
some (f,g)
def Mw(a:LI):Option (LI):=
some a
def If:=Mw
def Gc(j10:LI→Option (LI))(bk8:Int→LI→Option (LI))(b:Int)(a:LI):Option (LI):=
if(Bz b (Ac a))then
(
(vwI (Ac a) b (Ac a)).bind fun _=>
(vwI (Ac a) 0 b).bind fun _=>
bk8 (Ae b (Ai8 ((Ac a)-b) (Amc a 0 (b-(0:Int))).length)) (Se a b ((Ac a)-b) (Amc a 0 (b-(0:Int)))))
else
j10 a
def Ed:Nat→Int→LI→Option (LI)
|0,_,_=>none
|q+1,b,a=>Gc If (Ed q) b a
def Nu:=Ed FUEL
def Nm(j8:Int→LI→Option (LI))(f:LI)(g:UInt64):Option (LI):=
(mkI (Ad g:Int) (0:Int)).bind fun k=>
(Jp (geq (Ad g:Int) (Ad g:Int))).bind fun _=>
j8 (Ai8 (Ac k) f.length) (Bdw k f)
def Nz:=Nm Nu
def Nl(j7:LI→UInt64→Option (LI))(f:LI)(h:Int):Option (LI):=
(Aeo (Ad (Ac f):UInt64) (Ad h:UInt64)).bind fun(m,g)=>
if((Dw m 0)||(Dw g 9223372036854775807))then
none
else
j7 f g
def Ny:=Nl Nz
def Nt(j6:LI→Int→Option (LI))(f:LI)(h:Int):Option (LI):=
if(Bz h 0)then
none
else
j6 f h
def Mn:=Nt Ny
def Akr(f:LI):Option (LI):=
some f
def Vs:=Akr
def Fv(j16:LI→Option (LI))(bk14:Int→LI→Option (LI))(a:List LI)(g:Int)(f:LI):Option (LI):=
if(Bz g (Ac a))then
(getI a g).bind fun o=>
(Da f o).bind fun p=>
bk14 (Ae g 1) p
else
j16 f
def Dp(a:List LI):Nat→Int→LI→Option (LI)
|0,_,_=>none
|q+1,g,f=>Fv Vs (Dp a q) a g f
def Mu a:=Dp a FUEL
def Mt(j14:(List LI)→Int→LI→Option (LI))(a:List LI)(k:LI):Option (LI):=
j14 a 0 k
def Ih:=Mt Mu
def Ms(j13:(List LI)→LI→Option (LI))(b:Int)(a:List LI):Option (LI):=
if(Dw (Aj b (Aj (0:Int) (0:Int))) 0)then
(vwI 0 0 0).bind fun _=>
(mkI (Aj b (Aj (0:Int) (0:Int))) (0:Int)).bind fun u=>
(Da ([]:LI) u).bind fun m=>
(vwI (Ac m) 0 0).bind fun _=>
j13 a (Amc m 0 ((0:Int)-(0:Int)))
else
j13 a ([]:LI)
def Mr:=Ms Ih
def Mx(j12:Int→(List LI)→Option (LI))(a:List LI)(b:Int):Option (LI):=
if(Bz b 0)then
none
else
j12 b a
def Mv:=Mx Mr
def Ge(j11:(List LI)→Int→Option (LI))(bk9:Int→Int→Option (LI))(a:List LI)(b h:Int):Option (LI):=
if(Bz h (Ac a))then
(getI a h).bind fun n=>
if(Bz (Ae b (Ac n)) 0)then
none
else
bk9 (Ae b (Ac n)) (Ae h 1)
else
j11 a b
def Ee(a:List LI):Nat→Int→Int→Option (LI)
|0,_,_=>none
|q+1,b,h=>Ge Mv (Ee a q) a b h
def Nq a:=Ee a FUEL
def Nx(j9:(List LI)→Int→Int→Option (LI))(a:List LI):Option (LI):=
j9 a 0 0
def Mh:=Nx Nq
def Ako(a b:LI):Option (LI):=
(Mh ([a,b]:List LI)).bind fun f=>
some f
def Up(a b:Int):Option (LI×Int):=
(Rg a b).bind fun(f,g)=>
if(Ax g 0)then
some (([]:LI),g)
else
(Aby a).bind fun(h,n)=>
(Mn ([h]:LI) (Aj f 1)).bind fun k=>
(Ako k ([(Aj b (Bi (Aj f 1) h))]:LI)).bind fun m=>
some (m,0)
def Av1(a f:Int)(b:LX):Option Int:=
(Rb a f).bind fun g=>
if(Ax g 0)then
some g
else
(Um f b).bind fun h=>
if(Ax h 0)then
some h
else
if(geq (Ac b) 0)then
some 2
else
(Jp (Ax a 0)).bind fun _=>
if(Ax (Gp (Ac b) a) 0)then
some 2
else
some 0
def Am6(a:Int)(b:LX):Option Int:=
if((Bz a 1)||(Dw a 6))then
some 2
else
if(Dw (Ac b) 4000)then
some 4
else
(Jp (Ax a 0)).bind fun _=>
if(Ax (Gp (Ac b) a) 0)then
some 2
else
some 0
def Eb(a:LX):Option (LX):=
(
(Da ([]:LX) a).bind fun b=>
some b)
abbrev Ht:=Option (LX×Int)
def Bo4(f:LX):Ht:=
some (f,0)
def Bb5:=Bo4
def Bow(bk12:Int→LX→Ht)(b a:Int)(k:LX):Ht:=
bk12 (Ae a b) k
def Bb2 bk12:=Bow bk12
def Bbu(j20:Int→LX→Ht)(b a:Int)(g:LX):Ht:=
if(Dw (Aj ((Ae a b)-a) 1) 0)then
(Jp (decide (0≤(Aj ((Ae a b)-a) 1)∧(Aj ((Ae a b)-a) 1)<((Ae a b)-a)))).bind fun _=>
Option.bind (Jp (decide (0≤(Aj (Aj ((Ae a b)-a) 1) 1)∧(Aj (Aj ((Ae a b)-a) 1) 1)<((Ae a b)-a)))) fun _=>
(getI g (a+(Aj ((Ae a b)-a) 1))).bind fun m=>
(getI g (a+(Aj (Aj ((Ae a b)-a) 1) 1))).bind fun n=>
(Jp (decide (0≤(Aj ((Ae a b)-a) 1)∧(Aj ((Ae a b)-a) 1)<((Ae a b)-a)))).bind fun _=>
(Kt g (a+(Aj ((Ae a b)-a) 1)) (Aj m (Ck n 2))).bind fun o=>
j20 a o
else
j20 a g
def Bax bk12 b:=Bbu (Bb2 bk12 b) b
def Ba5(j19:Int→LX→Ht)(bk17:Int→LX→Ht)(b a h:Int)(g:LX):Ht:=
if(Bz h (Aj ((Ae a b)-a) 1))then
(Jp (decide (0≤(Ae h 1)∧(Ae h 1)<((Ae a b)-a)))).bind fun _=>
(Jp (decide (0≤h∧h<((Ae a b)-a)))).bind fun _=>
(getI g (a+(Ae h 1))).bind fun m=>
(getI g (a+h)).bind fun n=>
(Jp (decide (0≤h∧h<((Ae a b)-a)))).bind fun _=>
(Kt g (a+h) (Aj m n)).bind fun o=>
bk17 (Ae h 1) o
else
j19 a g
def As8(bk12:Int→LX→Ht)(b a:Int):Nat→Int→LX→Ht
|0,_,_=>none
|q+1,h,g=>Ba5 (Bax bk12 b) (As8 bk12 b a q) b a h g
def Bbx bk12 b a:=As8 bk12 b a FUEL
def Bb6(j17:Int→Int→LX→Ht)(j22:LX→Ht)(b a:Int)(f:LX):Ht:=
if(Bz a (Ac f))then
(vwI (Ac f) a (Ae a b)).bind fun _=>
j17 a 0 f
else
j22 f
def Atu(b:Int):Nat→Int→LX→Ht
|0,_,_=>none
|q+1,a,f=>Bb6 (Bbx (Atu b q) b) Bb5 b a f
def Ba8 b:=Atu b FUEL
def Be0(j12:Int→Int→LX→Ht)(b:Int)(p:LX):Ht:=
(Am6 b p).bind fun u=>
if(Ax u 0)then
some (([]:LX),u)
else
(Eb p).bind fun v=>
j12 b 0 v
def Bry:=Be0 Ba8
abbrev Awq:=Option (Int×LX×LX×Int)
def Bmo(a:Int)(b:LX)(f:Bool):Awq:=
if f then
some (10,b,(List.replicate 16 (0:Int32)),0)
else
if(geq a 16)then
some (9,b,(List.replicate 16 (0:Int32)),0)
else
some (0,(List.replicate 16 (0:Int32)),(List.replicate 16 (0:Int32)),2)
def Bav:=Bmo
def Ba9(j2:Int→LX→Bool→Awq)(a:Int)(b:LX):Awq:=
if(geq a 8)then
j2 a b (geq a 8)
else
j2 a b (geq a 24)
def Aym:=Ba9 Bav
def Baf(a:Int)(f:LX):Option (Int×Int32×Int×LX×LX×Int):=
(Aym a f).bind fun(g,h,k,b)=>
if(Ax b 0)then
some (0,0,0,(List.replicate 16 (0:Int32)),(List.replicate 16 (0:Int32)),b)
else
some (a,0,g,h,k,0)
def Uf(a:Int)(k:Int32)(b:Int)(f m:LX):Option Int:=
(Aym a f).bind fun(g,n,o,h)=>
if((Ax h 0)||(Ax g b))then
some 8
else
some 0
def Atp(a:Int):Option (Int×Int):=
if(geq a 8)then
some (4,0)
else
if(geq a 16)then
if(geq a 16)then
some (5,0)
else
some (0,2)
else
if(geq a 24)then
some (5,0)
else
some (0,2)
def Aks(a:Int)(b:Int32):Option Int32:=
(Jp (Lk a 0)).bind fun _=>
(Jp (Lk a 0)).bind fun _=>
some (Ad (Bkp (Aj (Dm (Ad b:Int) (GI.toZ a).toNat) (Ad b:Int)) (GI.toZ a).toNat):Int32)
def Ur(b:Int)(f:Int32):Option (Int32×Int):=
(Atp b).bind fun(g,a)=>
if(Ax a 0)then
some (0,a)
else
(Aks g f).bind fun h=>
some (h,0)
def Ad1(a:Int)(b f:LX):Option Int:=
if((Ax a 9)&&(Ax a 10))then
some 8
else
some 0
abbrev Py:=Option (Int32×Int)
def Avs(g:Int32)(a:Int)(b f:LX):Py:=
(Jp (Lk a 0)).bind fun _=>
some ((Bu g (GI.toZ a).toNat),0)
def Al0:=Avs
def Aep(j6:Int32→Int→LX→LX→Py)(bk4:Int32→Int→Py)(b:LX)(a:Int)(f:LX)(g:Int32)(h:Int):Py:=
if(Bz h 16)then
(getI b h).bind fun m=>
(getI f h).bind fun _=>
(getI f h).bind fun n=>
bk4 (Ae g (Bi m n)) (Ae h 1)
else
j6 g a b f
def Ri(b:LX)(a:Int)(f:LX):Nat→Int32→Int→Py
|0,_,_=>none
|q+1,g,h=>Aep Al0 (Ri b a f q) b a f g h
def Amh b a f:=Ri b a f FUEL
def Alz(j4:LX→Int→LX→Int32→Int→Py)(a:Int)(b f:LX):Py:=
(Ad1 a b f).bind fun k=>
if(Ax k 0)then
some (0,k)
else
(Jp (Lk (Aj a 1) 0)).bind fun _=>
j4 b a f (Dm (1:Int32) (GI.toZ (Aj a 1)).toNat) 0
def Aiz:=Alz Amh
def Am2(a:Int):Option Int32:=
if(geq a 0)then
some 4
else
if(Bz a 4)then
some 2
else
some 1
abbrev Ql:=Option (Int×LX×LX×Int)
def Bhm(g:Int)(b f:LX):Ql:=
some (g,b,f,0)
def Avh:=Bhm
def Aes(j6:Int→LX→LX→Ql)(bk4:Int→LX→Ql)(h:Int32)(f:LX)(g a:Int)(b:LX):Ql:=
if(Bz a 16)then
(getI f a).bind fun m=>
if(geq m 0)then
bk4 (Ae a 1) b
else
if((Bz m 0)==(Bz h 0))then
(getI b a).bind fun _=>
(getI b a).bind fun o=>
(Am2 a).bind fun p=>
(getI b a).bind fun _=>
(Kt b a (Ae o p)).bind fun u=>
bk4 (Ae a 1) u
else
(getI b a).bind fun _=>
(getI b a).bind fun v=>
(Am2 a).bind fun w=>
(getI b a).bind fun _=>
(Kt b a (Aj v w)).bind fun y=>
bk4 (Ae a 1) y
else
j6 g b f
def Rj(h:Int32)(f:LX)(g:Int):Nat→Int→LX→Ql
|0,_,_=>none
|q+1,a,b=>Aes Avh (Rj h f g q) h f g a b
def Avt h f g:=Rj h f g FUEL
def Al1(j4:Int32→LX→Int→Int→LX→Ql)(g:Int)(k f:LX)(h:Int32):Ql:=
(Ad1 g k f).bind fun n=>
if(Ax n 0)then
some (0,(List.replicate 16 (0:Int32)),(List.replicate 16 (0:Int32)),n)
else
if(geq h 0)then
some (g,k,f,0)
else
j4 h f g 0 k
def Ao6:=Al1 Avt
abbrev Atq:=Option (Int×LX×LX×Int)
def Ay5(g:Int32)(b:Int)(f a:LX):Atq:=
(getI (Se a 1 ((16:Int)-(1:Int)) (Amc a 0 ((16:Int)-(0:Int)))) 0).bind fun _=>
(Kt (Se a 1 ((16:Int)-(1:Int)) (Amc a 0 ((16:Int)-(0:Int)))) 0 g).bind fun k=>
some (b,f,k,0)
def Ao0:=Ay5
def Ahx(j2:Int32→Int→LX→LX→Atq)(b:Int)(f a:LX)(g:Int32):Atq:=
(Ad1 b f a).bind fun h=>
if(Ax h 0)then
some (0,(List.replicate 16 (0:Int32)),(List.replicate 16 (0:Int32)),h)
else
(
(vwI 16 1 16).bind fun _=>
(vwI 16 0 16).bind fun _=>
j2 g b f a)
def Aux:=Ahx Ao0
def Aou(a:Int)(b f:LX)(g h:Int32):Option (Int×LX×LX):=
(Ao6 a b f h).bind fun(k,m,n,v)=>
(Aux k m n g).bind fun(o,p,u,w)=>
some (o,p,u)
def Asr(b:Int)(f g:LX)(a:Int32):Option (Int32×Int×LX×LX×Int):=
(Aiz b f g).bind fun(h,k)=>
if(Ax k 0)then
some (0,0,(List.replicate 16 (0:Int32)),(List.replicate 16 (0:Int32)),k)
else
(Aou b f g a (Aj a h)).bind fun(m,n,o)=>
some ((Aj a h),m,n,o,0)
def Aei(a:Int)(b:Int32)(f:Int)(g h:LX)(k:Int32):Option (Int32×Int×Int32×Int×LX×LX×Int):=
(Uf a b f g h).bind fun m=>
if(Ax m 0)then
some (0,0,0,0,(List.replicate 16 (0:Int32)),(List.replicate 16 (0:Int32)),m)
else
(Ur a b).bind fun(n,y)=>
(Asr f g h (Aj k n)).bind fun(o,p,u,v,w)=>
(
some (o,a,k,p,u,v,w))
def Bhx(a:Int32):Option UInt32:=
some (Wn (Dm (Ad a:UInt32) (GI.toZ (1:UInt64)).toNat) (Ad (Bu a (GI.toZ (31:UInt64)).toNat):UInt32))
abbrev Cq:=Option (LU×Int)
def Axa(k:LU):Cq:=
some (k,0)
def Akh:=Axa
def Aj7(j12:LU→Cq)(bk10:Int→(List (Int×Int32×(Int×LX×LX×Unit)×Unit))→LU→Cq)(b:LX)(a f g:Int)(o:List (Int×Int32×(Int×LX×LX×Unit)×Unit))(k:LU):Cq:=
if(Bz g (Ac b))then
(getI b g).bind fun _=>
(getI b g).bind fun ac=>
(Jp (Ax a 0)).bind fun _=>
(getI o (Gp g a)).bind fun _=>
(getI o (Gp g a)).bind fun p=>
(Aei p.1 p.2.1 p.2.2.1.1 p.2.2.1.2.1 p.2.2.1.2.2.1 ac).bind fun(u,ad,ae,v,af,ag,w)=>
if(Ax w 0)then
some (([]:LU),w)
else
(Kt o (Gp g a) (ad,ae,(v,af,ag,()),())).bind fun ah=>
(Bhx u).bind fun ai=>
(Da k ([ai]:LU)).bind fun aj=>
bk10 (Ae g 1) ah aj
else
j12 k
def Yr(b:LX)(a f:Int):Nat→Int→(List (Int×Int32×(Int×LX×LX×Unit)×Unit))→LU→Cq
|0,_,_,_=>none
|q+1,g,o,k=>Aj7 Akh (Yr b a f q) b a f g o k
def Akm b a f:=Yr b a f FUEL
def Als(j10:LX→Int→Int→Int→(List (Int×Int32×(Int×LX×LX×Unit)×Unit))→LU→Cq)(a f:Int)(b:LX)(h:List (Int×Int32×(Int×LX×LX×Unit)×Unit)):Cq:=
j10 b a f 0 h ([]:LU)
def Alh:=Als Akm
def Ak1(j9:Int→Int→LX→(List (Int×Int32×(Int×LX×LX×Unit)×Unit))→Cq)(bk7:Int→(List (Int×Int32×(Int×LX×LX×Unit)×Unit))→Cq)(a f:Int)(m b:LX)(n:Int)(h:List (Int×Int32×(Int×LX×LX×Unit)×Unit)):Cq:=
if(Bz n 6)then
(Baf f m).bind fun(ak,al,u,am,an,v)=>
(getI h n).bind fun _=>
(Kt h n (ak,al,(u,am,an,()),())).bind fun ao=>
bk7 (Ae n 1) ao
else
j9 a f b h
def Aa7(a f:Int)(m b:LX):Nat→Int→(List (Int×Int32×(Int×LX×LX×Unit)×Unit))→Cq
|0,_,_=>none
|q+1,n,h=>Ak1 Alh (Aa7 a f m b q) a f m b n h
def Alf a f m b:=Aa7 a f m b FUEL
def Ak0(j7:Int→Int→LX→LX→Int→(List (Int×Int32×(Int×LX×LX×Unit)×Unit))→Cq)(a f:Int)(m y:LX):Cq:=
(Av1 a f y).bind fun aa=>
if(Ax aa 0)then
some (([]:LU),aa)
else
(Bry a y).bind fun(b,ab)=>
if(Ax ab 0)then
some (([]:LU),ab)
else
j7 a f m b 0 (List.replicate 6 ((0:Int),(0:Int32),((0:Int),(List.replicate 16 (0:Int32)),(List.replicate 16 (0:Int32)),()),()))
def Atm:=Ak0 Alf
def Awf:Option (Int×Int×UInt64×UInt64):=
some (10,10,16384,16384)
abbrev Jc:=Option ((List (Int×Int×UInt64×UInt64×Unit)))
def Ayr(a:List (Int×Int×UInt64×UInt64×Unit)):Jc:=
some a
def Ak4:=Ayr
def Aln(j6:(List (Int×Int×UInt64×UInt64×Unit))→Jc)(bk4:Int→(List (Int×Int×UInt64×UInt64×Unit))→Jc)(b:Int)(a:List (Int×Int×UInt64×UInt64×Unit)):Jc:=
if(Bz b 6)then
(Awf).bind fun(f,g,h,k)=>
(getI a b).bind fun _=>
(Kt a b (f,g,h,k,())).bind fun m=>
bk4 (Ae b 1) m
else
j6 a
def Aar:Nat→Int→(List (Int×Int×UInt64×UInt64×Unit))→Jc
|0,_,_=>none
|q+1,b,a=>Aln Ak4 (Aar q) b a
def Ald:=Aar FUEL
def Ali(j4:Int→(List (Int×Int×UInt64×UInt64×Unit))→Jc):Jc:=
j4 0 (List.replicate 6 ((0:Int),(0:Int),(0:UInt64),(0:UInt64),()))
def Ars:=Ali Ald
def Jj(b:LB)(a:Int):Option Int:=
if(((Bz a 0)||(Dw a 330000))||(Ax (Ac b) (Bkp (Ae a 7) (GI.toZ (3:UInt64)).toNat)))then
some 8
else
if(Dw (Ds a 7) 0)then
(getI b (Aj (Ac b) 1)).bind fun f=>
(Jp (Lk (Ds a 7) 0)).bind fun _=>
if(Ax (Bu f (GI.toZ (Ds a 7)).toNat) 0)then
some 8
else
some 0
else
some 0
def Av5(a b:Int)(f g:UInt64):Option Int:=
if(!((geq (Dk (Ant a 0) 24) a)&&((geq (Dk (Ant b 0) 24) b)&&((geq (Dk f 68719476735) f)&&((geq (Dk g 68719476735) g)&&true)))))then
some 8
else
some 0
def Amm:=Av5
def Aer(j4:Int→Int→UInt64→UInt64→Option Int)(a b:Int)(f g:UInt64):Option Int:=
(
(
j4 a b f g))
def Ame:=Aer Amm
def Aet(j3:Int→Int→UInt64→UInt64→Option Int)(a b:Int)(f g:UInt64):Option Int:=
(
(
j3 a b f g))
def Aki:=Aet Ame
def Ado(a f:Int)(g h:UInt64)(b:UInt32):Option (Int×UInt32):=
(Jp (Lk a 0)).bind fun _=>
if(geq (Bu b (GI.toZ a).toNat) 0)then
some (0,b)
else
(Jp (Lk a 0)).bind fun _=>
some (1,(Aj b (Dm (1:UInt32) (GI.toZ a).toNat)))
def Fo(a:LB):Option (LB):=
(
(Da ([]:LB) a).bind fun b=>
some b)
def Bau(a:LB)(b:Int):Option (LB×Int):=
(Fo a).bind fun f=>
some (f,b)
abbrev Dd:=Option (LB×Int×Int)
def Blg(f:Int)(o:LB):Dd:=
some (o,f,0)
def Ayb:=Blg
def Bke(bk15:UInt64→Int→Int→LB→Dd)(b:UInt64)(a:Int)(m:UInt64)(h f:Int)(w:LB):Dd:=
(Jp (Lk (Dk h (Aj 8 (Ds f 7))) 0)).bind fun _=>
bk15 (Bu m (GI.toZ (Dk h (Aj 8 (Ds f 7)))).toNat) (Aj h (Dk h (Aj 8 (Ds f 7)))) (Ae f (Dk h (Aj 8 (Ds f 7)))) w
def Aze bk15:=Bke bk15
def Ax0(j19:UInt64→Int→Int→LB→Dd)(b:UInt64)(a:Int)(m:UInt64)(h f:Int)(u:LB):Dd:=
(getI u (Aj (Ac u) 1)).bind fun _=>
(Jp (Lk (Dk h (Aj 8 (Ds f 7))) 0)).bind fun _=>
(Jp (Lk (Ds f 7) 0)).bind fun _=>
(getI u (Aj (Ac u) 1)).bind fun ad=>
(getI u (Aj (Ac u) 1)).bind fun _=>
Option.bind (Kt u (Aj (Ac u) 1) (gor ad (Dm (Ad (Ds m (Aj (Dm (1:UInt64) (GI.toZ (Dk h (Aj 8 (Ds f 7)))).toNat) 1)):UInt8) (GI.toZ (Ds f 7)).toNat))) fun w=>
j19 m h f w
def Azi bk15 b a:=Ax0 (Aze bk15 b a) b a
def Ax8(j18:UInt64→Int→Int→LB→Dd)(j21:Int→LB→Dd)(b:UInt64)(a:Int)(m:UInt64)(h f:Int)(o:LB):Dd:=
if(Dw h 0)then
if(geq (Ds f 7) 0)then
(Da o ([(0:UInt8)]:LB)).bind fun ab=>
j18 m h f ab
else
j18 m h f o
else
j21 f o
def Ao1(b:UInt64)(a:Int):Nat→UInt64→Int→Int→LB→Dd
|0,_,_,_,_=>none
|q+1,m,h,f,o=>Ax8 (Azi (Ao1 b a q) b a) Ayb b a m h f o
def Ayq b a:=Ao1 b a FUEL
def Bkf(g:Int)(p:LB):Dd:=
some (p,g,0)
def Ay6:=Bkf
def Bkd(bk22:UInt64→Int→Int→LB→Dd)(b:UInt64)(a:Int)(n:UInt64)(k g:Int)(y:LB):Dd:=
(Jp (Lk (Dk k (Aj 8 (Ds g 7))) 0)).bind fun _=>
bk22 (Bu n (GI.toZ (Dk k (Aj 8 (Ds g 7)))).toNat) (Aj k (Dk k (Aj 8 (Ds g 7)))) (Ae g (Dk k (Aj 8 (Ds g 7)))) y
def Ays bk22:=Bkd bk22
def Ayp(j26:UInt64→Int→Int→LB→Dd)(b:UInt64)(a:Int)(n:UInt64)(k g:Int)(v:LB):Dd:=
(getI v (Aj (Ac v) 1)).bind fun _=>
(Jp (Lk (Dk k (Aj 8 (Ds g 7))) 0)).bind fun _=>
(Jp (Lk (Ds g 7) 0)).bind fun _=>
(getI v (Aj (Ac v) 1)).bind fun ae=>
(getI v (Aj (Ac v) 1)).bind fun _=>
Option.bind (Kt v (Aj (Ac v) 1) (gor ae (Dm (Ad (Ds n (Aj (Dm (1:UInt64) (GI.toZ (Dk k (Aj 8 (Ds g 7)))).toNat) 1)):UInt8) (GI.toZ (Ds g 7)).toNat))) fun y=>
j26 n k g y
def Ay4 bk22 b a:=Ayp (Ays bk22 b a) b a
def Ayj(j25:UInt64→Int→Int→LB→Dd)(j28:Int→LB→Dd)(b:UInt64)(a:Int)(n:UInt64)(k g:Int)(p:LB):Dd:=
if(Dw k 0)then
if(geq (Ds g 7) 0)then
(Da p ([(0:UInt8)]:LB)).bind fun w=>
j25 n k g w
else
j25 n k g p
else
j28 g p
def Apk(b:UInt64)(a:Int):Nat→UInt64→Int→Int→LB→Dd
|0,_,_,_,_=>none
|q+1,n,k,g,p=>Ayj (Ay4 (Apk b a q) b a) Ay6 b a n k g p
def Ax9 b a:=Apk b a FUEL
def Bbe(j15:UInt64→Int→UInt64→Int→Int→LB→Dd)(j22:UInt64→Int→UInt64→Int→Int→LB→Dd)(ac:LB)(aa:Int)(b:UInt64)(a:Int):Dd:=
(Jj ac aa).bind fun af=>
if(Ax af 0)then
some (([]:LB),0,8)
else
if((Bz a 0)||(Dw a 64))then
some (([]:LB),0,2)
else
if(Bz a 64)then
(Jp (Lk a 0)).bind fun _=>
if(Ax (Bu b (GI.toZ a).toNat) 0)then
some (([]:LB),0,16)
else
if(Dw (Ae aa a) 330000)then
some (([]:LB),0,18)
else
(Bau ac aa).bind fun(ag,ah)=>
j15 b a b a ah ag
else
if(Dw (Ae aa a) 330000)then
some (([]:LB),0,18)
else
(Bau ac aa).bind fun(ab,ai)=>
j22 b a b a ai ab
def As3:=Bbe Ayq Ax9
def Ahs(b:UInt32)(a:Int):Option Bool:=
(Jp (Lk a 0)).bind fun _=>
some (Lk (Bu b (GI.toZ a).toNat) 48)
def Ayz(a:Int):Option (Int×Int):=
if((Bz a 0)||(Dw a 48))then
some (0,2)
else
some ((Dk (Ae a 1) 48),0)
def Bbk(b:LB)(f a:Int):Option (LB×Int×Int):=
(Jj b f).bind fun g=>
if(Ax g 0)then
some (([]:LB),0,g)
else
(Ayz a).bind fun(k,h)=>
if(Ax h 0)then
some (([]:LB),0,h)
else
(Jp (Lk a 0)).bind fun _=>
(As3 b f (Aj (Dm (1:UInt64) (GI.toZ a).toNat) 1) k).bind fun(m,n,o)=>
some (m,n,o)
abbrev Apz:=Option (LB×Int×Int)
def Bhh(b:LB)(f h:Int)(k:UInt32)(m:Int):Apz:=
(Bbk b f h).bind fun(p,u,n)=>
if(Ax n 0)then
some (([]:LB),0,n)
else
(As3 p u (Ad k:UInt64) m).bind fun(v,w,y)=>
some (v,w,y)
def Avq:=Bhh
def Avw(j2:LB→Int→Int→UInt32→Int→Apz)(b:LB)(f:Int)(g:UInt32)(a:Int):Apz:=
(Jj b f).bind fun o=>
if(Ax o 0)then
some (([]:LB),0,o)
else
if((Bz a 0)||(Dw a 24))then
some (([]:LB),0,2)
else
(Jp (Lk a 0)).bind fun _=>
(Jp (Lk a 0)).bind fun _=>
(Ahs g a).bind fun aa=>
if aa then
j2 b f 48 g 32
else
j2 b f (Ad (Bu g (GI.toZ a).toNat):Int) (Ds g (Aj (Dm (1:UInt32) (GI.toZ a).toNat) 1)) a
def Bfa:=Avw Avq
abbrev Hc:=Option (LB×Int×Int×Int×UInt64×UInt64×Int)
def Air(k u n:Int)(a:UInt64)(b:UInt32)(o:UInt64)(m:LB):Hc:=
(
(
some (m,k,u,n,(Ae a (Aj (Ad b:UInt64) (Bu a (GI.toZ (4:UInt64)).toNat))),o,0)))
def Ato:=Air
def Avk(j10:Int→Int→Int→UInt64→UInt32→UInt64→LB→Hc)(b:UInt32)(k n:Int)(a o:UInt64)(m:LB)(u:Int):Hc:=
j10 k u n a b o m
def Avi:=Avk Ato
def Awc(j9:UInt32→Int→Int→UInt64→UInt64→LB→Int→Hc)(b:UInt32)(f:Int)(a:UInt64)(k:Int)(m:LB)(n:Int)(o:UInt64):Hc:=
if(Dw f 0)then
(Jp (Lk f 0)).bind fun _=>
if(Bz (Ae a (Aj (Ad b:UInt64) (Bu a (GI.toZ (4:UInt64)).toNat))) (Dm (16:UInt64) (GI.toZ f).toNat))then
j9 b k n a o m (Aj f 1)
else
if(Bz f 24)then
(Jp (Lk f 0)).bind fun _=>
if(Dw (Ae a (Aj (Ad b:UInt64) (Bu a (GI.toZ (4:UInt64)).toNat))) (Dm (32:UInt64) (GI.toZ f).toNat))then
j9 b k n a o m (Ae f 1)
else
j9 b k n a o m f
else
j9 b k n a o m f
else
if(Bz f 24)then
(Jp (Lk f 0)).bind fun _=>
if(Dw (Ae a (Aj (Ad b:UInt64) (Bu a (GI.toZ (4:UInt64)).toNat))) (Dm (32:UInt64) (GI.toZ f).toNat))then
j9 b k n a o m (Ae f 1)
else
j9 b k n a o m f
else
j9 b k n a o m f
def Avg:=Awc Avi
def Avl(j8:UInt32→Int→UInt64→Int→LB→Int→UInt64→Hc)(b:UInt32)(f h:Int)(a g:UInt64)(y k:Int)(m:LB):Hc:=
if(Ax y 0)then
some (([]:LB),0,0,0,0,0,y)
else
(Ado f h a g b).bind fun(ag,p)=>
if(geq ag 1)then
if(Dw h 0)then
(Jp (Lk h 0)).bind fun _=>
if(Bz (Ae g (Aj (Ad p:UInt64) (Bu g (GI.toZ (4:UInt64)).toNat))) (Dm (16:UInt64) (GI.toZ h).toNat))then
j8 b f a k m (Aj h 1) (Ae g (Aj (Ad p:UInt64) (Bu g (GI.toZ (4:UInt64)).toNat)))
else
if(Bz h 24)then
(Jp (Lk h 0)).bind fun _=>
if(Dw (Ae g (Aj (Ad p:UInt64) (Bu g (GI.toZ (4:UInt64)).toNat))) (Dm (32:UInt64) (GI.toZ h).toNat))then
j8 b f a k m (Ae h 1) (Ae g (Aj (Ad p:UInt64) (Bu g (GI.toZ (4:UInt64)).toNat)))
else
j8 b f a k m h (Ae g (Aj (Ad p:UInt64) (Bu g (GI.toZ (4:UInt64)).toNat)))
else
j8 b f a k m h (Ae g (Aj (Ad p:UInt64) (Bu g (GI.toZ (4:UInt64)).toNat)))
else
if(Bz h 24)then
(Jp (Lk h 0)).bind fun _=>
if(Dw (Ae g (Aj (Ad p:UInt64) (Bu g (GI.toZ (4:UInt64)).toNat))) (Dm (32:UInt64) (GI.toZ h).toNat))then
j8 b f a k m (Ae h 1) (Ae g (Aj (Ad p:UInt64) (Bu g (GI.toZ (4:UInt64)).toNat)))
else
j8 b f a k m h (Ae g (Aj (Ad p:UInt64) (Bu g (GI.toZ (4:UInt64)).toNat)))
else
j8 b f a k m h (Ae g (Aj (Ad p:UInt64) (Bu g (GI.toZ (4:UInt64)).toNat)))
else
j8 b f a k m h g
def Av6:=Avl Avg
def Av7(j7:UInt32→Int→Int→UInt64→UInt64→Int→Int→LB→Hc)(b:UInt32)(v:LB)(w f h:Int)(a g:UInt64):Hc:=
(Ado f h a g b).bind fun(ad,ae)=>
(As3 v w (Ad ad:UInt64) 1).bind fun(aa,ab,ac)=>
if((geq ac 0)&&(geq ad 0))then
(As3 aa ab (Ad ae:UInt64) f).bind fun(ah,ai,aj)=>
j7 b f h a g aj ai ah
else
if(geq ac 0)then
(Bfa aa ab ae h).bind fun(ak,al,am)=>
j7 b f h a g am al ak
else
j7 b f h a g ac ab aa
def Avn:=Av7 Av6
def Awa(j6:UInt32→LB→Int→Int→Int→UInt64→UInt64→Hc)(v:LB)(w f h:Int)(a g:UInt64)(b:UInt32):Hc:=
(Jj v w).bind fun an=>
if(Ax an 0)then
some (([]:LB),0,0,0,0,0,8)
else
(Aki f h a g).bind fun ao=>
if(Ax ao 0)then
some (([]:LB),0,0,0,0,0,8)
else
j6 b v w f h a g
def Bef:=Awa Avn
abbrev Bl:=Option (UInt32×Int)
def Asv(h:UInt32):Bl:=
some (h,0)
def Ajy:=Asv
def Acm(j30:UInt32→Bl)(bk28:UInt32→Int→Bl)(a:LB)(b:LU)(h:UInt32)(m:Int):Bl:=
if(Bz m (Ac a))then
(getI a m).bind fun p=>
(getI b (GI.toZ (Wn (Ad h:UInt8) p))).bind fun _=>
(getI b (GI.toZ (Wn (Ad h:UInt8) p))).bind fun u=>
bk28 (Wn (Bu h (GI.toZ (8:UInt64)).toNat) u) (Ae m 1)
else
j30 h
def Oy(a:LB)(b:LU):Nat→UInt32→Int→Bl
|0,_,_=>none
|q+1,h,m=>Acm Ajy (Oy a b q) a b h m
def Ajf a b:=Oy a b FUEL
def Aju(j28:LB→LU→UInt32→Int→Bl)(f:UInt32)(a:LB)(b:LU):Bl:=
j28 a b f 0
def Aj4:=Aju Ajf
def Ai7(j27:UInt32→LB→LU→Bl)(f:UInt32)(a:LB)(b:LU):Bl:=
j27 f a b
def Abx:=Ai7 Aj4
def At0(bk16:Int→LU→Bl)(f:UInt32)(a:LB)(g:Int)(o:LU):Bl:=
bk16 (Ae g 1) o
def Akb bk16:=At0 bk16
def Akp(j24:Int→LU→Bl)(f:UInt32)(a:LB)(g:Int)(k:UInt32)(b:LU):Bl:=
(getI b g).bind fun _=>
(Kt b g k).bind fun o=>
j24 g o
def Ab3 bk16 f a:=Akp (Akb bk16 f a) f a
def Aam(j23:Int→UInt32→LU→Bl)(bk21:UInt32→Int→Bl)(f:UInt32)(a:LB)(g:Int)(b:LU)(k:UInt32)(n:Int):Bl:=
if(Bz n 8)then
bk21 (Wn (Bu k (GI.toZ (1:UInt64)).toNat) (Bi 3988292384 (Ds k 1))) (Ae n 1)
else
j23 g k b
def Pn(bk16:Int→LU→Bl)(f:UInt32)(a:LB)(g:Int)(b:LU):Nat→UInt32→Int→Bl
|0,_,_=>none
|q+1,k,n=>Aam (Ab3 bk16 f a) (Pn bk16 f a g b q) f a g b k n
def Ai1 bk16 f a g b:=Pn bk16 f a g b FUEL
def Ab7(j21:Int→LU→UInt32→Int→Bl)(j26:UInt32→LB→LU→Bl)(f:UInt32)(a:LB)(g:Int)(b:LU):Bl:=
if(Bz g 256)then
j21 g b (Ad g:UInt32) 0
else
j26 f a b
def Ma(f:UInt32)(a:LB):Nat→Int→LU→Bl
|0,_,_=>none
|q+1,g,b=>Ab7 (Ai1 (Ma f a q) f a) Abx f a g b
def Aj6 f a:=Ma f a FUEL
def Amk(j16:UInt32→LB→Int→LU→Bl)(f:UInt32)(a:LB):Bl:=
if(Dw (Ac a) 100000)then
some (0,4)
else
j16 f a 0 (List.replicate 256 (0:UInt32))
def An9:=Amk Aj6
def Vj(b:LB):Option (UInt32×Int):=
(An9 4294967295 b).bind fun(f,a)=>
if(Ax a 0)then
some (0,a)
else
some ((Bf8 f),0)
def Bco(b:UInt64)(a:Int):Option Bool:=
if(geq a 8)then
some true
else
(Jp (Lk (Bi 8 a) 0)).bind fun _=>
some (geq (Bu b (GI.toZ (Bi 8 a)).toNat) 0)
abbrev Xu:=Option (LB×Int)
def Ba3(a:LB):Xu:=
some (a,0)
def Arn:=Ba3
def Alm(j6:LB→Xu)(bk4:Int→LB→Xu)(f:UInt64)(g:LB)(b:Int)(a:LB):Xu:=
if(Bz b (Ac g))then
(Jp (Lk (Bi 8 b) 0)).bind fun _=>
(getI a b).bind fun _=>
(Kt a b (Ad (Bu f (GI.toZ (Bi 8 b)).toNat):UInt8)).bind fun k=>
bk4 (Ae b 1) k
else
j6 a
def Zs(f:UInt64)(g:LB):Nat→Int→LB→Xu
|0,_,_=>none
|q+1,b,a=>Alm Arn (Zs f g q) f g b a
def Ary f g:=Zs f g FUEL
def Arw(j4:UInt64→LB→Int→LB→Xu)(f:UInt64)(h:Int):Xu:=
if((Bz h 1)||(Dw h 8))then
some (([]:LB),2)
else
(Bco f h).bind fun m=>
if(!m)then
some (([]:LB),16)
else
(mkI h (0:UInt8)).bind fun g=>
(Jp (geq h h)).bind fun _=>
j4 f g 0 g
def Xd:=Arw Ary
def Ah1(f:LB):Option (LB):=
some f
def Tc:=Ah1
def Tj(j16:LB→Option (LB))(bk14:Int→LB→Option (LB))(a:List LB)(g:Int)(f:LB):Option (LB):=
if(Bz g (Ac a))then
(getI a g).bind fun o=>
(Da f o).bind fun p=>
bk14 (Ae g 1) p
else
j16 f
def Kz(a:List LB):Nat→Int→LB→Option (LB)
|0,_,_=>none
|q+1,g,f=>Tj Tc (Kz a q) a g f
def Tg a:=Kz a FUEL
def Sj(j14:(List LB)→Int→LB→Option (LB))(a:List LB)(k:LB):Option (LB):=
j14 a 0 k
def Ts:=Sj Tg
def Sk(j13:(List LB)→LB→Option (LB))(b:Int)(a:List LB):Option (LB):=
if(Dw (Aj b (Aj (0:Int) (0:Int))) 0)then
(vwI 0 0 0).bind fun _=>
(mkI (Aj b (Aj (0:Int) (0:Int))) (0:UInt8)).bind fun u=>
(Da ([]:LB) u).bind fun m=>
(vwI (Ac m) 0 0).bind fun _=>
j13 a (Amc m 0 ((0:Int)-(0:Int)))
else
j13 a ([]:LB)
def Sy:=Sk Ts
def Tq(j12:Int→(List LB)→Option (LB))(a:List LB)(b:Int):Option (LB):=
if(Bz b 0)then
none
else
j12 b a
def Th:=Tq Sy
def Ud(j11:(List LB)→Int→Option (LB))(bk9:Int→Int→Option (LB))(a:List LB)(b h:Int):Option (LB):=
if(Bz h (Ac a))then
(getI a h).bind fun n=>
if(Bz (Ae b (Ac n)) 0)then
none
else
bk9 (Ae b (Ac n)) (Ae h 1)
else
j11 a b
def Mc(a:List LB):Nat→Int→Int→Option (LB)
|0,_,_=>none
|q+1,b,h=>Ud Th (Mc a q) a b h
def Ty a:=Mc a FUEL
def Ut(j9:(List LB)→Int→Int→Option (LB))(a:List LB):Option (LB):=
j9 a 0 0
def Zk:=Ut Ty
abbrev Be:=Option (LB×Int)
def Aw6(u:Int)(p:LB):Be:=
(Vj p).bind fun(af,ac)=>
if(Ax ac 0)then
some (([]:LB),ac)
else
(Xd (Ad af:UInt64) 4).bind fun(m,h)=>
if(Ax h 0)then
some (([]:LB),h)
else
(Zk ([p,m]:List LB)).bind fun ag=>
some (ag,0)
def Ajx:=Aw6
def Axl(bk27:Int→(List (Int×Int×UInt64×UInt64×Unit))→Int→LB→Be)(a:LU)(b f g:Int)(k:List (Int×Int×UInt64×UInt64×Unit))(n:Int)(v:LB):Be:=
bk27 (Ae g 1) k n v
def Aiv bk27:=Axl bk27
def Axp(bk44:Int→Int→LB→Be)(h:Int)(a:LU)(g b f:Int)(k:List (Int×Int×UInt64×UInt64×Unit))(m:LB)(o n:Int)(aa:LB):Be:=
bk44 (Ae o 1) (Ae n 1) aa
def Ajp bk44:=Axp bk44
def Ajd(j48:Int→Int→LB→Be)(h:Int)(a:LU)(g b f:Int)(k:List (Int×Int×UInt64×UInt64×Unit))(m:LB)(o n:Int)(y:LB):Be:=
(getI m (Ck o 8)).bind fun _=>
(getI m (Ck o 8)).bind fun ah=>
(Jp (Lk (Gp o 8) 0)).bind fun _=>
(getI y (Ck n 8)).bind fun _=>
(Jp (Lk (Gp n 8) 0)).bind fun _=>
(getI y (Ck n 8)).bind fun ai=>
(getI y (Ck n 8)).bind fun _=>
Option.bind (Kt y (Ck n 8) (gor ai (Dm (Ds (Bu ah (GI.toZ (Gp o 8)).toNat) 1) (GI.toZ (Gp n 8)).toNat))) fun aa=>
j48 o n aa
def Aio bk44 h a g b f k m:=Ajd (Ajp bk44 h a g b f k m) h a g b f k m
def Aj8(j47:Int→Int→LB→Be)(j50:Int→(List (Int×Int×UInt64×UInt64×Unit))→Int→LB→Be)(a:LU)(b f h g:Int)(k:List (Int×Int×UInt64×UInt64×Unit))(m:LB)(o n:Int)(v:LB):Be:=
if(Bz o h)then
if(geq (Gp n 8) 0)then
(Da v ([(0:UInt8)]:LB)).bind fun aj=>
j47 o n aj
else
j47 o n v
else
j50 g k n v
def Yn(bk27:Int→(List (Int×Int×UInt64×UInt64×Unit))→Int→LB→Be)(a:LU)(b f h g:Int)(k:List (Int×Int×UInt64×UInt64×Unit))(m:LB):Nat→Int→Int→LB→Be
|0,_,_,_=>none
|q+1,o,n,v=>Aj8 (Aio (Yn bk27 a b f h g k m q) h a g b f k m) (Aiv bk27 a b f) a b f h g k m o n v
def Ajc bk27 a b f h g k m:=Yn bk27 a b f h g k m FUEL
def Ail(j44:Int→Int→(List (Int×Int×UInt64×UInt64×Unit))→LB→Int→Int→LB→Be)(j52:Int→LB→Be)(a:LU)(b f g:Int)(w:List (Int×Int×UInt64×UInt64×Unit))(u:Int)(p:LB):Be:=
if(Bz g (Ac a))then
(getI a g).bind fun _=>
(getI a g).bind fun ak=>
(Jp (Ax b 0)).bind fun _=>
(getI w (Gp g b)).bind fun _=>
(getI w (Gp g b)).bind fun ab=>
(Bef ([]:LB) 0 ab.1 ab.2.1 ab.2.2.1 ab.2.2.2.1 ak).bind fun(m,h,al,am,an,ao,ad)=>
if(Ax ad 0)then
some (([]:LB),ad)
else
(Jp (Ax b 0)).bind fun _=>
(getI w (Gp g b)).bind fun _=>
(Kt w (Gp g b) (al,am,an,ao,())).bind fun k=>
j44 h g k m 0 u p
else
j52 u p
def Xw(a:LU)(b f:Int):Nat→Int→(List (Int×Int×UInt64×UInt64×Unit))→Int→LB→Be
|0,_,_,_,_=>none
|q+1,g,w,u,p=>Ail (Ajc (Xw a b f q) a b f) Ajx a b f g w u p
def Ajt a b f:=Xw a b f FUEL
def Alu(j27:LU→Int→Int→Int→(List (Int×Int×UInt64×UInt64×Unit))→Int→LB→Be)(b f:Int)(ap aq:LX):Be:=
(Atm b f ap aq).bind fun(a,ae)=>
if(Ax ae 0)then
some (([]:LB),ae)
else
(Ars).bind fun ar=>
j27 a b f 0 ar 0 ([]:LB)
def Abb:=Alu Ajt
def Tw(a:Int)(b:LX):LI→Int→Option (List LX)
  |[],_=>some []
  |n::l,x=>Option.bind (Bb b x (Ae x (Bi n a))) fun p=>Option.bind (Tw a b l (Ae x (Bi n a))) fun ps=>some (p::ps)
def Aej(a f:Int)(t:LX):List LX→List LB→Option (List LB×Int)
  |[],o=>some (o,0)
  |x::xs,o=>Option.bind (Abb a f t x) fun y=>
    if(Ax y.2 0)=true then some ([],y.2)
    else Option.bind (Da o [y.1]) fun o'=>Aej a f t xs o'
def At9(a h:Int)(b:LX):Option (List LX):=
  Option.bind (Jp (Ax a 0)) fun _=>Option.bind (Up h (Ck (Ac b) a)) fun l=>Option.bind (Jp (decide (Ac l.1≤17179869184))) fun _=>Tw a b l.1 0
def Asw(a f h:Int)(b:LX)(p:LB):Option (List LB×Int):=
  Option.bind (Adq a f h b) fun e=>
    if(Ax e 0)=true then some ([],e)
    else Option.bind (Pf p) fun t=>
      if(Ax t.2 0)=true then some ([],t.2)
      else Option.bind (At9 a h b) fun xs=>Aej a f t.1 xs []
def Adj(b f a g h:Int):Option Bool:=
some (((((((geq b 1)||(geq b 2))&&(Dw f 0))&&(gle f 6))&&(Dw g 0))&&(gle g 1048576))&&(Dw h 0))
def Lh:=Adj
def Va(j2:Int→Int→Int→Int→Int→Option Bool)(b f a g h:Int):Option Bool:=
if(geq a 8)then
if(geq a 8)then
j2 b f a g h
else
some false
else
if(geq a 16)then
if(geq a 16)then
j2 b f a g h
else
some false
else
if(geq a 24)then
j2 b f a g h
else
some false
def Nn:=Va Lh
def Af7(k a m f b:Int):Option Bool:=
(Jp (Ax a 0)).bind fun _=>
if(Dw b (Ck 4000 a))then
some false
else
(Rg f b).bind fun(g,h)=>
some ((geq h 0)&&(gle g 1000))
def Pu(a b f g h:Int):Option Int:=
(Nn a b f g h).bind fun k=>
if(!k)then
some 8
else
(Af7 a b f g h).bind fun m=>
if(!m)then
some 8
else
some 0
abbrev Ln:=Option (LB×Int)
def Bcf(a:LB):Ln:=
(Vj a).bind fun(u,aa)=>
(Xd (Ad u:UInt64) 4).bind fun(n,v)=>
(Da a n).bind fun o=>
some (o,0)
def Ap7:=Bcf
def Aqi(j6:LB→Ln)(bk4:Int→LB→Ln)(b f g h k m:Int)(a:LB):Ln:=
if(Bz m 5)then
(getI ([b,f,g,h,k]:LI) m).bind fun w=>
(getI ([(2:Int),(2:Int),(2:Int),(4:Int),(4:Int)]:LI) m).bind fun y=>
(Xd (Ad w:UInt64) y).bind fun(n,v)=>
(Da a n).bind fun o=>
bk4 (Ae m 1) o
else
j6 a
def Agp(b f g h k:Int):Nat→Int→LB→Ln
|0,_,_=>none
|q+1,m,a=>Aqi Ap7 (Agp b f g h k q) b f g h k m a
def Aqj b f g h k:=Agp b f g h k FUEL
def Aqd(j4:Int→Int→Int→Int→Int→Int→LB→Ln)(b f g h k:Int):Ln:=
(Pu b f g h k).bind fun p=>
if(Ax p 0)then
some (([]:LB),p)
else
j4 b f g h k 0 ([(84:UInt8),(84:UInt8),(65:UInt8),(49:UInt8)]:LB)
def Ayc:=Aqd Aqj
def Azq(a:LB):Option (UInt64×Int):=
if(Dw (Ac a) 64)then
some (0,2)
else
(Anv a).bind fun(b,f)=>
some (b,0)
def Ab4(b:LB):Option (LB×Int):=
(Azq b).bind fun(f,a)=>
if(Ax a 0)then
some (([]:LB),a)
else
(Xd f 8).bind fun(g,h)=>
some (g,h)
def Bgd:Option Int:=
some 0
def Aue:=Bgd
def Aa1(j6:Option Int)(bk4:Int→Int→Option Int)(a:LI)(f b:Int):Option Int:=
if(Bz b (Ac a))then
(getI a b).bind fun g=>
if((Bz g 5)||(Dw g f))then
some 8
else
bk4 (Aj f g) (Ae b 1)
else
j6
def Pb(a:LI):Nat→Int→Int→Option Int
|0,_,_=>none
|q+1,f,b=>Aa1 Aue (Pb a q) a f b
def Ajm a:=Pb a FUEL
def Abw(j4:LI→Int→Int→Option Int)(a:LI):Option Int:=
if((geq (Ac a) 0)||(Dw (Ac a) 1000))then
some 8
else
j4 a 100000 0
def Nc:=Abw Ajm
abbrev Gd:=Option (LB×Int)
def Bci(g:LB):Gd:=
some (g,0)
def Aqo:=Bci
def Ap8(j14:LB→Gd)(b:LB):Gd:=
(Vj b).bind fun(m,u)=>
(Xd (Ad m:UInt64) 4).bind fun(n,v)=>
(Da b n).bind fun g=>
j14 g
def Ap5:=Ap8 Aqo
def Bcg(bk8:Int→LB→Gd)(a:LI)(f:Int)(h:LB):Gd:=
bk8 (Ae f 1) h
def Ap9 bk8:=Bcg bk8
def Ate(j11:Int→LB→Gd)(j13:LB→Gd)(a:LI)(f:Int)(b:LB):Gd:=
if(Bz f (Ac a))then
(getI a f).bind fun o=>
(Xd (Ad o:UInt64) 4).bind fun(p,w)=>
(Da b p).bind fun h=>
j11 f h
else
j13 b
def Akd(a:LI):Nat→Int→LB→Gd
|0,_,_=>none
|q+1,f,b=>Ate (Ap9 (Akd a q) a) Ap5 a f b
def Arv a:=Akd a FUEL
def Asb(j8:LI→Int→LB→Gd)(a:LI):Gd:=
(Nc a).bind fun k=>
if(Ax k 0)then
some (([]:LB),k)
else
j8 a 0 ([]:LB)
def Bca:=Asb Arv
def Avp(a:LB):Option Int:=
some (Ac a)
def Bdt(a:LB):Option (LB):=
some a
def As9:=Bdt
def Arq(j6:LB→Option (LB))(bk4:Int→LB→Option (LB))(b:List LB)(f:Int)(a:LB):Option (LB):=
if(Bz f (Ac b))then
(getI b f).bind fun g=>
(Da a g).bind fun h=>
bk4 (Ae f 1) h
else
j6 a
def Aje(b:List LB):Nat→Int→LB→Option (LB)
|0,_,_=>none
|q+1,f,a=>Arq As9 (Aje b q) b f a
def Ar1 b:=Aje b FUEL
def Atj(j4:(List LB)→Int→LB→Option (LB))(b:List LB):Option (LB):=
j4 b 0 ([]:LB)
def Bbh:=Atj Ar1
abbrev Dz:=Option (LB×Int)
def Bcd(k:Int)(a:List LB)(b f n:LB):Dz:=
if(Ax k 0)then
some (([]:LB),k)
else
(Da ([b,f,n]:List LB) a).bind fun m=>
(Bbh m).bind fun ad=>
some (ad,0)
def Aqs:=Bcd
def Aql(j14:Int→(List LB)→LB→LB→LB→Dz)(h:LI)(a:List LB)(b f:LB):Dz:=
(Bca h).bind fun(n,k)=>
j14 k a b f n
def Aqn:=Aql Aqs
def Bce(bk9:Int→LI→Dz)(a:List LB)(b f:LB)(g:Int)(m:LI):Dz:=
bk9 (Ae g 1) m
def Aqr bk9:=Bce bk9
def Atk(j11:Int→LI→Dz)(j13:LI→(List LB)→LB→LB→Dz)(a:List LB)(b f:LB)(g:Int)(h:LI):Dz:=
if(Bz g (Ac a))then
(getI a g).bind fun _=>
(getI a g).bind fun ae=>
(Avp ae).bind fun k=>
(getI h g).bind fun _=>
(Kt h g k).bind fun m=>
j11 g m
else
j13 h a b f
def Aiw(a:List LB)(b f:LB):Nat→Int→LI→Dz
|0,_,_=>none
|q+1,g,h=>Atk (Aqr (Aiw a b f q) a b f) Aqn a b f g h
def Asl a b f:=Aiw a b f FUEL
def Ar3(j9:(List LB)→LB→LB→Int→LI→Dz)(a:List LB)(b f:LB):Dz:=
(mkI (Ac a) (0:Int)).bind fun af=>
(Jp (geq (Ac a) (Ac a))).bind fun _=>
j9 a b f 0 af
def Arp:=Ar3 Asl
def Atn(j8:(List LB)→LB→LB→Dz)(p u v:Int)(w:LX)(o:LB):Dz:=
(Bbi p u v w o).bind fun(y,ag,ah,ai,aj,aa)=>
if(Ax aa 0)then
some (([]:LB),aa)
else
(Asw p u v w o).bind fun(a,ab)=>
if(Ax ab 0)then
some (([]:LB),ab)
else
(Ayc y ag ah ai aj).bind fun(b,ac)=>
if(Ax ac 0)then
some (([]:LB),ac)
else
if(geq y 2)then
(Ab4 o).bind fun(ak,al)=>
j8 a b ak
else
j8 a b ([]:LB)
def Bby:=Atn Arp
def Aih:Option (LB×Bool):=
(Bby 1 8 8000 ([(0:Int32)]:LX) ([]:LB)).bind fun(a,b)=>
some (a,((geq b 0)&&(geq (Ac a) 36)))
def Afh(a:LB):Option (LB×LB×Int×Int×Int×Int×Int×LI×Int×LB×Bool×Int×Int):=
if(Dw (Ac a) 64)then
some (([]:LB),([]:LB),0,0,0,0,0,([]:LI),0,([]:LB),false,0,2)
else
some (a,([]:LB),0,0,0,0,0,([]:LI),0,([]:LB),false,0,0)
def Gu(a:LB):Option (LB):=
(
(Da ([]:LB) a).bind fun b=>
some b)
def Ez(a:LI):Option (LI):=
(
(Da ([]:LI) a).bind fun b=>
some b)
def Cr(a b:LB)(f g h k m:Int)(n:LI)(o:Int)(p:LB)(u:Bool)(v:Int):Option (LB×LB×Int×Int×Int×Int×Int×LI×Int×LB×Bool×Int):=
(Gu b).bind fun w=>
(Gu p).bind fun y=>
(Ez n).bind fun aa=>
some (a,w,f,g,h,k,m,aa,o,y,u,v)
def Cu(g h k a b:Int):Option (LI×Int):=
(Pu g h k a b).bind fun f=>
if(Ax f 0)then
some (([]:LI),f)
else
(Up a b).bind fun(m,n)=>
some (m,n)
def Lt(a f g h k:Int)(b:LB):Option Int:=
if((b==([]:LB)) !=(geq a 1))then
some 26
else
some 0
def Aqm(w:Int)(o p:LB)(h b f k m:Int)(g:LI)(a:Int)(n:LB)(u:Bool)(v:Int):Option Bool:=
some (gle (Ac n) w)
def Agq:=Aqm
def Xm(j8:Int→LB→LB→Int→Int→Int→Int→Int→LI→Int→LB→Bool→Int→Option Bool)(bk6:Int→Int→Option Bool)(y:LI)(o p:LB)(h b f k m:Int)(g:LI)(a:Int)(n:LB)(u:Bool)(v w aa:Int):Option Bool:=
if(Bz aa (Ac y))then
(getI y aa).bind fun ac=>
bk6 (Ae w (Ck (Bi (Bi ac b) f) 8)) (Ae aa 1)
else
j8 w o p h b f k m g a n u v
def Mz(y:LI)(o p:LB)(h b f k m:Int)(g:LI)(a:Int)(n:LB)(u:Bool)(v:Int):Nat→Int→Int→Option Bool
|0,_,_=>none
|q+1,w,aa=>Xm Agq (Mz y o p h b f k m g a n u v q) y o p h b f k m g a n u v w aa
def Agl y o p h b f k m g a n u v:=Mz y o p h b f k m g a n u v FUEL
def Agy(j6:LI→LB→LB→Int→Int→Int→Int→Int→LI→Int→LB→Bool→Int→Int→Int→Option Bool)(o p:LB)(h b f k m:Int)(g:LI)(a:Int)(n:LB)(u:Bool)(v:Int)(ab:LI):Option Bool:=
if(geq (Ac g) 0)then
some ((geq a 0)&&(geq (Ac n) 0))
else
(Nc g).bind fun ad=>
if((((Ax ad 0)||(Ax (Ac g) (Ac ab)))||(Bz a 0))||(Dw a (Ac ab)))then
some false
else
(Bb ab 0 a).bind fun y=>
j6 y o p h b f k m g a n u v 0 0
def Agn:=Agy Agl
def Ag0(j5:LB→LB→Int→Int→Int→Int→Int→LI→Int→LB→Bool→Int→LI→Option Bool)(o p:LB)(h b f k m:Int)(g:LI)(a:Int)(n:LB)(u:Bool)(v:Int):Option Bool:=
if((geq h 0)&&((geq b 0)&&((geq f 0)&&((geq k 0)&&((geq m 0)&&true)))))then
some (((geq (Ac g) 0)&&(geq a 0))&&(geq (Ac n) 0))
else
(Cu h b f k m).bind fun(ab,ae)=>
if(Ax ae 0)then
some false
else
(Lt h b f k m o).bind fun af=>
if(Ax af 0)then
some false
else
j5 o p h b f k m g a n u v ab
def Vg:=Ag0 Agn
def Hw(a b:LB):Option Bool:=
some (a==b)
def Ki(b a:LB):Option Bool:=
if(Lk (Ac b) (Ac a))then
(Bb b 0 (Ac a)).bind fun f=>
(Hw f a).bind fun g=>
some g
else
some false
abbrev Km:=Option (Int×Int)
def Azn(b:Int):Km:=
some (b,0)
def Amu:=Azn
def Uy(j6:Int→Km)(bk4:Int→Int→Km)(a:LB)(b f:Int):Km:=
if(Bz f (Ac a))then
(getI a f).bind fun g=>
if(Dw g 127)then
some (0,12)
else
bk4 (gor (Dm b (GI.toZ (7:UInt64)).toNat) (Ad g:Int)) (Ae f 1)
else
j6 b
def Lj(a:LB):Nat→Int→Int→Km
|0,_,_=>none
|q+1,b,f=>Uy Amu (Lj a q) a b f
def Adk a:=Lj a FUEL
def Ad2(j4:LB→Int→Int→Km)(a:LB):Km:=
if(Ax (Ac a) 4)then
some (0,2)
else
j4 a 0 0
def Aem:=Ad2 Adk
abbrev He:=Option (Int×Int)
def Aqb(a:LB)(b:UInt8)(h:Int):He:=
if(Dw h 4000)then
some (0,4)
else
if(Bz (Ac a) h)then
some (0,24)
else
if(geq b 16)then
(Bb a (Aj h 10) h).bind fun k=>
(Bb k 0 3).bind fun u=>
if(u !=([51,68,73]:LB))then
some (0,12)
else
(Bb k 3 (Ac k)).bind fun v=>
(Bb a 3 10).bind fun w=>
(Hw v w).bind fun y=>
if(!y)then
some (0,12)
else
some (h,0)
else
some (h,0)
def Xj:=Aqb
def Agr(j8:LB→UInt8→Int→He)(a:LB)(g:Int)(b:UInt8):He:=
if(geq b 16)then
j8 a b (Ae (Ae g 10) 10)
else
j8 a b (Ae g 10)
def Xl:=Agr Xj
def Ag2(j7:LB→Int→UInt8→He)(a:LB)(g:Int)(b:UInt8)(m:Bool):He:=
if m then
some (0,12)
else
j7 a g b
def Agv:=Ag2 Xl
def Agx(j6:LB→Int→UInt8→Bool→He)(a:LB)(f b:UInt8):He:=
(Bb a 6 10).bind fun aa=>
(Aem aa).bind fun(g,ab)=>
if(Ax ab 0)then
if true then
j6 a g b true
else
if(geq b 0)then
j6 a g b (!((Lk f 2)&&(gle f 4)))
else
if(geq b 16)then
j6 a g b (!(geq f 4))
else
j6 a g b (!false)
else
(getI a 4).bind fun ac=>
if(Ax ac 0)then
j6 a g b true
else
if(geq b 0)then
j6 a g b (!((Lk f 2)&&(gle f 4)))
else
if(geq b 16)then
j6 a g b (!(geq f 4))
else
j6 a g b (!false)
def Ago:=Agx Agv
def Xp(j5:LB→UInt8→UInt8→He)(a:LB):He:=
(Ki a ([(73:UInt8),(68:UInt8),(51:UInt8)]:LB)).bind fun n=>
if(!n)then
some (0,6)
else
if(Bz (Ac a) 10)then
some (0,24)
else
(getI a 3).bind fun f=>
(getI a 5).bind fun b=>
(
(
(
j5 a f b)))
def Ah8:=Xp Ago
abbrev Ye:=Option (UInt64×Int)
def Bna(b:UInt64):Ye:=
some (b,0)
def Ba1:=Bna
def Alo(j6:UInt64→Ye)(bk4:UInt64→Int→Ye)(a:LB)(b:UInt64)(f:Int):Ye:=
if(Bz f (Ac a))then
(getI a f).bind fun g=>
(Jp (Lk (Bi 8 f) 0)).bind fun _=>
bk4 (gor b (Dm (Ad g:UInt64) (GI.toZ (Bi 8 f)).toNat)) (Ae f 1)
else
j6 b
def Zi(a:LB):Nat→UInt64→Int→Ye
|0,_,_=>none
|q+1,b,f=>Alo Ba1 (Zi a q) a b f
def At2 a:=Zi a FUEL
def Asm(j4:LB→UInt64→Int→Ye)(a:LB):Ye:=
if((Bz (Ac a) 1)||(Dw (Ac a) 8))then
some (0,2)
else
j4 a 0 0
def Aso:=Asm At2
def Amt(f:LB)(a b:Int):Option (UInt64×Int):=
if(((Bz b 1)||(Dw b 8))||(Bz a 0))then
some (0,2)
else
if(Dw a (Aj (Ac f) b))then
some (0,24)
else
(Bb f a (Ae a b)).bind fun g=>
(Aso g).bind fun(h,k)=>
some (h,k)
def Bf1(g:LB):Option (LB):=
some g
def Awu:=Bf1
def Ap3(j6:LB→Option (LB))(bk4:Int→LB→Option (LB))(a b:Int)(f:UInt64)(h:Int)(g:LB):Option (LB):=
if(Bz h (Ac ([(2000:UInt64),(Ad (Ae a 32):UInt64),(Ad b:UInt64),f,(0:UInt64),(0:UInt64)]:LQ)))then
(getI ([(2000:UInt64),(Ad (Ae a 32):UInt64),(Ad b:UInt64),f,(0:UInt64),(0:UInt64)]:LQ) h).bind fun _=>
(getI ([(2000:UInt64),(Ad (Ae a 32):UInt64),(Ad b:UInt64),f,(0:UInt64),(0:UInt64)]:LQ) h).bind fun k=>
(Xd k 4).bind fun(m,o)=>
(Da g m).bind fun n=>
bk4 (Ae h 1) n
else
j6 g
def Yc(a b:Int)(f:UInt64):Nat→Int→LB→Option (LB)
|0,_,_=>none
|q+1,h,g=>Ap3 Awu (Yc a b f q) a b f h g
def Awg a b f:=Yc a b f FUEL
def Awe(j4:Int→Int→UInt64→Int→LB→Option (LB))(a b:Int)(f:UInt64):Option (LB):=
j4 a b f 0 ([(65:UInt8),(80:UInt8),(69:UInt8),(84:UInt8),(65:UInt8),(71:UInt8),(69:UInt8),(88:UInt8)]:LB)
def Aum:=Awe Awg
def Aid(b:LB)(g:UInt64):Option (Int×Int×Bool):=
(Amt b 12 4).bind fun(a,m)=>
(Amt b 16 4).bind fun(f,n)=>
if(((Bz a 32)||(Dw a 3032))||(Dw f 1000))then
some (0,0,false)
else
(Aum (Aj (Ad a:Int) 32) (Ad f:Int) g).bind fun h=>
(Hw b h).bind fun k=>
some ((Aj (Ad a:Int) 32),(Ad f:Int),k)
def Auj(a:LB):Option (Int×Int):=
(Ki a ([(65:UInt8),(80:UInt8),(69:UInt8),(84:UInt8),(65:UInt8),(71:UInt8),(69:UInt8),(88:UInt8)]:LB)).bind fun f=>
if(!f)then
some (0,6)
else
if(Bz (Ac a) 32)then
some (0,24)
else
(Bb a 0 32).bind fun g=>
(Aid g 2684354560).bind fun(b,h,k)=>
if(!k)then
some (0,12)
else
if(Bz (Ac a) (Ae b 64))then
some (0,24)
else
(Bb a (Aj (Ae b 64) 32) (Ae b 64)).bind fun m=>
(Aum b h 2147483648).bind fun n=>
(Hw m n).bind fun o=>
if(!o)then
some (0,12)
else
some ((Ae b 64),0)
def Un(a:LB):Option (Int×Int):=
(Ah8 a).bind fun(f,b)=>
if(Ax b 6)then
some (f,b)
else
(Auj a).bind fun(g,h)=>
some (g,h)
def Rc(b:List UInt8):Nat→Int→Option (Int×Int)
  |0,_=>none
  |q+1,x=>Option.bind (Bb b x (Ac b)) fun s=>Option.bind (Un s) fun r=>
    if geq r.2 (6:Int)=true then some (x,0)
    else if(geq r.2 (0:Int)&&Dw (Ae x r.1) (4000:Int))=true then some (0,4)
    else if Ax r.2 (0:Int)=true then some (0,r.2)
    else Rc b q (Ae x r.1)
def Hy(b:List UInt8):Option (Int×Int):=Rc b FUEL 0
def Ag(a:Int):Option (Bool×Int):=
some (false,a)
def Fq(b a:LB):Option Bool:=
if(Lk (Ac b) (Ac a))then
(Bb b 0 (Ac a)).bind fun f=>
some (f==a)
else
some false
def Hr(a b:LB):Option Bool:=
(Fq a b).bind fun f=>
some f
def Bch:Option Bool:=
some false
def Aqa:=Bch
def Qy(j6:Option Bool)(bk4:Int→Option Bool)(a:LB)(b:Int):Option Bool:=
if(Bz b 2)then
(getI ([([73,68,51]:LB),([65,80,69,84,65,71,69,88]:LB)]:List LB) b).bind fun f=>
if(Bz (Ac a) (Ac f))then
(Hr f a).bind fun g=>
if g then
some true
else
bk4 (Ae b 1)
else
bk4 (Ae b 1)
else
j6
def Ia(a:LB):Nat→Int→Option Bool
|0,_=>none
|q+1,b=>Qy Aqa (Ia a q) a b
def Agm a:=Ia a FUEL
def Ag6(j4:LB→Int→Option Bool)(a:LB):Option Bool:=
j4 a 0
def Na:=Ag6 Agm
abbrev Nv:=Option (Int×Int×Int×Int×Int×Int)
def Atc(a:LI):Nv:=
(getI a 0).bind fun _=>
(getI a 0).bind fun h=>
(getI a 1).bind fun _=>
(getI a 1).bind fun k=>
(getI a 2).bind fun _=>
(getI a 2).bind fun m=>
(getI a 3).bind fun _=>
(getI a 3).bind fun n=>
(getI a 4).bind fun _=>
(getI a 4).bind fun o=>
(Nn h k m n o).bind fun p=>
if(!p)then
some (0,0,0,0,0,12)
else
(Af7 h k m n o).bind fun u=>
if(!u)then
some (0,0,0,0,0,4)
else
some (h,k,m,n,o,0)
def Aa9:=Atc
def Aci(j6:LI→Nv)(bk4:Int→Int→LI→Nv)(b:LB)(g f:Int)(a:LI):Nv:=
if(Bz f 5)then
(getI ([(2:Int),(2:Int),(2:Int),(4:Int),(4:Int)]:LI) f).bind fun h=>
(Amt b g h).bind fun(v,ae)=>
(getI a f).bind fun _=>
(Kt a f (Ad v:Int)).bind fun w=>
bk4 (Ae g h) (Ae f 1) w
else
j6 a
def Lz(b:LB):Nat→Int→Int→LI→Nv
|0,_,_,_=>none
|q+1,g,f,a=>Aci Aa9 (Lz b q) b g f a
def Aay b:=Lz b FUEL
def Ajh(j4:LB→Int→Int→LI→Nv)(b:LB):Nv:=
(Bb b 0 (Dk 4 (Ac b))).bind fun y=>
(Hr ([84,84,65,49]:LB) y).bind fun aa=>
if(!aa)then
some (0,0,0,0,0,12)
else
if(Bz (Ac b) 22)then
some (0,0,0,0,0,24)
else
(Amt b 18 4).bind fun(ab,af)=>
(Bb b 0 18).bind fun ac=>
(Vj ac).bind fun(ad,ag)=>
if(Ax (Ad ad:UInt64) ab)then
some (0,0,0,0,0,22)
else
j4 b 4 0 (List.replicate 5 (0:Int))
def Ld:=Ajh Aay
def Vp(a f:LB):Option (Bool×Int):=
(Ab4 f).bind fun(b,g)=>
if((Ax g 0)||(Ax (Ac a) (Ac b)))then
some (false,2)
else
(Hw a b).bind fun h=>
some (h,0)
abbrev Qc:=Option (LI×Int)
def Awd(a:LI):Qc:=
(Nc a).bind fun k=>
if(Ax k 0)then
some (([]:LI),12)
else
some (a,0)
def Aeu:=Awd
def Aek(j6:LI→Qc)(bk4:Int→LI→Qc)(b:LB)(f:LI)(g:Int)(a:LI):Qc:=
if(Bz g (Ac f))then
(Amt b (Bi 4 g) 4).bind fun(k,u)=>
(getI a g).bind fun _=>
(Kt a g (Ad k:Int)).bind fun m=>
bk4 (Ae g 1) m
else
j6 a
def Re(b:LB)(f:LI):Nat→Int→LI→Qc
|0,_,_=>none
|q+1,g,a=>Aek Aeu (Re b f q) b f g a
def Al9 b f:=Re b f FUEL
def Al7(j4:LB→LI→Int→LI→Qc)(b:LB)(h:Int):Qc:=
if((Bz h 1)||(Dw h 1000))then
some (([]:LI),2)
else
if(Bz (Ac b) (Ae (Bi 4 h) 4))then
some (([]:LI),24)
else
(Amt b (Bi 4 h) 4).bind fun(n,v)=>
(Bb b 0 (Bi 4 h)).bind fun o=>
(Vj o).bind fun(p,w)=>
if(Ax (Ad p:UInt64) n)then
some (([]:LI),22)
else
(mkI h (0:Int)).bind fun f=>
(Jp (geq h h)).bind fun _=>
j4 b f 0 f
def Aeb:=Al7 Al9
def Xa(f a b g h:Int):Option (Int×Int):=
some (a,b)
def Aa2(a:LB):Option (LB×Int):=
if(Bz (Ac a) 5)then
some (([]:LB),24)
else
if(Dw (Ac a) 41254)then
some (([]:LB),4)
else
(Bb a 0 (Aj (Ac a) 4)).bind fun f=>
(Vj f).bind fun(g,b)=>
if(Ax b 0)then
some (([]:LB),b)
else
(Bb a (Aj (Ac a) 4) (Ac a)).bind fun h=>
(Aso h).bind fun(k,m)=>
if((Ax m 0)||(Ax k (Ad g:UInt64)))then
some (([]:LB),22)
else
(Bb a 0 (Aj (Ac a) 4)).bind fun n=>
some (n,0)
def Bkl(a:LB):Option (LB×Int×Int):=
if(Dw (Ac a) 41250)then
some (([]:LB),0,4)
else
(Fo a).bind fun b=>
some (b,(Bi 8 (Ac a)),0)
def Bnm(g:UInt64):Option UInt64:=
some g
def Bbd:=Bnm
def Ar4(j6:UInt64→Option UInt64)(bk4:UInt64→Int→Option UInt64)(b f:Int)(h:LB)(k:Int)(g:UInt64)(a:Int):Option UInt64:=
if(Bz a f)then
(getI h (Bkp (Ae b a) (GI.toZ (3:UInt64)).toNat)).bind fun m=>
(Jp (Lk (Ds (Ae b a) 7) 0)).bind fun _=>
(Jp (Lk (Dk (Aj f a) (Aj 8 (Ds (Ae b a) 7))) 0)).bind fun _=>
(Jp (Lk a 0)).bind fun _=>
bk4 (gor g (Dm (Ad (Ds (Bu m (GI.toZ (Ds (Ae b a) 7)).toNat) (Aj (Dm (1:UInt8) (GI.toZ (Dk (Aj f a) (Aj 8 (Ds (Ae b a) 7)))).toNat) 1)):UInt64) (GI.toZ a).toNat)) (Ae a (Dk (Aj f a) (Aj 8 (Ds (Ae b a) 7))))
else
j6 g
def Ae0(b f:Int)(h:LB)(k:Int):Nat→UInt64→Int→Option UInt64
|0,_,_=>none
|q+1,g,a=>Ar4 Bbd (Ae0 b f h k q) b f h k g a
def Ba6 b f h k:=Ae0 b f h k FUEL
def Bbg(j4:Int→Int→LB→Int→UInt64→Int→Option UInt64)(h:LB)(k b f:Int):Option UInt64:=
j4 b f h k 0 0
def Axq:=Bbg Ba6
abbrev Ej:=Option (LB×Int×Int)
def Ay0(o:Int)(p:LB):Ej:=
some (p,o,0)
def Aog:=Ay0
def Ax1(bk27:Int→Int→LB→Ej)(a:Int)(g:LB)(f b h:Int)(u:LB):Ej:=
bk27 (Ae b 64) h u
def Ah0 bk27:=Ax1 bk27
def Ayo(bk44:UInt64→Int→Int→LB→Ej)(a b:Int)(g:LB)(f:Int)(k n:UInt64)(m h:Int)(w:LB):Ej:=
(Jp (Lk (Dk m (Aj 8 (Ds h 7))) 0)).bind fun _=>
bk44 (Bu n (GI.toZ (Dk m (Aj 8 (Ds h 7)))).toNat) (Aj m (Dk m (Aj 8 (Ds h 7)))) (Ae h (Dk m (Aj 8 (Ds h 7)))) w
def Aol bk44:=Ayo bk44
def Aoq(j48:UInt64→Int→Int→LB→Ej)(a b:Int)(g:LB)(f:Int)(k n:UInt64)(m h:Int)(v:LB):Ej:=
(getI v (Aj (Ac v) 1)).bind fun _=>
(Jp (Lk (Dk m (Aj 8 (Ds h 7))) 0)).bind fun _=>
(Jp (Lk (Ds h 7) 0)).bind fun _=>
(getI v (Aj (Ac v) 1)).bind fun aa=>
(getI v (Aj (Ac v) 1)).bind fun _=>
Option.bind (Kt v (Aj (Ac v) 1) (gor aa (Dm (Ad (Ds n (Aj (Dm (1:UInt64) (GI.toZ (Dk m (Aj 8 (Ds h 7)))).toNat) 1)):UInt8) (GI.toZ (Ds h 7)).toNat))) fun w=>
j48 n m h w
def Ah3 bk44 a b g f k:=Aoq (Aol bk44 a b g f k) a b g f k
def Ah5(j47:UInt64→Int→Int→LB→Ej)(j50:Int→Int→LB→Ej)(a:Int)(g:LB)(f b:Int)(k n:UInt64)(m h:Int)(u:LB):Ej:=
if(Dw m 0)then
if(geq (Ds h 7) 0)then
(Da u ([(0:UInt8)]:LB)).bind fun ab=>
j47 n m h ab
else
j47 n m h u
else
j50 b h u
def Nk(bk27:Int→Int→LB→Ej)(a:Int)(g:LB)(f b:Int)(k:UInt64):Nat→UInt64→Int→Int→LB→Ej
|0,_,_,_,_=>none
|q+1,n,m,h,u=>Ah5 (Ah3 (Nk bk27 a g f b k q) a b g f k) (Ah0 bk27 a g f) a g f b k n m h u
def Apg bk27 a g f b k:=Nk bk27 a g f b k FUEL
def Aph(j44:Int→UInt64→UInt64→Int→Int→LB→Ej)(j52:Int→LB→Ej)(a:Int)(g:LB)(f b o:Int)(p:LB):Ej:=
if(Bz b a)then
(Axq g f b (Dk 64 (Aj a b))).bind fun k=>
j44 b k k (Dk 64 (Aj a b)) o p
else
j52 o p
def Vl(a:Int)(g:LB)(f:Int):Nat→Int→Int→LB→Ej
|0,_,_,_=>none
|q+1,b,o,p=>Aph (Apg (Vl a g f q) a g f) Aog a g f b o p
def Api a g f:=Vl a g f FUEL
def Atw(j27:Int→LB→Int→Int→Int→LB→Ej)(g:LB)(f y a:Int):Ej:=
(Jj g f).bind fun ac=>
if(Ax ac 0)then
some (([]:LB),0,8)
else
if(((Bz y 0)||(Dw y a))||(Dw a f))then
some (([]:LB),0,2)
else
j27 a g f y 0 ([]:LB)
def As0:=Atw Api
def Acb(g:LB)(b f a:Int):Option (UInt64×Int):=
(Jj g b).bind fun h=>
if(Ax h 0)then
some (0,8)
else
if(((Bz a 0)||(Dw a 64))||(Bz f 0))then
some (0,2)
else
if(Dw f (Aj b a))then
some (0,24)
else
(Axq g b f a).bind fun k=>
some (k,0)
def Fu(a:UInt64):Option Int:=
if(geq a 0)then
some 64
else
(getI ([(0:UInt8),(1:UInt8),(56:UInt8),(2:UInt8),(57:UInt8),(49:UInt8),(28:UInt8),(3:UInt8),(61:UInt8),(58:UInt8),(42:UInt8),(50:UInt8),(38:UInt8),(29:UInt8),(17:UInt8),(4:UInt8),(62:UInt8),(47:UInt8),(59:UInt8),(36:UInt8),(45:UInt8),(43:UInt8),(51:UInt8),(22:UInt8),(53:UInt8),(39:UInt8),(33:UInt8),(30:UInt8),(24:UInt8),(18:UInt8),(12:UInt8),(5:UInt8),(63:UInt8),(55:UInt8),(48:UInt8),(27:UInt8),(60:UInt8),(41:UInt8),(37:UInt8),(16:UInt8),(46:UInt8),(35:UInt8),(44:UInt8),(21:UInt8),(52:UInt8),(32:UInt8),(23:UInt8),(11:UInt8),(54:UInt8),(26:UInt8),(40:UInt8),(15:UInt8),(34:UInt8),(20:UInt8),(31:UInt8),(10:UInt8),(25:UInt8),(14:UInt8),(19:UInt8),(9:UInt8),(13:UInt8),(8:UInt8),(7:UInt8),(6:UInt8)]:LB) (GI.toZ (Bu (Bi (Ds a (Axz a)) 285870213051353865) (GI.toZ (58:UInt64)).toNat))).bind fun b=>
some (Ad b:Int)
abbrev Hf:=Option (Int×Int×Int)
def Beq:Hf:=
some (0,0,24)
def Att:=Beq
def Avm(j10:Hf):Hf:=
j10
def Avj:=Avm Att
def Al4(j9:Hf)(f a:Int):Hf:=
if(geq f 48)then
some (f,(Ae 0 (Ae a f)),0)
else
j9
def Amd:=Al4 Avj
def Ama(j8:Int→Int→Hf)(f b a:Int):Hf:=
if(Bz f (Dk 48 (Aj b a)))then
some (f,(Ae (Ae (0:Int) (1:Int)) (Ae a f)),0)
else
j8 f a
def Al5:=Ama Amd
def Amo(j7:Int→Int→Int→Hf)(h:Int)(k:UInt64)(a:Int)(g:LB)(b:Int):Hf:=
if(Ax h 0)then
some (0,0,h)
else
(Fu (Bf8 k)).bind fun f=>
j7 f b a
def Al8:=Amo Al5
def Xh(j6:Int→UInt64→Int→LB→Int→Hf)(g:LB)(b a:Int):Hf:=
(Jj g b).bind fun m=>
if(Ax m 0)then
some (0,0,m)
else
if(Bz a 0)then
some (0,0,2)
else
if(Lk a b)then
some (0,0,24)
else
(
(
(Acb g b a (Dk 48 (Aj b a))).bind fun(k,h)=>
j6 h k a g b))
def Aee:=Xh Al8
abbrev Atv:=Option (UInt32×Int×Int)
def Apd(a b f:Int)(g:LB)(h k:Int):Atv:=
(Acb g h b k).bind fun(m,n)=>
if(Ax n 0)then
some (0,0,n)
else
if(Bz f 48)then
(Jp (Lk a 0)).bind fun _=>
some ((gor (Dm (Ad f:UInt32) (GI.toZ a).toNat) (Ad m:UInt32)),(Ae b k),0)
else
(Ahs (Ad m:UInt32) a).bind fun u=>
if(!u)then
some (0,0,12)
else
some ((Ad m:UInt32),(Ae b k),0)
def Ahw:=Apd
def Apf(j2:Int→Int→Int→LB→Int→Int→Atv)(g:LB)(h v a:Int):Atv:=
(Jj g h).bind fun o=>
if(Ax o 0)then
some (0,0,o)
else
if((Bz a 0)||(Dw a 24))then
some (0,0,2)
else
(Aee g h v).bind fun(f,b,p)=>
if(Ax p 0)then
some (0,0,p)
else
if(geq f 48)then
j2 a b f g h 32
else
j2 a b f g h a
def Auo:=Apf Ahw
abbrev Jt:=Option (UInt32×Int×Int×Int×UInt64×UInt64×Int)
def Av4(f:UInt32)(k w m:Int)(a n:UInt64):Jt:=
some (f,k,w,m,(Ae a (Aj (Ad f:UInt64) (Bu a (GI.toZ (4:UInt64)).toNat))),n,0)
def Amf:=Av4
def Aoz(j10:UInt32→Int→Int→Int→UInt64→UInt64→Jt)(f:UInt32)(k m:Int)(a n:UInt64)(w:Int):Jt:=
j10 f k w m a n
def Aoh:=Aoz Amf
def Apj(j9:UInt32→Int→Int→UInt64→UInt64→Int→Jt)(f:UInt32)(k b:Int)(a:UInt64)(m:Int)(n:UInt64):Jt:=
if(Dw b 0)then
(Jp (Lk b 0)).bind fun _=>
if(Bz (Ae a (Aj (Ad f:UInt64) (Bu a (GI.toZ (4:UInt64)).toNat))) (Dm (16:UInt64) (GI.toZ b).toNat))then
j9 f k m a n (Aj b 1)
else
if(Bz b 24)then
(Jp (Lk b 0)).bind fun _=>
if(Dw (Ae a (Aj (Ad f:UInt64) (Bu a (GI.toZ (4:UInt64)).toNat))) (Dm (32:UInt64) (GI.toZ b).toNat))then
j9 f k m a n (Ae b 1)
else
j9 f k m a n b
else
j9 f k m a n b
else
if(Bz b 24)then
(Jp (Lk b 0)).bind fun _=>
if(Dw (Ae a (Aj (Ad f:UInt64) (Bu a (GI.toZ (4:UInt64)).toNat))) (Dm (32:UInt64) (GI.toZ b).toNat))then
j9 f k m a n (Ae b 1)
else
j9 f k m a n b
else
j9 f k m a n b
def Aaf:=Apj Aoh
def Aow(j8:UInt32→Int→Int→UInt64→Int→UInt64→Jt)(b h:Int)(a g:UInt64)(f:UInt32)(k:Int):Jt:=
(Ado b h a g f).bind fun(ad,o)=>
if(geq ad 1)then
if(Dw h 0)then
(Jp (Lk h 0)).bind fun _=>
if(Bz (Ae g (Aj (Ad o:UInt64) (Bu g (GI.toZ (4:UInt64)).toNat))) (Dm (16:UInt64) (GI.toZ h).toNat))then
j8 f k b a (Aj h 1) (Ae g (Aj (Ad o:UInt64) (Bu g (GI.toZ (4:UInt64)).toNat)))
else
if(Bz h 24)then
(Jp (Lk h 0)).bind fun _=>
if(Dw (Ae g (Aj (Ad o:UInt64) (Bu g (GI.toZ (4:UInt64)).toNat))) (Dm (32:UInt64) (GI.toZ h).toNat))then
j8 f k b a (Ae h 1) (Ae g (Aj (Ad o:UInt64) (Bu g (GI.toZ (4:UInt64)).toNat)))
else
j8 f k b a h (Ae g (Aj (Ad o:UInt64) (Bu g (GI.toZ (4:UInt64)).toNat)))
else
j8 f k b a h (Ae g (Aj (Ad o:UInt64) (Bu g (GI.toZ (4:UInt64)).toNat)))
else
if(Bz h 24)then
(Jp (Lk h 0)).bind fun _=>
if(Dw (Ae g (Aj (Ad o:UInt64) (Bu g (GI.toZ (4:UInt64)).toNat))) (Dm (32:UInt64) (GI.toZ h).toNat))then
j8 f k b a (Ae h 1) (Ae g (Aj (Ad o:UInt64) (Bu g (GI.toZ (4:UInt64)).toNat)))
else
j8 f k b a h (Ae g (Aj (Ad o:UInt64) (Bu g (GI.toZ (4:UInt64)).toNat)))
else
j8 f k b a h (Ae g (Aj (Ad o:UInt64) (Bu g (GI.toZ (4:UInt64)).toNat)))
else
j8 f k b a h g
def Ahy:=Aow Aaf
def Ao8(j7:Int→Int→UInt64→UInt64→UInt32→Int→Jt)(p:Int)(u:LB)(v b h:Int)(a g:UInt64):Jt:=
(Acb u v p 1).bind fun(ae,aa)=>
if(Ax aa 0)then
some (0,0,0,0,0,0,aa)
else
if(geq ae 0)then
(Acb u v (Ae p 1) b).bind fun(af,ab)=>
if(Ax ab 0)then
some (0,0,0,0,0,0,ab)
else
j7 b h a g (Ad af:UInt32) (Ae (Ae p 1) b)
else
(Auo u v (Ae p 1) h).bind fun(y,ag,ac)=>
if(Ax ac 0)then
some (0,0,0,0,0,0,ac)
else
(Jp (Lk b 0)).bind fun _=>
if(Bz (Ae y (Dm (1:UInt32) (GI.toZ b).toNat)) y)then
some (0,0,0,0,0,0,12)
else
j7 b h a g (Ae y (Dm (1:UInt32) (GI.toZ b).toNat)) ag
def Aom:=Ao8 Ahy
def Aof(j6:Int→LB→Int→Int→Int→UInt64→UInt64→Jt)(u:LB)(v p b h:Int)(a g:UInt64):Jt:=
(Jj u v).bind fun ah=>
if(Ax ah 0)then
some (0,0,0,0,0,0,8)
else
(Aki b h a g).bind fun ai=>
if(Ax ai 0)then
some (0,0,0,0,0,0,8)
else
j6 p u v b h a g
def Ad6:=Aof Aom
abbrev Bk:=Option (LU×Int×Int)
def Axm(k:Int)(m:LU):Bk:=
some (m,k,0)
def Ajr:=Axm
def Akj(bk16:Int→Int→(List (Int×Int×UInt64×UInt64×Unit))→LU→Bk)(a f:Int)(g:LB)(b k v:Int)(w:UInt32)(h:Int)(ag:List (Int×Int×UInt64×UInt64×Unit))(m:LU):Bk:=
(Da m ([w]:LU)).bind fun ak=>
bk16 (Ae k v) (Ae h 1) ag ak
def Xr bk16:=Akj bk16
def Qk(j22:Int→Int→UInt32→Int→(List (Int×Int×UInt64×UInt64×Unit))→LU→Bk)(a f:Int)(g:LB)(b k h y:Int)(w:UInt32)(v:Int)(n:List (Int×Int×UInt64×UInt64×Unit))(m:LU)(aa ab:Int)(ac ad:UInt64):Bk:=
if(Ax y 0)then
some (([]:LU),0,y)
else
(Jp (Ax a 0)).bind fun _=>
(getI n (Gp h a)).bind fun _=>
(Kt n (Gp h a) (aa,ab,ac,ad,())).bind fun ag=>
j22 k v w h ag m
def Qq bk16 a f g b:=Qk (Xr bk16 a f g b) a f g b
def Pw(j21:Int→Int→Int→UInt32→Int→(List (Int×Int×UInt64×UInt64×Unit))→LU→Int→Int→UInt64→UInt64→Bk)(j24:Int→LU→Bk)(a f:Int)(g:LB)(b k h:Int)(n:List (Int×Int×UInt64×UInt64×Unit))(m:LU):Bk:=
if(Bz h (Bi f a))then
(As0 g b k (Dk (Ae k 81) b)).bind fun(ah,ae,af)=>
if(Ax af 0)then
some (([]:LU),0,af)
else
(Jp (Ax a 0)).bind fun _=>
(getI n (Gp h a)).bind fun _=>
(
(
(getI n (Gp h a)).bind fun p=>
(
(Ad6 ah ae 0 p.1 p.2.1 p.2.2.1 p.2.2.2.1).bind fun(w,v,aa,ab,ac,ad,y)=>
j21 k h y w v n m aa ab ac ad)))
else
j24 k m
def Ll(a f:Int)(g:LB)(b:Int):Nat→Int→Int→(List (Int×Int×UInt64×UInt64×Unit))→LU→Bk
|0,_,_,_,_=>none
|q+1,k,h,n,m=>Pw (Qq (Ll a f g b q) a f g b) Ajr a f g b k h n m
def Aja a f g b:=Ll a f g b FUEL
def Aix(j16:Int→Int→LB→Int→Int→Int→(List (Int×Int×UInt64×UInt64×Unit))→LU→Bk)(a f:Int)(g:LB)(b:Int)(o:List (Int×Int×UInt64×UInt64×Unit)):Bk:=
j16 a f g b 0 0 o ([]:LU)
def Ym:=Aix Aja
def Ajk(j15:Int→Int→LB→Int→(List (Int×Int×UInt64×UInt64×Unit))→Bk)(bk13:Int→(List (Int×Int×UInt64×UInt64×Unit))→Bk)(a f:Int)(g:LB)(b u:Int)(o:List (Int×Int×UInt64×UInt64×Unit)):Bk:=
if(Bz u 6)then
(Awf).bind fun(al,ae,af,am)=>
(getI o u).bind fun _=>
(Kt o u (al,ae,af,am,())).bind fun an=>
bk13 (Ae u 1) an
else
j15 a f g b o
def Xs(a f:Int)(g:LB)(b:Int):Nat→Int→(List (Int×Int×UInt64×UInt64×Unit))→Bk
|0,_,_=>none
|q+1,u,o=>Ajk Ym (Xs a f g b q) a f g b u o
def Qn a f g b:=Xs a f g b FUEL
def Aae(j13:Int→Int→LB→Int→Int→(List (Int×Int×UInt64×UInt64×Unit))→Bk)(a f:Int)(g:LB)(b:Int):Bk:=
j13 a f g b 0 (List.replicate 6 ((0:Int),(0:Int),(0:UInt64),(0:UInt64),()))
def Abs:=Aae Qn
def Vm(a:UInt32):Option Int32:=
some (Wn (Ad (Bu a (GI.toZ (1:UInt64)).toNat):Int32) (Axz (Ad (Ds a 1):Int32)))
def At5(b:Int)(f g:LX)(a:Int32):Option (Int32×Int×LX×LX×Int):=
(Aiz b f g).bind fun(h,k)=>
if(Ax k 0)then
some (0,0,(List.replicate 16 (0:Int32)),(List.replicate 16 (0:Int32)),k)
else
(Aou b f g (Ae a h) a).bind fun(m,n,o)=>
some ((Ae a h),m,n,o,0)
def Kj(a:Int)(b:Int32)(f:Int)(g h:LX)(o:Int32):Option (Int32×Int×Int32×Int×LX×LX×Int):=
(Uf a b f g h).bind fun k=>
if(Ax k 0)then
some (0,0,0,0,(List.replicate 16 (0:Int32)),(List.replicate 16 (0:Int32)),k)
else
(Ur a b).bind fun(m,y)=>
(At5 f g h o).bind fun(n,p,u,v,w)=>
(
some ((Ae n m),a,(Ae n m),p,u,v,w))
abbrev Fy:=Option (LX×Int)
def Bkb(f:LX):Fy:=
some (f,0)
def Ay2:=Bkb
def Axx(bk12:Int→LX→Fy)(b a:Int)(h:LX):Fy:=
bk12 (Ae a b) h
def Apm bk12:=Axx bk12
def Ah6(j20:Int→LX→Fy)(bk18:Int→LX→Fy)(b a g:Int)(h:LX):Fy:=
if(Lk g 0)then
(Jp (decide (0≤(Ae g 1)∧(Ae g 1)<((Ae a b)-a)))).bind fun _=>
(Jp (decide (0≤g∧g<((Ae a b)-a)))).bind fun _=>
(getI h (a+(Ae g 1))).bind fun o=>
(getI h (a+g)).bind fun p=>
(Jp (decide (0≤g∧g<((Ae a b)-a)))).bind fun _=>
(Kt h (a+g) (Aj o p)).bind fun u=>
bk18 (Aj g 1) u
else
j20 a h
def Vn(bk12:Int→LX→Fy)(b a:Int):Nat→Int→LX→Fy
|0,_,_=>none
|q+1,g,h=>Ah6 (Apm bk12 b) (Vn bk12 b a q) b a g h
def Apt bk12 b a:=Vn bk12 b a FUEL
def Aop(j18:Int→Int→LX→Fy)(b a:Int)(k:LX):Fy:=
j18 a (Aj (Aj ((Ae a b)-a) 1) 1) k
def Ah7 bk12 b:=Aop (Apt bk12 b) b
def Apb(j17:Int→LX→Fy)(j22:LX→Fy)(b a:Int)(f:LX):Fy:=
if(Bz a (Ac f))then
(vwI (Ac f) a (Ae a b)).bind fun _=>
if(Dw (Aj ((Ae a b)-a) 1) 0)then
(Jp (decide (0≤(Aj ((Ae a b)-a) 1)∧(Aj ((Ae a b)-a) 1)<((Ae a b)-a)))).bind fun _=>
Option.bind (Jp (decide (0≤(Aj (Aj ((Ae a b)-a) 1) 1)∧(Aj (Aj ((Ae a b)-a) 1) 1)<((Ae a b)-a)))) fun _=>
(getI f (a+(Aj ((Ae a b)-a) 1))).bind fun v=>
(getI f (a+(Aj (Aj ((Ae a b)-a) 1) 1))).bind fun w=>
(Jp (decide (0≤(Aj ((Ae a b)-a) 1)∧(Aj ((Ae a b)-a) 1)<((Ae a b)-a)))).bind fun _=>
(Kt f (a+(Aj ((Ae a b)-a) 1)) (Ae v (Ck w 2))).bind fun y=>
j17 a y
else
j17 a f
else
j22 f
def Qs(b:Int):Nat→Int→LX→Fy
|0,_,_=>none
|q+1,a,f=>Apb (Ah7 (Qs b q) b) Ay2 b a f
def Apc b:=Qs b FUEL
def Aud(j12:Int→Int→LX→Fy)(b:Int)(m:LX):Fy:=
(Am6 b m).bind fun n=>
if(Ax n 0)then
some (([]:LX),n)
else
(Eb m).bind fun aa=>
j12 b 0 aa
def Ayn:=Aud Apc
abbrev Bp:=Option (LX×Int)
def Aha(a b:Int)(k:LX):Bp:=
(Ayn a k).bind fun(ah,af)=>
if(Ax af 0)then
some (([]:LX),af)
else
(Um b ah).bind fun ae=>
if(Ax ae 0)then
some (([]:LX),ae)
else
some (ah,0)
def Kq:=Aha
def Aho(bk13:Int→(List (Int×Int32×(Int×LX×LX×Unit)×Unit))→LX→Bp)(a:Int)(f:LU)(b g:Int)(w:Int32)(u:Int)(h:List (Int×Int32×(Int×LX×LX×Unit)×Unit))(k:LX)(y:Int)(v:Int32)(aa:Int)(ab ac:LX):Bp:=
if(Ax u 0)then
some (([]:LX),u)
else
(Kt h (Gp g a) (y,v,(aa,ab,ac,()),())).bind fun ai=>
(Da k ([w]:LX)).bind fun aj=>
bk13 (Ae g 1) ai aj
def Wk bk13:=Aho bk13
def Ko(j16:Int→Int32→Int→(List (Int×Int32×(Int×LX×LX×Unit)×Unit))→LX→Int→Int32→Int→LX→LX→Bp)(j18:Int→Int→LX→Bp)(f:LU)(a b g:Int)(h:List (Int×Int32×(Int×LX×LX×Unit)×Unit))(k:LX):Bp:=
if(Bz g (Ac f))then
(getI f g).bind fun ag=>
(Jp (Ax a 0)).bind fun _=>
(getI h (Gp g a)).bind fun _=>
(
(getI h (Gp g a)).bind fun m=>
(
(Vm ag).bind fun ae=>
(
(Kj m.1 m.2.1 m.2.2.1.1 m.2.2.1.2.1 m.2.2.1.2.2.1 ae).bind fun(w,y,v,aa,ab,ac,u)=>
j16 g w u h k y v aa ab ac)))
else
j18 a b k
def Hs(f:LU)(a b:Int):Nat→Int→(List (Int×Int32×(Int×LX×LX×Unit)×Unit))→LX→Bp
|0,_,_,_=>none
|q+1,g,h,k=>Ko (Wk (Hs f a b q) a f b) Kq f a b g h k
def Ahp f a b:=Hs f a b FUEL
def Ahk(j13:LU→Int→Int→Int→(List (Int×Int32×(Int×LX×LX×Unit)×Unit))→LX→Bp)(f:LU)(a b:Int)(n:List (Int×Int32×(Int×LX×LX×Unit)×Unit)):Bp:=
j13 f a b 0 n ([]:LX)
def Vv:=Ahk Ahp
def Ahe(j12:LU→Int→Int→(List (Int×Int32×(Int×LX×LX×Unit)×Unit))→Bp)(bk10:Int→(List (Int×Int32×(Int×LX×LX×Unit)×Unit))→Bp)(f:LU)(a b:Int)(o:LX)(p:Int)(n:List (Int×Int32×(Int×LX×LX×Unit)×Unit)):Bp:=
if(Bz p 6)then
(Baf b o).bind fun(ak,af,ae,al,am,v)=>
(getI n p).bind fun _=>
(Kt n p (ak,af,(ae,al,am,()),())).bind fun an=>
bk10 (Ae p 1) an
else
j12 f a b n
def Wj(f:LU)(a b:Int)(o:LX):Nat→Int→(List (Int×Int32×(Int×LX×LX×Unit)×Unit))→Bp
|0,_,_=>none
|q+1,p,n=>Ahe Vv (Wj f a b o q) f a b o p n
def Oe f a b o:=Wj f a b o FUEL
def Xx(j10:LU→Int→Int→LX→Int→(List (Int×Int32×(Int×LX×LX×Unit)×Unit))→Bp)(a b:Int)(o:LX)(f:LU):Bp:=
j10 f a b o 0 (List.replicate 6 ((0:Int),(0:Int32),((0:Int),(List.replicate 16 (0:Int32)),(List.replicate 16 (0:Int32)),()),()))
def Qx:=Xx Oe
def deframe_Decode(a h:Int)(u:LX)(f:Int)(v:LB):Option (LX×Int):=
(Rb a h).bind fun k=>
if(Ax k 0)then
some (([]:LX),k)
else
if(Bz f 1)then
some (([]:LX),2)
else
(Jp (Ax a 0)).bind fun _=>
if(Dw f (Ck 4000 a))then
some (([]:LX),2)
else
(Aa2 v).bind fun(w,m)=>
if(Ax m 0)then
some (([]:LX),m)
else
(Bkl w).bind fun(n,b,o)=>
if(Ax o 0)then
some (([]:LX),o)
else
(Abs a f n b).bind fun(y,g,p)=>
if(Ax p 0)then
some (([]:LX),p)
else
if(Lk (Aj b g) 8)then
some (([]:LX),12)
else
(Acb n b g (Aj b g)).bind fun(aa,ab)=>
if((Ax ab 0)||(Ax aa 0))then
some (([]:LX),12)
else
(Qx a h u y).bind fun(ac,ad)=>
some (ac,ad)
abbrev Ct:=Option (LB×Int)
def Bcj(g:LB):Ct:=
some (g,0)
def Aqk:=Bcj
def Aqp(bk16:Int→LB→Ct)(b:Int)(a:LX)(f:Int)(h:LB):Ct:=
bk16 (Ae f 1) h
def Ags bk16:=Aqp bk16
def Xn(j28:Int→LB→Ct)(bk26:Int→LB→Ct)(b:Int)(a:LX)(k:Int32)(f m:Int)(h:LB):Ct:=
if(Bz m (Ck b 8))then
(Jp (Lk (Bi 8 m) 0)).bind fun _=>
(Da h ([(Ad (Bu k (GI.toZ (Bi 8 m)).toNat):UInt8)]:LB)).bind fun p=>
bk26 (Ae m 1) p
else
j28 f h
def Hv(bk16:Int→LB→Ct)(b:Int)(a:LX)(k:Int32)(f:Int):Nat→Int→LB→Ct
|0,_,_=>none
|q+1,m,h=>Xn (Ags bk16 b a) (Hv bk16 b a k f q) b a k f m h
def Agu bk16 b a k f:=Hv bk16 b a k f FUEL
def Agj(j26:Int32→Int→Int→LB→Ct)(b:Int)(a:LX)(f:Int)(g:LB)(k:Int32):Ct:=
j26 k f 0 g
def Kh bk16 b a:=Agj (Agu bk16 b a) b a
def Xo(j25:Int→LB→Int32→Ct)(j30:LB→Ct)(b:Int)(a:LX)(f:Int)(g:LB):Ct:=
if(Bz f (Ac a))then
(getI a f).bind fun n=>
if(geq b 8)then
j25 f g (Ae n 128)
else
j25 f g n
else
j30 g
def Fh(b:Int)(a:LX):Nat→Int→LB→Ct
|0,_,_=>none
|q+1,f,g=>Xo (Kh (Fh b a q) b a) Aqk b a f g
def Ap6 b a:=Fh b a FUEL
def Ajs(j16:Int→LX→Int→LB→Ct)(b:Int)(a:LX):Ct:=
(Um b a).bind fun o=>
if(Ax o 0)then
some (([]:LB),o)
else
j16 b a 0 ([]:LB)
def width_Bytes:=Ajs Ap6
def Wr:Option Int:=
some (-1:Int)
def Le:=Wr
def Dj(j6:Option Int)(bk4:Int→Option Int)(a:LI)(b f:Int):Option Int:=
if(Bz f (Ac a))then
(getI a f).bind fun g=>
if(geq b g)then
some f
else
bk4 (Ae f 1)
else
j6
def Bg(a:LI)(b:Int):Nat→Int→Option Int
|0,_=>none
|q+1,f=>Dj Le (Bg a b q) a b f
def Gg a b:=Bg a b FUEL
def Gf(j4:LI→Int→Int→Option Int)(a:LI)(b:Int):Option Int:=
j4 a b 0
def Hm:=Gf Gg
def Gh(a:LI)(b:Int):Option Bool:=
(Hm a b).bind fun f=>
some (Lk f 0)
def Nw(a:Int):Option Bool:=
(Gh ([(4:Int),(12:Int),(16:Int),(22:Int),(24:Int),(26:Int),(38:Int)]:LI) a).bind fun b=>
some b
def Alq(bi:Bool):Option Int:=
if(!bi)then
some 8
else
some 0
def Ba:=Alq
def Ab5(j22:Bool→Option Int):Option Int:=
j22 ((true==true)&&((geq (0:Int) (0:Int))&&true))
def Sn:=Ab5 Ba
def Aa3(j22:Bool→Option Int)(bj:Bool)(bk:Int):Option Int:=
j22 ((bj==true)&&((geq bk 0)&&true))
def Di:=Aa3 Ba
def Abl(j13:Bool→Int→Option Int)(g ak:LB)(ae af aa ag ab b:Int)(m:Bool)(n:Int)(f:LI)(h:LB):Option Int:=
(Lt ae af aa ag ab g).bind fun dm=>
(Ag dm).bind fun(dn,am)=>
j13 dn am
def So:=Abl Di
def Ab1(j22:Bool→Option Int)(bl:Bool)(bm:Int):Option Int:=
j22 ((bl==true)&&((geq bm 0)&&true))
def Hg:=Ab1 Ba
def Ab2(j25:Bool→Int→Option Int)(g a:LB)(k p o u v b:Int)(m:Bool)(n:Int)(f:LI)(h:LB)(bg:Int):Option Int:=
(Cu k p o u v).bind fun(dp,bh)=>
if(Ax bh 0)then
(Ag bh).bind fun(an,bn)=>
j25 an bn
else
(Bb a bg (Ac a)).bind fun dq=>
(Aeb dq (Ac dp)).bind fun(dr,aa)=>
if(geq aa 24)then
j25 true 0
else
if(Ax aa 0)then
(Ag aa).bind fun(ds,ab)=>
j25 ds ab
else
(Bb a (Ae (Ae bg (Bi 4 (Ac dr))) 4) (Ac a)).bind fun fc=>
j25 false 0
def Hl:=Ab2 Hg
def Aav(j25:Bool→Int→Option Int)(j24:LB→LB→Int→Int→Int→Int→Int→Int→Bool→Int→LI→LB→Int→Option Int)(bd:Bool)(bc:Int)(g a:LB)(k p o u v b:Int)(m:Bool)(n:Int)(f:LI)(h:LB):Option Int:=
if(Ax bc 0)then
(Ag bc).bind fun(dt,bh)=>
j25 dt bh
else
if(!bd)then
(Ag 26).bind fun(an,bn)=>
j25 an bn
else
j24 g a k p o u v b m n f h 8
def Abg:=Aav Hg Hl
def Ab0(j15:Bool→Int→LB→LB→Int→Int→Int→Int→Int→Int→Bool→Int→LI→LB→Option Int)(g a:LB)(k p o u v b:Int)(m:Bool)(n:Int)(f:LI)(h:LB):Option Int:=
(Bb a 0 8).bind fun du=>
(Vp du g).bind fun(bd,bc)=>
j15 bd bc g a k p o u v b m n f h
def Tf:=Ab0 Abg
def Aat(j22:Bool→Option Int)(bp:Bool)(bq:Int):Option Int:=
j22 ((bp==true)&&((geq bq 0)&&true))
def Ga:=Aat Ba
def Tp(j28:Bool→Int→Option Int)(w ah:Int)(g a:LB)(k p o u v b:Int)(m:Bool)(n:Int)(ao:LX)(f:LI)(h:LB):Option Int:=
if(Ax ah 0)then
(Ag ah).bind fun(br,bs)=>
j28 br bs
else
(width_Bytes o ao).bind fun(bt,be)=>
if(Ax be 0)then
(Ag be).bind fun(bu,bv)=>
j28 bu bv
else
(Da h bt).bind fun dv=>
(
(Bb a w (Ac a)).bind fun dw=>
j28 false 0)
def Aba:=Tp Ga
def Abm(j27:Int→Int→LB→LB→Int→Int→Int→Int→Int→Int→Bool→Int→LX→LI→LB→Option Int)(w:Int)(g a:LB)(k p o u v b:Int)(m:Bool)(n:Int)(ap:LX)(ad f:LI)(h:LB):Option Int:=
(getI ad b).bind fun _=>
(Bb a 0 w).bind fun dx=>
(getI ad b).bind fun dy=>
(Xa k p o u v).bind fun(dz,bf)=>
(deframe_Decode dz bf ap dy dx).bind fun(ao,ah)=>
j27 w ah g a k p o u v b m n ao f h
def Tn:=Abm Aba
def Vh(j13:Bool→Int→Option Int)(j12:LB→LB→Int→Int→Int→Int→Int→Int→Bool→Int→LI→LB→Option Int)(j25:Bool→Int→Option Int)(j23:LB→LB→Int→Int→Int→Int→Int→Int→Bool→Int→LI→LB→Option Int)(j24:LB→LB→Int→Int→Int→Int→Int→Int→Bool→Int→LI→LB→Int→Option Int)(j28:Bool→Int→Option Int)(j26:Int→LB→LB→Int→Int→Int→Int→Int→Int→Bool→Int→LX→LI→LI→LB→Option Int)(j22:Bool→Option Int)(j21:Option Int)(aq ar:LB)(au av aw ax ay:Int)(az:LI)(ai:Int)(aj:LB)(ac:Bool)(y:Int):Option Int:=
if(Dw (Ac aq) 64)then
some 8
else
if((geq y 0)&&(!ac))then
(Cr aq ar au av aw ax ay az ai aj ac y).bind fun(g,a,k,p,o,u,v,f,b,h,m,n)=>
(Vg aq ar au av aw ax ay az ai aj ac y).bind fun bw=>
if bw then
if(geq k 0)then
(Hy a).bind fun(al,ba)=>
if(geq ba 24)then
j13 true 0
else
if(Ax ba 0)then
(Ag ba).bind fun(bx,bz)=>
j13 bx bz
else
(Bb a al (Ac a)).bind fun da=>
(Na da).bind fun an=>
if an then
j13 true 0
else
(Bb a al (Ac a)).bind fun db=>
(Ld db).bind fun(ae,af,aa,ag,ab,bb)=>
if(geq bb 24)then
j13 true 0
else
if(Ax bb 0)then
(Ag bb).bind fun(dc,dd)=>
j13 dc dd
else
(
(Bb a (Ae al 22) (Ac a)).bind fun ak=>
(
j12 g ak ae af aa ag ab b m n f h))
else
if(geq (Ac f) 0)then
if(geq k 2)then
if(Bz (Ac a) 8)then
j25 true 0
else
j23 g a k p o u v b m n f h
else
j24 g a k p o u v b m n f h 0
else
if(Bz b (Ac f))then
(getI f b).bind fun _=>
(getI f b).bind fun w=>
if(Bz (Ac a) w)then
j28 true 0
else
(Pf g).bind fun(ap,am)=>
if(Ax am 0)then
(Ag am).bind fun(de,df)=>
j28 de df
else
(Cu k p o u v).bind fun(ad,dg)=>
if((Ax dg 0)||(Lk b (Ac ad)))then
(Ag 8).bind fun(dh,di)=>
j28 dh di
else
j26 w g a k p o u v b m n ap ad f h
else
if(Dw (Ac a) 4000)then
(Ag 38).bind fun(dj,bf)=>
j22 ((dj==true)&&((geq bf 0)&&true))
else
j21
else
j22 false
else
if((geq (Ac ar) 0)&&(geq (Ac az) 0))then
if((((geq au 0)&&((geq av 0)&&((geq aw 0)&&((geq ax 0)&&((geq ay 0)&&true)))))&&(geq ai 0))&&(gle (Ac aj) 12000))then
if(geq y 0)then
j22 true
else
if(!ac)then
(Nw y).bind fun dk=>
j22 dk
else
j22 false
else
j22 false
else
if((false&&(geq ai 0))&&(gle (Ac aj) 12000))then
if(geq y 0)then
j22 true
else
if(!ac)then
(Nw y).bind fun dl=>
j22 dl
else
j22 false
else
j22 false
def Gz:=Vh Di So Hg Tf Hl Ga Tn Ba Sn
def Np(f g:LB)(h k m n o:Int)(p:LI)(u:Int)(v:LB)(b:Bool)(a:Int):Option (LB×LB×Int×Int×Int×Int×Int×LI×Int×LB×Bool×Int×Int):=
(Gz f g h k m n o p u v b a).bind fun w=>
if(Ax w 0)then
some (([]:LB),([]:LB),0,0,0,0,0,([]:LI),0,([]:LB),false,0,w)
else
if(Ax a 0)then
(
(
(Cr f g h k m n o p u v b a).bind fun(y,aa,ab,ac,ad,ae,af,ag,ah,ai,aj,ak)=>
(
some (y,aa,ab,ac,ad,ae,af,ag,ah,ai,aj,ak,a))))
else
if b then
(Cr f g h k m n o p u v b a).bind fun(al,am,an,ao,ap,aq,ar,au,av,aw,ax,ay)=>
some (al,am,an,ao,ap,aq,ar,au,av,aw,ax,ay,36)
else
(Cr f g h k m n o p u v b a).bind fun(az,ba,bb,bc,bd,be,bf,bg,bh,bi,bj,bk)=>
some (az,ba,bb,bc,bd,be,bf,bg,bh,bi,bj,bk,0)
def Ao9(b g:LB)(h k m n o:Int)(p:LI)(u:Int)(f:LB)(v:Bool)(w a:Int):Option (LB×LB×Int×Int×Int×Int×Int×LI×Int×LB×Bool×Int×Int):=
some (b,([]:LB),0,0,0,0,0,([]:LI),0,f,false,a,a)
abbrev pushdec_Feed_O:=Option (LB×LB×Int×Int×Int×Int×Int×LI×Int×LB×Bool×Int×Int)
def Ad5(bk37:LB→Int→Int→Int→Int→Int→Int→LI→LB→pushdec_Feed_O)(a:LB)(b:Bool)(f:Int)(ar:LB)(au av aw ax ay az:Int)(bh:Bool)(be:Int)(ba:LI)(bb:LB):pushdec_Feed_O:=
if bh then
(Cr a ar au av aw ax ay ba az bb b f).bind fun(fh,fi,fj,bc,bi,ai,fk,fl,fm,fn,fo,aj)=>
some (fh,fi,fj,bc,bi,ai,fk,fl,fm,fn,fo,aj,0)
else
if(Ax be 0)then
(Ao9 a ar au av aw ax ay ba az bb b f be).bind fun(fp,fq,fs,ft,fu,fv,fw,fx,fy,fz,ga,gb,gc)=>
some (fp,fq,fs,ft,fu,fv,fw,fx,fy,fz,ga,gb,gc)
else
bk37 ar au av aw ax ay az ba bb
def Bj bk37:=Ad5 bk37
def Anj(j71:LB→Int→Int→Int→Int→Int→Int→Bool→Int→LI→LB→pushdec_Feed_O)(a:LB)(b:Bool)(f:Int)(g:LB)(m p o u v h:Int)(k:LI)(n:LB):pushdec_Feed_O:=
j71 g m p o u v h true 0 k n
def Vf bk37 a b f:=Anj (Bj bk37 a b f) a b f
def An3(j71:LB→Int→Int→Int→Int→Int→Int→Bool→Int→LI→LB→pushdec_Feed_O)(a:LB)(b:Bool)(f h:Int)(k:LI)(n:LB)(bj:Bool)(bk:Int)(bl:LB)(bm bn bp bq br:Int):pushdec_Feed_O:=
j71 bl bm bn bp bq br h bj bk k n
def Lg bk37 a b f:=An3 (Bj bk37 a b f) a b f
def Ad0(j62:Int→LI→LB→Bool→Int→LB→Int→Int→Int→Int→Int→pushdec_Feed_O)(a:LB)(b:Bool)(f:Int)(af:LB)(ab ac y ad aa h:Int)(k:LI)(n:LB):pushdec_Feed_O:=
(Lt ab ac y ad aa a).bind fun gd=>
(Ag gd).bind fun(ge,ak)=>
j62 h k n ge ak af ab ac y ad aa
def Oz bk37 a b f:=Ad0 (Lg bk37 a b f) a b f
def Am7(j71:LB→Int→Int→Int→Int→Int→Int→Bool→Int→LI→LB→pushdec_Feed_O)(a:LB)(b:Bool)(f m p o u v h:Int)(n:LB)(bs:Bool)(bt:Int)(bu:LB)(bv:LI):pushdec_Feed_O:=
j71 bu m p o u v h bs bt bv n
def Jf bk37 a b f:=Am7 (Bj bk37 a b f) a b f
def Aeg(j75:Int→Int→Int→Int→Int→Int→LB→Bool→Int→LB→LI→pushdec_Feed_O)(a:LB)(b:Bool)(f:Int)(g:LB)(m p o u v h:Int)(k:LI)(n:LB)(bf:Int):pushdec_Feed_O:=
(Cu m p o u v).bind fun(gf,bg)=>
if(Ax bg 0)then
(Ag bg).bind fun(al,bw)=>
j75 m p o u v h n al bw g k
else
(Bb g bf (Ac g)).bind fun gg=>
(Aeb gg (Ac gf)).bind fun(dw,y)=>
if(geq y 24)then
j75 m p o u v h n true 0 g k
else
if(Ax y 0)then
(Ag y).bind fun(gh,aa)=>
j75 m p o u v h n gh aa g k
else
(Bb g (Ae (Ae bf (Bi 4 (Ac dw))) 4) (Ac g)).bind fun gi=>
j75 m p o u v h n false 0 gi dw
def Iw bk37 a b f:=Aeg (Jf bk37 a b f) a b f
def Adn(j75:Int→Int→Int→Int→Int→Int→LB→Bool→Int→LB→LI→pushdec_Feed_O)(j74:LB→Int→Int→Int→Int→Int→Int→LI→LB→Int→pushdec_Feed_O)(a:LB)(b:Bool)(f:Int)(bd:Bool)(aq:Int)(g:LB)(m p o u v h:Int)(k:LI)(n:LB):pushdec_Feed_O:=
if(Ax aq 0)then
(Ag aq).bind fun(gj,bg)=>
j75 m p o u v h n gj bg g k
else
if(!bd)then
(Ag 26).bind fun(al,bw)=>
j75 m p o u v h n al bw g k
else
j74 g m p o u v h k n 8
def Adw bk37 a b f:=Adn (Jf bk37 a b f) (Iw bk37 a b f) a b f
def Adu(j64:Bool→Int→LB→Int→Int→Int→Int→Int→Int→LI→LB→pushdec_Feed_O)(a:LB)(b:Bool)(f:Int)(g:LB)(m p o u v h:Int)(k:LI)(n:LB):pushdec_Feed_O:=
(Bb g 0 8).bind fun gk=>
(Vp gk a).bind fun(bd,aq)=>
j64 bd aq g m p o u v h k n
def Po bk37 a b f:=Adu (Adw bk37 a b f) a b f
def Anb(j71:LB→Int→Int→Int→Int→Int→Int→Bool→Int→LI→LB→pushdec_Feed_O)(a:LB)(b:Bool)(f m p o u v:Int)(k:LI)(bx:Bool)(bz:Int)(da:LB)(db:Int)(dc:LB):pushdec_Feed_O:=
j71 da m p o u v db bx bz k dc
def Li bk37 a b f:=Anb (Bj bk37 a b f) a b f
def Vk(j78:Int→Int→Int→Int→Int→LI→Bool→Int→LB→Int→LB→pushdec_Feed_O)(a:LB)(b:Bool)(f w ag:Int)(g:LB)(m p o u v h:Int)(am:LX)(k:LI)(n:LB):pushdec_Feed_O:=
if(Ax ag 0)then
(Ag ag).bind fun(dd,de)=>
j78 m p o u v k dd de g h n
else
(width_Bytes o am).bind fun(df,aj)=>
if(Ax aj 0)then
(Ag aj).bind fun(dg,dh)=>
j78 m p o u v k dg dh g h n
else
(Da n df).bind fun di=>
(
(Bb g w (Ac g)).bind fun dj=>
j78 m p o u v k false 0 dj (Ae h 1) di)
def Adi bk37 a b f:=Vk (Li bk37 a b f) a b f
def Aeh(j77:Int→Int→LB→Int→Int→Int→Int→Int→Int→LX→LI→LB→pushdec_Feed_O)(a:LB)(b:Bool)(f w:Int)(g:LB)(m p o u v h:Int)(an:LX)(ae k:LI)(n:LB):pushdec_Feed_O:=
(getI ae h).bind fun _=>
(Bb g 0 w).bind fun gl=>
(getI ae h).bind fun gm=>
(Xa m p o u v).bind fun(bi,ai)=>
(deframe_Decode bi ai an gm gl).bind fun(am,ag)=>
j77 w ag g m p o u v h am k n
def Ok bk37 a b f:=Aeh (Adi bk37 a b f) a b f
def Gq(j62:Int→LI→LB→Bool→Int→LB→Int→Int→Int→Int→Int→pushdec_Feed_O)(j61:LB→Int→Int→Int→Int→Int→Int→LI→LB→pushdec_Feed_O)(j75:Int→Int→Int→Int→Int→Int→LB→Bool→Int→LB→LI→pushdec_Feed_O)(j73:LB→Int→Int→Int→Int→Int→Int→LI→LB→pushdec_Feed_O)(j74:LB→Int→Int→Int→Int→Int→Int→LI→LB→Int→pushdec_Feed_O)(j78:Int→Int→Int→Int→Int→LI→Bool→Int→LB→Int→LB→pushdec_Feed_O)(j76:Int→LB→Int→Int→Int→Int→Int→Int→LX→LI→LI→LB→pushdec_Feed_O)(j71:LB→Int→Int→Int→Int→Int→Int→Bool→Int→LI→LB→pushdec_Feed_O)(j70:LB→Int→Int→Int→Int→Int→Int→LI→LB→pushdec_Feed_O)(a:LB)(b:Bool)(f:Int)(g:LB)(m p o u v h:Int)(k:LI)(n:LB):pushdec_Feed_O:=
if(geq m 0)then
(Hy g).bind fun(ah,ao)=>
if(geq ao 24)then
j62 h k n true 0 g m p o u v
else
if(Ax ao 0)then
(Ag ao).bind fun(dk,dl)=>
j62 h k n dk dl g m p o u v
else
(Bb g ah (Ac g)).bind fun dm=>
(Na dm).bind fun al=>
if al then
j62 h k n true 0 g m p o u v
else
(Bb g ah (Ac g)).bind fun dn=>
(Ld dn).bind fun(ab,ac,y,ad,aa,ap)=>
if(geq ap 24)then
j62 h k n true 0 g m p o u v
else
if(Ax ap 0)then
(Ag ap).bind fun(dp,dq)=>
j62 h k n dp dq g m p o u v
else
(
(Bb g (Ae ah 22) (Ac g)).bind fun af=>
(
j61 af ab ac y ad aa h k n))
else
if(geq (Ac k) 0)then
if(geq m 2)then
if(Bz (Ac g) 8)then
j75 m p o u v h n true 0 g k
else
j73 g m p o u v h k n
else
j74 g m p o u v h k n 0
else
if(Bz h (Ac k))then
(getI k h).bind fun _=>
(getI k h).bind fun w=>
if(Bz (Ac g) w)then
j78 m p o u v k true 0 g h n
else
(Pf a).bind fun(an,ak)=>
if(Ax ak 0)then
(Ag ak).bind fun(dr,ds)=>
j78 m p o u v k dr ds g h n
else
(Cu m p o u v).bind fun(ae,dt)=>
if((Ax dt 0)||(Lk h (Ac ae)))then
(Ag 8).bind fun(du,bc)=>
j78 m p o u v k du bc g h n
else
j76 w g m p o u v h an ae k n
else
if(Dw (Ac g) 4000)then
(Ag 38).bind fun(dv,ai)=>
j71 g m p o u v h dv ai k n
else
j70 g m p o u v h k n
def Ao(a:LB)(b:Bool)(f:Int):Nat→LB→Int→Int→Int→Int→Int→Int→LI→LB→pushdec_Feed_O
|0,_,_,_,_,_,_,_,_,_=>none
|q+1,g,m,p,o,u,v,h,k,n=>Gq (Lg (Ao a b f q) a b f) (Oz (Ao a b f q) a b f) (Jf (Ao a b f q) a b f) (Po (Ao a b f q) a b f) (Iw (Ao a b f q) a b f) (Li (Ao a b f q) a b f) (Ok (Ao a b f q) a b f) (Bj (Ao a b f q) a b f) (Vf (Ao a b f q) a b f) a b f g m p o u v h k n
def Ank a b f:=Ao a b f FUEL
def Xq(j37:LB→Bool→Int→LB→Int→Int→Int→Int→Int→Int→LI→LB→pushdec_Feed_O)(gn go:LB)(gp gq gr gs gt:Int)(gu:LI)(gv:Int)(gw:LB)(gx:Bool)(gy:Int)(gz:LB):pushdec_Feed_O:=
(Np gn go gp gq gr gs gt gu gv gw gx gy).bind fun(a,dx,dy,dz,fa,fb,fc,fd,fe,ff,b,f,fg)=>
if(Ax fg 0)then
some (a,dx,dy,dz,fa,fb,fc,fd,fe,ff,b,f,fg)
else
(Da dx gz).bind fun ha=>
j37 a b f ha dy dz fa fb fc fe fd ff
def Js:=Xq Ank
def Oa(a:LB):Option (LB×LB×Int×Int×Int×Int×Int×LI×Int×LB×Bool×Int×Bool):=
(Afh ([]:LB)).bind fun(b,f,g,h,k,m,n,o,p,u,v,w,y)=>
(Js b f g h k m n o p u v w a).bind fun(aa,ab,ac,ad,ae,af,ag,ah,ai,aj,ak,al,am)=>
some (aa,ab,ac,ad,ae,af,ag,ah,ai,aj,ak,al,((geq y 0)&&(geq am 0)))
abbrev Awl:=Option (Int×Int)
def Bbb(a:LB):Awl:=
(Bb a (Aj (Ac a) 32) (Ac a)).bind fun g=>
(Aid g 0).bind fun(f,y,h)=>
if h then
if(Bz (Aj (Ac a) 32) f)then
some (0,24)
else
some ((Ae f 32),0)
else
(Bb a (Aj (Ac a) 32) (Ac a)).bind fun k=>
(Aid k 2147483648).bind fun(b,m,n)=>
if(!n)then
some (0,12)
else
if(Bz (Ac a) (Ae b 64))then
some (0,24)
else
(Bb a (Aj (Ac a) (Ae b 64)) (Ae (Aj (Ac a) (Ae b 64)) 32)).bind fun o=>
(Aum b m 2684354560).bind fun p=>
(Hw o p).bind fun u=>
if(!u)then
some (0,12)
else
some ((Ae b 64),0)
def Asz:=Bbb
def As5(j2:LB→Awl)(a:LB):Awl:=
if(Bz (Aj (Ac a) 32) 0)then
some (0,6)
else
(Bb a (Aj (Ac a) 32) (Ac a)).bind fun v=>
(Ki v ([(65:UInt8),(80:UInt8),(69:UInt8),(84:UInt8),(65:UInt8),(71:UInt8),(69:UInt8),(88:UInt8)]:LB)).bind fun w=>
if(!w)then
some (0,6)
else
j2 a
def Ayw:=As5 Asz
abbrev Fg:=Option (Int×Int)
def Azt(a:Int):Fg:=
some (a,0)
def Am5:=Azt
def Anw(bk8:Int→LB→Fg)(a:Int)(g:LB):Fg:=
bk8 (Ae a 1) g
def Adg bk8:=Anw bk8
def Ad3(j12:Int→LB→Fg)(a f:Int)(b:LB):Fg:=
if(geq f 0)then
some (0,38)
else
(Bb b 0 (Aj (Ac b) f)).bind fun g=>
j12 a g
def Adl bk8:=Ad3 (Adg bk8)
def Ag1(j11:Int→Int→LB→Fg)(j14:Int→Fg)(a:Int)(b:LB):Fg:=
if(Dw (Ac b) 0)then
(Ayw b).bind fun(f,k)=>
j11 a f b
else
j14 a
def Qz:Nat→Int→LB→Fg
|0,_,_=>none
|q+1,a,b=>Ag1 (Adl (Qz q)) Am5 a b
def Aqq:=Qz FUEL
def Agw(j8:Int→LB→Fg)(h:LB):Fg:=
if(Dw (Ac h) 4000)then
some (0,38)
else
j8 0 h
def Aag:=Agw Aqq
def Aru(p a:LB)(g u v w y:Int)(b:LI)(h:Int)(aa:LB)(ab:Bool)(ac:Int):Option Int:=
if(geq g 0)then
(Hy a).bind fun(k,f)=>
if(Ax f 0)then
some f
else
(Bb a k (Ac a)).bind fun m=>
(Ld m).bind fun(ad,ae,af,ag,ah,n)=>
some n
else
if((Bz h (Ac b))||(geq (Ac b) 0))then
some 24
else
(Aag a).bind fun(ai,o)=>
some o
def Atl(aa ab:LB)(ac ad ae af ag:Int)(ah:LI)(ai:Int)(aj:LB)(ak:Bool)(al:Int):Option (LB×LB×Int×Int×Int×Int×Int×LI×Int×LB×Bool×Int×Int):=
(Np aa ab ac ad ae af ag ah ai aj ak al).bind fun(a,f,g,h,k,m,n,o,p,b,u,v,w)=>
if(Ax w 0)then
some (a,f,g,h,k,m,n,o,p,b,u,v,w)
else
(Aru a f g h k m n o p b u v).bind fun y=>
if(Ax y 0)then
(Ao9 a f g h k m n o p b u v y).bind fun(am,an,ao,ap,aq,ar,au,av,aw,ax,ay,az,ba)=>
some (am,an,ao,ap,aq,ar,au,av,aw,ax,ay,az,ba)
else
some (a,([]:LB),0,0,0,0,0,([]:LI),0,b,true,0,0)
def Kg(am an:LB):Option (LB×LB×Int×Int×Int×Int×Int×LI×Int×LB×Bool×Int×Int):=
(Afh an).bind fun(a,b,f,g,h,k,m,n,o,p,u,v,w)=>
if(Ax w 0)then
some (a,b,f,g,h,k,m,n,o,p,u,v,w)
else
(Js a b f g h k m n o p u v am).bind fun(y,aa,ab,ac,ad,ae,af,ag,ah,ai,aj,ak,al)=>
if(Ax al 0)then
some (y,aa,ab,ac,ad,ae,af,ag,ah,ai,aj,ak,al)
else
(Atl y aa ab ac ad ae af ag ah ai aj ak).bind fun(ao,ap,aq,ar,au,av,aw,ax,ay,az,ba,bb,bc)=>
some (ao,ap,aq,ar,au,av,aw,ax,ay,az,ba,bb,bc)
def Qb:Option Bool:=
(Aih).bind fun(a,b)=>
if(!b)then
some false
else
(Bb a 0 22).bind fun f=>
(Oa f).bind fun(ai,aj,ak,al,am,an,g,h,ao,ap,aq,ar,k)=>
(Bb a 0 30).bind fun m=>
(Oa m).bind fun(au,av,aw,ax,ay,az,ba,n,bb,o,bc,bd,p)=>
(Oa a).bind fun(be,bf,bg,bh,bi,bj,bk,bl,bm,u,bn,bp,v)=>
(Kg a ([]:LB)).bind fun(bq,br,bs,bt,bu,bv,bw,bx,bz,w,y,da,aa)=>
(Da ([]:LB) a).bind fun ab=>
(Da ab ([(0:UInt8)]:LB)).bind fun ac=>
(Kg ac ([]:LB)).bind fun(db,dc,dd,de,df,dg,dh,di,dj,dk,dl,dm,ad)=>
(Bb a 0 35).bind fun ae=>
(Kg ae ([]:LB)).bind fun(dn,dp,dq,dr,ds,dt,du,dv,dw,dx,dy,dz,af)=>
(Kg ([(73:UInt8)]:LB) ([]:LB)).bind fun(fa,fb,fc,fd,fe,ff,fg,fh,fi,fj,fk,fl,ag)=>
(Kg ([]:LB) ([]:LB)).bind fun(fm,fn,fo,fp,fq,fs,ft,fu,fv,fw,fx,fy,ah)=>
some ((((((((((((((k&&(geq g 1))&&(geq (Ac h) 0))&&p)&&(geq (Ac n) 1))&&(geq (Ac o) 0))&&v)&&(u==([128]:LB)))&&(geq aa 0))&&y)&&(w==([128]:LB)))&&(geq ad 38))&&(geq af 24))&&(geq ag 12))&&(geq ah 24))
def Ach(a:LB):Option Bool:=
some (((Dw (Ac a) 5000)&&(Bz (Ac a) 12000))||(Dw (Ac a) 12100))
def Alx:Option Bool:=
some true
def Xe:=Alx
def Jr(j6:Option Bool)(bk4:Int→Option Bool)(a b:LI)(f:Int):Option Bool:=
if(Bz f (Ac a))then
(getI a f).bind fun g=>
(getI b f).bind fun h=>
if(Ax g h)then
some false
else
bk4 (Ae f 1)
else
j6
def Ec(a b:LI):Nat→Int→Option Bool
|0,_=>none
|q+1,f=>Jr Xe (Ec a b q) a b f
def Xc a b:=Ec a b FUEL
def Nr(j4:LI→LI→Int→Option Bool)(a b:LI):Option Bool:=
if(Ax (Ac a) (Ac b))then
some false
else
j4 a b 0
def Ml:=Nr Xc
def Sg(o p:LB)(u v w y aa:Int)(ab:LI)(a:Int)(b:LB)(f:Bool)(g:Int)(ac ad:LB)(ae af ag ah ai:Int)(aj:LI)(h:Int)(k:LB)(m:Bool)(n:Int):Option Bool:=
if(((o==ac)&&(p==ad))&&((geq u ae)&&((geq v af)&&((geq w ag)&&((geq y ah)&&((geq aa ai)&&true))))))then
(Ml ab aj).bind fun ak=>
some ((((ak&&(geq a h))&&(b==k))&&(f==m))&&(geq g n))
else
some ((((false&&(geq a h))&&(b==k))&&(f==m))&&(geq g n))
def Wy(f g:LB)(h k m n o:Int)(p:LI)(u:Int)(v:LB)(w:Bool)(y b:Int):Option (LB×LB×Int×Int×Int×Int×Int×LI×Int×LB×Bool×Int×LB×Int):=
(Gz f g h k m n o p u v w y).bind fun aa=>
if(Ax aa 0)then
some (([]:LB),([]:LB),0,0,0,0,0,([]:LI),0,([]:LB),false,0,([]:LB),aa)
else
if(Bz b 0)then
some (([]:LB),([]:LB),0,0,0,0,0,([]:LI),0,([]:LB),false,0,([]:LB),2)
else
(Cr f g h k m n o p u v w y).bind fun(ab,ac,ad,ae,af,ag,ah,ai,aj,a,ak,al)=>
(Bb a 0 (Dk b (Ac a))).bind fun am=>
(Gu am).bind fun an=>
(Bb a (Dk b (Ac a)) (Ac a)).bind fun ao=>
some (ab,ac,ad,ae,af,ag,ah,ai,aj,ao,ak,al,an,0)
def Pj(a:Bool)(h:LB)(k m n o p u:Int)(f:LB)(v:Bool)(g:Int)(ac af ag:LB)(ah ai aj ak al:Int)(am:LI)(an:Int)(ad:LB)(ao:Bool)(ae:Int)(w:LB)(y:LI):Option Bool:=
some (((a&&(ac==f))&&(geq (Ac ad) 0))&&(geq ae g))
def Jo:=Pj
def Dh(bk19:Int→LB→LB→LB→Int→Int→Int→Int→Int→LI→Int→LB→Bool→Int→Option Bool)(b:LI)(a:Bool)(h:LB)(k m n o p u:Int)(f:LB)(v:Bool)(g:Int)(w:LB)(y:LI)(ap:Int)(ac af ag:LB)(ah ai aj ak al:Int)(am:LI)(an:Int)(ad:LB)(ao:Bool)(ae bh:Int):Option Bool:=
(Wy af ag ah ai aj ak al am an ad ao ae bh).bind fun(bj,bk,bl,bm,bn,bp,bq,br,bs,bt,bu,bv,bw,bz)=>
if((Ax bz 0)||(Dw (Ac bw) bh))then
some false
else
(
(Da ac bw).bind fun da=>
bk19 (Ae ap 1) da bj bk bl bm bn bp bq br bs bt bu bv)
def Pq bk19:=Dh bk19
def Fk(j22:Int→LB→LB→LB→Int→Int→Int→Int→Int→LI→Int→LB→Bool→Int→Int→Option Bool)(j24:Bool→LB→Int→Int→Int→Int→Int→Int→LB→Bool→Int→LB→LB→LB→Int→Int→Int→Int→Int→LI→Int→LB→Bool→Int→LB→LI→Option Bool)(b:LI)(a:Bool)(h:LB)(k m n o p u:Int)(f:LB)(v:Bool)(g:Int)(w:LB)(y:LI)(ap:Int)(ac af ag:LB)(ah ai aj ak al:Int)(am:LI)(an:Int)(ad:LB)(ao:Bool)(ae:Int):Option Bool:=
if(gle ap (Ac b))then
if(Bz ap (Ac b))then
(getI b ap).bind fun dn=>
j22 ap ac af ag ah ai aj ak al am an ad ao ae (Ant 0 dn)
else
j22 ap ac af ag ah ai aj ak al am an ad ao ae 200000
else
j24 a h k m n o p u f v g ac af ag ah ai aj ak al am an ad ao ae w y
def Cb(b:LI)(a:Bool)(h:LB)(k m n o p u:Int)(f:LB)(v:Bool)(g:Int)(w:LB)(y:LI):Nat→Int→LB→LB→LB→Int→Int→Int→Int→Int→LI→Int→LB→Bool→Int→Option Bool
|0,_,_,_,_,_,_,_,_,_,_,_,_,_,_=>none
|q+1,ap,ac,af,ag,ah,ai,aj,ak,al,am,an,ad,ao,ae=>Fk (Pq (Cb b a h k m n o p u f v g w y q) b a h k m n o p u f v g w y) Jo b a h k m n o p u f v g w y ap ac af ag ah ai aj ak al am an ad ao ae
def Om b a h k m n o p u f v g w y:=Cb b a h k m n o p u f v g w y FUEL
def Jl(j19:LI→Bool→LB→Int→Int→Int→Int→Int→Int→LB→Bool→Int→LB→LI→Int→LB→LB→LB→Int→Int→Int→Int→Int→LI→Int→LB→Bool→Int→Option Bool)(b:LI)(a:Bool)(ab bg:Int)(aq ar:LB)(au av aw ax ay:Int)(az:LI)(ba:Int)(bb:LB)(bc:Bool)(bd:Int)(h:LB)(k m n o p u:Int)(f:LB)(v:Bool)(g:Int)(w:LB)(y:LI):Option Bool:=
(Sg aq ar au av aw ax ay az ba bb bc bd h w k m n o p y u f v g).bind fun dp=>
if((!dp)||(Ax bg ab))then
some false
else
j19 b a h k m n o p u f v g w y 0 ([]:LB) aq ar au av aw ax ay az ba bb bc bd
def Ja:=Jl Om
def Ji(bk14:Int→Int→Int→LB→LB→Int→Int→Int→Int→Int→LI→Int→LB→Bool→Int→Option Bool)(aa:LB)(b:LI)(a:Bool)(ab:Int)(h:LB)(k m n o p u:Int)(f:LB)(v:Bool)(g:Int)(w:LB)(y:LI)(be bf:Int)(aq ar:LB)(au av aw ax ay:Int)(az:LI)(ba:Int)(bb:LB)(bc:Bool)(bd bx:Int):Option Bool:=
(Bb aa be (Ae be bx)).bind fun dq=>
(Js aq ar au av aw ax ay az ba bb bc bd dq).bind fun(bj,bk,bl,bm,bn,bp,bq,br,bs,bt,bu,bv,dr)=>
bk14 dr (Ae be bx) (Ae bf 1) bj bk bl bm bn bp bq br bs bt bu bv
def Oq bk14:=Ji bk14
def Ft(j16:Int→Int→LB→LB→Int→Int→Int→Int→Int→LI→Int→LB→Bool→Int→Int→Option Bool)(j18:LI→Bool→Int→Int→LB→LB→Int→Int→Int→Int→Int→LI→Int→LB→Bool→Int→LB→Int→Int→Int→Int→Int→Int→LB→Bool→Int→LB→LI→Option Bool)(aa:LB)(b:LI)(a:Bool)(ab:Int)(h:LB)(k m n o p u:Int)(f:LB)(v:Bool)(g:Int)(w:LB)(y:LI)(bg be bf:Int)(aq ar:LB)(au av aw ax ay:Int)(az:LI)(ba:Int)(bb:LB)(bc:Bool)(bd:Int):Option Bool:=
if(gle bf (Ac b))then
if(Bz bf (Ac b))then
(getI b bf).bind fun ds=>
j16 be bf aq ar au av aw ax ay az ba bb bc bd (Dk (Aj (Ac aa) be) (Ant 0 ds))
else
j16 be bf aq ar au av aw ax ay az ba bb bc bd (Aj (Ac aa) be)
else
j18 b a ab bg aq ar au av aw ax ay az ba bb bc bd h k m n o p u f v g w y
def Ca(aa:LB)(b:LI)(a:Bool)(ab:Int)(h:LB)(k m n o p u:Int)(f:LB)(v:Bool)(g:Int)(w:LB)(y:LI):Nat→Int→Int→Int→LB→LB→Int→Int→Int→Int→Int→LI→Int→LB→Bool→Int→Option Bool
|0,_,_,_,_,_,_,_,_,_,_,_,_,_,_,_=>none
|q+1,bg,be,bf,aq,ar,au,av,aw,ax,ay,az,ba,bb,bc,bd=>Ft (Oq (Ca aa b a ab h k m n o p u f v g w y q) aa b a ab h k m n o p u f v g w y) Ja aa b a ab h k m n o p u f v g w y bg be bf aq ar au av aw ax ay az ba bb bc bd
def Ph aa b a ab h k m n o p u f v g w y:=Ca aa b a ab h k m n o p u f v g w y FUEL
def Je(j14:LB→LI→Bool→Int→LB→Int→Int→Int→Int→Int→Int→LB→Bool→Int→LB→LI→Int→Int→Int→LB→LB→Int→Int→Int→Int→Int→LI→Int→LB→Bool→Int→Option Bool)(bi aa:LB)(b:LI)(a:Bool):Option Bool:=
(Afh bi).bind fun(db,dc,dd,de,df,dg,dh,di,dj,dk,dl,dm,dt)=>
if(Ax dt 0)then
some false
else
(Js db dc dd de df dg dh di dj dk dl dm aa).bind fun(h,w,k,m,n,o,p,y,u,f,v,g,ab)=>
j14 aa b a ab h k m n o p u f v g w y 0 0 0 db dc dd de df dg dh di dj dk dl dm
def Jk:=Je Ph
def Ka(j13:LB→LB→LI→Bool→Option Bool)(bi aa:LB)(b:LI):Option Bool:=
(Qb).bind fun a=>
if(Dw (Ac bi) 64)then
if((true||(Dw (Ac b) 60))||(!a))then
some a
else
j13 bi aa b a
else
(Ach aa).bind fun du=>
if((du||(Dw (Ac b) 60))||(!a))then
some a
else
j13 bi aa b a
def Hk:=Ka Jk
def Hu(f g b a h:Int):Option Bool:=
if((((geq f 1)||(geq f 2))&&(Lk g 1))&&(gle g 6))then
some ((((((geq b 8)||(geq b 16))||(geq b 24))&&(Lk a 1))&&(gle a 1048576))&&(Lk h 1))
else
some (((false&&(Lk a 1))&&(gle a 1048576))&&(Lk h 1))
def Tr(a:Int):Option Int:=
some (Ant 1 (Ck (Bi 256 a) 245))
def Mk(a:LI):Option (LI):=
some a
def Mm:=Mk
def Ir(j6:LI→Option (LI))(bk4:Int→LI→Option (LI))(b f:Int)(a:LI):Option (LI):=
if(Dw f 0)then
(Tr b).bind fun g=>
(Da a ([(Dk f g)]:LI)).bind fun h=>
(Tr b).bind fun k=>
bk4 (Aj f k) h
else
j6 a
def Ei(b:Int):Nat→Int→LI→Option (LI)
|0,_,_=>none
|q+1,f,a=>Ir Mm (Ei b q) b f a
def Ac0 b:=Ei b FUEL
def Acy(j4:Int→Int→LI→Option (LI))(b m:Int):Option (LI):=
j4 b m ([]:LI)
def Jm:=Acy Ac0
def Sm(h a k f b:Int):Option Bool:=
(
(Jp (Ax a 0)).bind fun _=>
(
if(Dw b (Ck 4000 a))then
some true
else
(Jm f b).bind fun g=>
some (Dw (Ac g) 1000)))
def Jg(a b f g h:Int):Option Int:=
(Hu a b f g h).bind fun k=>
if(!k)then
some 8
else
(Sm a b f g h).bind fun m=>
if m then
some 8
else
some 0
def Db(a f g h k:Int)(b:LB):Option Int:=
if((b==([]:LB)) !=(geq a 1))then
some 26
else
some 0
def Abu(b:Int):Option Int:=
if(Dw b 100000)then
some 8
else
some 0
def Aab:=Abu
def Adc(bk6:Int→Int→Option Int)(a:LI)(b f:Int):Option Int:=
(getI a f).bind fun g=>
bk6 (Ae b g) (Ae f 1)
def Ac5 bk6:=Adc bk6
def Ry(j8:Int→Int→Option Int)(j10:Int→Option Int)(a:LI)(b f:Int):Option Int:=
if(Bz f (Ac a))then
(getI a f).bind fun h=>
if(Bz h 5)then
some 8
else
(getI a f).bind fun k=>
if(Dw k 100000)then
some 8
else
j8 b f
else
j10 b
def Il(a:LI):Nat→Int→Int→Option Int
|0,_,_=>none
|q+1,b,f=>Ry (Ac5 (Il a q) a) Aab a b f
def Acr a:=Il a FUEL
def Rw(j6:LI→Int→Int→Option Int)(a:LI):Option Int:=
if((Bz (Ac a) 1)||(Dw (Ac a) 1000))then
some 8
else
j6 a 0 0
def Gm:=Rw Acr
def Fb(g h k a b:Int):Option (LI):=
(Jm a b).bind fun f=>
some f
def Gl(f a b g h:Int):Option (Int×Int):=
some (a,b)
def Ag7(a b:Int):Option Int:=
some (Ck (Bi a b) 8)
def Af8(k a b f g h:Int):Option Int:=
(Gl a b f g h).bind fun(p,u)=>
(Ag7 p u).bind fun v=>
some (Bi k v)
def Afs:=Af8
def Us(j6:Int→Int→Int→Int→Int→Int→Option Int)(bk4:Int→Int→Option Int)(n a b f g h:Int)(m:LI)(k o:Int):Option Int:=
if(Bz o n)then
(getI m o).bind fun _=>
(getI m o).bind fun w=>
bk4 (Ae k w) (Ae o 1)
else
j6 k a b f g h
def Jy(n a b f g h:Int)(m:LI):Nat→Int→Int→Option Int
|0,_,_=>none
|q+1,k,o=>Us Afs (Jy n a b f g h m q) n a b f g h m k o
def Asp n a b f g h m:=Jy n a b f g h m FUEL
def Afy(j4:Int→Int→Int→Int→Int→Int→LI→Int→Int→Option Int)(a b f g h n:Int):Option Int:=
(Fb a b f g h).bind fun m=>
j4 n a b f g h m 0 0
def Ta:=Afy Asp
abbrev Ff:=Option (Int×Int)
def Ara(a:Int):Ff:=
some (a,0)
def Aqy:=Ara
def Sa(j6:Int→Ff)(bk4:Int→Int→Ff)(b:LB)(a f:Int):Ff:=
if(Bz f 4)then
(getI b f).bind fun g=>
if(Lk g 128)then
some (0,12)
else
(getI b f).bind fun h=>
bk4 (Ae (Bi 128 a) (Ad h:Int)) (Ae f 1)
else
j6 a
def Ij(b:LB):Nat→Int→Int→Ff
|0,_,_=>none
|q+1,a,f=>Sa Aqy (Ij b q) b a f
def Ac3 b:=Ij b FUEL
def Ade(j4:LB→Int→Int→Ff)(b:LB):Ff:=
if(Ax (Ac b) 4)then
some (0,2)
else
j4 b 0 0
def Xv:=Ade Ac3
abbrev Fw:=Option (Int×Int)
def Aev(a:LB)(g:Int):Fw:=
if(Dw g 4000)then
some (0,4)
else
if(Bz (Ac a) g)then
some (0,24)
else
(getI a 5).bind fun h=>
if(geq h 16)then
(Bb a (Aj g 10) g).bind fun k=>
(Bb a 3 10).bind fun m=>
(Da ([51,68,73]:LB) m).bind fun n=>
if(k !=n)then
some (0,12)
else
some (g,0)
else
some (g,0)
def Tz:=Aev
def Aga(j6:LB→Int→Fw)(a:LB)(b:Int):Fw:=
(getI a 5).bind fun o=>
if(geq o 16)then
j6 a (Ae (Ae 10 b) 10)
else
j6 a (Ae 10 b)
def Tu:=Aga Tz
def Afm(j5:LB→Int→Fw)(a:LB):Fw:=
if(Bz (Ac a) 10)then
some (0,24)
else
(Bb a 6 10).bind fun p=>
(Xv p).bind fun(b,f)=>
(getI a 3).bind fun u=>
if(Bz u 2)then
if true then
if true then
if(true||(Ax f 0))then
some (0,12)
else
j5 a b
else
(getI a 5).bind fun v=>
if(Ax v 0)then
(getI a 5).bind fun w=>
if(Ax w 16)then
if(true||(Ax f 0))then
some (0,12)
else
j5 a b
else
(getI a 3).bind fun y=>
if((Ax y 4)||(Ax f 0))then
some (0,12)
else
j5 a b
else
if(false||(Ax f 0))then
some (0,12)
else
j5 a b
else
(getI a 4).bind fun aa=>
if(Ax aa 0)then
if(true||(Ax f 0))then
some (0,12)
else
j5 a b
else
(getI a 5).bind fun ab=>
if(Ax ab 0)then
(getI a 5).bind fun ac=>
if(Ax ac 16)then
if(true||(Ax f 0))then
some (0,12)
else
j5 a b
else
(getI a 3).bind fun ad=>
if((Ax ad 4)||(Ax f 0))then
some (0,12)
else
j5 a b
else
if(false||(Ax f 0))then
some (0,12)
else
j5 a b
else
(getI a 3).bind fun ae=>
if(Dw ae 4)then
if true then
if(true||(Ax f 0))then
some (0,12)
else
j5 a b
else
(getI a 5).bind fun af=>
if(Ax af 0)then
(getI a 5).bind fun ag=>
if(Ax ag 16)then
if(true||(Ax f 0))then
some (0,12)
else
j5 a b
else
(getI a 3).bind fun ah=>
if((Ax ah 4)||(Ax f 0))then
some (0,12)
else
j5 a b
else
if(false||(Ax f 0))then
some (0,12)
else
j5 a b
else
(getI a 4).bind fun ai=>
if(Ax ai 0)then
if(true||(Ax f 0))then
some (0,12)
else
j5 a b
else
(getI a 5).bind fun aj=>
if(Ax aj 0)then
(getI a 5).bind fun ak=>
if(Ax ak 16)then
if(true||(Ax f 0))then
some (0,12)
else
j5 a b
else
(getI a 3).bind fun al=>
if((Ax al 4)||(Ax f 0))then
some (0,12)
else
j5 a b
else
if(false||(Ax f 0))then
some (0,12)
else
j5 a b
def Agb:=Afm Tu
def Aey(j4:LB→Fw)(a:LB):Fw:=
if(Bz (Ac a) 3)then
some (0,6)
else
(Bb a 0 3).bind fun am=>
if(am !=([73,68,51]:LB))then
some (0,6)
else
j4 a
def Abd:=Aey Agb
def Aij(a:UInt64):Option UInt64:=
some a
def Ai0:=Aij
def Ys(j6:UInt64→Option UInt64)(bk4:UInt64→Int→Option UInt64)(b:LB)(a:UInt64)(f:Int):Option UInt64:=
if(Lk f 0)then
(getI b f).bind fun g=>
bk4 (Ae (Bi 256 a) (Ad g:UInt64)) (Aj f 1)
else
j6 a
def Lw(b:LB):Nat→UInt64→Int→Option UInt64
|0,_,_=>none
|q+1,a,f=>Ys Ai0 (Lw b q) b a f
def Ajv b:=Lw b FUEL
def Akn(j4:LB→UInt64→Int→Option UInt64)(b:LB):Option UInt64:=
j4 b 0 (Aj (Ac b) 1)
def Cy:=Akn Ajv
def Ack(b:LB):Option (Int×Int×Bool):=
(Bb b 12 16).bind fun g=>
(Cy g).bind fun a=>
(Bb b 16 20).bind fun h=>
(Cy h).bind fun f=>
if(((Bz a 32)||(Dw a 3032))||(Dw f 1000))then
some (0,0,false)
else
some ((Aj (Ad a:Int) 32),(Ad f:Int),true)
def Za(a:LB):Option (LB):=
some a
def Zb:=Za
def Pd(j6:LB→Option (LB))(bk4:UInt64→Int→LB→Option (LB))(b:Int)(f:UInt64)(g:Int)(a:LB):Option (LB):=
if(Bz g b)then
(Da a ([(Ad (Zy f 256):UInt8)]:LB)).bind fun h=>
bk4 (Ck f 256) (Ae g 1) h
else
j6 a
def Gs(b:Int):Nat→UInt64→Int→LB→Option (LB)
|0,_,_,_=>none
|q+1,f,g,a=>Pd Zb (Gs b q) b f g a
def Yt b:=Gs b FUEL
def Zc(j4:Int→UInt64→Int→LB→Option (LB))(k:UInt64)(b:Int):Option (LB):=
j4 b k 0 ([]:LB)
def Dl:=Zc Yt
def Pa(a b:Int)(f:UInt64):Option (LB):=
(Dl 2000 4).bind fun g=>
(Da ([(65:UInt8),(80:UInt8),(69:UInt8),(84:UInt8),(65:UInt8),(71:UInt8),(69:UInt8),(88:UInt8)]:LB) g).bind fun h=>
(Dl (Ad (Ae a 32):UInt64) 4).bind fun k=>
(Da h k).bind fun m=>
(Dl (Ad b:UInt64) 4).bind fun n=>
(Da m n).bind fun o=>
(Dl f 4).bind fun p=>
(Da o p).bind fun u=>
(mkI (8:Int) (0:UInt8)).bind fun v=>
(Da u v).bind fun w=>
some w
def Ak8(a b:Int):Option (LB):=
(Pa a b 2684354560).bind fun f=>
some f
def Ak2(a b:Int)(f:Bool):Option (LB):=
if f then
(Pa a b 2147483648).bind fun g=>
some g
else
(Pa a b 0).bind fun h=>
some h
abbrev Kb:=Option (Int×Int)
def Ac1(a:LB)(b f:Int):Kb:=
if(Bz (Ac a) (Ae 64 b))then
some (0,24)
else
(Bb a (Aj (Ae 64 b) 32) (Ae 64 b)).bind fun g=>
(Ak2 b f true).bind fun h=>
if(g !=h)then
some (0,12)
else
some ((Ae 64 b),0)
def Acx:=Ac1
def Ada(j4:LB→Int→Int→Kb)(a:LB):Kb:=
if(Bz (Ac a) 32)then
some (0,24)
else
(Bb a 0 32).bind fun k=>
(Ack k).bind fun(b,f,m)=>
if(!m)then
some (0,12)
else
(Bb a 0 32).bind fun n=>
(Ak8 b f).bind fun o=>
if(n !=o)then
some (0,12)
else
j4 a b f
def Acs:=Ada Acx
def Acq(j3:LB→Kb)(a:LB):Kb:=
if(Bz (Ac a) 8)then
some (0,6)
else
(Bb a 0 8).bind fun p=>
if(p !=([65,80,69,84,65,71,69,88]:LB))then
some (0,6)
else
j3 a
def Xz:=Acq Acs
abbrev Fc:=Option (LI×Int)
def Adf(bk6:Int→LI→Fc)(a:LB)(b:Int)(f:LI)(g h:Int):Fc:=
if(geq h 6)then
some (f,0)
else
if(Ax h 0)then
some (([]:LI),h)
else
if(Dw (Ae b g) 4000)then
some (([]:LI),4)
else
(Da f ([g]:LI)).bind fun m=>
bk6 (Ae b g) m
def Mg bk6:=Adf bk6
def Rt(j9:Int→LI→Int→Int→Fc)(a:LB)(b:Int)(f:LI):Fc:=
(Bb a b (Ac a)).bind fun n=>
(Abd n).bind fun(o,k)=>
if(geq k 6)then
(Bb a b (Ac a)).bind fun p=>
(Xz p).bind fun(u,v)=>
j9 b f u v
else
j9 b f o k
def Mi(a:LB):Nat→Int→LI→Fc
|0,_,_=>none
|q+1,b,f=>Rt (Mg (Mi a q) a) a b f
def Aq2 a:=Mi a FUEL
def Aq0(j6:LB→Int→LI→Fc)(a:LB):Fc:=
j6 a 0 ([]:LI)
def Aiy:=Aq0 Aq2
abbrev Ew:=Option (Int×Int)
def Adb(a b:Int):Ew:=
some (b,a)
def Acp:=Adb
def Rq(j6:Int→Int→Ew)(bk4:Int→Int→Ew)(a:Int)(f:LI)(b g:Int):Ew:=
if(Bz g (Ac f))then
(getI f g).bind fun _=>
(getI f g).bind fun h=>
bk4 (Ae b h) (Ae g 1)
else
j6 a b
def Ik(a:Int)(f:LI):Nat→Int→Int→Ew
|0,_,_=>none
|q+1,b,g=>Rq Acp (Ik a f q) a f b g
def Rp a f:=Ik a f FUEL
def Acw(j4:Int→LI→Int→Int→Ew)(k:LB):Ew:=
(Aiy k).bind fun(f,a)=>
j4 a f 0 0
def Qa:=Acw Rp
def Oc(a b:LB):Option Bool:=
if(Bz (Ac a) (Ac b))then
(Bb b 0 (Ac a)).bind fun f=>
some (a==f)
else
some false
def Afa(a:UInt32)(b:Bool):Option UInt32:=
if b then
some (Wn (Ck a 2) 3988292384)
else
some (Ck a 2)
def Afo:=Afa
def Agf(j2:UInt32→Bool→Option UInt32)(a:UInt32)(f:Int):Option UInt32:=
if(geq f 1)then
j2 a (!(geq (Zy a 2) 1))
else
j2 a (geq (Zy a 2) 1)
def Aca:=Agf Afo
def Afq(a:UInt32):Option UInt32:=
some a
def Afj:=Afq
def Uh(j6:UInt32→Option UInt32)(bk4:UInt32→UInt8→Int→Option UInt32)(a:UInt32)(b:UInt8)(f:Int):Option UInt32:=
if(Bz f 8)then
(Aca a (Ad (Zy b 2):Int)).bind fun g=>
bk4 g (Ck b 2) (Ae f 1)
else
j6 a
def Jv:Nat→UInt32→UInt8→Int→Option UInt32
|0,_,_,_=>none
|q+1,a,b,f=>Uh Afj (Jv q) a b f
def Arl:=Jv FUEL
def Asx(j4:UInt32→UInt8→Int→Option UInt32)(h:UInt32)(k:UInt8):Option UInt32:=
j4 h k 0
def Alr:=Asx Arl
def Abr(a:UInt32):Option UInt32:=
some a
def Abc:=Abr
def Qe(j6:UInt32→Option UInt32)(bk4:UInt32→Int→Option UInt32)(b:LB)(a:UInt32)(f:Int):Option UInt32:=
if(Bz f (Ac b))then
(getI b f).bind fun g=>
(Alr a g).bind fun h=>
bk4 h (Ae f 1)
else
j6 a
def Hn(b:LB):Nat→UInt32→Int→Option UInt32
|0,_,_=>none
|q+1,a,f=>Qe Abc (Hn b q) b a f
def Ab8 b:=Hn b FUEL
def Aaw(j4:LB→UInt32→Int→Option UInt32)(k:UInt32)(b:LB):Option UInt32:=
j4 b k 0
def Ahr:=Aaw Ab8
def Qw(a:LB):Option UInt32:=
(Ahr 4294967295 a).bind fun b=>
some (Aj 4294967295 b)
abbrev Fx:=Option (Int×Int×Int×Int×Int×Int)
def Aew(k h g f b:UInt64):Fx:=
(Hu (Ad k:Int) (Ad h:Int) (Ad g:Int) (Ad f:Int) (Ad b:Int)).bind fun v=>
if(!v)then
some (0,0,0,0,0,12)
else
(Sm (Ad k:Int) (Ad h:Int) (Ad g:Int) (Ad f:Int) (Ad b:Int)).bind fun w=>
if w then
some (0,0,0,0,0,4)
else
some ((Ad k:Int),(Ad h:Int),(Ad g:Int),(Ad f:Int),(Ad b:Int),0)
def Agd:=Aew
def Af0(j6:UInt64→UInt64→UInt64→UInt64→UInt64→Fx)(a:LB):Fx:=
(Bb a 4 6).bind fun u=>
(Bb a 6 8).bind fun p=>
(Bb a 8 10).bind fun o=>
(Bb a 10 14).bind fun n=>
(Bb a 14 18).bind fun m=>
(
(Cy u).bind fun k=>
(
(Cy p).bind fun h=>
(
(Cy o).bind fun g=>
(
(Cy n).bind fun f=>
(
(Cy m).bind fun b=>
(
j6 k h g f b))))))
def Af3:=Af0 Agd
def Aff(j5:LB→Fx)(a:LB):Fx:=
if(Bz (Ac a) 22)then
some (0,0,0,0,0,24)
else
(Bb a 18 22).bind fun y=>
(Bb a 0 18).bind fun aa=>
(Cy y).bind fun ab=>
(Qw aa).bind fun ac=>
if(Ax ab (Ad ac:UInt64))then
some (0,0,0,0,0,22)
else
j5 a
def Ae6:=Aff Af3
def Afv(j4:LB→Fx)(a:LB):Fx:=
(Bb a 0 (Dk 4 (Ac a))).bind fun ad=>
(Bb ([84,84,65,49]:LB) 0 (Dk 4 (Ac a))).bind fun ae=>
if(ad !=ae)then
some (0,0,0,0,0,12)
else
j4 a
def Te:=Afv Ae6
abbrev Pv:=Option (Int×Int×Int×Int×Int×Int×Int)
def Zv(b:Int)(a:LB):Pv:=
(Te a).bind fun(k,m,n,o,p,h)=>
if(geq h 24)then
some (0,0,0,0,0,0,(-1:Int))
else
some ((Ae b 22),k,m,n,o,p,h)
def Zq:=Zv
def Zx(j2:Int→LB→Pv)(f:LB):Pv:=
(Qa f).bind fun(b,g)=>
if(geq g 24)then
some (0,0,0,0,0,0,(-1:Int))
else
if(Ax g 0)then
some (0,0,0,0,0,0,g)
else
(Bb f b (Ac f)).bind fun a=>
(Oc a ([73,68,51]:LB)).bind fun u=>
if u then
some (0,0,0,0,0,0,(-1:Int))
else
(Oc a ([65,80,69,84,65,71,69,88]:LB)).bind fun v=>
if v then
some (0,0,0,0,0,0,(-1:Int))
else
j2 b a
def Ue:=Zx Zq
def Af6(a:UInt64)(b:Bool):Option UInt64:=
if b then
some (Wn (Bi a 2) 4823603603198064275)
else
some (Bi a 2)
def Ul:=Af6
def Afr(j2:UInt64→Bool→Option UInt64)(a:UInt64)(f:Int):Option UInt64:=
if(geq f 1)then
j2 a (!(Lk a 9223372036854775808))
else
j2 a (Lk a 9223372036854775808)
def Ace:=Afr Ul
def Ae3(a:UInt64):Option UInt64:=
some a
def Afb:=Ae3
def Tx(j6:UInt64→Option UInt64)(bk4:UInt64→Int→Option UInt64)(b:UInt8)(a:UInt64)(f:Int):Option UInt64:=
if(Dw f 0)then
(Jp (Ax f 0)).bind fun _=>
(Ace a (Gp (Ck (Ad b:Int) f) 2)).bind fun g=>
bk4 g (Ck f 2)
else
j6 a
def Jw(b:UInt8):Nat→UInt64→Int→Option UInt64
|0,_,_=>none
|q+1,a,f=>Tx Afb (Jw b q) b a f
def Asa b:=Jw b FUEL
def Atf(j4:UInt8→UInt64→Int→Option UInt64)(h:UInt64)(b:UInt8):Option UInt64:=
j4 b h 128
def All:=Atf Asa
def Aah(a:UInt64):Option UInt64:=
some a
def Aa0:=Aah
def Qd(j6:UInt64→Option UInt64)(bk4:UInt64→Int→Option UInt64)(b:LB)(a:UInt64)(f:Int):Option UInt64:=
if(Bz f (Ac b))then
(getI b f).bind fun g=>
(All a g).bind fun h=>
bk4 h (Ae f 1)
else
j6 a
def Hp(b:LB):Nat→UInt64→Int→Option UInt64
|0,_,_=>none
|q+1,a,f=>Qd Aa0 (Hp b q) b a f
def Apa b:=Hp b FUEL
def Aot(j4:LB→UInt64→Int→Option UInt64)(k:UInt64)(b:LB):Option UInt64:=
j4 b k 0
def Wh:=Aot Apa
def Alc(a:LB):Option UInt64:=
(Wh 0 a).bind fun b=>
some b
def Nb(a:LB):Option (LB):=
(Alc a).bind fun b=>
(Dl b 8).bind fun f=>
some f
abbrev Dg:=Option (LI×Int)
def Ae9(f:LI):Dg:=
(Gm f).bind fun h=>
if(Ax h 0)then
some (([]:LI),12)
else
some (f,0)
def Uj:=Ae9
def Uu(j8:LI→Dg)(bk6:Int→LI→Dg)(b:LB)(a g:Int)(f:LI):Dg:=
if(Bz g a)then
(Bb b (Bi 4 g) (Ae (Bi 4 g) 4)).bind fun k=>
(Cy k).bind fun m=>
(Da f ([(Ad m:Int)]:LI)).bind fun n=>
bk6 (Ae g 1) n
else
j8 f
def Jz(b:LB)(a:Int):Nat→Int→LI→Dg
|0,_,_=>none
|q+1,g,f=>Uu Uj (Jz b a q) b a g f
def Afd b a:=Jz b a FUEL
def Afu(j6:LB→Int→Int→LI→Dg)(b:LB)(a:Int):Dg:=
j6 b a 0 ([]:LI)
def Afz:=Afu Afd
def Af4(j5:LB→Int→Dg)(b:LB)(a:Int):Dg:=
if((Bz a 1)||(Dw a 1000))then
some (([]:LI),2)
else
if(Bz (Ac b) (Ae (Bi 4 a) 4))then
some (([]:LI),24)
else
(Bb b (Bi 4 a) (Ae (Bi 4 a) 4)).bind fun o=>
(Bb b 0 (Bi 4 a)).bind fun p=>
(Cy o).bind fun u=>
(Qw p).bind fun v=>
if(Ax u (Ad v:UInt64))then
some (([]:LI),22)
else
j5 b a
def To:=Af4 Afz
abbrev Im:=Option (Int×LI×Int)
def Abj(b g:Int)(h:LI):Im:=
if(geq g 24)then
some (0,([]:LI),(-1:Int))
else
some ((Ae (Ae b (Bi 4 (Ac h))) 4),h,g)
def Aa4:=Abj
def Aad(j4:Int→Int→LI→Im)(a:LB)(f k m n o b:Int):Im:=
(Bb a b (Ac a)).bind fun p=>
(Fb f k m n o).bind fun u=>
(To p (Ac u)).bind fun(h,g)=>
j4 b g h
def Cz:=Aad Aa4
def Hj(j3:LB→Int→Int→Int→Int→Int→Int→Im)(a:LB)(f k m n o:Int)(v:LB):Im:=
if(geq f 2)then
if(Bz (Ac a) 8)then
some (0,([]:LI),(-1:Int))
else
(Bb a 0 8).bind fun w=>
(Nb v).bind fun y=>
if(w !=y)then
some (0,([]:LI),26)
else
j3 a f k m n o 8
else
j3 a f k m n o 0
def Eg:=Hj Cz
def Alb(b:UInt64)(a:LB):Option (UInt64×Int):=
if(Dw (Ac a) 100000)then
some (0,4)
else
(Wh b a).bind fun f=>
some (f,0)
def An0(a:LB):Option (UInt64×Int):=
(Alb 0 a).bind fun(b,f)=>
some (b,f)
def Ave(a:LX):Option (LX):=
some a
def Avb:=Ave
def Ajl(bk6:UInt64→Int→LX→Option (LX))(b:UInt64)(f:Int)(a:LX)(g:Int32):Option (LX):=
(getI a f).bind fun _=>
(Kt a f g).bind fun h=>
bk6 (Ck b 256) (Ae f 1) h
def Yb bk6:=Ajl bk6
def Yd(j8:UInt64→Int→LX→Int32→Option (LX))(j10:LX→Option (LX))(b:UInt64)(f:Int)(a:LX):Option (LX):=
if(Bz f 8)then
if(Dw (Ad (Zy b 256):Int32) 127)then
j8 b f a (Aj (Ad (Zy b 256):Int32) 256)
else
j8 b f a (Ad (Zy b 256):Int32)
else
j10 a
def Jh:Nat→UInt64→Int→LX→Option (LX)
|0,_,_,_=>none
|q+1,b,f,a=>Yd (Yb (Jh q)) Avb b f a
def Aww:=Jh FUEL
def Awy(j6:UInt64→Int→LX→Option (LX))(k:UInt64):Option (LX):=
j6 k 0 (List.replicate 16 (0:Int32))
def Aqe:=Awy Aww
def Sp(a:LB):Option (LX×Int):=
if(Dw (Ac a) 64)then
some (([(0:Int32),(0:Int32),(0:Int32),(0:Int32),(0:Int32),(0:Int32),(0:Int32),(0:Int32),(0:Int32),(0:Int32),(0:Int32),(0:Int32),(0:Int32),(0:Int32),(0:Int32),(0:Int32)]:LX),2)
else
(An0 a).bind fun(b,g)=>
(Aqe b).bind fun f=>
some (f,0)
def Tl(a:Int):Option Int:=
if(geq a 8)then
some 128
else
if(geq a 16)then
some 32768
else
if(geq a 24)then
some 8388608
else
some 0
def Yp(a b:Int):Option Int:=
if((Bz a 1)||(Dw a 6))then
some 2
else
(Tl b).bind fun f=>
if(geq f 0)then
some 2
else
some 0
def Lu(a f b:Int):Option Int:=
(Yp a f).bind fun g=>
if((Ax g 0)||(Bz b 1))then
some 2
else
(Jp (Ax a 0)).bind fun _=>
if(Dw b (Ck 4000 a))then
some 2
else
some 0
def Wc(b:LB):Option (LB):=
(Qw b).bind fun a=>
(Da ([]:LB) b).bind fun f=>
(Da f ([(Ad a:UInt8),(Ad (Bu a (GI.toZ (8:UInt64)).toNat):UInt8),(Ad (Bu a (GI.toZ (16:UInt64)).toNat):UInt8),(Ad (Bu a (GI.toZ (24:UInt64)).toNat):UInt8)]:LB)).bind fun g=>
some g
def Oi(a:LB):Option Int:=
if(Bz (Ac a) 5)then
some 24
else
if(Dw (Ac a) 41254)then
some 4
else
(Bb a 0 (Aj (Ac a) 4)).bind fun b=>
(Wc b).bind fun f=>
if(f !=a)then
some 22
else
some 0
def Lm:Option (Int×Int×UInt64×UInt64):=
some (10,10,16384,16384)
def Aqv(a:UInt64):Option UInt64:=
some a
def Ari:=Aqv
def Rr(j6:UInt64→Option UInt64)(bk4:UInt64→Int→Option UInt64)(b:Int)(a:UInt64)(f:Int):Option UInt64:=
if(Bz f b)then
bk4 (Bi a 2) (Ae f 1)
else
j6 a
def Iq(b:Int):Nat→UInt64→Int→Option UInt64
|0,_,_=>none
|q+1,a,f=>Rr Ari (Iq b q) b a f
def Aq5 b:=Iq b FUEL
def Aq4(j4:Int→UInt64→Int→Option UInt64)(b:Int):Option UInt64:=
j4 b 1 0
def Ey:=Aq4 Aq5
def Adr(a g:Int)(h k:UInt64)(b:UInt32):Option Bool:=
(Ey a).bind fun f=>
some (Bz (Ad b:UInt64) f)
def Acf(a g:Int)(h k:UInt64)(b:UInt32):Option UInt32:=
(Ey a).bind fun f=>
some (Ad (Aj (Ad b:UInt64) f):UInt32)
abbrev Vu:=Option (Int×UInt64)
def Agg(b:Int)(a f:UInt64):Vu:=
if(Bz b 24)then
(Ey (Ae b 5)).bind fun g=>
if(Dw (Aj (Ae a f) (Ck a 16)) g)then
some ((Ae b 1),(Aj (Ae a f) (Ck a 16)))
else
some (b,(Aj (Ae a f) (Ck a 16)))
else
some (b,(Aj (Ae a f) (Ck a 16)))
def Ug:=Agg
def Afc(j2:Int→UInt64→UInt64→Vu)(b:Int)(a f:UInt64):Vu:=
if(Dw b 0)then
(Ey (Ae b 4)).bind fun h=>
if(Bz (Aj (Ae a f) (Ck a 16)) h)then
some ((Aj b 1),(Aj (Ae a f) (Ck a 16)))
else
j2 b a f
else
j2 b a f
def Td:=Afc Ug
abbrev Rz:=Option (Int×Int×UInt64×UInt64)
def Aak(h:UInt32)(f a:Int)(g b:UInt64)(o:Int)(p:UInt64):Rz:=
(Td f g (Ad h:UInt64)).bind fun(aa,ab)=>
some (aa,o,ab,p)
def Qj:=Aak
def Abo(j2:UInt32→Int→Int→UInt64→UInt64→Int→UInt64→Rz)(f a:Int)(g b:UInt64)(h:UInt32):Rz:=
(Adr f a g b h).bind fun u=>
if(!u)then
(
(
(Acf f a g b h).bind fun k=>
(Td a b (Ad k:UInt64)).bind fun(m,n)=>
j2 h f a g b m n))
else
j2 h f a g b a b
def Wl:=Abo Qj
abbrev Em:=Option (Int×Int×UInt64×UInt64)
def Apx(a b:Int)(f g:UInt64):Em:=
some (a,b,f,g)
def Ap4:=Apx
def Aa8(j6:Int→Int→UInt64→UInt64→Em)(bk4:Int→Int→Int→UInt64→UInt64→Em)(h:Int)(k:LU)(m a b:Int)(f g:UInt64):Em:=
if(Bz m (Ac k))then
(getI k m).bind fun n=>
(Wl a b f g n).bind fun(o,p,u,v)=>
bk4 (Ae m h) o p u v
else
j6 a b f g
def Lb(h:Int)(k:LU):Nat→Int→Int→Int→UInt64→UInt64→Em
|0,_,_,_,_,_=>none
|q+1,m,a,b,f,g=>Aa8 Ap4 (Lb h k q) h k m a b f g
def Aoa h k:=Lb h k FUEL
def Abe(j4:Int→LU→Int→Int→Int→UInt64→UInt64→Em)(h:Int)(k:LU):Em:=
(Lm).bind fun(w,y,aa,ab)=>
(Jp (Ax h 0)).bind fun _=>
j4 h k (Gp (Ac k) h) w y aa ab
def Od:=Abe Aoa
def Ajj(a:Int):Option Int:=
some (Gp a 2)
def Aj2:=Ajj
def Xt(j6:Int→Option Int)(bk4:Int→Int→Option Int)(b a f:Int):Option Int:=
if(Bz f (Gp b 8))then
bk4 (Ck a 2) (Ae f 1)
else
j6 a
def Mb(b:Int):Nat→Int→Int→Option Int
|0,_,_=>none
|q+1,a,f=>Xt Aj2 (Mb b q) b a f
def Ajn b:=Mb b FUEL
def Akk(j4:Int→Int→Int→Option Int)(g:LB)(k b:Int):Option Int:=
(getI g (Ck b 8)).bind fun h=>
j4 b (Ad h:Int) 0
def Kk:=Akk Ajn
abbrev Dq:=Option (LB×Int)
def Ag9(b g a:Int)(f:LB):Dq:=
(getI f (Ck a 8)).bind fun _=>
(getI f (Ck a 8)).bind fun m=>
(getI f (Ck a 8)).bind fun _=>
(Kt f (Ck a 8) (Ae m (Ad (Bi b g):UInt8))).bind fun n=>
some (n,(Ae a 1))
def We:=Ag9
def Vw(j8:Int→Int→Int→LB→Dq)(bk6:Int→Int→Dq)(b a:Int)(f:LB)(g h:Int):Dq:=
if(Bz h (Gp a 8))then
bk6 (Bi g 2) (Ae h 1)
else
j8 b g a f
def Kr(b a:Int)(f:LB):Nat→Int→Int→Dq
|0,_,_=>none
|q+1,g,h=>Vw We (Kr b a f q) b a f g h
def Ahm b a f:=Kr b a f FUEL
def Ahj(j6:Int→Int→LB→Int→Int→Dq)(b a:Int)(f:LB):Dq:=
j6 b a f 1 0
def Vz:=Ahj Ahm
def Ag8(j5:Int→Int→LB→Dq)(k:LB)(a b:Int):Dq:=
if(geq (Gp a 8) 0)then
(Da k ([(0:UInt8)]:LB)).bind fun o=>
j5 b a o
else
j5 b a k
def Vi:=Ag8 Vz
abbrev Dr:=Option (LB×Int)
def Ans(a:Int)(b:LB):Dr:=
some (b,a)
def Ano:=Ans
def On(j6:Int→LB→Dr)(bk4:Int→Int→LB→Dr)(f:Int)(g:LB)(h k a:Int)(b:LB):Dr:=
if(Bz k f)then
(Kk g h k).bind fun m=>
(Vi b a m).bind fun(n,o)=>
bk4 (Ae k 1) o n
else
j6 a b
def Gw(f:Int)(g:LB)(h:Int):Nat→Int→Int→LB→Dr
|0,_,_,_=>none
|q+1,k,a,b=>On Ano (Gw f g h q) f g h k a b
def Anq f g h:=Gw f g h FUEL
def Anm(j4:Int→LB→Int→Int→Int→LB→Dr)(g:LB)(h p f:Int):Dr:=
j4 f g h p 0 ([]:LB)
def Aez:=Anm Anq
def Aq8(a:UInt64):Option UInt64:=
some a
def Aq7:=Aq8
def Ru(j6:UInt64→Option UInt64)(bk4:UInt64→Int→Option UInt64)(b:Int)(f:LB)(g:Int)(a:UInt64)(h:Int):Option UInt64:=
if(Lk h 0)then
(Kk f g (Ae b h)).bind fun k=>
bk4 (Ae (Bi 2 a) (Ad k:UInt64)) (Aj h 1)
else
j6 a
def Iv(b:Int)(f:LB)(g:Int):Nat→UInt64→Int→Option UInt64
|0,_,_=>none
|q+1,a,h=>Ru Aq7 (Iv b f g q) b f g a h
def Ac4 b f g:=Iv b f g FUEL
def Acz(j4:Int→LB→Int→UInt64→Int→Option UInt64)(f:LB)(g b m:Int):Option UInt64:=
j4 b f g 0 (Aj m 1)
def Pz:=Acz Ac4
abbrev Gk:=Option (Int×Int)
def Ahf(b a:Int)(g:LB)(f:Int):Gk:=
if(geq a 48)then
some (a,(Ae b a))
else
if(Lk (Ae b a) f)then
some ((-1:Int),0)
else
some (a,(Ae (Ae b a) 1))
def Wg:=Ahf
def Wb(j6:Int→Int→LB→Int→Gk)(bk4:Int→Gk)(b:Int)(g:LB)(f a:Int):Gk:=
if((Bz (Ae b a) f)&&(Bz a 48))then
(Kk g f (Ae b a)).bind fun h=>
if(geq h 1)then
bk4 (Ae a 1)
else
j6 b a g f
else
j6 b a g f
def Kw(b:Int)(g:LB)(f:Int):Nat→Int→Gk
|0,_=>none
|q+1,a=>Wb Wg (Kw b g f q) b g f a
def Ava b g f:=Kw b g f FUEL
def Au9(j4:Int→LB→Int→Int→Gk)(g:LB)(f b:Int):Gk:=
j4 b g f 0
def Anr:=Au9 Ava
def Aap(b:UInt32)(f:Int):Option Int:=
(Ey f).bind fun a=>
(Jp (Ax a 0)).bind fun _=>
some (Ad (Dk 48 (Ck (Ad b:UInt64) a)):Int)
abbrev Yl:=Option (UInt32×Int×Int)
def Wp(g a b:Int)(h:LB)(f k:Int):Yl:=
if((Bz a 0)||(Bz (Aj f b) k))then
some (0,0,24)
else
(Pz h f b k).bind fun m=>
if(Bz a 48)then
(Ey g).bind fun o=>
some ((Ad (Ae (Bi (Ad a:UInt64) o) m):UInt32),(Ae b k),0)
else
(Aap (Ad m:UInt32) g).bind fun p=>
if(Bz p a)then
some (0,0,12)
else
some ((Ad m:UInt32),(Ae b k),0)
def Wi:=Wp
def Ahq(j2:Int→Int→Int→LB→Int→Int→Yl)(h:LB)(f n g:Int):Yl:=
if(Lk n f)then
some (0,0,24)
else
(Anr h f n).bind fun(a,b)=>
if(geq a 48)then
j2 g a b h f 32
else
j2 g a b h f g
def Aea:=Ahq Wi
def Ad7(g:LB)(b a f n:Int)(v w:UInt64):Option (UInt32×Int×Int):=
if(Lk a b)then
some (0,0,24)
else
(Kk g b a).bind fun o=>
if(geq o 0)then
if(Bz (Aj (Aj b a) 1) f)then
some (0,0,24)
else
(Pz g b (Ae a 1) f).bind fun p=>
some ((Ad p:UInt32),(Ae (Ae a 1) f),0)
else
(Aea g b (Ae a 1) n).bind fun(h,u,k)=>
if(Ax k 0)then
some (0,0,k)
else
(Ey f).bind fun m=>
if(Dw (Ae (Ad h:UInt64) m) 4294967295)then
some (0,0,12)
else
some ((Ad (Ae (Ad h:UInt64) m):UInt32),u,0)
abbrev Bc:=Option (LU×Int)
def Aqu(b:LU):Bc:=
some (b,0)
def Ark:=Aqu
def Sf(j18:LU→Bc)(bk16:Int→Bc)(a:LB)(b:LU)(m:Int):Bc:=
if(Bz m (Bi 8 (Ac a)))then
(Kk a (Bi 8 (Ac a)) m).bind fun n=>
if(Ax n 0)then
some (b,12)
else
bk16 (Ae m 1)
else
j18 b
def Io(a:LB)(b:LU):Nat→Int→Bc
|0,_=>none
|q+1,m=>Sf Ark (Io a b q) a b m
def Acu a b:=Io a b FUEL
def Ac9(j16:LB→LU→Int→Bc)(f:Int)(a:LB)(b:LU):Bc:=
if(Dw (Aj (Bi 8 (Ac a)) f) 7)then
some (b,12)
else
j16 a b f
def Rk:=Ac9 Acu
def Ac2(bk10:Int→Int→LU→Bc)(g h:Int)(a:LB)(f k:Int)(b:LU)(o p:Int)(u v:UInt64):Bc:=
(Aez a (Bi 8 (Ac a)) f (Dk (Ae f 81) (Bi 8 (Ac a)))).bind fun(y,aa)=>
(Ad7 y aa 0 o p u v).bind fun(ab,ac,w)=>
if(Ax w 0)then
some (b,w)
else
(Da b ([ab]:LU)).bind fun ad=>
bk10 (Ae f ac) (Ae k 1) ad
def Ip bk10:=Ac2 bk10
def Acv(j13:Int→Int→LU→Int→Int→UInt64→UInt64→Bc)(j15:Int→LB→LU→Bc)(g h:Int)(a:LB)(f k:Int)(b:LU):Bc:=
if(Bz k (Bi h g))then
(Lm).bind fun(n,ae,af,ag)=>
if(Lk k g)then
(Od g b).bind fun(ah,ai,aj,ak)=>
j13 f k b ah ai aj ak
else
j13 f k b n ae af ag
else
j15 f a b
def En(g h:Int)(a:LB):Nat→Int→Int→LU→Bc
|0,_,_,_=>none
|q+1,f,k,b=>Acv (Ip (En g h a q) g h a) Rk g h a f k b
def Are g h a:=En g h a FUEL
def Afw(j10:Int→Int→LB→Int→Int→LU→Bc)(g h:Int)(a:LB):Bc:=
j10 g h a 0 0 ([]:LU)
def Zz:=Afw Are
def Axj(a:Int):Option (Int×Int):=
if(geq a 8)then
some (4,0)
else
if((geq a 16)||(geq a 24))then
some (5,0)
else
some (0,2)
def Az0(a:Int)(b:LX):Option (Int×LX×LX×Int):=
(Axj a).bind fun(g,f)=>
if(Ax f 0)then
some (0,(List.replicate 16 (0:Int32)),(List.replicate 16 (0:Int32)),2)
else
if(geq a 16)then
some (9,b,(List.replicate 16 (0:Int32)),0)
else
some (10,b,(List.replicate 16 (0:Int32)),0)
def An1(a:Int)(b:LX):Option (Int×Int32×Int×LX×LX×Int):=
(Az0 a b).bind fun(f,g,h,k)=>
if(Ax k 0)then
some (0,0,0,(List.replicate 16 (0:Int32)),(List.replicate 16 (0:Int32)),2)
else
some (a,0,f,g,h,0)
def Acd(a:UInt32):Option Int32:=
if(geq (Zy a 2) 0)then
some (Ad (Ck a 2):Int32)
else
some (Ad (Ck (Axz (Ae (Ad a:Int) 1)) 2):Int32)
def Ci(a:Int):Option Int32:=
some (Ad (Ad (Ad a:UInt64):UInt32):Int32)
def Ahc(a:Int):Option Int32:=
some (Ad a:Int32)
def Ahn:=Ahc
def Wf(j6:Int→Option Int32)(bk4:Int→Int→Option Int32)(h:Int)(f g:LX)(a b:Int):Option Int32:=
if(Bz b 16)then
(getI f b).bind fun _=>
(getI g b).bind fun _=>
(getI f b).bind fun k=>
(getI g b).bind fun m=>
(Ci (Bi (Ad k:Int) (Ad m:Int))).bind fun n=>
(Ci (Ae a (Ad n:Int))).bind fun o=>
bk4 (Ad o:Int) (Ae b 1)
else
j6 a
def Kv(h:Int)(f g:LX):Nat→Int→Int→Option Int32
|0,_,_=>none
|q+1,a,b=>Wf Ahn (Kv h f g q) h f g a b
def Avd h f g:=Kv h f g FUEL
def Au7(j4:Int→LX→LX→Int→Int→Option Int32)(h:Int)(f g:LX):Option Int32:=
j4 h f g 0 0
def Anh:=Au7 Avd
def Ae2(b:Int)(f g:LX)(a:Int):Option Int32:=
(Anh b f g).bind fun k=>
(Ci (Ae (Ad k:Int) (Ck a 2))).bind fun h=>
(Jp (Ax a 0)).bind fun _=>
(Jp (Ax a 0)).bind fun _=>
if(Bz (Gp (Ad h:Int) a) 0)then
some (Ad (Aj (Ck (Ad h:Int) a) 1):Int32)
else
some (Ad (Ck (Ad h:Int) a):Int32)
def Uw:=Ae2
def Af2(j2:Int→LX→LX→Int→Option Int32)(b:Int)(f g:LX):Option Int32:=
if(geq b 9)then
j2 b f g 512
else
j2 b f g 1024
def Aaz:=Af2 Uw
def Abh(a:Int):Option Int32:=
if(geq a 0)then
some 4
else
if(gle a 3)then
some 2
else
some 1
def Tk(a:Int32):Option Int32:=
if(Bz a 0)then
some (-1:Int32)
else
if(Dw a 0)then
some 1
else
some 0
abbrev Du:=Option (Int×LX×LX)
def Am0(g:Int)(b a:LX):Du:=
some (g,b,a)
def An7:=Am0
def Pk(j6:Int→LX→LX→Du)(bk4:Int→LX→Du)(h:Int32)(g:Int)(a:LX)(f:Int)(b:LX):Du:=
if(Bz f 16)then
(getI b f).bind fun _=>
(getI a f).bind fun _=>
(getI b f).bind fun k=>
(getI a f).bind fun m=>
(Abh f).bind fun n=>
(Tk m).bind fun o=>
(Tk h).bind fun p=>
(getI b f).bind fun _=>
(Kt b f (Ae k (Bi (Bi n o) p))).bind fun u=>
bk4 (Ae f 1) u
else
j6 g b a
def Gx(h:Int32)(g:Int)(a:LX):Nat→Int→LX→Du
|0,_,_=>none
|q+1,f,b=>Pk An7 (Gx h g a q) h g a f b
def Anc h g a:=Gx h g a FUEL
def Am1(j4:Int32→Int→LX→Int→LX→Du)(g:Int)(v a:LX)(h:Int32):Du:=
j4 h g a 0 v
def Afn:=Am1 Anc
abbrev Ek:=Option (Int×LX×LX)
def Aaj(b:Int32)(f:Int)(g a:LX):Ek:=
(getI a 0).bind fun _=>
(Kt a 0 b).bind fun k=>
some (f,g,k)
def Abf:=Aaj
def Qm(j6:Int32→Int→LX→LX→Ek)(bk4:Int→LX→Ek)(b:Int32)(f:Int)(g:LX)(h:Int)(a:LX):Ek:=
if(Dw h 0)then
(getI a (Aj h 1)).bind fun _=>
(getI a (Aj h 1)).bind fun m=>
(getI a h).bind fun _=>
(Kt a h m).bind fun n=>
bk4 (Aj h 1) n
else
j6 b f g a
def Ho(b:Int32)(f:Int)(g:LX):Nat→Int→LX→Ek
|0,_,_=>none
|q+1,h,a=>Qm Abf (Ho b f g q) b f g h a
def Apn b f g:=Ho b f g FUEL
def Apv(j4:Int32→Int→LX→Int→LX→Ek)(f:Int)(g o:LX)(b:Int32):Ek:=
j4 b f g 15 o
def Ahg:=Apv Apn
def Ua(a:Int)(b f:LX)(g:Int32):Option (Int32×Int×LX×LX):=
(Aaz a b f).bind fun k=>
(Ci (Ae (Ad g:Int) (Ad k:Int))).bind fun h=>
(Afn a b f g).bind fun(m,n,o)=>
(Ahg m n o h).bind fun(p,u,v)=>
some (h,p,u,v)
def Acl(b:Int32)(a:Int):Option Int32:=
(Jp (Ax a 0)).bind fun _=>
(Jp (Ax a 0)).bind fun _=>
if(Bz (Gp (Bi (Aj a 1) (Ad b:Int)) a) 0)then
some (Ad (Aj (Ck (Bi (Aj a 1) (Ad b:Int)) a) 1):Int32)
else
some (Ad (Ck (Bi (Aj a 1) (Ad b:Int)) a):Int32)
def Qi:=Acl
def Abi(j2:Int32→Int→Option Int32)(f:Int)(b:Int32):Option Int32:=
if(geq f 5)then
j2 b 32
else
j2 b 16
def Of:=Abi Qi
def Wo(b:Int)(a:Int32)(h:Int)(k m:LX):Option Int:=
if(geq b 8)then
(Of 4 a).bind fun f=>
some (Ad f:Int)
else
(Of 5 a).bind fun g=>
some (Ad g:Int)
def Uv(a:Int)(k:Int32)(b:Int)(f g:LX)(m:Int32):Option (Int32×Int×Int32×Int×LX×LX):=
(Ua b f g m).bind fun(n,o,p,u)=>
(Wo a k b f g).bind fun v=>
(Ci (Ae (Ad n:Int) v)).bind fun h=>
some (h,a,h,o,p,u)
def Qu(a:Int)(b:LX):Option Int:=
if((Bz a 1)||(Dw a 6))then
some 2
else
if(Dw (Ac b) 4000)then
some 4
else
(Jp (Ax a 0)).bind fun _=>
if(Dw (Gp (Ac b) a) 0)then
some 2
else
some 0
def Ang(b:LX):Option (LX):=
some b
def An2:=Ang
def Pr(j8:LX→Option (LX))(bk6:Int→LX→Option (LX))(a:LX)(f:Int)(b:LX):Option (LX):=
if(Lk f 0)then
(getI b (Ae f 1)).bind fun _=>
(getI a f).bind fun m=>
(getI b (Ae f 1)).bind fun n=>
(Ci (Aj (Ad n:Int) (Ad m:Int))).bind fun o=>
(getI b f).bind fun _=>
(Kt b f o).bind fun p=>
bk6 (Aj f 1) p
else
j8 b
def Gv(a:LX):Nat→Int→LX→Option (LX)
|0,_,_=>none
|q+1,f,b=>Pr An2 (Gv a q) a f b
def An4 a:=Gv a FUEL
def Zn(j6:LX→Int→LX→Option (LX))(a g:LX):Option (LX):=
j6 a (Aj (Ac a) 2) g
def Pg:=Zn An4
def Zf(j5:LX→LX→Option (LX))(a:LX):Option (LX):=
(mkI (Ac a) (0:Int32)).bind fun k=>
(Jp (geq (Ac a) (Ac a))).bind fun _=>
(getI a (Aj (Ac a) 1)).bind fun u=>
(getI k (Aj (Ac a) 1)).bind fun _=>
(Kt k (Aj (Ac a) 1) u).bind fun h=>
if(Dw (Ac a) 1)then
(getI a (Aj (Ac a) 1)).bind fun v=>
(getI a (Aj (Ac a) 2)).bind fun w=>
(Ci (Ae (Ad v:Int) (Ck (Ad w:Int) 2))).bind fun y=>
(getI h (Aj (Ac a) 1)).bind fun _=>
(Kt h (Aj (Ac a) 1) y).bind fun aa=>
j5 a aa
else
j5 a h
def Uq:=Zf Pg
abbrev Fz:=Option (LX×Int)
def Asi(f:LX):Fz:=
some (f,0)
def Arz:=Asi
def Afe(j6:LX→Fz)(bk4:Int→LX→Fz)(a:Int)(b:LX)(g:Int)(f:LX):Fz:=
if(Bz g (Ac b))then
(Bb b g (Ae g a)).bind fun h=>
(Uq h).bind fun k=>
(Da f k).bind fun m=>
bk4 (Ae g a) m
else
j6 f
def Nd(a:Int)(b:LX):Nat→Int→LX→Fz
|0,_,_=>none
|q+1,g,f=>Afe Arz (Nd a b q) a b g f
def Ast a b:=Nd a b FUEL
def Afx(j4:Int→LX→Int→LX→Fz)(a:Int)(b:LX):Fz:=
(Qu a b).bind fun n=>
if(Ax n 0)then
(Qu a b).bind fun o=>
some (([]:LX),o)
else
j4 a b 0 ([]:LX)
def Aao:=Afx Ast
def Zp(a f:Int)(w:LX):Option (LX):=
(Aao a w).bind fun(aj,ai)=>
some aj
def Pe:=Zp
def Zj(bk18:Int→LX→Option (LX))(b:LU)(a f:Int)(g:LX)(h:Int)(m:LX):Option (LX):=
bk18 (Ae h 1) m
def Zl bk18:=Zj bk18
def Zt(bk26:Int→LX→Int→Int32→Int→LX→LX→Option (LX))(b:LU)(h a f:Int)(g:LX)(k:Int)(af:LX)(y:Int)(aa:Int32)(ab:Int)(ac ad:LX):Option (LX):=
bk26 (Ae k a) af y aa ab ac ad
def Ze bk26:=Zt bk26
def Zd(j30:Int→LX→Int→Int32→Int→LX→LX→Option (LX))(b:LU)(h a f:Int)(g:LX)(k:Int)(ae:Int32)(m:LX)(n:Int)(o:Int32)(p:Int)(u v:LX)(y:Int)(aa:Int32)(ab:Int)(ac ad:LX):Option (LX):=
(getI m k).bind fun _=>
(Kt m k ae).bind fun af=>
j30 k af y aa ab ac ad
def Yw bk26 b h a f g:=Zd (Ze bk26 b h a f g) b h a f g
def Yu(j29:Int→Int32→LX→Int→Int32→Int→LX→LX→Int→Int32→Int→LX→LX→Option (LX))(j32:Int→LX→Option (LX))(b:LU)(a f:Int)(g:LX)(h k:Int)(m:LX)(n:Int)(o:Int32)(p:Int)(u v:LX):Option (LX):=
if(Bz k (Ac b))then
(getI b k).bind fun ah=>
(
(Acd ah).bind fun ag=>
(
(Uv n o p u v ag).bind fun(ae,y,aa,ab,ac,ad)=>
j29 k ae m n o p u v y aa ab ac ad))
else
j32 h m
def Ke(bk18:Int→LX→Option (LX))(b:LU)(a f:Int)(g:LX)(h:Int):Nat→Int→LX→Int→Int32→Int→LX→LX→Option (LX)
|0,_,_,_,_,_,_,_=>none
|q+1,k,m,n,o,p,u,v=>Yu (Yw (Ke bk18 b a f g h q) b h a f g) (Zl bk18 b a f g) b a f g h k m n o p u v
def Zh bk18 b a f g h:=Ke bk18 b a f g h FUEL
def Pp(j26:Int→Int→LX→Int→Int32→Int→LX→LX→Option (LX))(j34:Int→Int→LX→Option (LX))(b:LU)(a f:Int)(g:LX)(h:Int)(w:LX):Option (LX):=
if(Bz h a)then
(An1 f g).bind fun(ak,ai,al,am,an,aq)=>
j26 h h w ak ai al am an
else
j34 a f w
def Es(b:LU)(a f:Int)(g:LX):Nat→Int→LX→Option (LX)
|0,_,_=>none
|q+1,h,w=>Pp (Zh (Es b a f g q) b a f g) Pe b a f g h w
def Zw b a f g:=Es b a f g FUEL
def Abk(j18:LU→Int→Int→LX→Int→LX→Option (LX))(a f:Int)(g:LX)(b:LU):Option (LX):=
(mkI (Ac b) (0:Int32)).bind fun ao=>
(Jp (geq (Ac b) (Ac b))).bind fun _=>
j18 b a f g 0 ao
def Oh:=Abk Zw
def Aq9:Option Int:=
some 0
def Arf:=Aq9
def El(j6:Option Int)(bk4:Int→Option Int)(a:LX)(b f:Int):Option Int:=
if(Bz f (Ac a))then
(getI a f).bind fun g=>
if(Bz (Ad g:Int) (Axz b))then
some 16
else
(getI a f).bind fun h=>
if(Lk (Ad h:Int) b)then
some 16
else
bk4 (Ae f 1)
else
j6
def Bd(a:LX)(b:Int):Nat→Int→Option Int
|0,_=>none
|q+1,f=>El Arf (Bd a b q) a b f
def Arh a b:=Bd a b FUEL
def Ii(j4:LX→Int→Int→Option Int)(k:Int)(a:LX):Option Int:=
(Tl k).bind fun b=>
if(geq b 0)then
some 2
else
if(Dw (Ac a) 4000)then
some 4
else
j4 a b 0
def cadenzaref18_Check:=Ii Arh
def Wa(g f:Int)(a:LX):Option (LX×Int):=
(cadenzaref18_Check f a).bind fun b=>
if(Ax b 0)then
some (([]:LX),b)
else
some (a,0)
abbrev Ro:=Option (LX×Int)
def Hi(f a b:Int)(g:LX)(h:LU):Ro:=
if(Ax f 0)then
some (([]:LX),f)
else
(
(
(Oh a b g h).bind fun m=>
(Wa a b m).bind fun(n,o)=>
some (n,o)))
def Hh:=Hi
def Qr(j2:Int→Int→Int→LX→LU→Ro)(a b:Int)(g:LX)(p:Int)(k:LB):Ro:=
(Lu a b p).bind fun y=>
if(Ax y 0)then
some (([]:LX),2)
else
(Oi k).bind fun aa=>
if(Ax aa 0)then
(Oi k).bind fun ab=>
some (([]:LX),ab)
else
(Bb k 0 (Aj (Ac k) 4)).bind fun ac=>
(Zz a p ac).bind fun(h,f)=>
j2 f a b g h
def cadenzaref21_Decode:=Qr Hh
def Vt(a b:Int):Option (LB):=
if(geq a 24)then
(Da ([(Ad (Gp b 256):UInt8),(Ad (Gp (Ck b 256) 256):UInt8)]:LB) ([(Ad (Ck b 65536):UInt8)]:LB)).bind fun g=>
some g
else
some ([(Ad (Gp b 256):UInt8),(Ad (Gp (Ck b 256) 256):UInt8)]:LB)
def Kx:=Vt
def Ahd(j2:Int→Int→Option (LB))(a:Int)(f:Int32):Option (LB):=
if(geq a 8)then
some ([(Ad (Ae (Ad f:Int) 128):UInt8)]:LB)
else
if(Bz (Ad f:Int) 0)then
(Tl a).bind fun h=>
j2 a (Ae (Ad f:Int) (Bi 2 h))
else
j2 a (Ad f:Int)
def Aef:=Ahd Kx
abbrev Fa:=Option (LB×Int)
def Aqw(b:LB):Fa:=
some (b,0)
def Aq3:=Aqw
def Rl(j6:LB→Fa)(bk4:Int→LB→Fa)(f:Int)(a:LX)(g:Int)(b:LB):Fa:=
if(Bz g (Ac a))then
(getI a g).bind fun h=>
(Aef f h).bind fun k=>
(Da b k).bind fun m=>
bk4 (Ae g 1) m
else
j6 b
def It(f:Int)(a:LX):Nat→Int→LB→Fa
|0,_,_=>none
|q+1,g,b=>Rl Aq3 (It f a q) f a g b
def Aq1 f a:=It f a FUEL
def Ac6(j4:Int→LX→Int→LB→Fa)(f:Int)(a:LX):Fa:=
(cadenzaref18_Check f a).bind fun n=>
if(Ax n 0)then
(cadenzaref18_Check f a).bind fun o=>
some (([]:LB),o)
else
j4 f a 0 ([]:LB)
def Qt:=Ac6 Aq1
abbrev Rn:=Option (LB×Int)
def Fl(o:LX)(f:Int)(p g:LB)(h k a m n:Int)(u:LI)(b:Int)(v:LB)(w:Bool)(y:Int):Rn:=
if(Ax f 0)then
some (([]:LB),f)
else
(Qt a o).bind fun(ac,ai)=>
some (ac,0)
def Fp:=Fl
def Fm(j2:LX→Int→LB→LB→Int→Int→Int→Int→Int→LI→Int→LB→Bool→Int→Rn)(p g:LB)(h k a m n:Int)(u:LI)(b:Int)(v:LB)(w:Bool)(y:Int):Rn:=
(getI u b).bind fun aa=>
if(Bz (Ac g) aa)then
some (([]:LB),(-1:Int))
else
(Sp p).bind fun(ad,aj)=>
(Bb g 0 aa).bind fun ae=>
(Gl h k a m n).bind fun(af,ag)=>
(Fb h k a m n).bind fun ab=>
(getI ab b).bind fun _=>
(getI ab b).bind fun ah=>
(cadenzaref21_Decode af ag ad ah ae).bind fun(o,f)=>
j2 o f p g h k a m n u b v w y
def Cl:=Fm Fp
abbrev Ks:=Option (LB×LB×Int×Int×Int×Int×Int×LI×Int×LB×Bool×Int×Int)
def Bs(g a:LB)(m o p u v:Int)(b:LI)(f:Int)(n:LB)(h:Bool)(k:Int):Ks:=
if(geq (Ac b) 0)then
(Eg a m o p u v g).bind fun(ag,ak,w)=>
if(Ax w 0)then
some (g,a,m,o,p,u,v,b,f,n,h,k,w)
else
(Bb a ag (Ac a)).bind fun al=>
some (g,al,m,o,p,u,v,ak,f,n,h,k,0)
else
if(geq f (Ac b))then
if(Dw (Ac a) 4000)then
some (g,a,m,o,p,u,v,b,f,n,h,k,38)
else
some (g,a,m,o,p,u,v,b,f,n,h,k,(-1:Int))
else
(Cl g a m o p u v b f n h k).bind fun(am,y)=>
if(Ax y 0)then
some (g,a,m,o,p,u,v,b,f,n,h,k,y)
else
(Da ([]:LB) n).bind fun an=>
(Da an am).bind fun ah=>
(
(
(
(getI b f).bind fun ad=>
(
(Bb a ad (Ac a)).bind fun ae=>
some (g,ae,m,o,p,u,v,b,(Ae f 1),ah,h,k,0)))))
def Br:=Bs
def Ex(g af:LB)(aa w ab ac y:Int)(b:LI)(f:Int)(n:LB)(h:Bool)(k:Int):Ks:=
(Db aa w ab ac y g).bind fun aw=>
some (g,af,aa,w,ab,ac,y,b,f,n,h,k,aw)
def Fe:=Ex
def Bt(j3:LB→LB→Int→Int→Int→Int→Int→LI→Int→LB→Bool→Int→Ks)(j4:LB→LB→Int→Int→Int→Int→Int→LI→Int→LB→Bool→Int→Ks)(g a:LB)(m o p u v:Int)(b:LI)(f:Int)(n:LB)(h:Bool)(k:Int):Ks:=
if(geq m 0)then
(Ue a).bind fun(ag,aa,w,ab,ac,y,ai)=>
if(Ax ai 0)then
some (g,a,m,o,p,u,v,b,f,n,h,k,ai)
else
(
(Bb a ag (Ac a)).bind fun af=>
(
j3 g af aa w ab ac y b f n h k))
else
j4 g a m o p u v b f n h k
def cadenzaref37_take:=Bt Fe Br
def Rm(o p:LB)(b f g h k:Int)(m:LI)(a:Int)(n:LB)(u:Bool)(v:Int):Option Bool:=
(cadenzaref37_take o p b f g h k m a n u v).bind fun(af,ag,ah,ai,aj,ak,al,am,an,ao,ap,aq,w)=>
some (geq w (-1:Int))
def Bo:=Rm
def Mj(j4:LB→LB→Int→Int→Int→Int→Int→LI→Int→LB→Bool→Int→Option Bool)(o p:LB)(b f g h k:Int)(m:LI)(a:Int)(n:LB)(u:Bool)(v:Int):Option Bool:=
if(geq (Ac m) 0)then
if((Ax a 0)||(Dw (Ac n) 0))then
some false
else
j4 o p b f g h k m a n u v
else
(Gm m).bind fun y=>
if(Ax y 0)then
if((true||(Bz a 0))||(Dw a (Ac m)))then
some false
else
(Ta b f g h k a).bind fun aa=>
if(Dw (Ac n) aa)then
some false
else
j4 o p b f g h k m a n u v
else
(Fb b f g h k).bind fun ab=>
if(((Ax (Ac m) (Ac ab))||(Bz a 0))||(Dw a (Ac m)))then
some false
else
(Ta b f g h k a).bind fun ac=>
if(Dw (Ac n) ac)then
some false
else
j4 o p b f g h k m a n u v
def Me:=Mj Bo
def Sc(j4:LB→LB→Int→Int→Int→Int→Int→LI→Int→LB→Bool→Int→Option Bool)(j3:LB→LB→Int→Int→Int→Int→Int→LI→Int→LB→Bool→Int→Option Bool)(o p:LB)(b f g h k:Int)(m:LI)(a:Int)(n:LB)(u:Bool)(v:Int):Option Bool:=
if((geq b 0)&&((geq f 0)&&((geq g 0)&&((geq h 0)&&((geq k 0)&&true)))))then
if(((Dw (Ac m) 0)||(Ax a 0))||(Dw (Ac n) 0))then
some false
else
j4 o p b f g h k m a n u v
else
(Jg b f g h k).bind fun ad=>
if(Ax ad 0)then
some false
else
(Db b f g h k o).bind fun ae=>
if(Ax ae 0)then
some false
else
j3 o p b f g h k m a n u v
def Iz:=Sc Bo Me
def Uk(a:Int):Option Bool:=
some (((((((geq a 4)||(geq a 12))||(geq a 16))||(geq a 22))||(geq a 24))||(geq a 26))||(geq a 38))
def Dc(h k:LB)(m n o p u:Int)(v:LI)(f:Int)(g:LB)(b:Bool)(a:Int):Option Int:=
if(Dw (Ac h) 64)then
some 8
else
if((geq a 0)&&(!b))then
(Iz h k m n o p u v f g b a).bind fun w=>
if(!w)then
some 8
else
some 0
else
if((geq (Ac k) 0)&&(geq (Ac v) 0))then
if((!(((geq m 0)&&((geq n 0)&&((geq o 0)&&((geq p 0)&&((geq u 0)&&true)))))&&(geq f 0)))||(Dw (Ac g) 12000))then
some 8
else
if(Ax a 0)then
if b then
some 8
else
(Uk a).bind fun y=>
if(!y)then
some 8
else
some 0
else
some 0
else
if((!(false&&(geq f 0)))||(Dw (Ac g) 12000))then
some 8
else
if(Ax a 0)then
if b then
some 8
else
(Uk a).bind fun aa=>
if(!aa)then
some 8
else
some 0
else
some 0
abbrev Vx:=Option (LB×LB×Int×Int×Int×Int×Int×LI×Int×LB×Bool×Int)
def Ae7(f:LB)(g h k m n:Int)(o:LI)(p:Int)(u:Bool)(v:Int)(a b:LB):Vx:=
(Da ([]:LI) o).bind fun af=>
some (f,a,g,h,k,m,n,af,p,b,u,v)
def Ae1:=Ae7
def Af1(j2:LB→Int→Int→Int→Int→Int→LI→Int→Bool→Int→LB→LB→Vx)(f w:LB)(g h k m n:Int)(o:LI)(p:Int)(y:LB)(u:Bool)(v:Int):Vx:=
(
(
(
(Da ([]:LB) w).bind fun a=>
(
(Da ([]:LB) y).bind fun b=>
j2 f g h k m n o p u v a b))))
def Tm:=Af1 Ae1
def Nh(f g:LB)(h k m n o:Int)(p:LI)(u:Int)(v:LB)(b:Bool)(a:Int):Option Int:=
if(Ax a 0)then
some a
else
if b then
some 36
else
some 0
def Alp(a m:LB)(n o p u v:Int)(w:LI)(y:Int)(b:LB)(aa:Bool)(ab:Int):Option (LB×LB×Int×Int×Int×Int×Int×LI×Int×LB×Bool×Int):=
(
(
(Da ([]:LB) b).bind fun f=>
some (a,([]:LB),0,0,0,0,0,([]:LI),0,f,false,0)))
def Wm(b f:LB)(g h k m n:Int)(o:LI)(p:Int)(u:LB)(v:Bool)(w a:Int):Option (LB×LB×Int×Int×Int×Int×Int×LI×Int×LB×Bool×Int×Int):=
(Alp b f g h k m n o p u v w).bind fun(y,aa,ab,ac,ad,ae,af,ag,ah,ai,aj,ak)=>
some (y,aa,ab,ac,ad,ae,af,ag,ah,ai,aj,a,a)
abbrev Ku:=Option (LB×LB×Int×Int×Int×Int×Int×LI×Int×LB×Bool×Int×Int)
def Cp(bk3:LB→LB→Int→Int→Int→Int→Int→LI→Int→LB→Bool→Int→Ku)(a b:LB)(f g h k m:Int)(n:LI)(o:Int)(p:LB)(u:Bool)(v:Int):Ku:=
(cadenzaref37_take a b f g h k m n o p u v).bind fun(bb,bc,bd,be,bf,bg,bh,bi,bj,bk,bl,bm,w)=>
if(geq w (-1:Int))then
(Tm a b f g h k m n o p u v).bind fun(bn,bp,bq,br,bs,bt,bu,bv,bw,bx,bz,da)=>
some (bn,bp,bq,br,bs,bt,bu,bv,bw,bx,bz,da,0)
else
if(Ax w 0)then
(Wm a b f g h k m n o p u v w).bind fun(db,dc,dd,de,df,dg,dh,di,dj,dk,dl,dm,dn)=>
some (db,dc,dd,de,df,dg,dh,di,dj,dk,dl,dm,dn)
else
bk3 bb bc bd be bf bg bh bi bj bk bl bm
def Az:Nat→LB→LB→Int→Int→Int→Int→Int→LI→Int→LB→Bool→Int→Ku
|0,_,_,_,_,_,_,_,_,_,_,_,_=>none
|q+1,a,b,f,g,h,k,m,n,o,p,u,v=>Cp (Az q) a b f g h k m n o p u v
def Aub:=Az FUEL
def Ng(j3:LB→LB→Int→Int→Int→Int→Int→LI→Int→LB→Bool→Int→Ku)(al am:LB)(an ao ap aq ar:Int)(au:LI)(av:Int)(aw:LB)(ax:Bool)(ay:Int)(dp:LB):Ku:=
(Dc al am an ao ap aq ar au av aw ax ay).bind fun az=>
if(Ax az 0)then
some (([]:LB),([]:LB),0,0,0,0,0,([]:LI),0,([]:LB),false,0,az)
else
(Tm al am an ao ap aq ar au av aw ax ay).bind fun(y,aa,ab,ac,ad,ae,af,ag,ah,ai,aj,ak)=>
(Nh y aa ab ac ad ae af ag ah ai aj ak).bind fun ba=>
if(Ax ba 0)then
some (y,aa,ab,ac,ad,ae,af,ag,ah,ai,aj,ak,ba)
else
(Da aa dp).bind fun dq=>
j3 y dq ab ac ad ae af ag ah ai aj ak
def Hq:=Ng Aub
abbrev Al3:=Option (Int×Int×Int×Int×Int×Int×LI×Int)
def Bd6(a:LB)(b f g h k n:Int):Al3:=
(Cu b f g h k).bind fun(ab,p)=>
if(Ax p 0)then
some (0,0,0,0,0,0,([]:LI),p)
else
(Bb a n (Ac a)).bind fun ac=>
(Aeb ac (Ac ab)).bind fun(u,v)=>
if(Ax v 0)then
some (0,0,0,0,0,0,([]:LI),v)
else
some (b,f,g,h,k,(Ae (Ae n (Bi 4 (Ac u))) 4),u,0)
def Bhd:=Bd6
def Bfl(j2:LB→Int→Int→Int→Int→Int→Int→Al3)(a o:LB):Al3:=
if(Dw (Ac o) 64)then
some (0,0,0,0,0,0,([]:LI),2)
else
if(Dw (Ac a) 100000)then
some (0,0,0,0,0,0,([]:LI),4)
else
(Hy a).bind fun(m,w)=>
if(Ax w 0)then
some (0,0,0,0,0,0,([]:LI),w)
else
(Bb a m (Ac a)).bind fun ad=>
(Ld ad).bind fun(b,f,g,h,k,y)=>
if(Ax y 0)then
some (0,0,0,0,0,0,([]:LI),y)
else
if((o==([]:LB)) !=(geq b 1))then
some (0,0,0,0,0,0,([]:LI),26)
else
if(o !=([]:LB))then
if(Bz (Ac a) (Ae (Ae m 22) 8))then
some (0,0,0,0,0,0,([]:LI),24)
else
(Bb a (Ae m 22) (Ae (Ae m 22) 8)).bind fun ae=>
(Vp ae o).bind fun(af,aa)=>
if(Ax aa 0)then
some (0,0,0,0,0,0,([]:LI),aa)
else
if(!af)then
some (0,0,0,0,0,0,([]:LI),26)
else
j2 a b f g h k (Ae (Ae m 22) 8)
else
j2 a b f g h k (Ae m 22)
def seekto_Open:=Bfl Bhd
abbrev Is:=Option (Int×Int×Int×Int×Int×Int×LI×Int)
def Ap1(m n b h k f g:Int)(o:LI):Is:=
if(Ax n 0)then
some (0,0,0,0,0,0,([]:LI),n)
else
some (b,h,k,f,g,(Ae (Ae m (Bi 4 (Ac o))) 4),o,0)
def Apo:=Ap1
def Ao4(j4:Int→Int→Int→Int→Int→Int→Int→LI→Is)(a:LB)(b h k f g m:Int):Is:=
(Bb a m (Ac a)).bind fun y=>
(Jm f g).bind fun aa=>
(To y (Ac aa)).bind fun(o,n)=>
j4 m n b h k f g o
def Ap0:=Ao4 Apo
def Apw(j3:LB→Int→Int→Int→Int→Int→Int→Is)(a u:LB):Is:=
if(Dw (Ac a) 100000)then
some (0,0,0,0,0,0,([]:LI),4)
else
(Qa a).bind fun(p,v)=>
if(Ax v 0)then
some (0,0,0,0,0,0,([]:LI),v)
else
(Bb a p (Ac a)).bind fun ab=>
(Te ab).bind fun(b,h,k,f,g,w)=>
if(Ax w 0)then
some (0,0,0,0,0,0,([]:LI),w)
else
if((u==([]:LB)) !=(geq b 1))then
some (0,0,0,0,0,0,([]:LI),26)
else
if(geq b 2)then
if(Bz (Aj (Ac a) (Ae p 22)) 8)then
some (0,0,0,0,0,0,([]:LI),24)
else
(Bb a (Ae p 22) (Ae (Ae p 22) 8)).bind fun ac=>
(Nb u).bind fun ad=>
if(ac !=ad)then
some (0,0,0,0,0,0,([]:LI),26)
else
j3 a b h k f g (Ae (Ae p 22) 8)
else
j3 a b h k f g (Ae p 22)
def cadenzaref40_Opened:=Apw Ap0
def Ard(a:Int):Option Int:=
some a
def Arc:=Ard
def Rs(j6:Int→Option Int)(bk4:Int→Int→Option Int)(b h k m n o f:Int)(g:LI)(a p:Int):Option Int:=
if(Bz p b)then
(getI g p).bind fun u=>
bk4 (Ae a u) (Ae p 1)
else
j6 a
def Iu(b h k m n o f:Int)(g:LI):Nat→Int→Int→Option Int
|0,_,_=>none
|q+1,a,p=>Rs Arc (Iu b h k m n o f g q) b h k m n o f g a p
def Arb b h k m n o f g:=Iu b h k m n o f g FUEL
def Aq6(j4:Int→Int→Int→Int→Int→Int→Int→LI→Int→Int→Option Int)(h k m n o f:Int)(g:LI)(b:Int):Option Int:=
j4 b h k m n o f g f 0
def Akg:=Aq6 Arb
abbrev Yq:=Option (LB×Int)
def Ahi(p:LX)(m n g b h k o:Int)(a:LI):Yq:=
if(Ax m 0)then
some (([]:LB),m)
else
(Qt b p).bind fun(af,ai)=>
some (af,0)
def Ahh:=Ahi
def Ahb(j2:LX→Int→Int→Int→Int→Int→Int→Int→LI→Yq)(v y:LB)(n g b h k o:Int)(a:LI)(f:Int):Yq:=
(Akg n g b h k o a f).bind fun u=>
(getI a f).bind fun aa=>
if(Bz (Aj (Ac v) u) aa)then
some (([]:LB),24)
else
(Sp y).bind fun(ab,ag)=>
(getI a f).bind fun ac=>
(Bb v u (Ae u ac)).bind fun ad=>
(
(Jm h k).bind fun w=>
(getI w f).bind fun _=>
(getI w f).bind fun ae=>
(cadenzaref21_Decode g b ab ae ad).bind fun(p,m)=>
j2 p m n g b h k o a)
def cadenzaref40_Got:=Ahb Ahh
abbrev Qo:=Option (Int×Int×Int×LX×Int)
def Atz(a:LB)(aa b f h:Int)(ad:LX):Qo:=
(Bb a aa (Ac a)).bind fun aq=>
(Aag aq).bind fun(bb,ar)=>
if(Ax ar 0)then
some (0,0,0,([]:LX),38)
else
some (b,f,h,ad,0)
def As6:=Atz
def Arr(bk21:Int→Int→LX→Qo)(a:LB)(w:LI)(m b f h o p n g y ab:Int)(ac:LX)(k:LI)(aa aj ak ae:Int)(am ad:LX):Qo:=
if(Ax ak 0)then
some (0,0,0,([]:LX),ak)
else
(Da ad am).bind fun au=>
bk21 (Ae aa aj) (Ae ae 1) au
def As7 bk21:=Arr bk21
def Ajw(j24:Int→Int→Int→Int→LX→LX→Qo)(j26:LB→Int→Int→Int→Int→LX→Qo)(a:LB)(w:LI)(m b f h o p n g y ab:Int)(ac:LX)(k:LI)(aa ae:Int)(ad:LX):Qo:=
if(Bz ae (Ac w))then
(getI w ae).bind fun _=>
(getI w ae).bind fun aj=>
if(Bz (Ac a) (Ae aa aj))then
some (0,0,0,([]:LX),24)
else
(getI k ae).bind fun _=>
(Bb a aa (Ae aa aj)).bind fun av=>
(getI k ae).bind fun aw=>
(deframe_Decode b f ac aw av).bind fun(am,ak)=>
j24 aa aj ak ae am ad
else
j26 a aa b f h ad
def Aal(a:LB)(w:LI)(m b f h o p n g y ab:Int)(ac:LX)(k:LI):Nat→Int→Int→LX→Qo
|0,_,_,_=>none
|q+1,aa,ae,ad=>Ajw (As7 (Aal a w m b f h o p n g y ab ac k q) a w m b f h o p n g y ab ac k) As6 a w m b f h o p n g y ab ac k aa ae ad
end Go.Pl
