/- A part of the proof of a statement of this seat (see the text that ends in Proof): PcPure. No conditions of its own. -/
import Derived.Test.YtkkcakakemjdeaaGreatDoorPcBA
set_option linter.unusedVariables false
namespace Go.Pl
open Go Go.Lv
abbrev LB:=List UInt8
abbrev LI:=List Int
abbrev LX:=List Int32
abbrev LU:=List UInt32
abbrev LQ:=List UInt64
def Ay3(a b f:Int)(g:LX):Option (Int×Int):=
some (a,b)
abbrev Ank:=Option (Int32×Int32×Int)
def Bi8(a:Int)(b:Bool):Ank:=
if b then
(Jm (Ls (Ak a 1) 0)).bind fun _=>
some ((Azu (Dn (1:Int32) (GI.toZ (Ak a 1)).toNat)),(Ak (Dn (1:Int32) (GI.toZ (Ak a 1)).toNat) 1),0)
else
some (0,0,2)
def At9:=Bi8
def Aty(j2:Int→Bool→Ank)(a:Int):Ank:=
if(geq a 8)then
j2 a (geq a 8)
else
if(geq a 16)then
j2 a (geq a 16)
else
j2 a (geq a 24)
def Af3:=Aty At9
def Rr(a b:Int):Option Int:=
(Af3 b).bind fun(g,h,f)=>
if(((Ay f 0)||(Cb a 1))||(Eb a 6))then
some 2
else
some 0
def Abg(a:Int):Option (Int×Int):=
if((Cb a 1)||(Eb a 1048576))then
some (0,2)
else
some ((Awr 1 (Cn (Bd 256 a) 245)),0)
def Rv(g b:Int):Option (Int×Int):=
(Abg g).bind fun(a,f)=>
if(Ay f 0)then
some (0,f)
else
if((Cb b 1)||(Eb b 4000))then
some (0,2)
else
(Jm (Ay a 0)).bind fun _=>
if(Eb (Cn (Ak (Ad b a) 1) a) 1000)then
some (0,4)
else
some ((Cn (Ak (Ad b a) 1) a),0)
def Bk6(a g f:Int)(h:LX)(b:Int):Option Int:=
(Ay3 a g f h).bind fun(k,m)=>
(Rr k m).bind fun n=>
if((Ay n 0)||(Cb b 1))then
some 8
else
(Jm (Ay a 0)).bind fun _=>
if(Eb b (Cn 4000 a))then
some 8
else
(Rv f b).bind fun(p,o)=>
if(Ay o 0)then
some 8
else
some 0
def Bhx:Option Int:=
some 0
def Ato:=Bhx
def Acz(j6:Option Int)(bk4:Int→Option Int)(b f:Int32)(a:LX)(g:Int):Option Int:=
if(Cb g (Ac a))then
(getI a g).bind fun h=>
if((Cb h b)||(Eb h f))then
some 16
else
bk4 (Ad g 1)
else
j6
def Pd(b f:Int32)(a:LX):Nat→Int→Option Int
|0,_=>none
|q+1,g=>Acz Ato (Pd b f a q) b f a g
def Aug b f a:=Pd b f a FUEL
def Aly(j4:Int32→Int32→LX→Int→Option Int)(m:Int)(a:LX):Option Int:=
(Af3 m).bind fun(b,f,k)=>
if(Ay k 0)then
some k
else
if(Eb (Ac a) 4000)then
some 4
else
j4 b f a 0
def Vk:=Aly Aug
def Aew(a f h:Int)(b:LX):Option Int:=
if(Cb a 1)then
some 8
else
(Jm (Ay a 0)).bind fun _=>
if(Ay (Gs (Ac b) a) 0)then
some 8
else
(Jm (Ay a 0)).bind fun _=>
(Bk6 a f h b (Cn (Ac b) a)).bind fun g=>
if(Ay g 0)then
some g
else
(Vk f b).bind fun k=>
if(Ay k 0)then
some 8
else
some 0
abbrev Ane:=Option (Int×Int×Int×Int×Int×Int)
def Bh8(h:LB)(a b f:Int)(g:LX):Ane:=
if(h !=([]:LB))then
some (2,a,b,f,(Cn (Ac g) a),0)
else
some (1,a,b,f,(Cn (Ac g) a),0)
def Auw:=Bh8
def Akh(j2:LB→Int→Int→Int→LX→Ane)(a b f:Int)(g:LX)(h:LB):Ane:=
(Aew a b f g).bind fun k=>
if(Ay k 0)then
some (0,0,0,0,0,k)
else
if(Eb (Ac h) 64)then
some (0,0,0,0,0,2)
else
(Jm (Ay a 0)).bind fun _=>
(
j2 h a b f g)
def Bc1:=Akh Auw
abbrev Br:=Option (UInt64×Int)
def Avj(h:UInt64):Br:=
some (h,0)
def Aj2:=Avj
def Akd(j30:UInt64→Br)(h b:UInt64)(a:LB)(f:LQ):Br:=
j30 h
def Alu:=Akd Aj2
def Acu(j29:UInt64→UInt64→LB→LQ→Br)(bk27:UInt64→Int→Br)(a:LB)(b:UInt64)(f:LQ)(h:UInt64)(m:Int):Br:=
if(Cb m (Ac a))then
(getI a m).bind fun p=>
Option.bind (getI f (GI.toZ (Wz (Ae (Ce h (GI.toZ (56:UInt64)).toNat):UInt8) p))) fun _=>
Option.bind (getI f (GI.toZ (Wz (Ae (Ce h (GI.toZ (56:UInt64)).toNat):UInt8) p))) fun u=>
bk27 (Wz (Dn h (GI.toZ (8:UInt64)).toNat) u) (Ad m 1)
else
j29 h b a f
def Ps(a:LB)(b:UInt64)(f:LQ):Nat→UInt64→Int→Br
|0,_,_=>none
|q+1,h,m=>Acu Alu (Ps a b f q) a b f h m
def Alc a b f:=Ps a b f FUEL
def Ajp(j27:LB→UInt64→LQ→UInt64→Int→Br)(b:UInt64)(a:LB)(f:LQ):Br:=
j27 a b f b 0
def Adc:=Ajp Alc
def At8(bk16:Int→LQ→Br)(b:UInt64)(a:LB)(g:Int)(o:LQ):Br:=
bk16 (Ad g 1) o
def Ak5 bk16:=At8 bk16
def Akn(j24:Int→LQ→Br)(b:UInt64)(a:LB)(g:Int)(k:UInt64)(f:LQ):Br:=
(getI f g).bind fun _=>
(Kw f g k).bind fun o=>
j24 g o
def Aca bk16 b a:=Akn (Ak5 bk16 b a) b a
def Abr(j23:Int→UInt64→LQ→Br)(bk21:UInt64→Int→Br)(b:UInt64)(a:LB)(g:Int)(f:LQ)(k:UInt64)(n:Int):Br:=
if(Cb n 8)then
bk21 (Wz (Dn k (GI.toZ (1:UInt64)).toNat) (Bd 4823603603198064275 (Ce k (GI.toZ (63:UInt64)).toNat))) (Ad n 1)
else
j23 g k f
def Pk(bk16:Int→LQ→Br)(b:UInt64)(a:LB)(g:Int)(f:LQ):Nat→UInt64→Int→Br
|0,_,_=>none
|q+1,k,n=>Abr (Aca bk16 b a) (Pk bk16 b a g f q) b a g f k n
def Aj8 bk16 b a g f:=Pk bk16 b a g f FUEL
def Ab8(j21:Int→LQ→UInt64→Int→Br)(j26:UInt64→LB→LQ→Br)(b:UInt64)(a:LB)(g:Int)(f:LQ):Br:=
if(Cb g 256)then
j21 g f (Dn (Ae g:UInt64) (GI.toZ (56:UInt64)).toNat) 0
else
j26 b a f
def Ma(b:UInt64)(a:LB):Nat→Int→LQ→Br
|0,_,_=>none
|q+1,g,f=>Ab8 (Aj8 (Ma b a q) b a) Adc b a g f
def Ak3 b a:=Ma b a FUEL
def Anc(j16:UInt64→LB→Int→LQ→Br)(b:UInt64)(a:LB):Br:=
if(Eb (Ac a) 100000)then
some (0,4)
else
j16 b a 0 (List.replicate 256 (0:UInt64))
def Aqa:=Anc Ak3
def Apf(a:LB):Option (UInt64×Int):=
(Aqa 0 a).bind fun(b,f)=>
some (b,f)
def Brp(a:LX):Option (LX):=
some a
def Bgo:=Brp
def Aqu(j6:LX→Option (LX))(bk4:Int→LX→Option (LX))(f:UInt64)(b:Int)(a:LX):Option (LX):=
if(Cb b 8)then
(Jm (Ls (Bd 8 b) 0)).bind fun _=>
(getI a b).bind fun _=>
(Kw a b (Ae (Ae (Ce f (GI.toZ (Bd 8 b)).toNat):Int8):Int32)).bind fun g=>
bk4 (Ad b 1) g
else
j6 a
def Ael(f:UInt64):Nat→Int→LX→Option (LX)
|0,_,_=>none
|q+1,b,a=>Aqu Bgo (Ael f q) f b a
def Bg5 f:=Ael f FUEL
def Bgk(j4:UInt64→Int→LX→Option (LX))(f:UInt64):Option (LX):=
j4 f 0 (List.replicate 16 (0:Int32))
def Bmq:=Bgk Bg5
def Nl(a:LB):Option (LX×Int):=
if(Eb (Ac a) 64)then
some (([(0:Int32),(0:Int32),(0:Int32),(0:Int32),(0:Int32),(0:Int32),(0:Int32),(0:Int32),(0:Int32),(0:Int32),(0:Int32),(0:Int32),(0:Int32),(0:Int32),(0:Int32),(0:Int32)]:LX),2)
else
(Apf a).bind fun(f,b)=>
if(Ay b 0)then
some (([(0:Int32),(0:Int32),(0:Int32),(0:Int32),(0:Int32),(0:Int32),(0:Int32),(0:Int32),(0:Int32),(0:Int32),(0:Int32),(0:Int32),(0:Int32),(0:Int32),(0:Int32),(0:Int32)]:LX),b)
else
(Bmq f).bind fun g=>
some (g,0)
def Ah0(a b:UInt64):Option (UInt64×UInt64):=
some ((Ad (Ad (Bd (Ce a (GI.toZ (32:UInt64)).toNat) (Ce b (GI.toZ (32:UInt64)).toNat)) (Ce (Ad (Bd (Ce a (GI.toZ (32:UInt64)).toNat) (Dt b 4294967295)) (Ce (Bd (Dt a 4294967295) (Dt b 4294967295)) (GI.toZ (32:UInt64)).toNat)) (GI.toZ (32:UInt64)).toNat)) (Ce (Ad (Dt (Ad (Bd (Ce a (GI.toZ (32:UInt64)).toNat) (Dt b 4294967295)) (Ce (Bd (Dt a 4294967295) (Dt b 4294967295)) (GI.toZ (32:UInt64)).toNat)) 4294967295) (Bd (Dt a 4294967295) (Ce b (GI.toZ (32:UInt64)).toNat))) (GI.toZ (32:UInt64)).toNat)),(Bd a b))
def Afm(a b:UInt64):Option (UInt64×UInt64):=
(Ah0 a b).bind fun(f,g)=>
some (f,g)
def Nd(a:LI):Option (LI):=
some a
def Ij:=Nd
def Gl(j10:LI→Option (LI))(bk8:Int→LI→Option (LI))(b:Int)(a:LI):Option (LI):=
if(Cb b (Ac a))then
(
(vwI (Ac a) b (Ac a)).bind fun _=>
(vwI (Ac a) 0 b).bind fun _=>
bk8 (Ad b (Akp ((Ac a)-b) (Anf a 0 (b-(0:Int))).length)) (Rz a b ((Ac a)-b) (Anf a 0 (b-(0:Int)))))
else
j10 a
def El:Nat→Int→LI→Option (LI)
|0,_,_=>none
|q+1,b,a=>Gl Ij (El q) b a
def Oc:=El FUEL
def Oa(j8:Int→LI→Option (LI))(f:LI)(g:UInt64):Option (LI):=
(mkI (Ae g:Int) (0:Int)).bind fun k=>
(Jm (geq (Ae g:Int) (Ae g:Int))).bind fun _=>
j8 (Akp (Ac k) f.length) (Be9 k f)
def Oe:=Oa Oc
def Ok(j7:LI→UInt64→Option (LI))(f:LI)(h:Int):Option (LI):=
(Afm (Ae (Ac f):UInt64) (Ae h:UInt64)).bind fun(m,g)=>
if((Eb m 0)||(Eb g 9223372036854775807))then
none
else
j7 f g
def Of:=Ok Oe
def Om(j6:LI→Int→Option (LI))(f:LI)(h:Int):Option (LI):=
if(Cb h 0)then
none
else
j6 f h
def Mw:=Om Of
def Al2(f:LI):Option (LI):=
some f
def Wn:=Al2
def Fw(j16:LI→Option (LI))(bk14:Int→LI→Option (LI))(a:List LI)(g:Int)(f:LI):Option (LI):=
if(Cb g (Ac a))then
(getI a g).bind fun o=>
(Dg f o).bind fun p=>
bk14 (Ad g 1) p
else
j16 f
def Ds(a:List LI):Nat→Int→LI→Option (LI)
|0,_,_=>none
|q+1,g,f=>Fw Wn (Ds a q) a g f
def Nh a:=Ds a FUEL
def Ni(j14:(List LI)→Int→LI→Option (LI))(a:List LI)(k:LI):Option (LI):=
j14 a 0 k
def Il:=Ni Nh
def Nk(j13:(List LI)→LI→Option (LI))(b:Int)(a:List LI):Option (LI):=
if(Eb (Ak b (Ak (0:Int) (0:Int))) 0)then
(vwI 0 0 0).bind fun _=>
(mkI (Ak b (Ak (0:Int) (0:Int))) (0:Int)).bind fun u=>
(Dg ([]:LI) u).bind fun m=>
(vwI (Ac m) 0 0).bind fun _=>
j13 a (Anf m 0 ((0:Int)-(0:Int)))
else
j13 a ([]:LI)
def Nf:=Nk Il
def Nc(j12:Int→(List LI)→Option (LI))(a:List LI)(b:Int):Option (LI):=
if(Cb b 0)then
none
else
j12 b a
def Nb:=Nc Nf
def Gk(j11:(List LI)→Int→Option (LI))(bk9:Int→Int→Option (LI))(a:List LI)(b h:Int):Option (LI):=
if(Cb h (Ac a))then
(getI a h).bind fun n=>
if(Cb (Ad b (Ac n)) 0)then
none
else
bk9 (Ad b (Ac n)) (Ad h 1)
else
j11 a b
def Ej(a:List LI):Nat→Int→Int→Option (LI)
|0,_,_=>none
|q+1,b,h=>Gk Nb (Ej a q) a b h
def Og a:=Ej a FUEL
def Od(j9:(List LI)→Int→Int→Option (LI))(a:List LI):Option (LI):=
j9 a 0 0
def Mt:=Od Og
def All(a b:LI):Option (LI):=
(Mt ([a,b]:List LI)).bind fun f=>
some f
def Vv(a b:Int):Option (LI×Int):=
(Rv a b).bind fun(f,g)=>
if(Ay g 0)then
some (([]:LI),g)
else
(Abg a).bind fun(h,n)=>
(Mw ([h]:LI) (Ak f 1)).bind fun k=>
(All k ([(Ak b (Bd (Ak f 1) h))]:LI)).bind fun m=>
some (m,0)
def Axc(a f:Int)(b:LX):Option Int:=
(Rr a f).bind fun g=>
if(Ay g 0)then
some g
else
(Vk f b).bind fun h=>
if(Ay h 0)then
some h
else
if(geq (Ac b) 0)then
some 2
else
(Jm (Ay a 0)).bind fun _=>
if(Ay (Gs (Ac b) a) 0)then
some 2
else
some 0
def Ape(a:Int)(b:LX):Option Int:=
if((Cb a 1)||(Eb a 6))then
some 2
else
if(Eb (Ac b) 4000)then
some 4
else
(Jm (Ay a 0)).bind fun _=>
if(Ay (Gs (Ac b) a) 0)then
some 2
else
some 0
def Eh(a:LX):Option (LX):=
(
(Dg ([]:LX) a).bind fun b=>
some b)
abbrev Ic:=Option (LX×Int)
def Bnm(f:LX):Ic:=
some (f,0)
def Bcw:=Bnm
def Bpk(bk12:Int→LX→Ic)(b a:Int)(k:LX):Ic:=
bk12 (Ad a b) k
def Bc4 bk12:=Bpk bk12
def Bd2(j20:Int→LX→Ic)(b a:Int)(g:LX):Ic:=
if(Eb (Ak ((Ad a b)-a) 1) 0)then
(Jm (decide (0≤(Ak ((Ad a b)-a) 1)∧(Ak ((Ad a b)-a) 1)<((Ad a b)-a)))).bind fun _=>
Option.bind (Jm (decide (0≤(Ak (Ak ((Ad a b)-a) 1) 1)∧(Ak (Ak ((Ad a b)-a) 1) 1)<((Ad a b)-a)))) fun _=>
(getI g (a+(Ak ((Ad a b)-a) 1))).bind fun m=>
(getI g (a+(Ak (Ak ((Ad a b)-a) 1) 1))).bind fun n=>
(Jm (decide (0≤(Ak ((Ad a b)-a) 1)∧(Ak ((Ad a b)-a) 1)<((Ad a b)-a)))).bind fun _=>
(Kw g (a+(Ak ((Ad a b)-a) 1)) (Ak m (Cn n 2))).bind fun o=>
j20 a o
else
j20 a g
def Bdx bk12 b:=Bd2 (Bc4 bk12 b) b
def Bcu(j19:Int→LX→Ic)(bk17:Int→LX→Ic)(b a h:Int)(g:LX):Ic:=
if(Cb h (Ak ((Ad a b)-a) 1))then
(Jm (decide (0≤(Ad h 1)∧(Ad h 1)<((Ad a b)-a)))).bind fun _=>
(Jm (decide (0≤h∧h<((Ad a b)-a)))).bind fun _=>
(getI g (a+(Ad h 1))).bind fun m=>
(getI g (a+h)).bind fun n=>
(Jm (decide (0≤h∧h<((Ad a b)-a)))).bind fun _=>
(Kw g (a+h) (Ak m n)).bind fun o=>
bk17 (Ad h 1) o
else
j19 a g
def Avg(bk12:Int→LX→Ic)(b a:Int):Nat→Int→LX→Ic
|0,_,_=>none
|q+1,h,g=>Bcu (Bdx bk12 b) (Avg bk12 b a q) b a h g
def Bc8 bk12 b a:=Avg bk12 b a FUEL
def Bc3(j17:Int→Int→LX→Ic)(j22:LX→Ic)(b a:Int)(f:LX):Ic:=
if(Cb a (Ac f))then
(vwI (Ac f) a (Ad a b)).bind fun _=>
j17 a 0 f
else
j22 f
def Avb(b:Int):Nat→Int→LX→Ic
|0,_,_=>none
|q+1,a,f=>Bc3 (Bc8 (Avb b q) b) Bcw b a f
def Bc6 b:=Avb b FUEL
def Bf2(j12:Int→Int→LX→Ic)(b:Int)(p:LX):Ic:=
(Ape b p).bind fun u=>
if(Ay u 0)then
some (([]:LX),u)
else
(Eh p).bind fun v=>
j12 b 0 v
def Buz:=Bf2 Bc6
abbrev Ayy:=Option (Int×LX×LX×Int)
def Boj(a:Int)(b:LX)(f:Bool):Ayy:=
if f then
some (10,b,(List.replicate 16 (0:Int32)),0)
else
if(geq a 16)then
some (9,b,(List.replicate 16 (0:Int32)),0)
else
some (0,(List.replicate 16 (0:Int32)),(List.replicate 16 (0:Int32)),2)
def Bdy:=Boj
def Bcv(j2:Int→LX→Bool→Ayy)(a:Int)(b:LX):Ayy:=
if(geq a 8)then
j2 a b (geq a 8)
else
j2 a b (geq a 24)
def Azc:=Bcv Bdy
def Bbl(a:Int)(f:LX):Option (Int×Int32×Int×LX×LX×Int):=
(Azc a f).bind fun(g,h,k,b)=>
if(Ay b 0)then
some (0,0,0,(List.replicate 16 (0:Int32)),(List.replicate 16 (0:Int32)),b)
else
some (a,0,g,h,k,0)
def Uj(a:Int)(k:Int32)(b:Int)(f m:LX):Option Int:=
(Azc a f).bind fun(g,n,o,h)=>
if((Ay h 0)||(Ay g b))then
some 8
else
some 0
def Aub(a:Int):Option (Int×Int):=
if(geq a 8)then
some (4,0)
else
if(geq a 16)then
if(geq a 16)then
some (5,0)
else
some (0,2)
else
if(geq a 24)then
some (5,0)
else
some (0,2)
def Amc(a:Int)(b:Int32):Option Int32:=
(Jm (Ls a 0)).bind fun _=>
(Jm (Ls a 0)).bind fun _=>
some (Ae (Bl2 (Ak (Dn (Ae b:Int) (GI.toZ a).toNat) (Ae b:Int)) (GI.toZ a).toNat):Int32)
def Vg(b:Int)(f:Int32):Option (Int32×Int):=
(Aub b).bind fun(g,a)=>
if(Ay a 0)then
some (0,a)
else
(Amc g f).bind fun h=>
some (h,0)
def Ae4(a:Int)(b f:LX):Option Int:=
if((Ay a 9)&&(Ay a 10))then
some 8
else
some 0
abbrev Qv:=Option (Int32×Int)
def Awx(g:Int32)(a:Int)(b f:LX):Qv:=
(Jm (Ls a 0)).bind fun _=>
some ((Ce g (GI.toZ a).toNat),0)
def Ant:=Awx
def Afe(j6:Int32→Int→LX→LX→Qv)(bk4:Int32→Int→Qv)(b:LX)(a:Int)(f:LX)(g:Int32)(h:Int):Qv:=
if(Cb h 16)then
(getI b h).bind fun m=>
(getI f h).bind fun _=>
(getI f h).bind fun n=>
bk4 (Ad g (Bd m n)) (Ad h 1)
else
j6 g a b f
def Rs(b:LX)(a:Int)(f:LX):Nat→Int32→Int→Qv
|0,_,_=>none
|q+1,g,h=>Afe Ant (Rs b a f q) b a f g h
def Anr b a f:=Rs b a f FUEL
def Am9(j4:LX→Int→LX→Int32→Int→Qv)(a:Int)(b f:LX):Qv:=
(Ae4 a b f).bind fun k=>
if(Ay k 0)then
some (0,k)
else
(Jm (Ls (Ak a 1) 0)).bind fun _=>
j4 b a f (Dn (1:Int32) (GI.toZ (Ak a 1)).toNat) 0
def Aku:=Am9 Anr
def Aox(a:Int):Option Int32:=
if(geq a 0)then
some 4
else
if(Cb a 4)then
some 2
else
some 1
abbrev Rh:=Option (Int×LX×LX×Int)
def Bjh(g:Int)(b f:LX):Rh:=
some (g,b,f,0)
def Axq:=Bjh
def Aff(j6:Int→LX→LX→Rh)(bk4:Int→LX→Rh)(h:Int32)(f:LX)(g a:Int)(b:LX):Rh:=
if(Cb a 16)then
(getI f a).bind fun m=>
if(geq m 0)then
bk4 (Ad a 1) b
else
if((Cb m 0)==(Cb h 0))then
(getI b a).bind fun _=>
(getI b a).bind fun o=>
(Aox a).bind fun p=>
(getI b a).bind fun _=>
(Kw b a (Ad o p)).bind fun u=>
bk4 (Ad a 1) u
else
(getI b a).bind fun _=>
(getI b a).bind fun v=>
(Aox a).bind fun w=>
(getI b a).bind fun _=>
(Kw b a (Ak v w)).bind fun y=>
bk4 (Ad a 1) y
else
j6 g b f
def Ry(h:Int32)(f:LX)(g:Int):Nat→Int→LX→Rh
|0,_,_=>none
|q+1,a,b=>Aff Axq (Ry h f g q) h f g a b
def Axe h f g:=Ry h f g FUEL
def Anh(j4:Int32→LX→Int→Int→LX→Rh)(g:Int)(k f:LX)(h:Int32):Rh:=
(Ae4 g k f).bind fun n=>
if(Ay n 0)then
some (0,(List.replicate 16 (0:Int32)),(List.replicate 16 (0:Int32)),n)
else
if(geq h 0)then
some (g,k,f,0)
else
j4 h f g 0 k
def Ap2:=Anh Axe
abbrev Aui:=Option (Int×LX×LX×Int)
def Ba0(g:Int32)(b:Int)(f a:LX):Aui:=
(getI (Rz a 1 ((16:Int)-(1:Int)) (Anf a 0 ((16:Int)-(0:Int)))) 0).bind fun _=>
(Kw (Rz a 1 ((16:Int)-(1:Int)) (Anf a 0 ((16:Int)-(0:Int)))) 0 g).bind fun k=>
some (b,f,k,0)
def Apu:=Ba0
def Aiu(j2:Int32→Int→LX→LX→Aui)(b:Int)(f a:LX)(g:Int32):Aui:=
(Ae4 b f a).bind fun h=>
if(Ay h 0)then
some (0,(List.replicate 16 (0:Int32)),(List.replicate 16 (0:Int32)),h)
else
(
(vwI 16 1 16).bind fun _=>
(vwI 16 0 16).bind fun _=>
j2 g b f a)
def Avt:=Aiu Apu
def Aqy(a:Int)(b f:LX)(g h:Int32):Option (Int×LX×LX):=
(Ap2 a b f h).bind fun(k,m,n,v)=>
(Avt k m n g).bind fun(o,p,u,w)=>
some (o,p,u)
def Au5(b:Int)(f g:LX)(a:Int32):Option (Int32×Int×LX×LX×Int):=
(Aku b f g).bind fun(h,k)=>
if(Ay k 0)then
some (0,0,(List.replicate 16 (0:Int32)),(List.replicate 16 (0:Int32)),k)
else
(Aqy b f g a (Ak a h)).bind fun(m,n,o)=>
some ((Ak a h),m,n,o,0)
def Afi(a:Int)(b:Int32)(f:Int)(g h:LX)(k:Int32):Option (Int32×Int×Int32×Int×LX×LX×Int):=
(Uj a b f g h).bind fun m=>
if(Ay m 0)then
some (0,0,0,0,(List.replicate 16 (0:Int32)),(List.replicate 16 (0:Int32)),m)
else
(Vg a b).bind fun(n,y)=>
(Au5 f g h (Ak k n)).bind fun(o,p,u,v,w)=>
(
some (o,a,k,p,u,v,w))
def Bkg(a:Int32):Option UInt32:=
some (Wz (Dn (Ae a:UInt32) (GI.toZ (1:UInt64)).toNat) (Ae (Ce a (GI.toZ (31:UInt64)).toNat):UInt32))
abbrev Cv:=Option (LU×Int)
def Ayk(k:LU):Cv:=
some (k,0)
def Akx:=Ayk
def Ajx(j12:LU→Cv)(bk10:Int→(List (Int×Int32×(Int×LX×LX×Unit)×Unit))→LU→Cv)(b:LX)(a f g:Int)(o:List (Int×Int32×(Int×LX×LX×Unit)×Unit))(k:LU):Cv:=
if(Cb g (Ac b))then
(getI b g).bind fun _=>
(getI b g).bind fun ac=>
(Jm (Ay a 0)).bind fun _=>
(getI o (Gs g a)).bind fun _=>
(getI o (Gs g a)).bind fun p=>
(Afi p.1 p.2.1 p.2.2.1.1 p.2.2.1.2.1 p.2.2.1.2.2.1 ac).bind fun(u,ad,ae,v,af,ag,w)=>
if(Ay w 0)then
some (([]:LU),w)
else
(Kw o (Gs g a) (ad,ae,(v,af,ag,()),())).bind fun ah=>
(Bkg u).bind fun ai=>
(Dg k ([ai]:LU)).bind fun aj=>
bk10 (Ad g 1) ah aj
else
j12 k
def Ys(b:LX)(a f:Int):Nat→Int→(List (Int×Int32×(Int×LX×LX×Unit)×Unit))→LU→Cv
|0,_,_,_=>none
|q+1,g,o,k=>Ajx Akx (Ys b a f q) b a f g o k
def Alh b a f:=Ys b a f FUEL
def Am6(j10:LX→Int→Int→Int→(List (Int×Int32×(Int×LX×LX×Unit)×Unit))→LU→Cv)(a f:Int)(b:LX)(h:List (Int×Int32×(Int×LX×LX×Unit)×Unit)):Cv:=
j10 b a f 0 h ([]:LU)
def Ami:=Am6 Alh
def Amq(j9:Int→Int→LX→(List (Int×Int32×(Int×LX×LX×Unit)×Unit))→Cv)(bk7:Int→(List (Int×Int32×(Int×LX×LX×Unit)×Unit))→Cv)(a f:Int)(m b:LX)(n:Int)(h:List (Int×Int32×(Int×LX×LX×Unit)×Unit)):Cv:=
if(Cb n 6)then
(Bbl f m).bind fun(ak,al,u,am,an,v)=>
(getI h n).bind fun _=>
(Kw h n (ak,al,(u,am,an,()),())).bind fun ao=>
bk7 (Ad n 1) ao
else
j9 a f b h
def Acy(a f:Int)(m b:LX):Nat→Int→(List (Int×Int32×(Int×LX×LX×Unit)×Unit))→Cv
|0,_,_=>none
|q+1,n,h=>Amq Ami (Acy a f m b q) a f m b n h
def Amj a f m b:=Acy a f m b FUEL
def Amt(j7:Int→Int→LX→LX→Int→(List (Int×Int32×(Int×LX×LX×Unit)×Unit))→Cv)(a f:Int)(m y:LX):Cv:=
(Axc a f y).bind fun aa=>
if(Ay aa 0)then
some (([]:LU),aa)
else
(Buz a y).bind fun(b,ab)=>
if(Ay ab 0)then
some (([]:LU),ab)
else
j7 a f m b 0 (List.replicate 6 ((0:Int),(0:Int32),((0:Int),(List.replicate 16 (0:Int32)),(List.replicate 16 (0:Int32)),()),()))
def As5:=Amt Amj
def Ay5:Option (Int×Int×UInt64×UInt64):=
some (10,10,16384,16384)
abbrev Jg:=Option ((List (Int×Int×UInt64×UInt64×Unit)))
def Az7(a:List (Int×Int×UInt64×UInt64×Unit)):Jg:=
some a
def Aml:=Az7
def Amh(j6:(List (Int×Int×UInt64×UInt64×Unit))→Jg)(bk4:Int→(List (Int×Int×UInt64×UInt64×Unit))→Jg)(b:Int)(a:List (Int×Int×UInt64×UInt64×Unit)):Jg:=
if(Cb b 6)then
(Ay5).bind fun(f,g,h,k)=>
(getI a b).bind fun _=>
(Kw a b (f,g,h,k,())).bind fun m=>
bk4 (Ad b 1) m
else
j6 a
def Acr:Nat→Int→(List (Int×Int×UInt64×UInt64×Unit))→Jg
|0,_,_=>none
|q+1,b,a=>Amh Aml (Acr q) b a
def Am4:=Acr FUEL
def Al3(j4:Int→(List (Int×Int×UInt64×UInt64×Unit))→Jg):Jg:=
j4 0 (List.replicate 6 ((0:Int),(0:Int),(0:UInt64),(0:UInt64),()))
def As4:=Al3 Am4
def Ji(b:LB)(a:Int):Option Int:=
if(((Cb a 0)||(Eb a 330000))||(Ay (Ac b) (Bl2 (Ad a 7) (GI.toZ (3:UInt64)).toNat)))then
some 8
else
if(Eb (Dt a 7) 0)then
(getI b (Ak (Ac b) 1)).bind fun f=>
(Jm (Ls (Dt a 7) 0)).bind fun _=>
if(Ay (Ce f (GI.toZ (Dt a 7)).toNat) 0)then
some 8
else
some 0
else
some 0
def Aw6(a b:Int)(f g:UInt64):Option Int:=
if(!((geq (Dz (Awr a 0) 24) a)&&((geq (Dz (Awr b 0) 24) b)&&((geq (Dz f 68719476735) f)&&((geq (Dz g 68719476735) g)&&true)))))then
some 8
else
some 0
def An4:=Aw6
def Afo(j4:Int→Int→UInt64→UInt64→Option Int)(a b:Int)(f g:UInt64):Option Int:=
(
(
j4 a b f g))
def Ans:=Afo An4
def Afp(j3:Int→Int→UInt64→UInt64→Option Int)(a b:Int)(f g:UInt64):Option Int:=
(
(
j3 a b f g))
def Alx:=Afp Ans
def Afc(a f:Int)(g h:UInt64)(b:UInt32):Option (Int×UInt32):=
(Jm (Ls a 0)).bind fun _=>
if(geq (Ce b (GI.toZ a).toNat) 0)then
some (0,b)
else
(Jm (Ls a 0)).bind fun _=>
some (1,(Ak b (Dn (1:UInt32) (GI.toZ a).toNat)))
def Ft(a:LB):Option (LB):=
(
(Dg ([]:LB) a).bind fun b=>
some b)
def Bbd(a:LB)(b:Int):Option (LB×Int):=
(Ft a).bind fun f=>
some (f,b)
abbrev De:=Option (LB×Int×Int)
def Bm3(f:Int)(o:LB):De:=
some (o,f,0)
def Az4:=Bm3
def Bmh(bk15:UInt64→Int→Int→LB→De)(b:UInt64)(a:Int)(m:UInt64)(h f:Int)(w:LB):De:=
(Jm (Ls (Dz h (Ak 8 (Dt f 7))) 0)).bind fun _=>
bk15 (Ce m (GI.toZ (Dz h (Ak 8 (Dt f 7)))).toNat) (Ak h (Dz h (Ak 8 (Dt f 7)))) (Ad f (Dz h (Ak 8 (Dt f 7)))) w
def Bak bk15:=Bmh bk15
def Bay(j19:UInt64→Int→Int→LB→De)(b:UInt64)(a:Int)(m:UInt64)(h f:Int)(u:LB):De:=
(getI u (Ak (Ac u) 1)).bind fun _=>
(Jm (Ls (Dz h (Ak 8 (Dt f 7))) 0)).bind fun _=>
(Jm (Ls (Dt f 7) 0)).bind fun _=>
(getI u (Ak (Ac u) 1)).bind fun ad=>
(getI u (Ak (Ac u) 1)).bind fun _=>
Option.bind (Kw u (Ak (Ac u) 1) (gor ad (Dn (Ae (Dt m (Ak (Dn (1:UInt64) (GI.toZ (Dz h (Ak 8 (Dt f 7)))).toNat) 1)):UInt8) (GI.toZ (Dt f 7)).toNat))) fun w=>
j19 m h f w
def Ay9 bk15 b a:=Bay (Bak bk15 b a) b a
def Azw(j18:UInt64→Int→Int→LB→De)(j21:Int→LB→De)(b:UInt64)(a:Int)(m:UInt64)(h f:Int)(o:LB):De:=
if(Eb h 0)then
if(geq (Dt f 7) 0)then
(Dg o ([(0:UInt8)]:LB)).bind fun ab=>
j18 m h f ab
else
j18 m h f o
else
j21 f o
def Apx(b:UInt64)(a:Int):Nat→UInt64→Int→Int→LB→De
|0,_,_,_,_=>none
|q+1,m,h,f,o=>Azw (Ay9 (Apx b a q) b a) Az4 b a m h f o
def Bao b a:=Apx b a FUEL
def Bm6(g:Int)(p:LB):De:=
some (p,g,0)
def Azf:=Bm6
def Bna(bk22:UInt64→Int→Int→LB→De)(b:UInt64)(a:Int)(n:UInt64)(k g:Int)(y:LB):De:=
(Jm (Ls (Dz k (Ak 8 (Dt g 7))) 0)).bind fun _=>
bk22 (Ce n (GI.toZ (Dz k (Ak 8 (Dt g 7)))).toNat) (Ak k (Dz k (Ak 8 (Dt g 7)))) (Ad g (Dz k (Ak 8 (Dt g 7)))) y
def Azi bk22:=Bna bk22
def Bag(j26:UInt64→Int→Int→LB→De)(b:UInt64)(a:Int)(n:UInt64)(k g:Int)(v:LB):De:=
(getI v (Ak (Ac v) 1)).bind fun _=>
(Jm (Ls (Dz k (Ak 8 (Dt g 7))) 0)).bind fun _=>
(Jm (Ls (Dt g 7) 0)).bind fun _=>
(getI v (Ak (Ac v) 1)).bind fun ae=>
(getI v (Ak (Ac v) 1)).bind fun _=>
Option.bind (Kw v (Ak (Ac v) 1) (gor ae (Dn (Ae (Dt n (Ak (Dn (1:UInt64) (GI.toZ (Dz k (Ak 8 (Dt g 7)))).toNat) 1)):UInt8) (GI.toZ (Dt g 7)).toNat))) fun y=>
j26 n k g y
def Azd bk22 b a:=Bag (Azi bk22 b a) b a
def Ban(j25:UInt64→Int→Int→LB→De)(j28:Int→LB→De)(b:UInt64)(a:Int)(n:UInt64)(k g:Int)(p:LB):De:=
if(Eb k 0)then
if(geq (Dt g 7) 0)then
(Dg p ([(0:UInt8)]:LB)).bind fun w=>
j25 n k g w
else
j25 n k g p
else
j28 g p
def Ap0(b:UInt64)(a:Int):Nat→UInt64→Int→Int→LB→De
|0,_,_,_,_=>none
|q+1,n,k,g,p=>Ban (Azd (Ap0 b a q) b a) Azf b a n k g p
def Bau b a:=Ap0 b a FUEL
def Bdw(j15:UInt64→Int→UInt64→Int→Int→LB→De)(j22:UInt64→Int→UInt64→Int→Int→LB→De)(ac:LB)(aa:Int)(b:UInt64)(a:Int):De:=
(Ji ac aa).bind fun af=>
if(Ay af 0)then
some (([]:LB),0,8)
else
if((Cb a 0)||(Eb a 64))then
some (([]:LB),0,2)
else
if(Cb a 64)then
(Jm (Ls a 0)).bind fun _=>
if(Ay (Ce b (GI.toZ a).toNat) 0)then
some (([]:LB),0,16)
else
if(Eb (Ad aa a) 330000)then
some (([]:LB),0,18)
else
(Bbd ac aa).bind fun(ag,ah)=>
j15 b a b a ah ag
else
if(Eb (Ad aa a) 330000)then
some (([]:LB),0,18)
else
(Bbd ac aa).bind fun(ab,ai)=>
j22 b a b a ai ab
def Avh:=Bdw Bao Bau
def Aix(b:UInt32)(a:Int):Option Bool:=
(Jm (Ls a 0)).bind fun _=>
some (Ls (Ce b (GI.toZ a).toNat) 48)
def Bai(a:Int):Option (Int×Int):=
if((Cb a 0)||(Eb a 48))then
some (0,2)
else
some ((Dz (Ad a 1) 48),0)
def Bdl(b:LB)(f a:Int):Option (LB×Int×Int):=
(Ji b f).bind fun g=>
if(Ay g 0)then
some (([]:LB),0,g)
else
(Bai a).bind fun(k,h)=>
if(Ay h 0)then
some (([]:LB),0,h)
else
(Jm (Ls a 0)).bind fun _=>
(Avh b f (Ak (Dn (1:UInt64) (GI.toZ a).toNat) 1) k).bind fun(m,n,o)=>
some (m,n,o)
abbrev Aq3:=Option (LB×Int×Int)
def Bjj(b:LB)(f h:Int)(k:UInt32)(m:Int):Aq3:=
(Bdl b f h).bind fun(p,u,n)=>
if(Ay n 0)then
some (([]:LB),0,n)
else
(Avh p u (Ae k:UInt64) m).bind fun(v,w,y)=>
some (v,w,y)
def Aw1:=Bjj
def Aw0(j2:LB→Int→Int→UInt32→Int→Aq3)(b:LB)(f:Int)(g:UInt32)(a:Int):Aq3:=
(Ji b f).bind fun o=>
if(Ay o 0)then
some (([]:LB),0,o)
else
if((Cb a 0)||(Eb a 24))then
some (([]:LB),0,2)
else
(Jm (Ls a 0)).bind fun _=>
(Jm (Ls a 0)).bind fun _=>
(Aix g a).bind fun aa=>
if aa then
j2 b f 48 g 32
else
j2 b f (Ae (Ce g (GI.toZ a).toNat):Int) (Dt g (Ak (Dn (1:UInt32) (GI.toZ a).toNat) 1)) a
def Bf4:=Aw0 Aw1
abbrev Hz:=Option (LB×Int×Int×Int×UInt64×UInt64×Int)
def Al1(k u n:Int)(a:UInt64)(b:UInt32)(o:UInt64)(m:LB):Hz:=
(
(
some (m,k,u,n,(Ad a (Ak (Ae b:UInt64) (Ce a (GI.toZ (4:UInt64)).toNat))),o,0)))
def Atf:=Al1
def Axd(j10:Int→Int→Int→UInt64→UInt32→UInt64→LB→Hz)(b:UInt32)(k n:Int)(a o:UInt64)(m:LB)(u:Int):Hz:=
j10 k u n a b o m
def Axb:=Axd Atf
def Axk(j9:UInt32→Int→Int→UInt64→UInt64→LB→Int→Hz)(b:UInt32)(f:Int)(a:UInt64)(k:Int)(m:LB)(n:Int)(o:UInt64):Hz:=
if(Eb f 0)then
(Jm (Ls f 0)).bind fun _=>
if(Cb (Ad a (Ak (Ae b:UInt64) (Ce a (GI.toZ (4:UInt64)).toNat))) (Dn (16:UInt64) (GI.toZ f).toNat))then
j9 b k n a o m (Ak f 1)
else
if(Cb f 24)then
(Jm (Ls f 0)).bind fun _=>
if(Eb (Ad a (Ak (Ae b:UInt64) (Ce a (GI.toZ (4:UInt64)).toNat))) (Dn (32:UInt64) (GI.toZ f).toNat))then
j9 b k n a o m (Ad f 1)
else
j9 b k n a o m f
else
j9 b k n a o m f
else
if(Cb f 24)then
(Jm (Ls f 0)).bind fun _=>
if(Eb (Ad a (Ak (Ae b:UInt64) (Ce a (GI.toZ (4:UInt64)).toNat))) (Dn (32:UInt64) (GI.toZ f).toNat))then
j9 b k n a o m (Ad f 1)
else
j9 b k n a o m f
else
j9 b k n a o m f
def Aw9:=Axk Axb
def Axs(j8:UInt32→Int→UInt64→Int→LB→Int→UInt64→Hz)(b:UInt32)(f h:Int)(a g:UInt64)(y k:Int)(m:LB):Hz:=
if(Ay y 0)then
some (([]:LB),0,0,0,0,0,y)
else
(Afc f h a g b).bind fun(ag,p)=>
if(geq ag 1)then
if(Eb h 0)then
(Jm (Ls h 0)).bind fun _=>
if(Cb (Ad g (Ak (Ae p:UInt64) (Ce g (GI.toZ (4:UInt64)).toNat))) (Dn (16:UInt64) (GI.toZ h).toNat))then
j8 b f a k m (Ak h 1) (Ad g (Ak (Ae p:UInt64) (Ce g (GI.toZ (4:UInt64)).toNat)))
else
if(Cb h 24)then
(Jm (Ls h 0)).bind fun _=>
if(Eb (Ad g (Ak (Ae p:UInt64) (Ce g (GI.toZ (4:UInt64)).toNat))) (Dn (32:UInt64) (GI.toZ h).toNat))then
j8 b f a k m (Ad h 1) (Ad g (Ak (Ae p:UInt64) (Ce g (GI.toZ (4:UInt64)).toNat)))
else
j8 b f a k m h (Ad g (Ak (Ae p:UInt64) (Ce g (GI.toZ (4:UInt64)).toNat)))
else
j8 b f a k m h (Ad g (Ak (Ae p:UInt64) (Ce g (GI.toZ (4:UInt64)).toNat)))
else
if(Cb h 24)then
(Jm (Ls h 0)).bind fun _=>
if(Eb (Ad g (Ak (Ae p:UInt64) (Ce g (GI.toZ (4:UInt64)).toNat))) (Dn (32:UInt64) (GI.toZ h).toNat))then
j8 b f a k m (Ad h 1) (Ad g (Ak (Ae p:UInt64) (Ce g (GI.toZ (4:UInt64)).toNat)))
else
j8 b f a k m h (Ad g (Ak (Ae p:UInt64) (Ce g (GI.toZ (4:UInt64)).toNat)))
else
j8 b f a k m h (Ad g (Ak (Ae p:UInt64) (Ce g (GI.toZ (4:UInt64)).toNat)))
else
j8 b f a k m h g
def Axh:=Axs Aw9
def Axp(j7:UInt32→Int→Int→UInt64→UInt64→Int→Int→LB→Hz)(b:UInt32)(v:LB)(w f h:Int)(a g:UInt64):Hz:=
(Afc f h a g b).bind fun(ad,ae)=>
(Avh v w (Ae ad:UInt64) 1).bind fun(aa,ab,ac)=>
if((geq ac 0)&&(geq ad 0))then
(Avh aa ab (Ae ae:UInt64) f).bind fun(ah,ai,aj)=>
j7 b f h a g aj ai ah
else
if(geq ac 0)then
(Bf4 aa ab ae h).bind fun(ak,al,am)=>
j7 b f h a g am al ak
else
j7 b f h a g ac ab aa
def Axr:=Axp Axh
def Axn(j6:UInt32→LB→Int→Int→Int→UInt64→UInt64→Hz)(v:LB)(w f h:Int)(a g:UInt64)(b:UInt32):Hz:=
(Ji v w).bind fun an=>
if(Ay an 0)then
some (([]:LB),0,0,0,0,0,8)
else
(Alx f h a g).bind fun ao=>
if(Ay ao 0)then
some (([]:LB),0,0,0,0,0,8)
else
j6 b v w f h a g
def Bhv:=Axn Axr
abbrev Bs:=Option (UInt32×Int)
def Att(h:UInt32):Bs:=
some (h,0)
def Ajz:=Att
def Ab2(j30:UInt32→Bs)(bk28:UInt32→Int→Bs)(a:LB)(b:LU)(h:UInt32)(m:Int):Bs:=
if(Cb m (Ac a))then
(getI a m).bind fun p=>
(getI b (GI.toZ (Wz (Ae h:UInt8) p))).bind fun _=>
(getI b (GI.toZ (Wz (Ae h:UInt8) p))).bind fun u=>
bk28 (Wz (Ce h (GI.toZ (8:UInt64)).toNat) u) (Ad m 1)
else
j30 h
def Pf(a:LB)(b:LU):Nat→UInt32→Int→Bs
|0,_,_=>none
|q+1,h,m=>Ab2 Ajz (Pf a b q) a b h m
def Ajw a b:=Pf a b FUEL
def Aj0(j28:LB→LU→UInt32→Int→Bs)(f:UInt32)(a:LB)(b:LU):Bs:=
j28 a b f 0
def Alb:=Aj0 Ajw
def Ald(j27:UInt32→LB→LU→Bs)(f:UInt32)(a:LB)(b:LU):Bs:=
j27 f a b
def Abx:=Ald Alb
def Ata(bk16:Int→LU→Bs)(f:UInt32)(a:LB)(g:Int)(o:LU):Bs:=
bk16 (Ad g 1) o
def Ajo bk16:=Ata bk16
def Alz(j24:Int→LU→Bs)(f:UInt32)(a:LB)(g:Int)(k:UInt32)(b:LU):Bs:=
(getI b g).bind fun _=>
(Kw b g k).bind fun o=>
j24 g o
def Ab9 bk16 f a:=Alz (Ajo bk16 f a) f a
def Abs(j23:Int→UInt32→LU→Bs)(bk21:UInt32→Int→Bs)(f:UInt32)(a:LB)(g:Int)(b:LU)(k:UInt32)(n:Int):Bs:=
if(Cb n 8)then
bk21 (Wz (Ce k (GI.toZ (1:UInt64)).toNat) (Bd 3988292384 (Dt k 1))) (Ad n 1)
else
j23 g k b
def Pb(bk16:Int→LU→Bs)(f:UInt32)(a:LB)(g:Int)(b:LU):Nat→UInt32→Int→Bs
|0,_,_=>none
|q+1,k,n=>Abs (Ab9 bk16 f a) (Pb bk16 f a g b q) f a g b k n
def Ajt bk16 f a g b:=Pb bk16 f a g b FUEL
def Acq(j21:Int→LU→UInt32→Int→Bs)(j26:UInt32→LB→LU→Bs)(f:UInt32)(a:LB)(g:Int)(b:LU):Bs:=
if(Cb g 256)then
j21 g b (Ae g:UInt32) 0
else
j26 f a b
def Mh(f:UInt32)(a:LB):Nat→Int→LU→Bs
|0,_,_=>none
|q+1,g,b=>Acq (Ajt (Mh f a q) f a) Abx f a g b
def Ajm f a:=Mh f a FUEL
def Anu(j16:UInt32→LB→Int→LU→Bs)(f:UInt32)(a:LB):Bs:=
if(Eb (Ac a) 100000)then
some (0,4)
else
j16 f a 0 (List.replicate 256 (0:UInt32))
def Ap5:=Anu Ajm
def Wg(b:LB):Option (UInt32×Int):=
(Ap5 4294967295 b).bind fun(f,a)=>
if(Ay a 0)then
some (0,a)
else
some ((Bfg f),0)
def Beo(b:UInt64)(a:Int):Option Bool:=
if(geq a 8)then
some true
else
(Jm (Ls (Bd 8 a) 0)).bind fun _=>
some (geq (Ce b (GI.toZ (Bd 8 a)).toNat) 0)
abbrev Zf:=Option (LB×Int)
def Bc5(a:LB):Zf:=
some (a,0)
def As9:=Bc5
def Ame(j6:LB→Zf)(bk4:Int→LB→Zf)(f:UInt64)(g:LB)(b:Int)(a:LB):Zf:=
if(Cb b (Ac g))then
(Jm (Ls (Bd 8 b) 0)).bind fun _=>
(getI a b).bind fun _=>
(Kw a b (Ae (Ce f (GI.toZ (Bd 8 b)).toNat):UInt8)).bind fun k=>
bk4 (Ad b 1) k
else
j6 a
def Zo(f:UInt64)(g:LB):Nat→Int→LB→Zf
|0,_,_=>none
|q+1,b,a=>Ame As9 (Zo f g q) f g b a
def Ava f g:=Zo f g FUEL
def Atp(j4:UInt64→LB→Int→LB→Zf)(f:UInt64)(h:Int):Zf:=
if((Cb h 1)||(Eb h 8))then
some (([]:LB),2)
else
(Beo f h).bind fun m=>
if(!m)then
some (([]:LB),16)
else
(mkI h (0:UInt8)).bind fun g=>
(Jm (geq h h)).bind fun _=>
j4 f g 0 g
def Xv:=Atp Ava
def Ai2(f:LB):Option (LB):=
some f
def Ua:=Ai2
def Tz(j16:LB→Option (LB))(bk14:Int→LB→Option (LB))(a:List LB)(g:Int)(f:LB):Option (LB):=
if(Cb g (Ac a))then
(getI a g).bind fun o=>
(Dg f o).bind fun p=>
bk14 (Ad g 1) p
else
j16 f
def Lf(a:List LB):Nat→Int→LB→Option (LB)
|0,_,_=>none
|q+1,g,f=>Tz Ua (Lf a q) a g f
def Ti a:=Lf a FUEL
def Tw(j14:(List LB)→Int→LB→Option (LB))(a:List LB)(k:LB):Option (LB):=
j14 a 0 k
def Tr:=Tw Ti
def Ue(j13:(List LB)→LB→Option (LB))(b:Int)(a:List LB):Option (LB):=
if(Eb (Ak b (Ak (0:Int) (0:Int))) 0)then
(vwI 0 0 0).bind fun _=>
(mkI (Ak b (Ak (0:Int) (0:Int))) (0:UInt8)).bind fun u=>
(Dg ([]:LB) u).bind fun m=>
(vwI (Ac m) 0 0).bind fun _=>
j13 a (Anf m 0 ((0:Int)-(0:Int)))
else
j13 a ([]:LB)
def Ub:=Ue Tr
def Tm(j12:Int→(List LB)→Option (LB))(a:List LB)(b:Int):Option (LB):=
if(Cb b 0)then
none
else
j12 b a
def Tt:=Tm Ub
def Vo(j11:(List LB)→Int→Option (LB))(bk9:Int→Int→Option (LB))(a:List LB)(b h:Int):Option (LB):=
if(Cb h (Ac a))then
(getI a h).bind fun n=>
if(Cb (Ad b (Ac n)) 0)then
none
else
bk9 (Ad b (Ac n)) (Ad h 1)
else
j11 a b
def Lt(a:List LB):Nat→Int→Int→Option (LB)
|0,_,_=>none
|q+1,b,h=>Vo Tt (Lt a q) a b h
def Ul a:=Lt a FUEL
def Vx(j9:(List LB)→Int→Int→Option (LB))(a:List LB):Option (LB):=
j9 a 0 0
def Zz:=Vx Ul
abbrev Bi:=Option (LB×Int)
def Ax0(u:Int)(p:LB):Bi:=
(Wg p).bind fun(af,ac)=>
if(Ay ac 0)then
some (([]:LB),ac)
else
(Xv (Ae af:UInt64) 4).bind fun(m,h)=>
if(Ay h 0)then
some (([]:LB),h)
else
(Zz ([p,m]:List LB)).bind fun ag=>
some (ag,0)
def Akl:=Ax0
def Aye(bk27:Int→(List (Int×Int×UInt64×UInt64×Unit))→Int→LB→Bi)(a:LU)(b f g:Int)(k:List (Int×Int×UInt64×UInt64×Unit))(n:Int)(v:LB):Bi:=
bk27 (Ad g 1) k n v
def Akv bk27:=Aye bk27
def Aym(bk44:Int→Int→LB→Bi)(h:Int)(a:LU)(g b f:Int)(k:List (Int×Int×UInt64×UInt64×Unit))(m:LB)(o n:Int)(aa:LB):Bi:=
bk44 (Ad o 1) (Ad n 1) aa
def Ako bk44:=Aym bk44
def Akb(j48:Int→Int→LB→Bi)(h:Int)(a:LU)(g b f:Int)(k:List (Int×Int×UInt64×UInt64×Unit))(m:LB)(o n:Int)(y:LB):Bi:=
(getI m (Cn o 8)).bind fun _=>
(getI m (Cn o 8)).bind fun ah=>
(Jm (Ls (Gs o 8) 0)).bind fun _=>
(getI y (Cn n 8)).bind fun _=>
(Jm (Ls (Gs n 8) 0)).bind fun _=>
(getI y (Cn n 8)).bind fun ai=>
(getI y (Cn n 8)).bind fun _=>
Option.bind (Kw y (Cn n 8) (gor ai (Dn (Dt (Ce ah (GI.toZ (Gs o 8)).toNat) 1) (GI.toZ (Gs n 8)).toNat))) fun aa=>
j48 o n aa
def Akq bk44 h a g b f k m:=Akb (Ako bk44 h a g b f k m) h a g b f k m
def Aj9(j47:Int→Int→LB→Bi)(j50:Int→(List (Int×Int×UInt64×UInt64×Unit))→Int→LB→Bi)(a:LU)(b f h g:Int)(k:List (Int×Int×UInt64×UInt64×Unit))(m:LB)(o n:Int)(v:LB):Bi:=
if(Cb o h)then
if(geq (Gs n 8) 0)then
(Dg v ([(0:UInt8)]:LB)).bind fun aj=>
j47 o n aj
else
j47 o n v
else
j50 g k n v
def Yi(bk27:Int→(List (Int×Int×UInt64×UInt64×Unit))→Int→LB→Bi)(a:LU)(b f h g:Int)(k:List (Int×Int×UInt64×UInt64×Unit))(m:LB):Nat→Int→Int→LB→Bi
|0,_,_,_=>none
|q+1,o,n,v=>Aj9 (Akq (Yi bk27 a b f h g k m q) h a g b f k m) (Akv bk27 a b f) a b f h g k m o n v
def Al0 bk27 a b f h g k m:=Yi bk27 a b f h g k m FUEL
def Aj6(j44:Int→Int→(List (Int×Int×UInt64×UInt64×Unit))→LB→Int→Int→LB→Bi)(j52:Int→LB→Bi)(a:LU)(b f g:Int)(w:List (Int×Int×UInt64×UInt64×Unit))(u:Int)(p:LB):Bi:=
if(Cb g (Ac a))then
(getI a g).bind fun _=>
(getI a g).bind fun ak=>
(Jm (Ay b 0)).bind fun _=>
(getI w (Gs g b)).bind fun _=>
(getI w (Gs g b)).bind fun ab=>
(Bhv ([]:LB) 0 ab.1 ab.2.1 ab.2.2.1 ab.2.2.2.1 ak).bind fun(m,h,al,am,an,ao,ad)=>
if(Ay ad 0)then
some (([]:LB),ad)
else
(Jm (Ay b 0)).bind fun _=>
(getI w (Gs g b)).bind fun _=>
(Kw w (Gs g b) (al,am,an,ao,())).bind fun k=>
j44 h g k m 0 u p
else
j52 u p
def Ze(a:LU)(b f:Int):Nat→Int→(List (Int×Int×UInt64×UInt64×Unit))→Int→LB→Bi
|0,_,_,_,_=>none
|q+1,g,w,u,p=>Aj6 (Al0 (Ze a b f q) a b f) Akl a b f g w u p
def Ake a b f:=Ze a b f FUEL
def Am0(j27:LU→Int→Int→Int→(List (Int×Int×UInt64×UInt64×Unit))→Int→LB→Bi)(b f:Int)(ap aq:LX):Bi:=
(As5 b f ap aq).bind fun(a,ae)=>
if(Ay ae 0)then
some (([]:LB),ae)
else
(As4).bind fun ar=>
j27 a b f 0 ar 0 ([]:LB)
def Ab0:=Am0 Ake
def Uh(a:Int)(b:LX):LI→Int→Option (List LX)
  |[],_=>some []
  |n::l,x=>Option.bind (Ba b x (Ad x (Bd n a))) fun p=>Option.bind (Uh a b l (Ad x (Bd n a))) fun ps=>some (p::ps)
def Afr(a f:Int)(t:LX):List LX→List LB→Option (List LB×Int)
  |[],o=>some (o,0)
  |x::xs,o=>Option.bind (Ab0 a f t x) fun y=>
    if(Ay y.2 0)=true then some ([],y.2)
    else Option.bind (Dg o [y.1]) fun o'=>Afr a f t xs o'
def Avi(a h:Int)(b:LX):Option (List LX):=
  Option.bind (Jm (Ay a 0)) fun _=>Option.bind (Vv h (Cn (Ac b) a)) fun l=>Option.bind (Jm (decide (Ac l.1≤17179869184))) fun _=>Uh a b l.1 0
def Au7(a f h:Int)(b:LX)(p:LB):Option (List LB×Int):=
  Option.bind (Aew a f h b) fun e=>
    if(Ay e 0)=true then some ([],e)
    else Option.bind (Nl p) fun t=>
      if(Ay t.2 0)=true then some ([],t.2)
      else Option.bind (Avi a h b) fun xs=>Afr a f t.1 xs []
def Aex(b f a g h:Int):Option Bool:=
some (((((((geq b 1)||(geq b 2))&&(Eb f 0))&&(gle f 6))&&(Eb g 0))&&(gle g 1048576))&&(Eb h 0))
def Lr:=Aex
def We(j2:Int→Int→Int→Int→Int→Option Bool)(b f a g h:Int):Option Bool:=
if(geq a 8)then
if(geq a 8)then
j2 b f a g h
else
some false
else
if(geq a 16)then
if(geq a 16)then
j2 b f a g h
else
some false
else
if(geq a 24)then
j2 b f a g h
else
some false
def Oj:=We Lr
def Af2(k a m f b:Int):Option Bool:=
(Jm (Ay a 0)).bind fun _=>
if(Eb b (Cn 4000 a))then
some false
else
(Rv f b).bind fun(g,h)=>
some ((geq h 0)&&(gle g 1000))
def Rb(a b f g h:Int):Option Int:=
(Oj a b f g h).bind fun k=>
if(!k)then
some 8
else
(Af2 a b f g h).bind fun m=>
if(!m)then
some 8
else
some 0
abbrev Mb:=Option (LB×Int)
def Bea(a:LB):Mb:=
(Wg a).bind fun(u,aa)=>
(Xv (Ae u:UInt64) 4).bind fun(n,v)=>
(Dg a n).bind fun o=>
some (o,0)
def Arm:=Bea
def Ark(j6:LB→Mb)(bk4:Int→LB→Mb)(b f g h k m:Int)(a:LB):Mb:=
if(Cb m 5)then
(getI ([b,f,g,h,k]:LI) m).bind fun w=>
(getI ([(2:Int),(2:Int),(2:Int),(4:Int),(4:Int)]:LI) m).bind fun y=>
(Xv (Ae w:UInt64) y).bind fun(n,v)=>
(Dg a n).bind fun o=>
bk4 (Ad m 1) o
else
j6 a
def Ahy(b f g h k:Int):Nat→Int→LB→Mb
|0,_,_=>none
|q+1,m,a=>Ark Arm (Ahy b f g h k q) b f g h k m a
def Ars b f g h k:=Ahy b f g h k FUEL
def Ar6(j4:Int→Int→Int→Int→Int→Int→LB→Mb)(b f g h k:Int):Mb:=
(Rb b f g h k).bind fun p=>
if(Ay p 0)then
some (([]:LB),p)
else
j4 b f g h k 0 ([(84:UInt8),(84:UInt8),(65:UInt8),(49:UInt8)]:LB)
def Az9:=Ar6 Ars
def Bbe(a:LB):Option (UInt64×Int):=
if(Eb (Ac a) 64)then
some (0,2)
else
(Apf a).bind fun(b,f)=>
some (b,0)
def Aci(b:LB):Option (LB×Int):=
(Bbe b).bind fun(f,a)=>
if(Ay a 0)then
some (([]:LB),a)
else
(Xv f 8).bind fun(g,h)=>
some (g,h)
def Bi7:Option Int:=
some 0
def Aus:=Bi7
def Ac1(j6:Option Int)(bk4:Int→Int→Option Int)(a:LI)(f b:Int):Option Int:=
if(Cb b (Ac a))then
(getI a b).bind fun g=>
if((Cb g 5)||(Eb g f))then
some 8
else
bk4 (Ak f g) (Ad b 1)
else
j6
def Pw(a:LI):Nat→Int→Int→Option Int
|0,_,_=>none
|q+1,f,b=>Ac1 Aus (Pw a q) a f b
def Ajs a:=Pw a FUEL
def Aax(j4:LI→Int→Int→Option Int)(a:LI):Option Int:=
if((geq (Ac a) 0)||(Eb (Ac a) 1000))then
some 8
else
j4 a 100000 0
def Nt:=Aax Ajs
abbrev Gj:=Option (LB×Int)
def Beb(g:LB):Gj:=
some (g,0)
def Arh:=Beb
def Ar4(j14:LB→Gj)(b:LB):Gj:=
(Wg b).bind fun(m,u)=>
(Xv (Ae m:UInt64) 4).bind fun(n,v)=>
(Dg b n).bind fun g=>
j14 g
def Ari:=Ar4 Arh
def Bd6(bk8:Int→LB→Gj)(a:LI)(f:Int)(h:LB):Gj:=
bk8 (Ad f 1) h
def Arv bk8:=Bd6 bk8
def At0(j11:Int→LB→Gj)(j13:LB→Gj)(a:LI)(f:Int)(b:LB):Gj:=
if(Cb f (Ac a))then
(getI a f).bind fun o=>
(Xv (Ae o:UInt64) 4).bind fun(p,w)=>
(Dg b p).bind fun h=>
j11 f h
else
j13 b
def Ali(a:LI):Nat→Int→LB→Gj
|0,_,_=>none
|q+1,f,b=>At0 (Arv (Ali a q) a) Ari a f b
def Atv a:=Ali a FUEL
def Ats(j8:LI→Int→LB→Gj)(a:LI):Gj:=
(Nt a).bind fun k=>
if(Ay k 0)then
some (([]:LB),k)
else
j8 a 0 ([]:LB)
def Bd4:=Ats Atv
def Awy(a:LB):Option Int:=
some (Ac a)
def Bhc(a:LB):Option (LB):=
some a
def Atd:=Bhc
def As7(j6:LB→Option (LB))(bk4:Int→LB→Option (LB))(b:List LB)(f:Int)(a:LB):Option (LB):=
if(Cb f (Ac b))then
(getI b f).bind fun g=>
(Dg a g).bind fun h=>
bk4 (Ad f 1) h
else
j6 a
def Akf(b:List LB):Nat→Int→LB→Option (LB)
|0,_,_=>none
|q+1,f,a=>As7 Atd (Akf b q) b f a
def Aux b:=Akf b FUEL
def Atr(j4:(List LB)→Int→LB→Option (LB))(b:List LB):Option (LB):=
j4 b 0 ([]:LB)
def Bdb:=Atr Aux
abbrev Ei:=Option (LB×Int)
def Bed(k:Int)(a:List LB)(b f n:LB):Ei:=
if(Ay k 0)then
some (([]:LB),k)
else
(Dg ([b,f,n]:List LB) a).bind fun m=>
(Bdb m).bind fun ad=>
some (ad,0)
def Aro:=Bed
def Ary(j14:Int→(List LB)→LB→LB→LB→Ei)(h:LI)(a:List LB)(b f:LB):Ei:=
(Bd4 h).bind fun(n,k)=>
j14 k a b f n
def Aru:=Ary Aro
def Bec(bk9:Int→LI→Ei)(a:List LB)(b f:LB)(g:Int)(m:LI):Ei:=
bk9 (Ad g 1) m
def Arn bk9:=Bec bk9
def Auk(j11:Int→LI→Ei)(j13:LI→(List LB)→LB→LB→Ei)(a:List LB)(b f:LB)(g:Int)(h:LI):Ei:=
if(Cb g (Ac a))then
(getI a g).bind fun _=>
(getI a g).bind fun ae=>
(Awy ae).bind fun k=>
(getI h g).bind fun _=>
(Kw h g k).bind fun m=>
j11 g m
else
j13 h a b f
def Aka(a:List LB)(b f:LB):Nat→Int→LI→Ei
|0,_,_=>none
|q+1,g,h=>Auk (Arn (Aka a b f q) a b f) Aru a b f g h
def At3 a b f:=Aka a b f FUEL
def Aud(j9:(List LB)→LB→LB→Int→LI→Ei)(a:List LB)(b f:LB):Ei:=
(mkI (Ac a) (0:Int)).bind fun af=>
(Jm (geq (Ac a) (Ac a))).bind fun _=>
j9 a b f 0 af
def Auf:=Aud At3
def Atj(j8:(List LB)→LB→LB→Ei)(p u v:Int)(w:LX)(o:LB):Ei:=
(Bc1 p u v w o).bind fun(y,ag,ah,ai,aj,aa)=>
if(Ay aa 0)then
some (([]:LB),aa)
else
(Au7 p u v w o).bind fun(a,ab)=>
if(Ay ab 0)then
some (([]:LB),ab)
else
(Az9 y ag ah ai aj).bind fun(b,ac)=>
if(Ay ac 0)then
some (([]:LB),ac)
else
if(geq y 2)then
(Aci o).bind fun(ak,al)=>
j8 a b ak
else
j8 a b ([]:LB)
def Bcq:=Atj Auf
def Ajq:Option (LB×Bool):=
(Bcq 1 8 8000 ([(0:Int32)]:LX) ([]:LB)).bind fun(a,b)=>
some (a,((geq b 0)&&(geq (Ac a) 36)))
def Al6(a:LB):Option (LB×LB×Int×Int×Int×Int×Int×LI×Int×LB×Bool×Int×Int):=
if(Eb (Ac a) 64)then
some (([]:LB),([]:LB),0,0,0,0,0,([]:LI),0,([]:LB),false,0,2)
else
some (a,([]:LB),0,0,0,0,0,([]:LI),0,([]:LB),false,0,0)
def Gw(a:LB):Option (LB):=
(
(Dg ([]:LB) a).bind fun b=>
some b)
def Fc(a:LI):Option (LI):=
(
(Dg ([]:LI) a).bind fun b=>
some b)
def Cx(a b:LB)(f g h k m:Int)(n:LI)(o:Int)(p:LB)(u:Bool)(v:Int):Option (LB×LB×Int×Int×Int×Int×Int×LI×Int×LB×Bool×Int):=
(Gw b).bind fun w=>
(Gw p).bind fun y=>
(Fc n).bind fun aa=>
some (a,w,f,g,h,k,m,aa,o,y,u,v)
def Cu(g h k a b:Int):Option (LI×Int):=
(Rb g h k a b).bind fun f=>
if(Ay f 0)then
some (([]:LI),f)
else
(Vv a b).bind fun(m,n)=>
some (m,n)
def Mm(a f g h k:Int)(b:LB):Option Int:=
if((b==([]:LB)) !=(geq a 1))then
some 26
else
some 0
def Arw(w:Int)(o p:LB)(h b f k m:Int)(g:LI)(a:Int)(n:LB)(u:Bool)(v:Int):Option Bool:=
some (gle (Ac n) w)
def Ahp:=Arw
def Yg(j8:Int→LB→LB→Int→Int→Int→Int→Int→LI→Int→LB→Bool→Int→Option Bool)(bk6:Int→Int→Option Bool)(y:LI)(o p:LB)(h b f k m:Int)(g:LI)(a:Int)(n:LB)(u:Bool)(v w aa:Int):Option Bool:=
if(Cb aa (Ac y))then
(getI y aa).bind fun ac=>
bk6 (Ad w (Cn (Bd (Bd ac b) f) 8)) (Ad aa 1)
else
j8 w o p h b f k m g a n u v
def Nm(y:LI)(o p:LB)(h b f k m:Int)(g:LI)(a:Int)(n:LB)(u:Bool)(v:Int):Nat→Int→Int→Option Bool
|0,_,_=>none
|q+1,w,aa=>Yg Ahp (Nm y o p h b f k m g a n u v q) y o p h b f k m g a n u v w aa
def Ahh y o p h b f k m g a n u v:=Nm y o p h b f k m g a n u v FUEL
def Ahx(j6:LI→LB→LB→Int→Int→Int→Int→Int→LI→Int→LB→Bool→Int→Int→Int→Option Bool)(o p:LB)(h b f k m:Int)(g:LI)(a:Int)(n:LB)(u:Bool)(v:Int)(ab:LI):Option Bool:=
if(geq (Ac g) 0)then
some ((geq a 0)&&(geq (Ac n) 0))
else
(Nt g).bind fun ad=>
if((((Ay ad 0)||(Ay (Ac g) (Ac ab)))||(Cb a 0))||(Eb a (Ac ab)))then
some false
else
(Ba ab 0 a).bind fun y=>
j6 y o p h b f k m g a n u v 0 0
def Ahi:=Ahx Ahh
def Ahr(j5:LB→LB→Int→Int→Int→Int→Int→LI→Int→LB→Bool→Int→LI→Option Bool)(o p:LB)(h b f k m:Int)(g:LI)(a:Int)(n:LB)(u:Bool)(v:Int):Option Bool:=
if((geq h 0)&&((geq b 0)&&((geq f 0)&&((geq k 0)&&((geq m 0)&&true)))))then
some (((geq (Ac g) 0)&&(geq a 0))&&(geq (Ac n) 0))
else
(Cu h b f k m).bind fun(ab,ae)=>
if(Ay ae 0)then
some false
else
(Mm h b f k m o).bind fun af=>
if(Ay af 0)then
some false
else
j5 o p h b f k m g a n u v ab
def Wj:=Ahr Ahi
def Ge(a b:LB):Option Bool:=
some (a==b)
def Kn(b a:LB):Option Bool:=
if(Ls (Ac b) (Ac a))then
(Ba b 0 (Ac a)).bind fun f=>
(Ge f a).bind fun g=>
some g
else
some false
abbrev Kl:=Option (Int×Int)
def Bb3(b:Int):Kl:=
some (b,0)
def Aoz:=Bb3
def Wc(j6:Int→Kl)(bk4:Int→Int→Kl)(a:LB)(b f:Int):Kl:=
if(Cb f (Ac a))then
(getI a f).bind fun g=>
if(Eb g 127)then
some (0,12)
else
bk4 (gor (Dn b (GI.toZ (7:UInt64)).toNat) (Ae g:Int)) (Ad f 1)
else
j6 b
def Lq(a:LB):Nat→Int→Int→Kl
|0,_,_=>none
|q+1,b,f=>Wc Aoz (Lq a q) a b f
def Aey a:=Lq a FUEL
def Aet(j4:LB→Int→Int→Kl)(a:LB):Kl:=
if(Ay (Ac a) 4)then
some (0,2)
else
j4 a 0 0
def Afl:=Aet Aey
abbrev Hu:=Option (Int×Int)
def Ar8(a:LB)(b:UInt8)(h:Int):Hu:=
if(Eb h 4000)then
some (0,4)
else
if(Cb (Ac a) h)then
some (0,24)
else
if(geq b 16)then
(Ba a (Ak h 10) h).bind fun k=>
(Ba k 0 3).bind fun u=>
if(u !=([51,68,73]:LB))then
some (0,12)
else
(Ba k 3 (Ac k)).bind fun v=>
(Ba a 3 10).bind fun w=>
(Ge v w).bind fun y=>
if(!y)then
some (0,12)
else
some (h,0)
else
some (h,0)
def Yh:=Ar8
def Ahs(j8:LB→UInt8→Int→Hu)(a:LB)(g:Int)(b:UInt8):Hu:=
if(geq b 16)then
j8 a b (Ad (Ad g 10) 10)
else
j8 a b (Ad g 10)
def Yb:=Ahs Yh
def Ah6(j7:LB→Int→UInt8→Hu)(a:LB)(g:Int)(b:UInt8)(m:Bool):Hu:=
if m then
some (0,12)
else
j7 a g b
def Ahz:=Ah6 Yb
def Ah3(j6:LB→Int→UInt8→Bool→Hu)(a:LB)(f b:UInt8):Hu:=
(Ba a 6 10).bind fun aa=>
(Afl aa).bind fun(g,ab)=>
if(Ay ab 0)then
if true then
j6 a g b true
else
if(geq b 0)then
j6 a g b (!((Ls f 2)&&(gle f 4)))
else
if(geq b 16)then
j6 a g b (!(geq f 4))
else
j6 a g b (!false)
else
(getI a 4).bind fun ac=>
if(Ay ac 0)then
j6 a g b true
else
if(geq b 0)then
j6 a g b (!((Ls f 2)&&(gle f 4)))
else
if(geq b 16)then
j6 a g b (!(geq f 4))
else
j6 a g b (!false)
def Ahw:=Ah3 Ahz
def Ye(j5:LB→UInt8→UInt8→Hu)(a:LB):Hu:=
(Kn a ([(73:UInt8),(68:UInt8),(51:UInt8)]:LB)).bind fun n=>
if(!n)then
some (0,6)
else
if(Cb (Ac a) 10)then
some (0,24)
else
(getI a 3).bind fun f=>
(getI a 5).bind fun b=>
(
(
(
j5 a f b)))
def Aiy:=Ye Ahw
abbrev Zg:=Option (UInt64×Int)
def Bqk(b:UInt64):Zg:=
some (b,0)
def Bcs:=Bqk
def Amd(j6:UInt64→Zg)(bk4:UInt64→Int→Zg)(a:LB)(b:UInt64)(f:Int):Zg:=
if(Cb f (Ac a))then
(getI a f).bind fun g=>
(Jm (Ls (Bd 8 f) 0)).bind fun _=>
bk4 (gor b (Dn (Ae g:UInt64) (GI.toZ (Bd 8 f)).toNat)) (Ad f 1)
else
j6 b
def Zx(a:LB):Nat→UInt64→Int→Zg
|0,_,_=>none
|q+1,b,f=>Amd Bcs (Zx a q) a b f
def At1 a:=Zx a FUEL
def Atn(j4:LB→UInt64→Int→Zg)(a:LB):Zg:=
if((Cb (Ac a) 1)||(Eb (Ac a) 8))then
some (0,2)
else
j4 a 0 0
def Avl:=Atn At1
def Aoq(f:LB)(a b:Int):Option (UInt64×Int):=
if(((Cb b 1)||(Eb b 8))||(Cb a 0))then
some (0,2)
else
if(Eb a (Ak (Ac f) b))then
some (0,24)
else
(Ba f a (Ad a b)).bind fun g=>
(Avl g).bind fun(h,k)=>
some (h,k)
def Bge(g:LB):Option (LB):=
some g
def Ayb:=Bge
def Ara(j6:LB→Option (LB))(bk4:Int→LB→Option (LB))(a b:Int)(f:UInt64)(h:Int)(g:LB):Option (LB):=
if(Cb h (Ac ([(2000:UInt64),(Ae (Ad a 32):UInt64),(Ae b:UInt64),f,(0:UInt64),(0:UInt64)]:LQ)))then
(getI ([(2000:UInt64),(Ae (Ad a 32):UInt64),(Ae b:UInt64),f,(0:UInt64),(0:UInt64)]:LQ) h).bind fun _=>
(getI ([(2000:UInt64),(Ae (Ad a 32):UInt64),(Ae b:UInt64),f,(0:UInt64),(0:UInt64)]:LQ) h).bind fun k=>
(Xv k 4).bind fun(m,o)=>
(Dg g m).bind fun n=>
bk4 (Ad h 1) n
else
j6 g
def Yy(a b:Int)(f:UInt64):Nat→Int→LB→Option (LB)
|0,_,_=>none
|q+1,h,g=>Ara Ayb (Yy a b f q) a b f h g
def Ay0 a b f:=Yy a b f FUEL
def Ax9(j4:Int→Int→UInt64→Int→LB→Option (LB))(a b:Int)(f:UInt64):Option (LB):=
j4 a b f 0 ([(65:UInt8),(80:UInt8),(69:UInt8),(84:UInt8),(65:UInt8),(71:UInt8),(69:UInt8),(88:UInt8)]:LB)
def Av4:=Ax9 Ay0
def Ajk(b:LB)(g:UInt64):Option (Int×Int×Bool):=
(Aoq b 12 4).bind fun(a,m)=>
(Aoq b 16 4).bind fun(f,n)=>
if(((Cb a 32)||(Eb a 3032))||(Eb f 1000))then
some (0,0,false)
else
(Av4 (Ak (Ae a:Int) 32) (Ae f:Int) g).bind fun h=>
(Ge b h).bind fun k=>
some ((Ak (Ae a:Int) 32),(Ae f:Int),k)
def Awd(a:LB):Option (Int×Int):=
(Kn a ([(65:UInt8),(80:UInt8),(69:UInt8),(84:UInt8),(65:UInt8),(71:UInt8),(69:UInt8),(88:UInt8)]:LB)).bind fun f=>
if(!f)then
some (0,6)
else
if(Cb (Ac a) 32)then
some (0,24)
else
(Ba a 0 32).bind fun g=>
(Ajk g 2684354560).bind fun(b,h,k)=>
if(!k)then
some (0,12)
else
if(Cb (Ac a) (Ad b 64))then
some (0,24)
else
(Ba a (Ak (Ad b 64) 32) (Ad b 64)).bind fun m=>
(Av4 b h 2147483648).bind fun n=>
(Ge m n).bind fun o=>
if(!o)then
some (0,12)
else
some ((Ad b 64),0)
def Uq(a:LB):Option (Int×Int):=
(Aiy a).bind fun(f,b)=>
if(Ay b 6)then
some (f,b)
else
(Awd a).bind fun(g,h)=>
some (g,h)
def Rt(b:List UInt8):Nat→Int→Option (Int×Int)
  |0,_=>none
  |q+1,x=>Option.bind (Ba b x (Ac b)) fun s=>Option.bind (Uq s) fun r=>
    if geq r.2 (6:Int)=true then some (x,0)
    else if(geq r.2 (0:Int)&&Eb (Ad x r.1) (4000:Int))=true then some (0,4)
    else if Ay r.2 (0:Int)=true then some (0,r.2)
    else Rt b q (Ad x r.1)
def Gz(b:List UInt8):Option (Int×Int):=Rt b FUEL 0
def Ah(a:Int):Option (Bool×Int):=
some (false,a)
def Fv(b a:LB):Option Bool:=
if(Ls (Ac b) (Ac a))then
(Ba b 0 (Ac a)).bind fun f=>
some (f==a)
else
some false
def Hx(a b:LB):Option Bool:=
(Fv a b).bind fun f=>
some f
def Bd5:Option Bool:=
some false
def Arq:=Bd5
def Rk(j6:Option Bool)(bk4:Int→Option Bool)(a:LB)(b:Int):Option Bool:=
if(Cb b 2)then
(getI ([([73,68,51]:LB),([65,80,69,84,65,71,69,88]:LB)]:List LB) b).bind fun f=>
if(Cb (Ac a) (Ac f))then
(Hx f a).bind fun g=>
if g then
some true
else
bk4 (Ad b 1)
else
bk4 (Ad b 1)
else
j6
def If(a:LB):Nat→Int→Option Bool
|0,_=>none
|q+1,b=>Rk Arq (If a q) a b
def Ahn a:=If a FUEL
def Ahj(j4:LB→Int→Option Bool)(a:LB):Option Bool:=
j4 a 0
def Ns:=Ahj Ahn
abbrev Ny:=Option (Int×Int×Int×Int×Int×Int)
def Auj(a:LI):Ny:=
(getI a 0).bind fun _=>
(getI a 0).bind fun h=>
(getI a 1).bind fun _=>
(getI a 1).bind fun k=>
(getI a 2).bind fun _=>
(getI a 2).bind fun m=>
(getI a 3).bind fun _=>
(getI a 3).bind fun n=>
(getI a 4).bind fun _=>
(getI a 4).bind fun o=>
(Oj h k m n o).bind fun p=>
if(!p)then
some (0,0,0,0,0,12)
else
(Af2 h k m n o).bind fun u=>
if(!u)then
some (0,0,0,0,0,4)
else
some (h,k,m,n,o,0)
def Ac6:=Auj
def Ack(j6:LI→Ny)(bk4:Int→Int→LI→Ny)(b:LB)(g f:Int)(a:LI):Ny:=
if(Cb f 5)then
(getI ([(2:Int),(2:Int),(2:Int),(4:Int),(4:Int)]:LI) f).bind fun h=>
(Aoq b g h).bind fun(v,ae)=>
(getI a f).bind fun _=>
(Kw a f (Ae v:Int)).bind fun w=>
bk4 (Ad g h) (Ad f 1) w
else
j6 a
def Lz(b:LB):Nat→Int→Int→LI→Ny
|0,_,_,_=>none
|q+1,g,f,a=>Ack Ac6 (Lz b q) b g f a
def Aa2 b:=Lz b FUEL
def Akw(j4:LB→Int→Int→LI→Ny)(b:LB):Ny:=
(Ba b 0 (Dz 4 (Ac b))).bind fun y=>
(Hx ([84,84,65,49]:LB) y).bind fun aa=>
if(!aa)then
some (0,0,0,0,0,12)
else
if(Cb (Ac b) 22)then
some (0,0,0,0,0,24)
else
(Aoq b 18 4).bind fun(ab,af)=>
(Ba b 0 18).bind fun ac=>
(Wg ac).bind fun(ad,ag)=>
if(Ay (Ae ad:UInt64) ab)then
some (0,0,0,0,0,22)
else
j4 b 4 0 (List.replicate 5 (0:Int))
def Jr:=Akw Aa2
def Lk(a f:LB):Option (Bool×Int):=
(Aci f).bind fun(b,g)=>
if((Ay g 0)||(Ay (Ac a) (Ac b)))then
some (false,2)
else
(Ge a b).bind fun h=>
some (h,0)
abbrev Qi:=Option (LI×Int)
def Aw5(a:LI):Qi:=
(Nt a).bind fun k=>
if(Ay k 0)then
some (([]:LI),12)
else
some (a,0)
def Afh:=Aw5
def Afk(j6:LI→Qi)(bk4:Int→LI→Qi)(b:LB)(f:LI)(g:Int)(a:LI):Qi:=
if(Cb g (Ac f))then
(Aoq b (Bd 4 g) 4).bind fun(k,u)=>
(getI a g).bind fun _=>
(Kw a g (Ae k:Int)).bind fun m=>
bk4 (Ad g 1) m
else
j6 a
def Rw(b:LB)(f:LI):Nat→Int→LI→Qi
|0,_,_=>none
|q+1,g,a=>Afk Afh (Rw b f q) b f g a
def Ann b f:=Rw b f FUEL
def Anl(j4:LB→LI→Int→LI→Qi)(b:LB)(h:Int):Qi:=
if((Cb h 1)||(Eb h 1000))then
some (([]:LI),2)
else
if(Cb (Ac b) (Ad (Bd 4 h) 4))then
some (([]:LI),24)
else
(Aoq b (Bd 4 h) 4).bind fun(n,v)=>
(Ba b 0 (Bd 4 h)).bind fun o=>
(Wg o).bind fun(p,w)=>
if(Ay (Ae p:UInt64) n)then
some (([]:LI),22)
else
(mkI h (0:Int)).bind fun f=>
(Jm (geq h h)).bind fun _=>
j4 b f 0 f
def Yq:=Anl Ann
def Xq(f a b g h:Int):Option (Int×Int):=
some (a,b)
def Ab4(a:LB):Option (LB×Int):=
if(Cb (Ac a) 5)then
some (([]:LB),24)
else
if(Eb (Ac a) 41254)then
some (([]:LB),4)
else
(Ba a 0 (Ak (Ac a) 4)).bind fun f=>
(Wg f).bind fun(g,b)=>
if(Ay b 0)then
some (([]:LB),b)
else
(Ba a (Ak (Ac a) 4) (Ac a)).bind fun h=>
(Avl h).bind fun(k,m)=>
if((Ay m 0)||(Ay k (Ae g:UInt64)))then
some (([]:LB),22)
else
(Ba a 0 (Ak (Ac a) 4)).bind fun n=>
some (n,0)
def Bmi(a:LB):Option (LB×Int×Int):=
if(Eb (Ac a) 41250)then
some (([]:LB),0,4)
else
(Ft a).bind fun b=>
some (b,(Bd 8 (Ac a)),0)
def Bn1(g:UInt64):Option UInt64:=
some g
def Bdv:=Bn1
def At6(j6:UInt64→Option UInt64)(bk4:UInt64→Int→Option UInt64)(b f:Int)(h:LB)(k:Int)(g:UInt64)(a:Int):Option UInt64:=
if(Cb a f)then
(getI h (Bl2 (Ad b a) (GI.toZ (3:UInt64)).toNat)).bind fun m=>
(Jm (Ls (Dt (Ad b a) 7) 0)).bind fun _=>
(Jm (Ls (Dz (Ak f a) (Ak 8 (Dt (Ad b a) 7))) 0)).bind fun _=>
(Jm (Ls a 0)).bind fun _=>
bk4 (gor g (Dn (Ae (Dt (Ce m (GI.toZ (Dt (Ad b a) 7)).toNat) (Ak (Dn (1:UInt8) (GI.toZ (Dz (Ak f a) (Ak 8 (Dt (Ad b a) 7)))).toNat) 1)):UInt64) (GI.toZ a).toNat)) (Ad a (Dz (Ak f a) (Ak 8 (Dt (Ad b a) 7))))
else
j6 g
def Agw(b f:Int)(h:LB)(k:Int):Nat→UInt64→Int→Option UInt64
|0,_,_=>none
|q+1,g,a=>At6 Bdv (Agw b f h k q) b f h k g a
def Bc2 b f h k:=Agw b f h k FUEL
def Bdu(j4:Int→Int→LB→Int→UInt64→Int→Option UInt64)(h:LB)(k b f:Int):Option UInt64:=
j4 b f h k 0 0
def Azg:=Bdu Bc2
abbrev Et:=Option (LB×Int×Int)
def Az5(o:Int)(p:LB):Et:=
some (p,o,0)
def Aqp:=Az5
def Baf(bk27:Int→Int→LB→Et)(a:Int)(g:LB)(f b h:Int)(u:LB):Et:=
bk27 (Ad b 64) h u
def Ai3 bk27:=Baf bk27
def Bap(bk44:UInt64→Int→Int→LB→Et)(a b:Int)(g:LB)(f:Int)(k n:UInt64)(m h:Int)(w:LB):Et:=
(Jm (Ls (Dz m (Ak 8 (Dt h 7))) 0)).bind fun _=>
bk44 (Ce n (GI.toZ (Dz m (Ak 8 (Dt h 7)))).toNat) (Ak m (Dz m (Ak 8 (Dt h 7)))) (Ad h (Dz m (Ak 8 (Dt h 7)))) w
def Aq0 bk44:=Bap bk44
def Aq4(j48:UInt64→Int→Int→LB→Et)(a b:Int)(g:LB)(f:Int)(k n:UInt64)(m h:Int)(v:LB):Et:=
(getI v (Ak (Ac v) 1)).bind fun _=>
(Jm (Ls (Dz m (Ak 8 (Dt h 7))) 0)).bind fun _=>
(Jm (Ls (Dt h 7) 0)).bind fun _=>
(getI v (Ak (Ac v) 1)).bind fun aa=>
(getI v (Ak (Ac v) 1)).bind fun _=>
Option.bind (Kw v (Ak (Ac v) 1) (gor aa (Dn (Ae (Dt n (Ak (Dn (1:UInt64) (GI.toZ (Dz m (Ak 8 (Dt h 7)))).toNat) 1)):UInt8) (GI.toZ (Dt h 7)).toNat))) fun w=>
j48 n m h w
def Aiw bk44 a b g f k:=Aq4 (Aq0 bk44 a b g f k) a b g f k
def Aja(j47:UInt64→Int→Int→LB→Et)(j50:Int→Int→LB→Et)(a:Int)(g:LB)(f b:Int)(k n:UInt64)(m h:Int)(u:LB):Et:=
if(Eb m 0)then
if(geq (Dt h 7) 0)then
(Dg u ([(0:UInt8)]:LB)).bind fun ab=>
j47 n m h ab
else
j47 n m h u
else
j50 b h u
def Nn(bk27:Int→Int→LB→Et)(a:Int)(g:LB)(f b:Int)(k:UInt64):Nat→UInt64→Int→Int→LB→Et
|0,_,_,_,_=>none
|q+1,n,m,h,u=>Aja (Aiw (Nn bk27 a g f b k q) a b g f k) (Ai3 bk27 a g f) a g f b k n m h u
def Aqo bk27 a g f b k:=Nn bk27 a g f b k FUEL
def Apy(j44:Int→UInt64→UInt64→Int→Int→LB→Et)(j52:Int→LB→Et)(a:Int)(g:LB)(f b o:Int)(p:LB):Et:=
if(Cb b a)then
(Azg g f b (Dz 64 (Ak a b))).bind fun k=>
j44 b k k (Dz 64 (Ak a b)) o p
else
j52 o p
def Wk(a:Int)(g:LB)(f:Int):Nat→Int→Int→LB→Et
|0,_,_,_=>none
|q+1,b,o,p=>Apy (Aqo (Wk a g f q) a g f) Aqp a g f b o p
def Arf a g f:=Wk a g f FUEL
def Auz(j27:Int→LB→Int→Int→Int→LB→Et)(g:LB)(f y a:Int):Et:=
(Ji g f).bind fun ac=>
if(Ay ac 0)then
some (([]:LB),0,8)
else
if(((Cb y 0)||(Eb y a))||(Eb a f))then
some (([]:LB),0,2)
else
j27 a g f y 0 ([]:LB)
def Atq:=Auz Arf
def Acb(g:LB)(b f a:Int):Option (UInt64×Int):=
(Ji g b).bind fun h=>
if(Ay h 0)then
some (0,8)
else
if(((Cb a 0)||(Eb a 64))||(Cb f 0))then
some (0,2)
else
if(Eb f (Ak b a))then
some (0,24)
else
(Azg g b f a).bind fun k=>
some (k,0)
def Fx(a:UInt64):Option Int:=
if(geq a 0)then
some 64
else
(getI ([(0:UInt8),(1:UInt8),(56:UInt8),(2:UInt8),(57:UInt8),(49:UInt8),(28:UInt8),(3:UInt8),(61:UInt8),(58:UInt8),(42:UInt8),(50:UInt8),(38:UInt8),(29:UInt8),(17:UInt8),(4:UInt8),(62:UInt8),(47:UInt8),(59:UInt8),(36:UInt8),(45:UInt8),(43:UInt8),(51:UInt8),(22:UInt8),(53:UInt8),(39:UInt8),(33:UInt8),(30:UInt8),(24:UInt8),(18:UInt8),(12:UInt8),(5:UInt8),(63:UInt8),(55:UInt8),(48:UInt8),(27:UInt8),(60:UInt8),(41:UInt8),(37:UInt8),(16:UInt8),(46:UInt8),(35:UInt8),(44:UInt8),(21:UInt8),(52:UInt8),(32:UInt8),(23:UInt8),(11:UInt8),(54:UInt8),(26:UInt8),(40:UInt8),(15:UInt8),(34:UInt8),(20:UInt8),(31:UInt8),(10:UInt8),(25:UInt8),(14:UInt8),(19:UInt8),(9:UInt8),(13:UInt8),(8:UInt8),(7:UInt8),(6:UInt8)]:LB) (GI.toZ (Ce (Bd (Dt a (Azu a)) 285870213051353865) (GI.toZ (58:UInt64)).toNat))).bind fun b=>
some (Ae b:Int)
abbrev Hw:=Option (Int×Int×Int)
def Bht:Hw:=
some (0,0,24)
def Au8:=Bht
def Aw7(j10:Hw):Hw:=
j10
def Aw3:=Aw7 Au8
def Anz(j9:Hw)(f a:Int):Hw:=
if(geq f 48)then
some (f,(Ad 0 (Ad a f)),0)
else
j9
def Anx:=Anz Aw3
def Anq(j8:Int→Int→Hw)(f b a:Int):Hw:=
if(Cb f (Dz 48 (Ak b a)))then
some (f,(Ad (Ad (0:Int) (1:Int)) (Ad a f)),0)
else
j8 f a
def Ana:=Anq Anx
def Am8(j7:Int→Int→Int→Hw)(h:Int)(k:UInt64)(a:Int)(g:LB)(b:Int):Hw:=
if(Ay h 0)then
some (0,0,h)
else
(Fx (Bfg k)).bind fun f=>
j7 f b a
def An1:=Am8 Ana
def Xw(j6:Int→UInt64→Int→LB→Int→Hw)(g:LB)(b a:Int):Hw:=
(Ji g b).bind fun m=>
if(Ay m 0)then
some (0,0,m)
else
if(Cb a 0)then
some (0,0,2)
else
if(Ls a b)then
some (0,0,24)
else
(
(
(Acb g b a (Dz 48 (Ak b a))).bind fun(k,h)=>
j6 h k a g b))
def Ae9:=Xw An1
abbrev Avk:=Option (UInt32×Int×Int)
def Aqt(a b f:Int)(g:LB)(h k:Int):Avk:=
(Acb g h b k).bind fun(m,n)=>
if(Ay n 0)then
some (0,0,n)
else
if(Cb f 48)then
(Jm (Ls a 0)).bind fun _=>
some ((gor (Dn (Ae f:UInt32) (GI.toZ a).toNat) (Ae m:UInt32)),(Ad b k),0)
else
(Aix (Ae m:UInt32) a).bind fun u=>
if(!u)then
some (0,0,12)
else
some ((Ae m:UInt32),(Ad b k),0)
def Ai7:=Aqt
def Ap8(j2:Int→Int→Int→LB→Int→Int→Avk)(g:LB)(h v a:Int):Avk:=
(Ji g h).bind fun o=>
if(Ay o 0)then
some (0,0,o)
else
if((Cb a 0)||(Eb a 24))then
some (0,0,2)
else
(Ae9 g h v).bind fun(f,b,p)=>
if(Ay p 0)then
some (0,0,p)
else
if(geq f 48)then
j2 a b f g h 32
else
j2 a b f g h a
def Awh:=Ap8 Ai7
abbrev Jw:=Option (UInt32×Int×Int×Int×UInt64×UInt64×Int)
def Axj(f:UInt32)(k w m:Int)(a n:UInt64):Jw:=
some (f,k,w,m,(Ad a (Ak (Ae f:UInt64) (Ce a (GI.toZ (4:UInt64)).toNat))),n,0)
def Ani:=Axj
def Ap3(j10:UInt32→Int→Int→Int→UInt64→UInt64→Jw)(f:UInt32)(k m:Int)(a n:UInt64)(w:Int):Jw:=
j10 f k w m a n
def Aqr:=Ap3 Ani
def Apw(j9:UInt32→Int→Int→UInt64→UInt64→Int→Jw)(f:UInt32)(k b:Int)(a:UInt64)(m:Int)(n:UInt64):Jw:=
if(Eb b 0)then
(Jm (Ls b 0)).bind fun _=>
if(Cb (Ad a (Ak (Ae f:UInt64) (Ce a (GI.toZ (4:UInt64)).toNat))) (Dn (16:UInt64) (GI.toZ b).toNat))then
j9 f k m a n (Ak b 1)
else
if(Cb b 24)then
(Jm (Ls b 0)).bind fun _=>
if(Eb (Ad a (Ak (Ae f:UInt64) (Ce a (GI.toZ (4:UInt64)).toNat))) (Dn (32:UInt64) (GI.toZ b).toNat))then
j9 f k m a n (Ad b 1)
else
j9 f k m a n b
else
j9 f k m a n b
else
if(Cb b 24)then
(Jm (Ls b 0)).bind fun _=>
if(Eb (Ad a (Ak (Ae f:UInt64) (Ce a (GI.toZ (4:UInt64)).toNat))) (Dn (32:UInt64) (GI.toZ b).toNat))then
j9 f k m a n (Ad b 1)
else
j9 f k m a n b
else
j9 f k m a n b
def Abm:=Apw Aqr
def Apl(j8:UInt32→Int→Int→UInt64→Int→UInt64→Jw)(b h:Int)(a g:UInt64)(f:UInt32)(k:Int):Jw:=
(Afc b h a g f).bind fun(ad,o)=>
if(geq ad 1)then
if(Eb h 0)then
(Jm (Ls h 0)).bind fun _=>
if(Cb (Ad g (Ak (Ae o:UInt64) (Ce g (GI.toZ (4:UInt64)).toNat))) (Dn (16:UInt64) (GI.toZ h).toNat))then
j8 f k b a (Ak h 1) (Ad g (Ak (Ae o:UInt64) (Ce g (GI.toZ (4:UInt64)).toNat)))
else
if(Cb h 24)then
(Jm (Ls h 0)).bind fun _=>
if(Eb (Ad g (Ak (Ae o:UInt64) (Ce g (GI.toZ (4:UInt64)).toNat))) (Dn (32:UInt64) (GI.toZ h).toNat))then
j8 f k b a (Ad h 1) (Ad g (Ak (Ae o:UInt64) (Ce g (GI.toZ (4:UInt64)).toNat)))
else
j8 f k b a h (Ad g (Ak (Ae o:UInt64) (Ce g (GI.toZ (4:UInt64)).toNat)))
else
j8 f k b a h (Ad g (Ak (Ae o:UInt64) (Ce g (GI.toZ (4:UInt64)).toNat)))
else
if(Cb h 24)then
(Jm (Ls h 0)).bind fun _=>
if(Eb (Ad g (Ak (Ae o:UInt64) (Ce g (GI.toZ (4:UInt64)).toNat))) (Dn (32:UInt64) (GI.toZ h).toNat))then
j8 f k b a (Ad h 1) (Ad g (Ak (Ae o:UInt64) (Ce g (GI.toZ (4:UInt64)).toNat)))
else
j8 f k b a h (Ad g (Ak (Ae o:UInt64) (Ce g (GI.toZ (4:UInt64)).toNat)))
else
j8 f k b a h (Ad g (Ak (Ae o:UInt64) (Ce g (GI.toZ (4:UInt64)).toNat)))
else
j8 f k b a h g
def Aiz:=Apl Abm
def Aq2(j7:Int→Int→UInt64→UInt64→UInt32→Int→Jw)(p:Int)(u:LB)(v b h:Int)(a g:UInt64):Jw:=
(Acb u v p 1).bind fun(ae,aa)=>
if(Ay aa 0)then
some (0,0,0,0,0,0,aa)
else
if(geq ae 0)then
(Acb u v (Ad p 1) b).bind fun(af,ab)=>
if(Ay ab 0)then
some (0,0,0,0,0,0,ab)
else
j7 b h a g (Ae af:UInt32) (Ad (Ad p 1) b)
else
(Awh u v (Ad p 1) h).bind fun(y,ag,ac)=>
if(Ay ac 0)then
some (0,0,0,0,0,0,ac)
else
(Jm (Ls b 0)).bind fun _=>
if(Cb (Ad y (Dn (1:UInt32) (GI.toZ b).toNat)) y)then
some (0,0,0,0,0,0,12)
else
j7 b h a g (Ad y (Dn (1:UInt32) (GI.toZ b).toNat)) ag
def Ard:=Aq2 Aiz
def Aqk(j6:Int→LB→Int→Int→Int→UInt64→UInt64→Jw)(u:LB)(v p b h:Int)(a g:UInt64):Jw:=
(Ji u v).bind fun ah=>
if(Ay ah 0)then
some (0,0,0,0,0,0,8)
else
(Alx b h a g).bind fun ai=>
if(Ay ai 0)then
some (0,0,0,0,0,0,8)
else
j6 p u v b h a g
def Aeo:=Aqk Ard
abbrev Bq:=Option (LU×Int×Int)
def Ayd(k:Int)(m:LU):Bq:=
some (m,k,0)
def Ak8:=Ayd
def Ale(bk16:Int→Int→(List (Int×Int×UInt64×UInt64×Unit))→LU→Bq)(a f:Int)(g:LB)(b k v:Int)(w:UInt32)(h:Int)(ag:List (Int×Int×UInt64×UInt64×Unit))(m:LU):Bq:=
(Dg m ([w]:LU)).bind fun ak=>
bk16 (Ad k v) (Ad h 1) ag ak
def Yz bk16:=Ale bk16
def Qt(j22:Int→Int→UInt32→Int→(List (Int×Int×UInt64×UInt64×Unit))→LU→Bq)(a f:Int)(g:LB)(b k h y:Int)(w:UInt32)(v:Int)(n:List (Int×Int×UInt64×UInt64×Unit))(m:LU)(aa ab:Int)(ac ad:UInt64):Bq:=
if(Ay y 0)then
some (([]:LU),0,y)
else
(Jm (Ay a 0)).bind fun _=>
(getI n (Gs h a)).bind fun _=>
(Kw n (Gs h a) (aa,ab,ac,ad,())).bind fun ag=>
j22 k v w h ag m
def Qg bk16 a f g b:=Qt (Yz bk16 a f g b) a f g b
def Qy(j21:Int→Int→Int→UInt32→Int→(List (Int×Int×UInt64×UInt64×Unit))→LU→Int→Int→UInt64→UInt64→Bq)(j24:Int→LU→Bq)(a f:Int)(g:LB)(b k h:Int)(n:List (Int×Int×UInt64×UInt64×Unit))(m:LU):Bq:=
if(Cb h (Bd f a))then
(Atq g b k (Dz (Ad k 81) b)).bind fun(ah,ae,af)=>
if(Ay af 0)then
some (([]:LU),0,af)
else
(Jm (Ay a 0)).bind fun _=>
(getI n (Gs h a)).bind fun _=>
(
(
(getI n (Gs h a)).bind fun p=>
(
(Aeo ah ae 0 p.1 p.2.1 p.2.2.1 p.2.2.2.1).bind fun(w,v,aa,ab,ac,ad,y)=>
j21 k h y w v n m aa ab ac ad)))
else
j24 k m
def Me(a f:Int)(g:LB)(b:Int):Nat→Int→Int→(List (Int×Int×UInt64×UInt64×Unit))→LU→Bq
|0,_,_,_,_=>none
|q+1,k,h,n,m=>Qy (Qg (Me a f g b q) a f g b) Ak8 a f g b k h n m
def Akk a f g b:=Me a f g b FUEL
def Ak2(j16:Int→Int→LB→Int→Int→Int→(List (Int×Int×UInt64×UInt64×Unit))→LU→Bq)(a f:Int)(g:LB)(b:Int)(o:List (Int×Int×UInt64×UInt64×Unit)):Bq:=
j16 a f g b 0 0 o ([]:LU)
def Zb:=Ak2 Akk
def Akr(j15:Int→Int→LB→Int→(List (Int×Int×UInt64×UInt64×Unit))→Bq)(bk13:Int→(List (Int×Int×UInt64×UInt64×Unit))→Bq)(a f:Int)(g:LB)(b u:Int)(o:List (Int×Int×UInt64×UInt64×Unit)):Bq:=
if(Cb u 6)then
(Ay5).bind fun(al,ae,af,am)=>
(getI o u).bind fun _=>
(Kw o u (al,ae,af,am,())).bind fun an=>
bk13 (Ad u 1) an
else
j15 a f g b o
def Yo(a f:Int)(g:LB)(b:Int):Nat→Int→(List (Int×Int×UInt64×UInt64×Unit))→Bq
|0,_,_=>none
|q+1,u,o=>Akr Zb (Yo a f g b q) a f g b u o
def Qk a f g b:=Yo a f g b FUEL
def Abe(j13:Int→Int→LB→Int→Int→(List (Int×Int×UInt64×UInt64×Unit))→Bq)(a f:Int)(g:LB)(b:Int):Bq:=
j13 a f g b 0 (List.replicate 6 ((0:Int),(0:Int),(0:UInt64),(0:UInt64),()))
def Ab3:=Abe Qk
def Vy(a:UInt32):Option Int32:=
some (Wz (Ae (Ce a (GI.toZ (1:UInt64)).toNat):Int32) (Azu (Ae (Dt a 1):Int32)))
def At4(b:Int)(f g:LX)(a:Int32):Option (Int32×Int×LX×LX×Int):=
(Aku b f g).bind fun(h,k)=>
if(Ay k 0)then
some (0,0,(List.replicate 16 (0:Int32)),(List.replicate 16 (0:Int32)),k)
else
(Aqy b f g (Ad a h) a).bind fun(m,n,o)=>
some ((Ad a h),m,n,o,0)
def Ko(a:Int)(b:Int32)(f:Int)(g h:LX)(o:Int32):Option (Int32×Int×Int32×Int×LX×LX×Int):=
(Uj a b f g h).bind fun k=>
if(Ay k 0)then
some (0,0,0,0,(List.replicate 16 (0:Int32)),(List.replicate 16 (0:Int32)),k)
else
(Vg a b).bind fun(m,y)=>
(At4 f g h o).bind fun(n,p,u,v,w)=>
(
some ((Ad n m),a,(Ad n m),p,u,v,w))
abbrev Gc:=Option (LX×Int)
def Bl8(f:LX):Gc:=
some (f,0)
def Bal:=Bl8
def Az1(bk12:Int→LX→Gc)(b a:Int)(h:LX):Gc:=
bk12 (Ad a b) h
def Ap1 bk12:=Az1 bk12
def Aiv(j20:Int→LX→Gc)(bk18:Int→LX→Gc)(b a g:Int)(h:LX):Gc:=
if(Ls g 0)then
(Jm (decide (0≤(Ad g 1)∧(Ad g 1)<((Ad a b)-a)))).bind fun _=>
(Jm (decide (0≤g∧g<((Ad a b)-a)))).bind fun _=>
(getI h (a+(Ad g 1))).bind fun o=>
(getI h (a+g)).bind fun p=>
(Jm (decide (0≤g∧g<((Ad a b)-a)))).bind fun _=>
(Kw h (a+g) (Ak o p)).bind fun u=>
bk18 (Ak g 1) u
else
j20 a h
def Wh(bk12:Int→LX→Gc)(b a:Int):Nat→Int→LX→Gc
|0,_,_=>none
|q+1,g,h=>Aiv (Ap1 bk12 b) (Wh bk12 b a q) b a g h
def Aqv bk12 b a:=Wh bk12 b a FUEL
def Aq7(j18:Int→Int→LX→Gc)(b a:Int)(k:LX):Gc:=
j18 a (Ak (Ak ((Ad a b)-a) 1) 1) k
def Ai1 bk12 b:=Aq7 (Aqv bk12 b) b
def Ap9(j17:Int→LX→Gc)(j22:LX→Gc)(b a:Int)(f:LX):Gc:=
if(Cb a (Ac f))then
(vwI (Ac f) a (Ad a b)).bind fun _=>
if(Eb (Ak ((Ad a b)-a) 1) 0)then
(Jm (decide (0≤(Ak ((Ad a b)-a) 1)∧(Ak ((Ad a b)-a) 1)<((Ad a b)-a)))).bind fun _=>
Option.bind (Jm (decide (0≤(Ak (Ak ((Ad a b)-a) 1) 1)∧(Ak (Ak ((Ad a b)-a) 1) 1)<((Ad a b)-a)))) fun _=>
(getI f (a+(Ak ((Ad a b)-a) 1))).bind fun v=>
(getI f (a+(Ak (Ak ((Ad a b)-a) 1) 1))).bind fun w=>
(Jm (decide (0≤(Ak ((Ad a b)-a) 1)∧(Ak ((Ad a b)-a) 1)<((Ad a b)-a)))).bind fun _=>
(Kw f (a+(Ak ((Ad a b)-a) 1)) (Ad v (Cn w 2))).bind fun y=>
j17 a y
else
j17 a f
else
j22 f
def Qz(b:Int):Nat→Int→LX→Gc
|0,_,_=>none
|q+1,a,f=>Ap9 (Ai1 (Qz b q) b) Bal b a f
def Aqx b:=Qz b FUEL
def Aup(j12:Int→Int→LX→Gc)(b:Int)(m:LX):Gc:=
(Ape b m).bind fun n=>
if(Ay n 0)then
some (([]:LX),n)
else
(Eh m).bind fun aa=>
j12 b 0 aa
def Baz:=Aup Aqx
abbrev Bw:=Option (LX×Int)
def Aia(a b:Int)(k:LX):Bw:=
(Baz a k).bind fun(ah,af)=>
if(Ay af 0)then
some (([]:LX),af)
else
(Vk b ah).bind fun ae=>
if(Ay ae 0)then
some (([]:LX),ae)
else
some (ah,0)
def Kz:=Aia
def Aij(bk13:Int→(List (Int×Int32×(Int×LX×LX×Unit)×Unit))→LX→Bw)(a:Int)(f:LU)(b g:Int)(w:Int32)(u:Int)(h:List (Int×Int32×(Int×LX×LX×Unit)×Unit))(k:LX)(y:Int)(v:Int32)(aa:Int)(ab ac:LX):Bw:=
if(Ay u 0)then
some (([]:LX),u)
else
(Kw h (Gs g a) (y,v,(aa,ab,ac,()),())).bind fun ai=>
(Dg k ([w]:LX)).bind fun aj=>
bk13 (Ad g 1) ai aj
def Xn bk13:=Aij bk13
def Kr(j16:Int→Int32→Int→(List (Int×Int32×(Int×LX×LX×Unit)×Unit))→LX→Int→Int32→Int→LX→LX→Bw)(j18:Int→Int→LX→Bw)(f:LU)(a b g:Int)(h:List (Int×Int32×(Int×LX×LX×Unit)×Unit))(k:LX):Bw:=
if(Cb g (Ac f))then
(getI f g).bind fun ag=>
(Jm (Ay a 0)).bind fun _=>
(getI h (Gs g a)).bind fun _=>
(
(getI h (Gs g a)).bind fun m=>
(
(Vy ag).bind fun ae=>
(
(Ko m.1 m.2.1 m.2.2.1.1 m.2.2.1.2.1 m.2.2.1.2.2.1 ae).bind fun(w,y,v,aa,ab,ac,u)=>
j16 g w u h k y v aa ab ac)))
else
j18 a b k
def Ia(f:LU)(a b:Int):Nat→Int→(List (Int×Int32×(Int×LX×LX×Unit)×Unit))→LX→Bw
|0,_,_,_=>none
|q+1,g,h,k=>Kr (Xn (Ia f a b q) a f b) Kz f a b g h k
def Aik f a b:=Ia f a b FUEL
def Ah9(j13:LU→Int→Int→Int→(List (Int×Int32×(Int×LX×LX×Unit)×Unit))→LX→Bw)(f:LU)(a b:Int)(n:List (Int×Int32×(Int×LX×LX×Unit)×Unit)):Bw:=
j13 f a b 0 n ([]:LX)
def Xm:=Ah9 Aik
def Ah7(j12:LU→Int→Int→(List (Int×Int32×(Int×LX×LX×Unit)×Unit))→Bw)(bk10:Int→(List (Int×Int32×(Int×LX×LX×Unit)×Unit))→Bw)(f:LU)(a b:Int)(o:LX)(p:Int)(n:List (Int×Int32×(Int×LX×LX×Unit)×Unit)):Bw:=
if(Cb p 6)then
(Bbl b o).bind fun(ak,af,ae,al,am,v)=>
(getI n p).bind fun _=>
(Kw n p (ak,af,(ae,al,am,()),())).bind fun an=>
bk10 (Ad p 1) an
else
j12 f a b n
def Wr(f:LU)(a b:Int)(o:LX):Nat→Int→(List (Int×Int32×(Int×LX×LX×Unit)×Unit))→Bw
|0,_,_=>none
|q+1,p,n=>Ah7 Xm (Wr f a b o q) f a b o p n
def Oz f a b o:=Wr f a b o FUEL
def Ym(j10:LU→Int→Int→LX→Int→(List (Int×Int32×(Int×LX×LX×Unit)×Unit))→Bw)(a b:Int)(o:LX)(f:LU):Bw:=
j10 f a b o 0 (List.replicate 6 ((0:Int),(0:Int32),((0:Int),(List.replicate 16 (0:Int32)),(List.replicate 16 (0:Int32)),()),()))
def Rj:=Ym Oz
def deframe_Decode(a h:Int)(u:LX)(f:Int)(v:LB):Option (LX×Int):=
(Rr a h).bind fun k=>
if(Ay k 0)then
some (([]:LX),k)
else
if(Cb f 1)then
some (([]:LX),2)
else
(Jm (Ay a 0)).bind fun _=>
if(Eb f (Cn 4000 a))then
some (([]:LX),2)
else
(Ab4 v).bind fun(w,m)=>
if(Ay m 0)then
some (([]:LX),m)
else
(Bmi w).bind fun(n,b,o)=>
if(Ay o 0)then
some (([]:LX),o)
else
(Ab3 a f n b).bind fun(y,g,p)=>
if(Ay p 0)then
some (([]:LX),p)
else
if(Ls (Ak b g) 8)then
some (([]:LX),12)
else
(Acb n b g (Ak b g)).bind fun(aa,ab)=>
if((Ay ab 0)||(Ay aa 0))then
some (([]:LX),12)
else
(Rj a h u y).bind fun(ac,ad)=>
some (ac,ad)
abbrev Cz:=Option (LB×Int)
def Bd9(g:LB):Cz:=
some (g,0)
def Arl:=Bd9
def Arp(bk16:Int→LB→Cz)(b:Int)(a:LX)(f:Int)(h:LB):Cz:=
bk16 (Ad f 1) h
def Ahm bk16:=Arp bk16
def Yf(j28:Int→LB→Cz)(bk26:Int→LB→Cz)(b:Int)(a:LX)(k:Int32)(f m:Int)(h:LB):Cz:=
if(Cb m (Cn b 8))then
(Jm (Ls (Bd 8 m) 0)).bind fun _=>
(Dg h ([(Ae (Ce k (GI.toZ (Bd 8 m)).toNat):UInt8)]:LB)).bind fun p=>
bk26 (Ad m 1) p
else
j28 f h
def Ig(bk16:Int→LB→Cz)(b:Int)(a:LX)(k:Int32)(f:Int):Nat→Int→LB→Cz
|0,_,_=>none
|q+1,m,h=>Yf (Ahm bk16 b a) (Ig bk16 b a k f q) b a k f m h
def Ah2 bk16 b a k f:=Ig bk16 b a k f FUEL
def Ahk(j26:Int32→Int→Int→LB→Cz)(b:Int)(a:LX)(f:Int)(g:LB)(k:Int32):Cz:=
j26 k f 0 g
def Kj bk16 b a:=Ahk (Ah2 bk16 b a) b a
def Ya(j25:Int→LB→Int32→Cz)(j30:LB→Cz)(b:Int)(a:LX)(f:Int)(g:LB):Cz:=
if(Cb f (Ac a))then
(getI a f).bind fun n=>
if(geq b 8)then
j25 f g (Ad n 128)
else
j25 f g n
else
j30 g
def Fp(b:Int)(a:LX):Nat→Int→LB→Cz
|0,_,_=>none
|q+1,f,g=>Ya (Kj (Fp b a q) b a) Arl b a f g
def Ar5 b a:=Fp b a FUEL
def Alg(j16:Int→LX→Int→LB→Cz)(b:Int)(a:LX):Cz:=
(Vk b a).bind fun o=>
if(Ay o 0)then
some (([]:LB),o)
else
j16 b a 0 ([]:LB)
def width_Bytes:=Alg Ar5
def Xp:Option Int:=
some (-1:Int)
def Lm:=Xp
def Dm(j6:Option Int)(bk4:Int→Option Int)(a:LI)(b f:Int):Option Int:=
if(Cb f (Ac a))then
(getI a f).bind fun g=>
if(geq b g)then
some f
else
bk4 (Ad f 1)
else
j6
def Bj(a:LI)(b:Int):Nat→Int→Option Int
|0,_=>none
|q+1,f=>Dm Lm (Bj a b q) a b f
def Gh a b:=Bj a b FUEL
def Gm(j4:LI→Int→Int→Option Int)(a:LI)(b:Int):Option Int:=
j4 a b 0
def Hp:=Gm Gh
def Gi(a:LI)(b:Int):Option Bool:=
(Hp a b).bind fun f=>
some (Ls f 0)
def Nz(a:Int):Option Bool:=
(Gi ([(4:Int),(12:Int),(16:Int),(22:Int),(24:Int),(26:Int),(38:Int)]:LI) a).bind fun b=>
some b
def Amp(bi:Bool):Option Int:=
if(!bi)then
some 8
else
some 0
def Bc:=Amp
def Ada(j22:Bool→Option Int):Option Int:=
j22 ((true==true)&&((geq (0:Int) (0:Int))&&true))
def Tq:=Ada Bc
def Aa1(j22:Bool→Option Int)(bj:Bool)(bk:Int):Option Int:=
j22 ((bj==true)&&((geq bk 0)&&true))
def Dl:=Aa1 Bc
def Aa7(j13:Bool→Int→Option Int)(g ak:LB)(ae af aa ag ab b:Int)(m:Bool)(n:Int)(f:LI)(h:LB):Option Int:=
(Mm ae af aa ag ab g).bind fun dm=>
(Ah dm).bind fun(dn,am)=>
j13 dn am
def Tv:=Aa7 Dl
def Ac0(j22:Bool→Option Int)(bl:Bool)(bm:Int):Option Int:=
j22 ((bl==true)&&((geq bm 0)&&true))
def Hm:=Ac0 Bc
def Acf(j25:Bool→Int→Option Int)(g a:LB)(k p o u v b:Int)(m:Bool)(n:Int)(f:LI)(h:LB)(bg:Int):Option Int:=
(Cu k p o u v).bind fun(dp,bh)=>
if(Ay bh 0)then
(Ah bh).bind fun(an,bn)=>
j25 an bn
else
(Ba a bg (Ac a)).bind fun dq=>
(Yq dq (Ac dp)).bind fun(dr,aa)=>
if(geq aa 24)then
j25 true 0
else
if(Ay aa 0)then
(Ah aa).bind fun(ds,ab)=>
j25 ds ab
else
(Ba a (Ad (Ad bg (Bd 4 (Ac dr))) 4) (Ac a)).bind fun fc=>
j25 false 0
def Ho:=Acf Hm
def Aby(j25:Bool→Int→Option Int)(j24:LB→LB→Int→Int→Int→Int→Int→Int→Bool→Int→LI→LB→Int→Option Int)(bd:Bool)(bc:Int)(g a:LB)(k p o u v b:Int)(m:Bool)(n:Int)(f:LI)(h:LB):Option Int:=
if(Ay bc 0)then
(Ah bc).bind fun(dt,bh)=>
j25 dt bh
else
if(!bd)then
(Ah 26).bind fun(an,bn)=>
j25 an bn
else
j24 g a k p o u v b m n f h 8
def Acv:=Aby Hm Ho
def Abp(j15:Bool→Int→LB→LB→Int→Int→Int→Int→Int→Int→Bool→Int→LI→LB→Option Int)(g a:LB)(k p o u v b:Int)(m:Bool)(n:Int)(f:LI)(h:LB):Option Int:=
(Ba a 0 8).bind fun du=>
(Lk du g).bind fun(bd,bc)=>
j15 bd bc g a k p o u v b m n f h
def To:=Abp Acv
def Abw(j22:Bool→Option Int)(bp:Bool)(bq:Int):Option Int:=
j22 ((bp==true)&&((geq bq 0)&&true))
def Gd:=Abw Bc
def Tu(j28:Bool→Int→Option Int)(w ah:Int)(g a:LB)(k p o u v b:Int)(m:Bool)(n:Int)(ao:LX)(f:LI)(h:LB):Option Int:=
if(Ay ah 0)then
(Ah ah).bind fun(br,bs)=>
j28 br bs
else
(width_Bytes o ao).bind fun(bt,be)=>
if(Ay be 0)then
(Ah be).bind fun(bu,bv)=>
j28 bu bv
else
(Dg h bt).bind fun dv=>
(
(Ba a w (Ac a)).bind fun dw=>
j28 false 0)
def Aay:=Tu Gd
def Acl(j27:Int→Int→LB→LB→Int→Int→Int→Int→Int→Int→Bool→Int→LX→LI→LB→Option Int)(w:Int)(g a:LB)(k p o u v b:Int)(m:Bool)(n:Int)(ap:LX)(ad f:LI)(h:LB):Option Int:=
(getI ad b).bind fun _=>
(Ba a 0 w).bind fun dx=>
(getI ad b).bind fun dy=>
(Xq k p o u v).bind fun(dz,bf)=>
(deframe_Decode dz bf ap dy dx).bind fun(ao,ah)=>
j27 w ah g a k p o u v b m n ao f h
def Tg:=Acl Aay
def Wb(j13:Bool→Int→Option Int)(j12:LB→LB→Int→Int→Int→Int→Int→Int→Bool→Int→LI→LB→Option Int)(j25:Bool→Int→Option Int)(j23:LB→LB→Int→Int→Int→Int→Int→Int→Bool→Int→LI→LB→Option Int)(j24:LB→LB→Int→Int→Int→Int→Int→Int→Bool→Int→LI→LB→Int→Option Int)(j28:Bool→Int→Option Int)(j26:Int→LB→LB→Int→Int→Int→Int→Int→Int→Bool→Int→LX→LI→LI→LB→Option Int)(j22:Bool→Option Int)(j21:Option Int)(aq ar:LB)(au av aw ax ay:Int)(az:LI)(ai:Int)(aj:LB)(ac:Bool)(y:Int):Option Int:=
if(Eb (Ac aq) 64)then
some 8
else
if((geq y 0)&&(!ac))then
(Cx aq ar au av aw ax ay az ai aj ac y).bind fun(g,a,k,p,o,u,v,f,b,h,m,n)=>
(Wj aq ar au av aw ax ay az ai aj ac y).bind fun bw=>
if bw then
if(geq k 0)then
(Gz a).bind fun(al,ba)=>
if(geq ba 24)then
j13 true 0
else
if(Ay ba 0)then
(Ah ba).bind fun(bx,bz)=>
j13 bx bz
else
(Ba a al (Ac a)).bind fun da=>
(Ns da).bind fun an=>
if an then
j13 true 0
else
(Ba a al (Ac a)).bind fun db=>
(Jr db).bind fun(ae,af,aa,ag,ab,bb)=>
if(geq bb 24)then
j13 true 0
else
if(Ay bb 0)then
(Ah bb).bind fun(dc,dd)=>
j13 dc dd
else
(
(Ba a (Ad al 22) (Ac a)).bind fun ak=>
(
j12 g ak ae af aa ag ab b m n f h))
else
if(geq (Ac f) 0)then
if(geq k 2)then
if(Cb (Ac a) 8)then
j25 true 0
else
j23 g a k p o u v b m n f h
else
j24 g a k p o u v b m n f h 0
else
if(Cb b (Ac f))then
(getI f b).bind fun _=>
(getI f b).bind fun w=>
if(Cb (Ac a) w)then
j28 true 0
else
(Nl g).bind fun(ap,am)=>
if(Ay am 0)then
(Ah am).bind fun(de,df)=>
j28 de df
else
(Cu k p o u v).bind fun(ad,dg)=>
if((Ay dg 0)||(Ls b (Ac ad)))then
(Ah 8).bind fun(dh,di)=>
j28 dh di
else
j26 w g a k p o u v b m n ap ad f h
else
if(Eb (Ac a) 4000)then
(Ah 38).bind fun(dj,bf)=>
j22 ((dj==true)&&((geq bf 0)&&true))
else
j21
else
j22 false
else
if((geq (Ac ar) 0)&&(geq (Ac az) 0))then
if((((geq au 0)&&((geq av 0)&&((geq aw 0)&&((geq ax 0)&&((geq ay 0)&&true)))))&&(geq ai 0))&&(gle (Ac aj) 12000))then
if(geq y 0)then
j22 true
else
if(!ac)then
(Nz y).bind fun dk=>
j22 dk
else
j22 false
else
j22 false
else
if((false&&(geq ai 0))&&(gle (Ac aj) 12000))then
if(geq y 0)then
j22 true
else
if(!ac)then
(Nz y).bind fun dl=>
j22 dl
else
j22 false
else
j22 false
def Hh:=Wb Dl Tv Hm To Ho Gd Tg Bc Tq
def Oh(f g:LB)(h k m n o:Int)(p:LI)(u:Int)(v:LB)(b:Bool)(a:Int):Option (LB×LB×Int×Int×Int×Int×Int×LI×Int×LB×Bool×Int×Int):=
(Hh f g h k m n o p u v b a).bind fun w=>
if(Ay w 0)then
some (([]:LB),([]:LB),0,0,0,0,0,([]:LI),0,([]:LB),false,0,w)
else
if(Ay a 0)then
(
(
(Cx f g h k m n o p u v b a).bind fun(y,aa,ab,ac,ad,ae,af,ag,ah,ai,aj,ak)=>
(
some (y,aa,ab,ac,ad,ae,af,ag,ah,ai,aj,ak,a))))
else
if b then
(Cx f g h k m n o p u v b a).bind fun(al,am,an,ao,ap,aq,ar,au,av,aw,ax,ay)=>
some (al,am,an,ao,ap,aq,ar,au,av,aw,ax,ay,36)
else
(Cx f g h k m n o p u v b a).bind fun(az,ba,bb,bc,bd,be,bf,bg,bh,bi,bj,bk)=>
some (az,ba,bb,bc,bd,be,bf,bg,bh,bi,bj,bk,0)
def Ai8(b g:LB)(h k m n o:Int)(p:LI)(u:Int)(f:LB)(v:Bool)(w a:Int):Option (LB×LB×Int×Int×Int×Int×Int×LI×Int×LB×Bool×Int×Int):=
some (b,([]:LB),0,0,0,0,0,([]:LI),0,f,false,a,a)
abbrev pushdec_Feed_O:=Option (LB×LB×Int×Int×Int×Int×Int×LI×Int×LB×Bool×Int×Int)
def Aej(bk37:LB→Int→Int→Int→Int→Int→Int→LI→LB→pushdec_Feed_O)(a:LB)(b:Bool)(f:Int)(ar:LB)(au av aw ax ay az:Int)(bh:Bool)(be:Int)(ba:LI)(bb:LB):pushdec_Feed_O:=
if bh then
(Cx a ar au av aw ax ay ba az bb b f).bind fun(fh,fi,fj,bc,bi,ai,fk,fl,fm,fn,fo,aj)=>
some (fh,fi,fj,bc,bi,ai,fk,fl,fm,fn,fo,aj,0)
else
if(Ay be 0)then
(Ai8 a ar au av aw ax ay ba az bb b f be).bind fun(fp,fq,fs,ft,fu,fv,fw,fx,fy,fz,ga,gb,gc)=>
some (fp,fq,fs,ft,fu,fv,fw,fx,fy,fz,ga,gb,gc)
else
bk37 ar au av aw ax ay az ba bb
def Bn bk37:=Aej bk37
def Aow(j71:LB→Int→Int→Int→Int→Int→Int→Bool→Int→LI→LB→pushdec_Feed_O)(a:LB)(b:Bool)(f:Int)(g:LB)(m p o u v h:Int)(k:LI)(n:LB):pushdec_Feed_O:=
j71 g m p o u v h true 0 k n
def Wf bk37 a b f:=Aow (Bn bk37 a b f) a b f
def Ao4(j71:LB→Int→Int→Int→Int→Int→Int→Bool→Int→LI→LB→pushdec_Feed_O)(a:LB)(b:Bool)(f h:Int)(k:LI)(n:LB)(bj:Bool)(bk:Int)(bl:LB)(bm bn bp bq br:Int):pushdec_Feed_O:=
j71 bl bm bn bp bq br h bj bk k n
def Lo bk37 a b f:=Ao4 (Bn bk37 a b f) a b f
def Aeu(j62:Int→LI→LB→Bool→Int→LB→Int→Int→Int→Int→Int→pushdec_Feed_O)(a:LB)(b:Bool)(f:Int)(af:LB)(ab ac y ad aa h:Int)(k:LI)(n:LB):pushdec_Feed_O:=
(Mm ab ac y ad aa a).bind fun gd=>
(Ah gd).bind fun(ge,ak)=>
j62 h k n ge ak af ab ac y ad aa
def Pz bk37 a b f:=Aeu (Lo bk37 a b f) a b f
def Ao7(j71:LB→Int→Int→Int→Int→Int→Int→Bool→Int→LI→LB→pushdec_Feed_O)(a:LB)(b:Bool)(f m p o u v h:Int)(n:LB)(bs:Bool)(bt:Int)(bu:LB)(bv:LI):pushdec_Feed_O:=
j71 bu m p o u v h bs bt bv n
def Jh bk37 a b f:=Ao7 (Bn bk37 a b f) a b f
def Ae2(j75:Int→Int→Int→Int→Int→Int→LB→Bool→Int→LB→LI→pushdec_Feed_O)(a:LB)(b:Bool)(f:Int)(g:LB)(m p o u v h:Int)(k:LI)(n:LB)(bf:Int):pushdec_Feed_O:=
(Cu m p o u v).bind fun(gf,bg)=>
if(Ay bg 0)then
(Ah bg).bind fun(al,bw)=>
j75 m p o u v h n al bw g k
else
(Ba g bf (Ac g)).bind fun gg=>
(Yq gg (Ac gf)).bind fun(dw,y)=>
if(geq y 24)then
j75 m p o u v h n true 0 g k
else
if(Ay y 0)then
(Ah y).bind fun(gh,aa)=>
j75 m p o u v h n gh aa g k
else
(Ba g (Ad (Ad bf (Bd 4 (Ac dw))) 4) (Ac g)).bind fun gi=>
j75 m p o u v h n false 0 gi dw
def Jf bk37 a b f:=Ae2 (Jh bk37 a b f) a b f
def Ae7(j75:Int→Int→Int→Int→Int→Int→LB→Bool→Int→LB→LI→pushdec_Feed_O)(j74:LB→Int→Int→Int→Int→Int→Int→LI→LB→Int→pushdec_Feed_O)(a:LB)(b:Bool)(f:Int)(bd:Bool)(aq:Int)(g:LB)(m p o u v h:Int)(k:LI)(n:LB):pushdec_Feed_O:=
if(Ay aq 0)then
(Ah aq).bind fun(gj,bg)=>
j75 m p o u v h n gj bg g k
else
if(!bd)then
(Ah 26).bind fun(al,bw)=>
j75 m p o u v h n al bw g k
else
j74 g m p o u v h k n 8
def Ae5 bk37 a b f:=Ae7 (Jh bk37 a b f) (Jf bk37 a b f) a b f
def Aek(j64:Bool→Int→LB→Int→Int→Int→Int→Int→Int→LI→LB→pushdec_Feed_O)(a:LB)(b:Bool)(f:Int)(g:LB)(m p o u v h:Int)(k:LI)(n:LB):pushdec_Feed_O:=
(Ba g 0 8).bind fun gk=>
(Lk gk a).bind fun(bd,aq)=>
j64 bd aq g m p o u v h k n
def Po bk37 a b f:=Aek (Ae5 bk37 a b f) a b f
def Aoy(j71:LB→Int→Int→Int→Int→Int→Int→Bool→Int→LI→LB→pushdec_Feed_O)(a:LB)(b:Bool)(f m p o u v:Int)(k:LI)(bx:Bool)(bz:Int)(da:LB)(db:Int)(dc:LB):pushdec_Feed_O:=
j71 da m p o u v db bx bz k dc
def Ln bk37 a b f:=Aoy (Bn bk37 a b f) a b f
def Wm(j78:Int→Int→Int→Int→Int→LI→Bool→Int→LB→Int→LB→pushdec_Feed_O)(a:LB)(b:Bool)(f w ag:Int)(g:LB)(m p o u v h:Int)(am:LX)(k:LI)(n:LB):pushdec_Feed_O:=
if(Ay ag 0)then
(Ah ag).bind fun(dd,de)=>
j78 m p o u v k dd de g h n
else
(width_Bytes o am).bind fun(df,aj)=>
if(Ay aj 0)then
(Ah aj).bind fun(dg,dh)=>
j78 m p o u v k dg dh g h n
else
(Dg n df).bind fun di=>
(
(Ba g w (Ac g)).bind fun dj=>
j78 m p o u v k false 0 dj (Ad h 1) di)
def Aef bk37 a b f:=Wm (Ln bk37 a b f) a b f
def Ae3(j77:Int→Int→LB→Int→Int→Int→Int→Int→Int→LX→LI→LB→pushdec_Feed_O)(a:LB)(b:Bool)(f w:Int)(g:LB)(m p o u v h:Int)(an:LX)(ae k:LI)(n:LB):pushdec_Feed_O:=
(getI ae h).bind fun _=>
(Ba g 0 w).bind fun gl=>
(getI ae h).bind fun gm=>
(Xq m p o u v).bind fun(bi,ai)=>
(deframe_Decode bi ai an gm gl).bind fun(am,ag)=>
j77 w ag g m p o u v h am k n
def Qb bk37 a b f:=Ae3 (Aef bk37 a b f) a b f
def Hc(j62:Int→LI→LB→Bool→Int→LB→Int→Int→Int→Int→Int→pushdec_Feed_O)(j61:LB→Int→Int→Int→Int→Int→Int→LI→LB→pushdec_Feed_O)(j75:Int→Int→Int→Int→Int→Int→LB→Bool→Int→LB→LI→pushdec_Feed_O)(j73:LB→Int→Int→Int→Int→Int→Int→LI→LB→pushdec_Feed_O)(j74:LB→Int→Int→Int→Int→Int→Int→LI→LB→Int→pushdec_Feed_O)(j78:Int→Int→Int→Int→Int→LI→Bool→Int→LB→Int→LB→pushdec_Feed_O)(j76:Int→LB→Int→Int→Int→Int→Int→Int→LX→LI→LI→LB→pushdec_Feed_O)(j71:LB→Int→Int→Int→Int→Int→Int→Bool→Int→LI→LB→pushdec_Feed_O)(j70:LB→Int→Int→Int→Int→Int→Int→LI→LB→pushdec_Feed_O)(a:LB)(b:Bool)(f:Int)(g:LB)(m p o u v h:Int)(k:LI)(n:LB):pushdec_Feed_O:=
if(geq m 0)then
(Gz g).bind fun(ah,ao)=>
if(geq ao 24)then
j62 h k n true 0 g m p o u v
else
if(Ay ao 0)then
(Ah ao).bind fun(dk,dl)=>
j62 h k n dk dl g m p o u v
else
(Ba g ah (Ac g)).bind fun dm=>
(Ns dm).bind fun al=>
if al then
j62 h k n true 0 g m p o u v
else
(Ba g ah (Ac g)).bind fun dn=>
(Jr dn).bind fun(ab,ac,y,ad,aa,ap)=>
if(geq ap 24)then
j62 h k n true 0 g m p o u v
else
if(Ay ap 0)then
(Ah ap).bind fun(dp,dq)=>
j62 h k n dp dq g m p o u v
else
(
(Ba g (Ad ah 22) (Ac g)).bind fun af=>
(
j61 af ab ac y ad aa h k n))
else
if(geq (Ac k) 0)then
if(geq m 2)then
if(Cb (Ac g) 8)then
j75 m p o u v h n true 0 g k
else
j73 g m p o u v h k n
else
j74 g m p o u v h k n 0
else
if(Cb h (Ac k))then
(getI k h).bind fun _=>
(getI k h).bind fun w=>
if(Cb (Ac g) w)then
j78 m p o u v k true 0 g h n
else
(Nl a).bind fun(an,ak)=>
if(Ay ak 0)then
(Ah ak).bind fun(dr,ds)=>
j78 m p o u v k dr ds g h n
else
(Cu m p o u v).bind fun(ae,dt)=>
if((Ay dt 0)||(Ls h (Ac ae)))then
(Ah 8).bind fun(du,bc)=>
j78 m p o u v k du bc g h n
else
j76 w g m p o u v h an ae k n
else
if(Eb (Ac g) 4000)then
(Ah 38).bind fun(dv,ai)=>
j71 g m p o u v h dv ai k n
else
j70 g m p o u v h k n
def Aq(a:LB)(b:Bool)(f:Int):Nat→LB→Int→Int→Int→Int→Int→Int→LI→LB→pushdec_Feed_O
|0,_,_,_,_,_,_,_,_,_=>none
|q+1,g,m,p,o,u,v,h,k,n=>Hc (Lo (Aq a b f q) a b f) (Pz (Aq a b f q) a b f) (Jh (Aq a b f q) a b f) (Po (Aq a b f q) a b f) (Jf (Aq a b f q) a b f) (Ln (Aq a b f q) a b f) (Qb (Aq a b f q) a b f) (Bn (Aq a b f q) a b f) (Wf (Aq a b f q) a b f) a b f g m p o u v h k n
def Aom a b f:=Aq a b f FUEL
def Rm(j37:LB→Bool→Int→LB→Int→Int→Int→Int→Int→Int→LI→LB→pushdec_Feed_O)(gn go:LB)(gp gq gr gs gt:Int)(gu:LI)(gv:Int)(gw:LB)(gx:Bool)(gy:Int)(gz:LB):pushdec_Feed_O:=
(Oh gn go gp gq gr gs gt gu gv gw gx gy).bind fun(a,dx,dy,dz,fa,fb,fc,fd,fe,ff,b,f,fg)=>
if(Ay fg 0)then
some (a,dx,dy,dz,fa,fb,fc,fd,fe,ff,b,f,fg)
else
(Dg dx gz).bind fun ha=>
j37 a b f ha dy dz fa fb fc fe fd ff
def Jq:=Rm Aom
def Ox(a:LB):Option (LB×LB×Int×Int×Int×Int×Int×LI×Int×LB×Bool×Int×Bool):=
(Al6 ([]:LB)).bind fun(b,f,g,h,k,m,n,o,p,u,v,w,y)=>
(Jq b f g h k m n o p u v w a).bind fun(aa,ab,ac,ad,ae,af,ag,ah,ai,aj,ak,al,am)=>
some (aa,ab,ac,ad,ae,af,ag,ah,ai,aj,ak,al,((geq y 0)&&(geq am 0)))
abbrev Ayf:=Option (Int×Int)
def Bcr(a:LB):Ayf:=
(Ba a (Ak (Ac a) 32) (Ac a)).bind fun g=>
(Ajk g 0).bind fun(f,y,h)=>
if h then
if(Cb (Ak (Ac a) 32) f)then
some (0,24)
else
some ((Ad f 32),0)
else
(Ba a (Ak (Ac a) 32) (Ac a)).bind fun k=>
(Ajk k 2147483648).bind fun(b,m,n)=>
if(!n)then
some (0,12)
else
if(Cb (Ac a) (Ad b 64))then
some (0,24)
else
(Ba a (Ak (Ac a) (Ad b 64)) (Ad (Ak (Ac a) (Ad b 64)) 32)).bind fun o=>
(Av4 b m 2684354560).bind fun p=>
(Ge o p).bind fun u=>
if(!u)then
some (0,12)
else
some ((Ad b 64),0)
def Aum:=Bcr
def Avf(j2:LB→Ayf)(a:LB):Ayf:=
if(Cb (Ak (Ac a) 32) 0)then
some (0,6)
else
(Ba a (Ak (Ac a) 32) (Ac a)).bind fun v=>
(Kn v ([(65:UInt8),(80:UInt8),(69:UInt8),(84:UInt8),(65:UInt8),(71:UInt8),(69:UInt8),(88:UInt8)]:LB)).bind fun w=>
if(!w)then
some (0,6)
else
j2 a
def Bah:=Avf Aum
abbrev Fk:=Option (Int×Int)
def Bbz(a:Int):Fk:=
some (a,0)
def Aou:=Bbz
def Ao9(bk8:Int→LB→Fk)(a:Int)(g:LB):Fk:=
bk8 (Ad a 1) g
def Aev bk8:=Ao9 bk8
def Ae1(j12:Int→LB→Fk)(a f:Int)(b:LB):Fk:=
if(geq f 0)then
some (0,38)
else
(Ba b 0 (Ak (Ac b) f)).bind fun g=>
j12 a g
def Aem bk8:=Ae1 (Aev bk8)
def Aht(j11:Int→Int→LB→Fk)(j14:Int→Fk)(a:Int)(b:LB):Fk:=
if(Eb (Ac b) 0)then
(Bah b).bind fun(f,k)=>
j11 a f b
else
j14 a
def Rn:Nat→Int→LB→Fk
|0,_,_=>none
|q+1,a,b=>Aht (Aem (Rn q)) Aou a b
def Ar1:=Rn FUEL
def Ahu(j8:Int→LB→Fk)(h:LB):Fk:=
if(Eb (Ac h) 4000)then
some (0,38)
else
j8 0 h
def Ab7:=Ahu Ar1
def Aa4(p a:LB)(g u v w y:Int)(b:LI)(h:Int)(aa:LB)(ab:Bool)(ac:Int):Option Int:=
if(geq g 0)then
(Gz a).bind fun(k,f)=>
if(Ay f 0)then
some f
else
(Ba a k (Ac a)).bind fun m=>
(Jr m).bind fun(ad,ae,af,ag,ah,n)=>
some n
else
if((Cb h (Ac b))||(geq (Ac b) 0))then
some 24
else
(Ab7 a).bind fun(ai,o)=>
some o
def Vn(aa ab:LB)(ac ad ae af ag:Int)(ah:LI)(ai:Int)(aj:LB)(ak:Bool)(al:Int):Option (LB×LB×Int×Int×Int×Int×Int×LI×Int×LB×Bool×Int×Int):=
(Oh aa ab ac ad ae af ag ah ai aj ak al).bind fun(a,f,g,h,k,m,n,o,p,b,u,v,w)=>
if(Ay w 0)then
some (a,f,g,h,k,m,n,o,p,b,u,v,w)
else
(Aa4 a f g h k m n o p b u v).bind fun y=>
if(Ay y 0)then
(Ai8 a f g h k m n o p b u v y).bind fun(am,an,ao,ap,aq,ar,au,av,aw,ax,ay,az,ba)=>
some (am,an,ao,ap,aq,ar,au,av,aw,ax,ay,az,ba)
else
some (a,([]:LB),0,0,0,0,0,([]:LI),0,b,true,0,0)
def Eu(am an:LB):Option (LB×LB×Int×Int×Int×Int×Int×LI×Int×LB×Bool×Int×Int):=
(Al6 an).bind fun(a,b,f,g,h,k,m,n,o,p,u,v,w)=>
if(Ay w 0)then
some (a,b,f,g,h,k,m,n,o,p,u,v,w)
else
(Jq a b f g h k m n o p u v am).bind fun(y,aa,ab,ac,ad,ae,af,ag,ah,ai,aj,ak,al)=>
if(Ay al 0)then
some (y,aa,ab,ac,ad,ae,af,ag,ah,ai,aj,ak,al)
else
(Vn y aa ab ac ad ae af ag ah ai aj ak).bind fun(ao,ap,aq,ar,au,av,aw,ax,ay,az,ba,bb,bc)=>
some (ao,ap,aq,ar,au,av,aw,ax,ay,az,ba,bb,bc)
def Qq:Option Bool:=
(Ajq).bind fun(a,b)=>
if(!b)then
some false
else
(Ba a 0 22).bind fun f=>
(Ox f).bind fun(ai,aj,ak,al,am,an,g,h,ao,ap,aq,ar,k)=>
(Ba a 0 30).bind fun m=>
(Ox m).bind fun(au,av,aw,ax,ay,az,ba,n,bb,o,bc,bd,p)=>
(Ox a).bind fun(be,bf,bg,bh,bi,bj,bk,bl,bm,u,bn,bp,v)=>
(Eu a ([]:LB)).bind fun(bq,br,bs,bt,bu,bv,bw,bx,bz,w,y,da,aa)=>
(Dg ([]:LB) a).bind fun ab=>
(Dg ab ([(0:UInt8)]:LB)).bind fun ac=>
(Eu ac ([]:LB)).bind fun(db,dc,dd,de,df,dg,dh,di,dj,dk,dl,dm,ad)=>
(Ba a 0 35).bind fun ae=>
(Eu ae ([]:LB)).bind fun(dn,dp,dq,dr,ds,dt,du,dv,dw,dx,dy,dz,af)=>
(Eu ([(73:UInt8)]:LB) ([]:LB)).bind fun(fa,fb,fc,fd,fe,ff,fg,fh,fi,fj,fk,fl,ag)=>
(Eu ([]:LB) ([]:LB)).bind fun(fm,fn,fo,fp,fq,fs,ft,fu,fv,fw,fx,fy,ah)=>
some ((((((((((((((k&&(geq g 1))&&(geq (Ac h) 0))&&p)&&(geq (Ac n) 1))&&(geq (Ac o) 0))&&v)&&(u==([128]:LB)))&&(geq aa 0))&&y)&&(w==([128]:LB)))&&(geq ad 38))&&(geq af 24))&&(geq ag 12))&&(geq ah 24))
def Abj(a:LB):Option Bool:=
some (((Eb (Ac a) 5000)&&(Cb (Ac a) 12000))||(Eb (Ac a) 12100))
def Auh(f:LB):Option (Int×Int×Int×Int×Int×Int×Int×Int×Int×Int×LI×Int):=
if(Eb (Ac f) 100000)then
some (0,0,0,0,0,0,0,0,0,0,([]:LI),4)
else
(Gz f).bind fun(a,n)=>
if(Ay n 0)then
some (0,0,0,0,0,0,0,0,0,0,([]:LI),n)
else
(Ba f a (Ac f)).bind fun u=>
(Jr u).bind fun(b,g,h,k,m,o)=>
if(Ay o 0)then
some (b,g,h,k,m,0,0,0,0,0,([]:LI),o)
else
(Cu b g h k m).bind fun(p,v)=>
if(geq b 2)then
some (b,g,h,k,m,a,(Ad a 22),(Ad (Ad a 22) 8),0,0,p,0)
else
some (b,g,h,k,m,a,(Ad a 22),(Ad a 22),0,0,p,0)
abbrev Bl:=Option (Int×Int×Int×LX×Int)
def Au0(a:LB)(aa b f h:Int)(ad:LX):Bl:=
(Ba a aa (Ac a)).bind fun aq=>
(Ab7 aq).bind fun(bb,ar)=>
if(Ay ar 0)then
some (0,0,0,([]:LX),38)
else
some (b,f,h,ad,0)
def Alj:=Au0
def Auo(bk21:Int→Int→LX→Bl)(a:LB)(w:LI)(m b f h o p n g y ab:Int)(ac:LX)(k:LI)(aa aj ak ae:Int)(am ad:LX):Bl:=
if(Ay ak 0)then
some (0,0,0,([]:LX),ak)
else
(Dg ad am).bind fun au=>
bk21 (Ad aa aj) (Ad ae 1) au
def Alw bk21:=Auo bk21
def Ac5(j24:Int→Int→Int→Int→LX→LX→Bl)(j26:LB→Int→Int→Int→Int→LX→Bl)(a:LB)(w:LI)(m b f h o p n g y ab:Int)(ac:LX)(k:LI)(aa ae:Int)(ad:LX):Bl:=
if(Cb ae (Ac w))then
(getI w ae).bind fun _=>
(getI w ae).bind fun aj=>
if(Cb (Ac a) (Ad aa aj))then
some (0,0,0,([]:LX),24)
else
(getI k ae).bind fun _=>
(Ba a aa (Ad aa aj)).bind fun av=>
(getI k ae).bind fun aw=>
(deframe_Decode b f ac aw av).bind fun(am,ak)=>
j24 aa aj ak ae am ad
else
j26 a aa b f h ad
def Pc(a:LB)(w:LI)(m b f h o p n g y ab:Int)(ac:LX)(k:LI):Nat→Int→Int→LX→Bl
|0,_,_,_=>none
|q+1,aa,ae,ad=>Ac5 (Alw (Pc a w m b f h o p n g y ab ac k q) a w m b f h o p n g y ab ac k) Alj a w m b f h o p n g y ab ac k aa ae ad
def Avq a w m b f h o p n g y ab ac k:=Pc a w m b f h o p n g y ab ac k FUEL
def Aa6(j21:LB→LI→Int→Int→Int→Int→Int→Int→Int→Int→Int→Int→LX→LI→Int→Int→LX→Bl)(a u:LB)(m b f h o p n g:Int)(k:LI)(an y ab:Int)(w:LI):Bl:=
if(Ay an 0)then
some (0,0,0,([]:LX),an)
else
(Nl u).bind fun(ac,bc)=>
j21 a w m b f h o p n g y ab ac k y 0 ([]:LX)
def Md:=Aa6 Avq
def Ak0(j20:LB→LB→Int→Int→Int→Int→Int→Int→Int→Int→LI→Int→Int→Int→LI→Bl)(a u:LB)(v:LI)(m b f h o p n g af:Int)(k:LI):Bl:=
j20 a u m b f h o p n g k 0 (Ad (Ad g (Bd 4 (Ac v))) 4) af v
def Acs:=Ak0 Md
def Ab5(j19:LB→LB→LI→Int→Int→Int→Int→Int→Int→Int→Int→Int→LI→Bl)(bk17:Int→Int→Bl)(v:LI)(a u:LB)(m b f h o p n g:Int)(k:LI)(ag af:Int):Bl:=
if(Cb ag (Ac v))then
(getI v ag).bind fun _=>
(getI v ag).bind fun ax=>
bk17 (Ad ag 1) (Ad af ax)
else
j19 a u v m b f h o p n g af k
def Pm(v:LI)(a u:LB)(m b f h o p n g:Int)(k:LI):Nat→Int→Int→Bl
|0,_,_=>none
|q+1,ag,af=>Ab5 Acs (Pm v a u m b f h o p n g k q) v a u m b f h o p n g k ag af
def Aki v a u m b f h o p n g k:=Pm v a u m b f h o p n g k FUEL
def Adg(j20:LB→LB→Int→Int→Int→Int→Int→Int→Int→Int→LI→Int→Int→Int→LI→Bl)(j17:LI→LB→LB→Int→Int→Int→Int→Int→Int→Int→Int→LI→Int→Int→Bl)(al:Int)(a u:LB)(m b f h o p n g ah ai:Int)(v k:LI):Bl:=
if(Ay al 0)then
j20 a u m b f h o p n g k al ah ai ([]:LI)
else
j17 v a u m b f h o p n g k 0 (Ad (Ad g (Bd 4 (Ac v))) 4)
def Abl:=Adg Md Aki
def Alf(j20:LB→LB→Int→Int→Int→Int→Int→Int→Int→Int→LI→Int→Int→Int→LI→Bl)(j16:Int→LB→LB→Int→Int→Int→Int→Int→Int→Int→Int→Int→Int→LI→LI→Bl)(a u:LB)(m b f h o p n g ah ai:Int)(k:LI):Bl:=
if(Cb (Ac a) g)then
j20 a u m b f h o p n g k 24 ah ai ([]:LI)
else
(Ba a g (Ac a)).bind fun ay=>
(Yq ay (Ac k)).bind fun(v,al)=>
j16 al a u m b f h o p n g ah ai v k
def Up:=Alf Md Abl
def Ac3(j15:LB→LB→Int→Int→Int→Int→Int→Int→Int→Int→Int→Int→LI→Bl)(a u:LB)(m b f h o p n g ah ai:Int)(k:LI)(ao:Int):Bl:=
if(Ay ao 0)then
some (0,0,0,([]:LX),ao)
else
j15 a u m b f h o p n g ah ai k
def Pq:=Ac3 Up
def An2(j14:LB→LB→Int→Int→Int→Int→Int→Int→Int→Int→Int→Int→LI→Int→Bl)(a u:LB):Bl:=
if(Eb (Ac u) 64)then
some (0,0,0,([]:LX),2)
else
(Auh a).bind fun(m,b,f,h,o,p,n,g,ah,ai,k,ap)=>
if(Ay ap 0)then
some (0,0,0,([]:LX),ap)
else
if((u==([]:LB)) !=(geq m 1))then
j14 a u m b f h o p n g ah ai k 26
else
if(geq m 1)then
j14 a u m b f h o p n g ah ai k 0
else
if(Cb (Ac a) g)then
j14 a u m b f h o p n g ah ai k 24
else
(Ba a n g).bind fun az=>
(Lk az u).bind fun(ba,bd)=>
if(!ba)then
j14 a u m b f h o p n g ah ai k 26
else
j14 a u m b f h o p n g ah ai k 0
def Mk:=An2 Pq
def Amv(a b:LB):Option Int:=
(Mk a b).bind fun(g,h,k,m,f)=>
some f
def Afn(f g:LB)(h k m n o:Int)(p:LI)(u:Int)(v:LB)(w:Bool)(y b:Int):Option (LB×LB×Int×Int×Int×Int×Int×LI×Int×LB×Bool×Int×LB×Int):=
(Hh f g h k m n o p u v w y).bind fun aa=>
if(Ay aa 0)then
some (([]:LB),([]:LB),0,0,0,0,0,([]:LI),0,([]:LB),false,0,([]:LB),aa)
else
if(Cb b 0)then
some (([]:LB),([]:LB),0,0,0,0,0,([]:LI),0,([]:LB),false,0,([]:LB),2)
else
(Cx f g h k m n o p u v w y).bind fun(ab,ac,ad,ae,af,ag,ah,ai,aj,a,ak,al)=>
(Ba a 0 (Dz b (Ac a))).bind fun am=>
(Gw am).bind fun an=>
(Ba a (Dz b (Ac a)) (Ac a)).bind fun ao=>
some (ab,ac,ad,ae,af,ag,ah,ai,aj,ao,ak,al,an,0)
def Le(a:Bool)(b:Int)(m:LB)(n o p u v w:Int)(y:LB)(h:Bool)(k ae aa af:Int)(ab:LB)(ac:LI)(ad:LX):Option Bool:=
if(Ay b 0)then
some a
else
(width_Bytes aa ad).bind fun(ag,ah)=>
(Afn m ab n o p u v ac w y h k 12000).bind fun(an,ao,ap,aq,ar,au,av,aw,ax,ay,az,ba,ai,aj)=>
some (((a&&(geq ah 0))&&(geq aj 0))&&(ai==ag))
def He:=Le
def Lg(j4:Bool→Int→LB→Int→Int→Int→Int→Int→Int→LB→Bool→Int→Int→Int→Int→LB→LI→LX→Option Bool)(f g:LB)(a:Bool):Option Bool:=
(Eu g f).bind fun(m,ab,n,o,p,u,v,ac,w,y,h,k,b)=>
(Mk g f).bind fun(ae,aa,af,ad,ak)=>
if(Ay b ak)then
if((true||(Ay k b))||(h !=(geq b 0)))then
some false
else
j4 a b m n o p u v w y h k ae aa af ab ac ad
else
(Amv g f).bind fun al=>
if(((Ay b al)||(Ay k b))||(h !=(geq b 0)))then
some false
else
j4 a b m n o p u v w y h k ae aa af ab ac ad
def Hf:=Lg He
def Lh(j3:LB→LB→Bool→Option Bool)(f g:LB):Option Bool:=
(Qq).bind fun a=>
if(Eb (Ac f) 64)then
if(true||(!a))then
some a
else
j3 f g a
else
(Abj g).bind fun am=>
if(am||(!a))then
some a
else
j3 f g a
def Jo:=Lh Hf
def Ib(f g b a h:Int):Option Bool:=
if((((geq f 1)||(geq f 2))&&(Ls g 1))&&(gle g 6))then
some ((((((geq b 8)||(geq b 16))||(geq b 24))&&(Ls a 1))&&(gle a 1048576))&&(Ls h 1))
else
some (((false&&(Ls a 1))&&(gle a 1048576))&&(Ls h 1))
def Tk(a:Int):Option Int:=
some (Awr 1 (Cn (Bd 256 a) 245))
def Mq(a:LI):Option (LI):=
some a
def Mx:=Mq
def Ir(j6:LI→Option (LI))(bk4:Int→LI→Option (LI))(b f:Int)(a:LI):Option (LI):=
if(Eb f 0)then
(Tk b).bind fun g=>
(Dg a ([(Dz f g)]:LI)).bind fun h=>
(Tk b).bind fun k=>
bk4 (Ak f k) h
else
j6 a
def Es(b:Int):Nat→Int→LI→Option (LI)
|0,_,_=>none
|q+1,f,a=>Ir Mx (Es b q) b f a
def Ad0 b:=Es b FUEL
def Ad8(j4:Int→Int→LI→Option (LI))(b m:Int):Option (LI):=
j4 b m ([]:LI)
def Du:=Ad8 Ad0
def Tj(h a k f b:Int):Option Bool:=
(
(Jm (Ay a 0)).bind fun _=>
(
if(Eb b (Cn 4000 a))then
some true
else
(Du f b).bind fun g=>
some (Eb (Ac g) 1000)))
def Jk(a b f g h:Int):Option Int:=
(Ib a b f g h).bind fun k=>
if(!k)then
some 8
else
(Tj a b f g h).bind fun m=>
if m then
some 8
else
some 0
def Dd(a f g h k:Int)(b:LB):Option Int:=
if((b==([]:LB)) !=(geq a 1))then
some 26
else
some 0
def Ab1(b:Int):Option Int:=
if(Eb b 100000)then
some 8
else
some 0
def Aaq:=Ab1
def Ad5(bk6:Int→Int→Option Int)(a:LI)(b f:Int):Option Int:=
(getI a f).bind fun g=>
bk6 (Ad b g) (Ad f 1)
def Ad6 bk6:=Ad5 bk6
def Sa(j8:Int→Int→Option Int)(j10:Int→Option Int)(a:LI)(b f:Int):Option Int:=
if(Cb f (Ac a))then
(getI a f).bind fun h=>
if(Cb h 5)then
some 8
else
(getI a f).bind fun k=>
if(Eb k 100000)then
some 8
else
j8 b f
else
j10 b
def It(a:LI):Nat→Int→Int→Option Int
|0,_,_=>none
|q+1,b,f=>Sa (Ad6 (It a q) a) Aaq a b f
def Ad2 a:=It a FUEL
def So(j6:LI→Int→Int→Option Int)(a:LI):Option Int:=
if((Cb (Ac a) 1)||(Eb (Ac a) 1000))then
some 8
else
j6 a 0 0
def Gp:=So Ad2
def Fg(g h k a b:Int):Option (LI):=
(Du a b).bind fun f=>
some f
def Fi(f a b g h:Int):Option (Int×Int):=
some (a,b)
def Aie(a b:Int):Option Int:=
some (Cn (Bd a b) 8)
def Agb(k a b f g h:Int):Option Int:=
(Fi a b f g h).bind fun(p,u)=>
(Aie p u).bind fun v=>
some (Bd k v)
def Agf:=Agb
def Vt(j6:Int→Int→Int→Int→Int→Int→Option Int)(bk4:Int→Int→Option Int)(n a b f g h:Int)(m:LI)(k o:Int):Option Int:=
if(Cb o n)then
(getI m o).bind fun _=>
(getI m o).bind fun w=>
bk4 (Ad k w) (Ad o 1)
else
j6 k a b f g h
def Js(n a b f g h:Int)(m:LI):Nat→Int→Int→Option Int
|0,_,_=>none
|q+1,k,o=>Vt Agf (Js n a b f g h m q) n a b f g h m k o
def Auc n a b f g h m:=Js n a b f g h m FUEL
def Agg(j4:Int→Int→Int→Int→Int→Int→LI→Int→Int→Option Int)(a b f g h n:Int):Option Int:=
(Fg a b f g h).bind fun m=>
j4 n a b f g h m 0 0
def Th:=Agg Auc
abbrev Fe:=Option (Int×Int)
def Asv(a:Int):Fe:=
some (a,0)
def Asl:=Asv
def Sp(j6:Int→Fe)(bk4:Int→Int→Fe)(b:LB)(a f:Int):Fe:=
if(Cb f 4)then
(getI b f).bind fun g=>
if(Ls g 128)then
some (0,12)
else
(getI b f).bind fun h=>
bk4 (Ad (Bd 128 a) (Ae h:Int)) (Ad f 1)
else
j6 a
def Iu(b:LB):Nat→Int→Int→Fe
|0,_,_=>none
|q+1,a,f=>Sp Asl (Iu b q) b a f
def Adw b:=Iu b FUEL
def Aea(j4:LB→Int→Int→Fe)(b:LB):Fe:=
if(Ay (Ac b) 4)then
some (0,2)
else
j4 b 0 0
def Zh:=Aea Adw
abbrev Fy:=Option (Int×Int)
def Agx(a:LB)(g:Int):Fy:=
if(Eb g 4000)then
some (0,4)
else
if(Cb (Ac a) g)then
some (0,24)
else
(getI a 5).bind fun h=>
if(geq h 16)then
(Ba a (Ak g 10) g).bind fun k=>
(Ba a 3 10).bind fun m=>
(Dg ([51,68,73]:LB) m).bind fun n=>
if(k !=n)then
some (0,12)
else
some (g,0)
else
some (g,0)
def Vj:=Agx
def Agn(j6:LB→Int→Fy)(a:LB)(b:Int):Fy:=
(getI a 5).bind fun o=>
if(geq o 16)then
j6 a (Ad (Ad 10 b) 10)
else
j6 a (Ad 10 b)
def Vs:=Agn Vj
def Ag7(j5:LB→Int→Fy)(a:LB):Fy:=
if(Cb (Ac a) 10)then
some (0,24)
else
(Ba a 6 10).bind fun p=>
(Zh p).bind fun(b,f)=>
(getI a 3).bind fun u=>
if(Cb u 2)then
if true then
if true then
if(true||(Ay f 0))then
some (0,12)
else
j5 a b
else
(getI a 5).bind fun v=>
if(Ay v 0)then
(getI a 5).bind fun w=>
if(Ay w 16)then
if(true||(Ay f 0))then
some (0,12)
else
j5 a b
else
(getI a 3).bind fun y=>
if((Ay y 4)||(Ay f 0))then
some (0,12)
else
j5 a b
else
if(false||(Ay f 0))then
some (0,12)
else
j5 a b
else
(getI a 4).bind fun aa=>
if(Ay aa 0)then
if(true||(Ay f 0))then
some (0,12)
else
j5 a b
else
(getI a 5).bind fun ab=>
if(Ay ab 0)then
(getI a 5).bind fun ac=>
if(Ay ac 16)then
if(true||(Ay f 0))then
some (0,12)
else
j5 a b
else
(getI a 3).bind fun ad=>
if((Ay ad 4)||(Ay f 0))then
some (0,12)
else
j5 a b
else
if(false||(Ay f 0))then
some (0,12)
else
j5 a b
else
(getI a 3).bind fun ae=>
if(Eb ae 4)then
if true then
if(true||(Ay f 0))then
some (0,12)
else
j5 a b
else
(getI a 5).bind fun af=>
if(Ay af 0)then
(getI a 5).bind fun ag=>
if(Ay ag 16)then
if(true||(Ay f 0))then
some (0,12)
else
j5 a b
else
(getI a 3).bind fun ah=>
if((Ay ah 4)||(Ay f 0))then
some (0,12)
else
j5 a b
else
if(false||(Ay f 0))then
some (0,12)
else
j5 a b
else
(getI a 4).bind fun ai=>
if(Ay ai 0)then
if(true||(Ay f 0))then
some (0,12)
else
j5 a b
else
(getI a 5).bind fun aj=>
if(Ay aj 0)then
(getI a 5).bind fun ak=>
if(Ay ak 16)then
if(true||(Ay f 0))then
some (0,12)
else
j5 a b
else
(getI a 3).bind fun al=>
if((Ay al 4)||(Ay f 0))then
some (0,12)
else
j5 a b
else
if(false||(Ay f 0))then
some (0,12)
else
j5 a b
def Afv:=Ag7 Vs
def Age(j4:LB→Fy)(a:LB):Fy:=
if(Cb (Ac a) 3)then
some (0,6)
else
(Ba a 0 3).bind fun am=>
if(am !=([73,68,51]:LB))then
some (0,6)
else
j4 a
def Aaz:=Age Afv
def Aj1(a:UInt64):Option UInt64:=
some a
def Alr:=Aj1
def Yn(j6:UInt64→Option UInt64)(bk4:UInt64→Int→Option UInt64)(b:LB)(a:UInt64)(f:Int):Option UInt64:=
if(Ls f 0)then
(getI b f).bind fun g=>
bk4 (Ad (Bd 256 a) (Ae g:UInt64)) (Ak f 1)
else
j6 a
def Mg(b:LB):Nat→UInt64→Int→Option UInt64
|0,_,_=>none
|q+1,a,f=>Yn Alr (Mg b q) b a f
def Aju b:=Mg b FUEL
def Akt(j4:LB→UInt64→Int→Option UInt64)(b:LB):Option UInt64:=
j4 b 0 (Ak (Ac b) 1)
def Dc:=Akt Aju
def Ty(b:LB):Option (Int×Int×Bool):=
(Ba b 12 16).bind fun g=>
(Dc g).bind fun a=>
(Ba b 16 20).bind fun h=>
(Dc h).bind fun f=>
if(((Cb a 32)||(Eb a 3032))||(Eb f 1000))then
some (0,0,false)
else
some ((Ak (Ae a:Int) 32),(Ae f:Int),true)
def Zj(a:LB):Option (LB):=
some a
def Zl:=Zj
def Px(j6:LB→Option (LB))(bk4:UInt64→Int→LB→Option (LB))(b:Int)(f:UInt64)(g:Int)(a:LB):Option (LB):=
if(Cb g b)then
(Dg a ([(Ae (Aao f 256):UInt8)]:LB)).bind fun h=>
bk4 (Cn f 256) (Ad g 1) h
else
j6 a
def Hb(b:Int):Nat→UInt64→Int→LB→Option (LB)
|0,_,_,_=>none
|q+1,f,g,a=>Px Zl (Hb b q) b f g a
def Zu b:=Hb b FUEL
def Zw(j4:Int→UInt64→Int→LB→Option (LB))(k:UInt64)(b:Int):Option (LB):=
j4 b k 0 ([]:LB)
def Dr:=Zw Zu
def Pr(a b:Int)(f:UInt64):Option (LB):=
(Dr 2000 4).bind fun g=>
(Dg ([(65:UInt8),(80:UInt8),(69:UInt8),(84:UInt8),(65:UInt8),(71:UInt8),(69:UInt8),(88:UInt8)]:LB) g).bind fun h=>
(Dr (Ae (Ad a 32):UInt64) 4).bind fun k=>
(Dg h k).bind fun m=>
(Dr (Ae b:UInt64) 4).bind fun n=>
(Dg m n).bind fun o=>
(Dr f 4).bind fun p=>
(Dg o p).bind fun u=>
(mkI (8:Int) (0:UInt8)).bind fun v=>
(Dg u v).bind fun w=>
some w
def Tp(a b:Int):Option (LB):=
(Pr a b 2684354560).bind fun f=>
some f
def Ki(a b:Int)(f:Bool):Option (LB):=
if f then
(Pr a b 2147483648).bind fun g=>
some g
else
(Pr a b 0).bind fun h=>
some h
abbrev Jy:=Option (Int×Int)
def Ad7(a:LB)(b f:Int):Jy:=
if(Cb (Ac a) (Ad 64 b))then
some (0,24)
else
(Ba a (Ak (Ad 64 b) 32) (Ad 64 b)).bind fun g=>
(Ki b f true).bind fun h=>
if(g !=h)then
some (0,12)
else
some ((Ad 64 b),0)
def Ad1:=Ad7
def Adl(j4:LB→Int→Int→Jy)(a:LB):Jy:=
if(Cb (Ac a) 32)then
some (0,24)
else
(Ba a 0 32).bind fun k=>
(Ty k).bind fun(b,f,m)=>
if(!m)then
some (0,12)
else
(Ba a 0 32).bind fun n=>
(Tp b f).bind fun o=>
if(n !=o)then
some (0,12)
else
j4 a b f
def Adk:=Adl Ad1
def Aeb(j3:LB→Jy)(a:LB):Jy:=
if(Cb (Ac a) 8)then
some (0,6)
else
(Ba a 0 8).bind fun p=>
if(p !=([65,80,69,84,65,71,69,88]:LB))then
some (0,6)
else
j3 a
def Yk:=Aeb Adk
abbrev Ff:=Option (LI×Int)
def Ad3(bk6:Int→LI→Ff)(a:LB)(b:Int)(f:LI)(g h:Int):Ff:=
if(geq h 6)then
some (f,0)
else
if(Ay h 0)then
some (([]:LI),h)
else
if(Eb (Ad b g) 4000)then
some (([]:LI),4)
else
(Dg f ([g]:LI)).bind fun m=>
bk6 (Ad b g) m
def Mu bk6:=Ad3 bk6
def Sn(j9:Int→LI→Int→Int→Ff)(a:LB)(b:Int)(f:LI):Ff:=
(Ba a b (Ac a)).bind fun n=>
(Aaz n).bind fun(o,k)=>
if(geq k 6)then
(Ba a b (Ac a)).bind fun p=>
(Yk p).bind fun(u,v)=>
j9 b f u v
else
j9 b f o k
def Mv(a:LB):Nat→Int→LI→Ff
|0,_,_=>none
|q+1,b,f=>Sn (Mu (Mv a q) a) a b f
def Asu a:=Mv a FUEL
def Asn(j6:LB→Int→LI→Ff)(a:LB):Ff:=
j6 a 0 ([]:LI)
def Aj4:=Asn Asu
abbrev Fh:=Option (Int×Int)
def Adr(a b:Int):Fh:=
some (b,a)
def Aed:=Adr
def Sg(j6:Int→Int→Fh)(bk4:Int→Int→Fh)(a:Int)(f:LI)(b g:Int):Fh:=
if(Cb g (Ac f))then
(getI f g).bind fun _=>
(getI f g).bind fun h=>
bk4 (Ad b h) (Ad g 1)
else
j6 a b
def Im(a:Int)(f:LI):Nat→Int→Int→Fh
|0,_,_=>none
|q+1,b,g=>Sg Aed (Im a f q) a f b g
def Sk a f:=Im a f FUEL
def Adm(j4:Int→LI→Int→Int→Fh)(k:LB):Fh:=
(Aj4 k).bind fun(f,a)=>
j4 a f 0 0
def Jd:=Adm Sk
def Oq(a b:LB):Option Bool:=
if(Cb (Ac a) (Ac b))then
(Ba b 0 (Ac a)).bind fun f=>
some (a==f)
else
some false
def Afu(a:UInt32)(b:Bool):Option UInt32:=
if b then
some (Wz (Cn a 2) 3988292384)
else
some (Cn a 2)
def Agq:=Afu
def Ag1(j2:UInt32→Bool→Option UInt32)(a:UInt32)(f:Int):Option UInt32:=
if(geq f 1)then
j2 a (!(geq (Aao a 2) 1))
else
j2 a (geq (Aao a 2) 1)
def Aa9:=Ag1 Agq
def Ahb(a:UInt32):Option UInt32:=
some a
def Ag9:=Ahb
def Uy(j6:UInt32→Option UInt32)(bk4:UInt32→UInt8→Int→Option UInt32)(a:UInt32)(b:UInt8)(f:Int):Option UInt32:=
if(Cb f 8)then
(Aa9 a (Ae (Aao b 2):Int)).bind fun g=>
bk4 g (Cn b 2) (Ad f 1)
else
j6 a
def Ju:Nat→UInt32→UInt8→Int→Option UInt32
|0,_,_,_=>none
|q+1,a,b,f=>Uy Ag9 (Ju q) a b f
def Atu:=Ju FUEL
def Atk(j4:UInt32→UInt8→Int→Option UInt32)(h:UInt32)(k:UInt8):Option UInt32:=
j4 h k 0
def Al8:=Atk Atu
def Acg(a:UInt32):Option UInt32:=
some a
def Acj:=Acg
def Qw(j6:UInt32→Option UInt32)(bk4:UInt32→Int→Option UInt32)(b:LB)(a:UInt32)(f:Int):Option UInt32:=
if(Cb f (Ac b))then
(getI b f).bind fun g=>
(Al8 a g).bind fun h=>
bk4 h (Ad f 1)
else
j6 a
def Hj(b:LB):Nat→UInt32→Int→Option UInt32
|0,_,_=>none
|q+1,a,f=>Qw Acj (Hj b q) b a f
def Aas b:=Hj b FUEL
def Adf(j4:LB→UInt32→Int→Option UInt32)(k:UInt32)(b:LB):Option UInt32:=
j4 b k 0
def Aif:=Adf Aas
def Ro(a:LB):Option UInt32:=
(Aif 4294967295 a).bind fun b=>
some (Ak 4294967295 b)
abbrev Gb:=Option (Int×Int×Int×Int×Int×Int)
def Afs(k h g f b:UInt64):Gb:=
(Ib (Ae k:Int) (Ae h:Int) (Ae g:Int) (Ae f:Int) (Ae b:Int)).bind fun v=>
if(!v)then
some (0,0,0,0,0,12)
else
(Tj (Ae k:Int) (Ae h:Int) (Ae g:Int) (Ae f:Int) (Ae b:Int)).bind fun w=>
if w then
some (0,0,0,0,0,4)
else
some ((Ae k:Int),(Ae h:Int),(Ae g:Int),(Ae f:Int),(Ae b:Int),0)
def Agt:=Afs
def Ahf(j6:UInt64→UInt64→UInt64→UInt64→UInt64→Gb)(a:LB):Gb:=
(Ba a 4 6).bind fun u=>
(Ba a 6 8).bind fun p=>
(Ba a 8 10).bind fun o=>
(Ba a 10 14).bind fun n=>
(Ba a 14 18).bind fun m=>
(
(Dc u).bind fun k=>
(
(Dc p).bind fun h=>
(
(Dc o).bind fun g=>
(
(Dc n).bind fun f=>
(
(Dc m).bind fun b=>
(
j6 k h g f b))))))
def Agl:=Ahf Agt
def Af5(j5:LB→Gb)(a:LB):Gb:=
if(Cb (Ac a) 22)then
some (0,0,0,0,0,24)
else
(Ba a 18 22).bind fun y=>
(Ba a 0 18).bind fun aa=>
(Dc y).bind fun ab=>
(Ro aa).bind fun ac=>
if(Ay ab (Ae ac:UInt64))then
some (0,0,0,0,0,22)
else
j5 a
def Aft:=Af5 Agl
def Ago(j4:LB→Gb)(a:LB):Gb:=
(Ba a 0 (Dz 4 (Ac a))).bind fun ad=>
(Ba ([84,84,65,49]:LB) 0 (Dz 4 (Ac a))).bind fun ae=>
if(ad !=ae)then
some (0,0,0,0,0,12)
else
j4 a
def Ke:=Ago Aft
abbrev Ra:=Option (Int×Int×Int×Int×Int×Int×Int)
def Aai(b:Int)(a:LB):Ra:=
(Ke a).bind fun(k,m,n,o,p,h)=>
if(geq h 24)then
some (0,0,0,0,0,0,(-1:Int))
else
some ((Ad b 22),k,m,n,o,p,h)
def Zn:=Aai
def Aan(j2:Int→LB→Ra)(f:LB):Ra:=
(Jd f).bind fun(b,g)=>
if(geq g 24)then
some (0,0,0,0,0,0,(-1:Int))
else
if(Ay g 0)then
some (0,0,0,0,0,0,g)
else
(Ba f b (Ac f)).bind fun a=>
(Oq a ([73,68,51]:LB)).bind fun u=>
if u then
some (0,0,0,0,0,0,(-1:Int))
else
(Oq a ([65,80,69,84,65,71,69,88]:LB)).bind fun v=>
if v then
some (0,0,0,0,0,0,(-1:Int))
else
j2 b a
def Uo:=Aan Zn
def Agz(a:UInt64)(b:Bool):Option UInt64:=
if b then
some (Wz (Bd a 2) 4823603603198064275)
else
some (Bd a 2)
def Uz:=Agz
def Agp(j2:UInt64→Bool→Option UInt64)(a:UInt64)(f:Int):Option UInt64:=
if(geq f 1)then
j2 a (!(Ls a 9223372036854775808))
else
j2 a (Ls a 9223372036854775808)
def Ac8:=Agp Uz
def Agr(a:UInt64):Option UInt64:=
some a
def Ag4:=Agr
def Vp(j6:UInt64→Option UInt64)(bk4:UInt64→Int→Option UInt64)(b:UInt8)(a:UInt64)(f:Int):Option UInt64:=
if(Eb f 0)then
(Jm (Ay f 0)).bind fun _=>
(Ac8 a (Gs (Cn (Ae b:Int) f) 2)).bind fun g=>
bk4 g (Cn f 2)
else
j6 a
def Kb(b:UInt8):Nat→UInt64→Int→Option UInt64
|0,_,_=>none
|q+1,a,f=>Vp Ag4 (Kb b q) b a f
def Au1 b:=Kb b FUEL
def Auv(j4:UInt8→UInt64→Int→Option UInt64)(h:UInt64)(b:UInt8):Option UInt64:=
j4 b h 128
def Al7:=Auv Au1
def Ade(a:UInt64):Option UInt64:=
some a
def Aba:=Ade
def Qp(j6:UInt64→Option UInt64)(bk4:UInt64→Int→Option UInt64)(b:LB)(a:UInt64)(f:Int):Option UInt64:=
if(Cb f (Ac b))then
(getI b f).bind fun g=>
(Al7 a g).bind fun h=>
bk4 h (Ad f 1)
else
j6 a
def Hr(b:LB):Nat→UInt64→Int→Option UInt64
|0,_,_=>none
|q+1,a,f=>Qp Aba (Hr b q) b a f
def Are b:=Hr b FUEL
def Aq1(j4:LB→UInt64→Int→Option UInt64)(k:UInt64)(b:LB):Option UInt64:=
j4 b k 0
def Xj:=Aq1 Are
def Ama(a:LB):Option UInt64:=
(Xj 0 a).bind fun b=>
some b
def Jz(a:LB):Option (LB):=
(Ama a).bind fun b=>
(Dr b 8).bind fun f=>
some f
abbrev Dk:=Option (LI×Int)
def Af1(f:LI):Dk:=
(Gp f).bind fun h=>
if(Ay h 0)then
some (([]:LI),12)
else
some (f,0)
def Us:=Af1
def Vl(j8:LI→Dk)(bk6:Int→LI→Dk)(b:LB)(a g:Int)(f:LI):Dk:=
if(Cb g a)then
(Ba b (Bd 4 g) (Ad (Bd 4 g) 4)).bind fun k=>
(Dc k).bind fun m=>
(Dg f ([(Ae m:Int)]:LI)).bind fun n=>
bk6 (Ad g 1) n
else
j8 f
def Jv(b:LB)(a:Int):Nat→Int→LI→Dk
|0,_,_=>none
|q+1,g,f=>Vl Us (Jv b a q) b a g f
def Ag5 b a:=Jv b a FUEL
def Agu(j6:LB→Int→Int→LI→Dk)(b:LB)(a:Int):Dk:=
j6 b a 0 ([]:LI)
def Afx:=Agu Ag5
def Ag0(j5:LB→Int→Dk)(b:LB)(a:Int):Dk:=
if((Cb a 1)||(Eb a 1000))then
some (([]:LI),2)
else
if(Cb (Ac b) (Ad (Bd 4 a) 4))then
some (([]:LI),24)
else
(Ba b (Bd 4 a) (Ad (Bd 4 a) 4)).bind fun o=>
(Ba b 0 (Bd 4 a)).bind fun p=>
(Dc o).bind fun u=>
(Ro p).bind fun v=>
if(Ay u (Ae v:UInt64))then
some (([]:LI),22)
else
j5 b a
def Nv:=Ag0 Afx
abbrev Ip:=Option (Int×LI×Int)
def Acx(b g:Int)(h:LI):Ip:=
if(geq g 24)then
some (0,([]:LI),(-1:Int))
else
some ((Ad (Ad b (Bd 4 (Ac h))) 4),h,g)
def Abt:=Acx
def Abk(j4:Int→Int→LI→Ip)(a:LB)(f k m n o b:Int):Ip:=
(Ba a b (Ac a)).bind fun p=>
(Fg f k m n o).bind fun u=>
(Nv p (Ac u)).bind fun(h,g)=>
j4 b g h
def Ct:=Abk Abt
def Fs(j3:LB→Int→Int→Int→Int→Int→Int→Ip)(a:LB)(f k m n o:Int)(v:LB):Ip:=
if(geq f 2)then
if(Cb (Ac a) 8)then
some (0,([]:LI),(-1:Int))
else
(Ba a 0 8).bind fun w=>
(Jz v).bind fun y=>
if(w !=y)then
some (0,([]:LI),26)
else
j3 a f k m n o 8
else
j3 a f k m n o 0
def Di:=Fs Ct
def Amz(b:UInt64)(a:LB):Option (UInt64×Int):=
if(Eb (Ac a) 100000)then
some (0,4)
else
(Xj b a).bind fun f=>
some (f,0)
def Aoe(a:LB):Option (UInt64×Int):=
(Amz 0 a).bind fun(b,f)=>
some (b,f)
def Awo(a:LX):Option (LX):=
some a
def Aww:=Awo
def Aj3(bk6:UInt64→Int→LX→Option (LX))(b:UInt64)(f:Int)(a:LX)(g:Int32):Option (LX):=
(getI a f).bind fun _=>
(Kw a f g).bind fun h=>
bk6 (Cn b 256) (Ad f 1) h
def Yv bk6:=Aj3 bk6
def Yp(j8:UInt64→Int→LX→Int32→Option (LX))(j10:LX→Option (LX))(b:UInt64)(f:Int)(a:LX):Option (LX):=
if(Cb f 8)then
if(Eb (Ae (Aao b 256):Int32) 127)then
j8 b f a (Ak (Ae (Aao b 256):Int32) 256)
else
j8 b f a (Ae (Aao b 256):Int32)
else
j10 a
def Jj:Nat→UInt64→Int→LX→Option (LX)
|0,_,_,_=>none
|q+1,b,f,a=>Yp (Yv (Jj q)) Aww b f a
def Ayw:=Jj FUEL
def Ay1(j6:UInt64→Int→LX→Option (LX))(k:UInt64):Option (LX):=
j6 k 0 (List.replicate 16 (0:Int32))
def Ar7:=Ay1 Ayw
def Kh(a:LB):Option (LX×Int):=
if(Eb (Ac a) 64)then
some (([(0:Int32),(0:Int32),(0:Int32),(0:Int32),(0:Int32),(0:Int32),(0:Int32),(0:Int32),(0:Int32),(0:Int32),(0:Int32),(0:Int32),(0:Int32),(0:Int32),(0:Int32),(0:Int32)]:LX),2)
else
(Aoe a).bind fun(b,g)=>
(Ar7 b).bind fun f=>
some (f,0)
def Ud(a:Int):Option Int:=
if(geq a 8)then
some 128
else
if(geq a 16)then
some 32768
else
if(geq a 24)then
some 8388608
else
some 0
def Yj(a b:Int):Option Int:=
if((Cb a 1)||(Eb a 6))then
some 2
else
(Ud b).bind fun f=>
if(geq f 0)then
some 2
else
some 0
def Ml(a f b:Int):Option Int:=
(Yj a f).bind fun g=>
if((Ay g 0)||(Cb b 1))then
some 2
else
(Jm (Ay a 0)).bind fun _=>
if(Eb b (Cn 4000 a))then
some 2
else
some 0
def Wv(b:LB):Option (LB):=
(Ro b).bind fun a=>
(Dg ([]:LB) b).bind fun f=>
(Dg f ([(Ae a:UInt8),(Ae (Ce a (GI.toZ (8:UInt64)).toNat):UInt8),(Ae (Ce a (GI.toZ (16:UInt64)).toNat):UInt8),(Ae (Ce a (GI.toZ (24:UInt64)).toNat):UInt8)]:LB)).bind fun g=>
some g
def Oy(a:LB):Option Int:=
if(Cb (Ac a) 5)then
some 24
else
if(Eb (Ac a) 41254)then
some 4
else
(Ba a 0 (Ak (Ac a) 4)).bind fun b=>
(Wv b).bind fun f=>
if(f !=a)then
some 22
else
some 0
def Ly:Option (Int×Int×UInt64×UInt64):=
some (10,10,16384,16384)
def Asy(a:UInt64):Option UInt64:=
some a
def Asa:=Asy
def Sr(j6:UInt64→Option UInt64)(bk4:UInt64→Int→Option UInt64)(b:Int)(a:UInt64)(f:Int):Option UInt64:=
if(Cb f b)then
bk4 (Bd a 2) (Ad f 1)
else
j6 a
def Iz(b:Int):Nat→UInt64→Int→Option UInt64
|0,_,_=>none
|q+1,a,f=>Sr Asa (Iz b q) b a f
def Asz b:=Iz b FUEL
def Asj(j4:Int→UInt64→Int→Option UInt64)(b:Int):Option UInt64:=
j4 b 1 0
def Fl:=Asj Asz
def Aen(a g:Int)(h k:UInt64)(b:UInt32):Option Bool:=
(Fl a).bind fun f=>
some (Cb (Ae b:UInt64) f)
def Abu(a g:Int)(h k:UInt64)(b:UInt32):Option UInt32:=
(Fl a).bind fun f=>
some (Ae (Ak (Ae b:UInt64) f):UInt32)
abbrev Xh:=Option (Int×UInt64)
def Agv(b:Int)(a f:UInt64):Xh:=
if(Cb b 24)then
(Fl (Ad b 5)).bind fun g=>
if(Eb (Ak (Ad a f) (Cn a 16)) g)then
some ((Ad b 1),(Ak (Ad a f) (Cn a 16)))
else
some (b,(Ak (Ad a f) (Cn a 16)))
else
some (b,(Ak (Ad a f) (Cn a 16)))
def Vf:=Agv
def Ag6(j2:Int→UInt64→UInt64→Xh)(b:Int)(a f:UInt64):Xh:=
if(Eb b 0)then
(Fl (Ad b 4)).bind fun h=>
if(Cb (Ak (Ad a f) (Cn a 16)) h)then
some ((Ak b 1),(Ak (Ad a f) (Cn a 16)))
else
j2 b a f
else
j2 b a f
def Tl:=Ag6 Vf
abbrev Te:=Option (Int×Int×UInt64×UInt64)
def Abq(h:UInt32)(f a:Int)(g b:UInt64)(o:Int)(p:UInt64):Te:=
(Tl f g (Ae h:UInt64)).bind fun(aa,ab)=>
some (aa,o,ab,p)
def Qm:=Abq
def Ab6(j2:UInt32→Int→Int→UInt64→UInt64→Int→UInt64→Te)(f a:Int)(g b:UInt64)(h:UInt32):Te:=
(Aen f a g b h).bind fun u=>
if(!u)then
(
(
(Abu f a g b h).bind fun k=>
(Tl a b (Ae k:UInt64)).bind fun(m,n)=>
j2 h f a g b m n))
else
j2 h f a g b a b
def Xe:=Ab6 Qm
abbrev Eo:=Option (Int×Int×UInt64×UInt64)
def Aqd(a b:Int)(f g:UInt64):Eo:=
some (a,b,f,g)
def Arc:=Aqd
def Ace(j6:Int→Int→UInt64→UInt64→Eo)(bk4:Int→Int→Int→UInt64→UInt64→Eo)(h:Int)(k:LU)(m a b:Int)(f g:UInt64):Eo:=
if(Cb m (Ac k))then
(getI k m).bind fun n=>
(Xe a b f g n).bind fun(o,p,u,v)=>
bk4 (Ad m h) o p u v
else
j6 a b f g
def Lj(h:Int)(k:LU):Nat→Int→Int→Int→UInt64→UInt64→Eo
|0,_,_,_,_,_=>none
|q+1,m,a,b,f,g=>Ace Arc (Lj h k q) h k m a b f g
def Aqe h k:=Lj h k FUEL
def Acn(j4:Int→LU→Int→Int→Int→UInt64→UInt64→Eo)(h:Int)(k:LU):Eo:=
(Ly).bind fun(w,y,aa,ab)=>
(Jm (Ay h 0)).bind fun _=>
j4 h k (Gs (Ac k) h) w y aa ab
def Ou:=Acn Aqe
def Ala(a:Int):Option Int:=
some (Gs a 2)
def Ajy:=Ala
def Zi(j6:Int→Option Int)(bk4:Int→Int→Option Int)(b a f:Int):Option Int:=
if(Cb f (Gs b 8))then
bk4 (Cn a 2) (Ad f 1)
else
j6 a
def Lw(b:Int):Nat→Int→Int→Option Int
|0,_,_=>none
|q+1,a,f=>Zi Ajy (Lw b q) b a f
def Alq b:=Lw b FUEL
def Aks(j4:Int→Int→Int→Option Int)(g:LB)(k b:Int):Option Int:=
(getI g (Cn b 8)).bind fun h=>
j4 b (Ae h:Int) 0
def Kq:=Aks Alq
abbrev Dv:=Option (LB×Int)
def Aii(b g a:Int)(f:LB):Dv:=
(getI f (Cn a 8)).bind fun _=>
(getI f (Cn a 8)).bind fun m=>
(getI f (Cn a 8)).bind fun _=>
(Kw f (Cn a 8) (Ad m (Ae (Bd b g):UInt8))).bind fun n=>
some (n,(Ad a 1))
def Xg:=Aii
def Xb(j8:Int→Int→Int→LB→Dv)(bk6:Int→Int→Dv)(b a:Int)(f:LB)(g h:Int):Dv:=
if(Cb h (Gs a 8))then
bk6 (Bd g 2) (Ad h 1)
else
j8 b g a f
def Kv(b a:Int)(f:LB):Nat→Int→Int→Dv
|0,_,_=>none
|q+1,g,h=>Xb Xg (Kv b a f q) b a f g h
def Aib b a f:=Kv b a f FUEL
def Aid(j6:Int→Int→LB→Int→Int→Dv)(b a:Int)(f:LB):Dv:=
j6 b a f 1 0
def Wy:=Aid Aib
def Aim(j5:Int→Int→LB→Dv)(k:LB)(a b:Int):Dv:=
if(geq (Gs a 8) 0)then
(Dg k ([(0:UInt8)]:LB)).bind fun o=>
j5 b a o
else
j5 b a k
def Wa:=Aim Wy
abbrev Dy:=Option (LB×Int)
def Aot(a:Int)(b:LB):Dy:=
some (b,a)
def Aop:=Aot
def Pp(j6:Int→LB→Dy)(bk4:Int→Int→LB→Dy)(f:Int)(g:LB)(h k a:Int)(b:LB):Dy:=
if(Cb k f)then
(Kq g h k).bind fun m=>
(Wa b a m).bind fun(n,o)=>
bk4 (Ad k 1) o n
else
j6 a b
def Ha(f:Int)(g:LB)(h:Int):Nat→Int→Int→LB→Dy
|0,_,_,_=>none
|q+1,k,a,b=>Pp Aop (Ha f g h q) f g h k a b
def Ao8 f g h:=Ha f g h FUEL
def An6(j4:Int→LB→Int→Int→Int→LB→Dy)(g:LB)(h p f:Int):Dy:=
j4 f g h p 0 ([]:LB)
def Ahc:=An6 Ao8
def Asr(a:UInt64):Option UInt64:=
some a
def Ase:=Asr
def Se(j6:UInt64→Option UInt64)(bk4:UInt64→Int→Option UInt64)(b:Int)(f:LB)(g:Int)(a:UInt64)(h:Int):Option UInt64:=
if(Ls h 0)then
(Kq f g (Ad b h)).bind fun k=>
bk4 (Ad (Bd 2 a) (Ae k:UInt64)) (Ak h 1)
else
j6 a
def Iv(b:Int)(f:LB)(g:Int):Nat→UInt64→Int→Option UInt64
|0,_,_=>none
|q+1,a,h=>Se Ase (Iv b f g q) b f g a h
def Adz b f g:=Iv b f g FUEL
def Adx(j4:Int→LB→Int→UInt64→Int→Option UInt64)(f:LB)(g b m:Int):Option UInt64:=
j4 b f g 0 (Ak m 1)
def Qr:=Adx Adz
abbrev Gq:=Option (Int×Int)
def Aig(b a:Int)(g:LB)(f:Int):Gq:=
if(geq a 48)then
some (a,(Ad b a))
else
if(Ls (Ad b a) f)then
some ((-1:Int),0)
else
some (a,(Ad (Ad b a) 1))
def Wx:=Aig
def Xl(j6:Int→Int→LB→Int→Gq)(bk4:Int→Gq)(b:Int)(g:LB)(f a:Int):Gq:=
if((Cb (Ad b a) f)&&(Cb a 48))then
(Kq g f (Ad b a)).bind fun h=>
if(geq h 1)then
bk4 (Ad a 1)
else
j6 b a g f
else
j6 b a g f
def Ks(b:Int)(g:LB)(f:Int):Nat→Int→Gq
|0,_=>none
|q+1,a=>Xl Wx (Ks b g f q) b g f a
def Awn b g f:=Ks b g f FUEL
def Awu(j4:Int→LB→Int→Int→Gq)(g:LB)(f b:Int):Gq:=
j4 b g f 0
def Aph:=Awu Awn
def Acd(b:UInt32)(f:Int):Option Int:=
(Fl f).bind fun a=>
(Jm (Ay a 0)).bind fun _=>
some (Ae (Dz 48 (Cn (Ae b:UInt64) a)):Int)
abbrev Yr:=Option (UInt32×Int×Int)
def Wu(g a b:Int)(h:LB)(f k:Int):Yr:=
if((Cb a 0)||(Cb (Ak f b) k))then
some (0,0,24)
else
(Qr h f b k).bind fun m=>
if(Cb a 48)then
(Fl g).bind fun o=>
some ((Ae (Ad (Bd (Ae a:UInt64) o) m):UInt32),(Ad b k),0)
else
(Acd (Ae m:UInt32) g).bind fun p=>
if(Cb p a)then
some (0,0,12)
else
some ((Ae m:UInt32),(Ad b k),0)
def Ws:=Wu
def Ail(j2:Int→Int→Int→LB→Int→Int→Yr)(h:LB)(f n g:Int):Yr:=
if(Ls n f)then
some (0,0,24)
else
(Aph h f n).bind fun(a,b)=>
if(geq a 48)then
j2 g a b h f 32
else
j2 g a b h f g
def Aei:=Ail Ws
def Aez(g:LB)(b a f n:Int)(v w:UInt64):Option (UInt32×Int×Int):=
if(Ls a b)then
some (0,0,24)
else
(Kq g b a).bind fun o=>
if(geq o 0)then
if(Cb (Ak (Ak b a) 1) f)then
some (0,0,24)
else
(Qr g b (Ad a 1) f).bind fun p=>
some ((Ae p:UInt32),(Ad (Ad a 1) f),0)
else
(Aei g b (Ad a 1) n).bind fun(h,u,k)=>
if(Ay k 0)then
some (0,0,k)
else
(Fl f).bind fun m=>
if(Eb (Ad (Ae h:UInt64) m) 4294967295)then
some (0,0,12)
else
some ((Ae (Ad (Ae h:UInt64) m):UInt32),u,0)
abbrev Be:=Option (LU×Int)
def Asb(b:LU):Be:=
some (b,0)
def Asm:=Asb
def Sy(j18:LU→Be)(bk16:Int→Be)(a:LB)(b:LU)(m:Int):Be:=
if(Cb m (Bd 8 (Ac a)))then
(Kq a (Bd 8 (Ac a)) m).bind fun n=>
if(Ay n 0)then
some (b,12)
else
bk16 (Ad m 1)
else
j18 b
def Iq(a:LB)(b:LU):Nat→Int→Be
|0,_=>none
|q+1,m=>Sy Asm (Iq a b q) a b m
def Adu a b:=Iq a b FUEL
def Adt(j16:LB→LU→Int→Be)(f:Int)(a:LB)(b:LU):Be:=
if(Eb (Ak (Bd 8 (Ac a)) f) 7)then
some (b,12)
else
j16 a b f
def Tf:=Adt Adu
def Ad9(bk10:Int→Int→LU→Be)(g h:Int)(a:LB)(f k:Int)(b:LU)(o p:Int)(u v:UInt64):Be:=
(Ahc a (Bd 8 (Ac a)) f (Dz (Ad f 81) (Bd 8 (Ac a)))).bind fun(y,aa)=>
(Aez y aa 0 o p u v).bind fun(ab,ac,w)=>
if(Ay w 0)then
some (b,w)
else
(Dg b ([ab]:LU)).bind fun ad=>
bk10 (Ad f ac) (Ad k 1) ad
def Is bk10:=Ad9 bk10
def Ads(j13:Int→Int→LU→Int→Int→UInt64→UInt64→Be)(j15:Int→LB→LU→Be)(g h:Int)(a:LB)(f k:Int)(b:LU):Be:=
if(Cb k (Bd h g))then
(Ly).bind fun(n,ae,af,ag)=>
if(Ls k g)then
(Ou g b).bind fun(ah,ai,aj,ak)=>
j13 f k b ah ai aj ak
else
j13 f k b n ae af ag
else
j15 f a b
def Er(g h:Int)(a:LB):Nat→Int→Int→LU→Be
|0,_,_,_=>none
|q+1,f,k,b=>Ads (Is (Er g h a q) g h a) Tf g h a f k b
def Asd g h a:=Er g h a FUEL
def Aga(j10:Int→Int→LB→Int→Int→LU→Be)(g h:Int)(a:LB):Be:=
j10 g h a 0 0 ([]:LU)
def Ach:=Aga Asd
def Ayq(a:Int):Option (Int×Int):=
if(geq a 8)then
some (4,0)
else
if((geq a 16)||(geq a 24))then
some (5,0)
else
some (0,2)
def Bbs(a:Int)(b:LX):Option (Int×LX×LX×Int):=
(Ayq a).bind fun(g,f)=>
if(Ay f 0)then
some (0,(List.replicate 16 (0:Int32)),(List.replicate 16 (0:Int32)),2)
else
if(geq a 16)then
some (9,b,(List.replicate 16 (0:Int32)),0)
else
some (10,b,(List.replicate 16 (0:Int32)),0)
def Aoa(a:Int)(b:LX):Option (Int×Int32×Int×LX×LX×Int):=
(Bbs a b).bind fun(f,g,h,k)=>
if(Ay k 0)then
some (0,0,0,(List.replicate 16 (0:Int32)),(List.replicate 16 (0:Int32)),2)
else
some (a,0,f,g,h,0)
def Aaw(a:UInt32):Option Int32:=
if(geq (Aao a 2) 0)then
some (Ae (Cn a 2):Int32)
else
some (Ae (Cn (Azu (Ad (Ae a:Int) 1)) 2):Int32)
def Cm(a:Int):Option Int32:=
some (Ae (Ae (Ae a:UInt64):UInt32):Int32)
def Aic(a:Int):Option Int32:=
some (Ae a:Int32)
def Aiq:=Aic
def Xa(j6:Int→Option Int32)(bk4:Int→Int→Option Int32)(h:Int)(f g:LX)(a b:Int):Option Int32:=
if(Cb b 16)then
(getI f b).bind fun _=>
(getI g b).bind fun _=>
(getI f b).bind fun k=>
(getI g b).bind fun m=>
(Cm (Bd (Ae k:Int) (Ae m:Int))).bind fun n=>
(Cm (Ad a (Ae n:Int))).bind fun o=>
bk4 (Ae o:Int) (Ad b 1)
else
j6 a
def Ky(h:Int)(f g:LX):Nat→Int→Int→Option Int32
|0,_,_=>none
|q+1,a,b=>Xa Aiq (Ky h f g q) h f g a b
def Awq h f g:=Ky h f g FUEL
def Awt(j4:Int→LX→LX→Int→Int→Option Int32)(h:Int)(f g:LX):Option Int32:=
j4 h f g 0 0
def Aoo:=Awt Awq
def Agj(b:Int)(f g:LX)(a:Int):Option Int32:=
(Aoo b f g).bind fun k=>
(Cm (Ad (Ae k:Int) (Cn a 2))).bind fun h=>
(Jm (Ay a 0)).bind fun _=>
(Jm (Ay a 0)).bind fun _=>
if(Cb (Gs (Ae h:Int) a) 0)then
some (Ae (Ak (Cn (Ae h:Int) a) 1):Int32)
else
some (Ae (Cn (Ae h:Int) a):Int32)
def Uk:=Agj
def Af0(j2:Int→LX→LX→Int→Option Int32)(b:Int)(f g:LX):Option Int32:=
if(geq b 9)then
j2 b f g 512
else
j2 b f g 1024
def Abd:=Af0 Uk
def Abc(a:Int):Option Int32:=
if(geq a 0)then
some 4
else
if(gle a 3)then
some 2
else
some 1
def Ts(a:Int32):Option Int32:=
if(Cb a 0)then
some (-1:Int32)
else
if(Eb a 0)then
some 1
else
some 0
abbrev Ea:=Option (Int×LX×LX)
def An8(g:Int)(b a:LX):Ea:=
some (g,b,a)
def Apc:=An8
def Pu(j6:Int→LX→LX→Ea)(bk4:Int→LX→Ea)(h:Int32)(g:Int)(a:LX)(f:Int)(b:LX):Ea:=
if(Cb f 16)then
(getI b f).bind fun _=>
(getI a f).bind fun _=>
(getI b f).bind fun k=>
(getI a f).bind fun m=>
(Abc f).bind fun n=>
(Ts m).bind fun o=>
(Ts h).bind fun p=>
(getI b f).bind fun _=>
(Kw b f (Ad k (Bd (Bd n o) p))).bind fun u=>
bk4 (Ad f 1) u
else
j6 g b a
def Gv(h:Int32)(g:Int)(a:LX):Nat→Int→LX→Ea
|0,_,_=>none
|q+1,f,b=>Pu Apc (Gv h g a q) h g a f b
def Aog h g a:=Gv h g a FUEL
def An9(j4:Int32→Int→LX→Int→LX→Ea)(g:Int)(v a:LX)(h:Int32):Ea:=
j4 h g a 0 v
def Ag2:=An9 Aog
abbrev Ep:=Option (Int×LX×LX)
def Aco(b:Int32)(f:Int)(g a:LX):Ep:=
(getI a 0).bind fun _=>
(Kw a 0 b).bind fun k=>
some (f,g,k)
def Ac2:=Aco
def Rf(j6:Int32→Int→LX→LX→Ep)(bk4:Int→LX→Ep)(b:Int32)(f:Int)(g:LX)(h:Int)(a:LX):Ep:=
if(Eb h 0)then
(getI a (Ak h 1)).bind fun _=>
(getI a (Ak h 1)).bind fun m=>
(getI a h).bind fun _=>
(Kw a h m).bind fun n=>
bk4 (Ak h 1) n
else
j6 b f g a
def Hi(b:Int32)(f:Int)(g:LX):Nat→Int→LX→Ep
|0,_,_=>none
|q+1,h,a=>Rf Ac2 (Hi b f g q) b f g h a
def Aql b f g:=Hi b f g FUEL
def Apo(j4:Int32→Int→LX→Int→LX→Ep)(f:Int)(g o:LX)(b:Int32):Ep:=
j4 b f g 15 o
def Ais:=Apo Aql
def Vu(a:Int)(b f:LX)(g:Int32):Option (Int32×Int×LX×LX):=
(Abd a b f).bind fun k=>
(Cm (Ad (Ae g:Int) (Ae k:Int))).bind fun h=>
(Ag2 a b f g).bind fun(m,n,o)=>
(Ais m n o h).bind fun(p,u,v)=>
some (h,p,u,v)
def Aau(b:Int32)(a:Int):Option Int32:=
(Jm (Ay a 0)).bind fun _=>
(Jm (Ay a 0)).bind fun _=>
if(Cb (Gs (Bd (Ak a 1) (Ae b:Int)) a) 0)then
some (Ae (Ak (Cn (Bd (Ak a 1) (Ae b:Int)) a) 1):Int32)
else
some (Ae (Cn (Bd (Ak a 1) (Ae b:Int)) a):Int32)
def Qs:=Aau
def Aa5(j2:Int32→Int→Option Int32)(f:Int)(b:Int32):Option Int32:=
if(geq f 5)then
j2 b 32
else
j2 b 16
def On:=Aa5 Qs
def Xk(b:Int)(a:Int32)(h:Int)(k m:LX):Option Int:=
if(geq b 8)then
(On 4 a).bind fun f=>
some (Ae f:Int)
else
(On 5 a).bind fun g=>
some (Ae g:Int)
def Um(a:Int)(k:Int32)(b:Int)(f g:LX)(m:Int32):Option (Int32×Int×Int32×Int×LX×LX):=
(Vu b f g m).bind fun(n,o,p,u)=>
(Xk a k b f g).bind fun v=>
(Cm (Ad (Ae n:Int) v)).bind fun h=>
some (h,a,h,o,p,u)
def Qj(a:Int)(b:LX):Option Int:=
if((Cb a 1)||(Eb a 6))then
some 2
else
if(Eb (Ac b) 4000)then
some 4
else
(Jm (Ay a 0)).bind fun _=>
if(Eb (Gs (Ac b) a) 0)then
some 2
else
some 0
def Aob(b:LX):Option (LX):=
some b
def Apd:=Aob
def Pv(j8:LX→Option (LX))(bk6:Int→LX→Option (LX))(a:LX)(f:Int)(b:LX):Option (LX):=
if(Ls f 0)then
(getI b (Ad f 1)).bind fun _=>
(getI a f).bind fun m=>
(getI b (Ad f 1)).bind fun n=>
(Cm (Ak (Ae n:Int) (Ae m:Int))).bind fun o=>
(getI b f).bind fun _=>
(Kw b f o).bind fun p=>
bk6 (Ak f 1) p
else
j8 b
def Gx(a:LX):Nat→Int→LX→Option (LX)
|0,_,_=>none
|q+1,f,b=>Pv Apd (Gx a q) a f b
def Aok a:=Gx a FUEL
def Aab(j6:LX→Int→LX→Option (LX))(a g:LX):Option (LX):=
j6 a (Ak (Ac a) 2) g
def Qc:=Aab Aok
def Aah(j5:LX→LX→Option (LX))(a:LX):Option (LX):=
(mkI (Ac a) (0:Int32)).bind fun k=>
(Jm (geq (Ac a) (Ac a))).bind fun _=>
(getI a (Ak (Ac a) 1)).bind fun u=>
(getI k (Ak (Ac a) 1)).bind fun _=>
(Kw k (Ak (Ac a) 1) u).bind fun h=>
if(Eb (Ac a) 1)then
(getI a (Ak (Ac a) 1)).bind fun v=>
(getI a (Ak (Ac a) 2)).bind fun w=>
(Cm (Ad (Ae v:Int) (Cn (Ae w:Int) 2))).bind fun y=>
(getI h (Ak (Ac a) 1)).bind fun _=>
(Kw h (Ak (Ac a) 1) y).bind fun aa=>
j5 a aa
else
j5 a h
def Ug:=Aah Qc
abbrev Ga:=Option (LX×Int)
def Avp(f:LX):Ga:=
some (f,0)
def Avo:=Avp
def Agy(j6:LX→Ga)(bk4:Int→LX→Ga)(a:Int)(b:LX)(g:Int)(f:LX):Ga:=
if(Cb g (Ac b))then
(Ba b g (Ad g a)).bind fun h=>
(Ug h).bind fun k=>
(Dg f k).bind fun m=>
bk4 (Ad g a) m
else
j6 f
def Nr(a:Int)(b:LX):Nat→Int→LX→Ga
|0,_,_=>none
|q+1,g,f=>Agy Avo (Nr a b q) a b g f
def Auy a b:=Nr a b FUEL
def Afz(j4:Int→LX→Int→LX→Ga)(a:Int)(b:LX):Ga:=
(Qj a b).bind fun n=>
if(Ay n 0)then
(Qj a b).bind fun o=>
some (([]:LX),o)
else
j4 a b 0 ([]:LX)
def Ac7:=Afz Auy
def Aag(a f:Int)(w:LX):Option (LX):=
(Ac7 a w).bind fun(aj,ai)=>
some aj
def Ph:=Aag
def Aal(bk18:Int→LX→Option (LX))(b:LU)(a f:Int)(g:LX)(h:Int)(m:LX):Option (LX):=
bk18 (Ad h 1) m
def Zy bk18:=Aal bk18
def Zv(bk26:Int→LX→Int→Int32→Int→LX→LX→Option (LX))(b:LU)(h a f:Int)(g:LX)(k:Int)(af:LX)(y:Int)(aa:Int32)(ab:Int)(ac ad:LX):Option (LX):=
bk26 (Ad k a) af y aa ab ac ad
def Aae bk26:=Zv bk26
def Aac(j30:Int→LX→Int→Int32→Int→LX→LX→Option (LX))(b:LU)(h a f:Int)(g:LX)(k:Int)(ae:Int32)(m:LX)(n:Int)(o:Int32)(p:Int)(u v:LX)(y:Int)(aa:Int32)(ab:Int)(ac ad:LX):Option (LX):=
(getI m k).bind fun _=>
(Kw m k ae).bind fun af=>
j30 k af y aa ab ac ad
def Aaj bk26 b h a f g:=Aac (Aae bk26 b h a f g) b h a f g
def Zr(j29:Int→Int32→LX→Int→Int32→Int→LX→LX→Int→Int32→Int→LX→LX→Option (LX))(j32:Int→LX→Option (LX))(b:LU)(a f:Int)(g:LX)(h k:Int)(m:LX)(n:Int)(o:Int32)(p:Int)(u v:LX):Option (LX):=
if(Cb k (Ac b))then
(getI b k).bind fun ah=>
(
(Aaw ah).bind fun ag=>
(
(Um n o p u v ag).bind fun(ae,y,aa,ab,ac,ad)=>
j29 k ae m n o p u v y aa ab ac ad))
else
j32 h m
def Kf(bk18:Int→LX→Option (LX))(b:LU)(a f:Int)(g:LX)(h:Int):Nat→Int→LX→Int→Int32→Int→LX→LX→Option (LX)
|0,_,_,_,_,_,_,_=>none
|q+1,k,m,n,o,p,u,v=>Zr (Aaj (Kf bk18 b a f g h q) b h a f g) (Zy bk18 b a f g) b a f g h k m n o p u v
def Zs bk18 b a f g h:=Kf bk18 b a f g h FUEL
def Pj(j26:Int→Int→LX→Int→Int32→Int→LX→LX→Option (LX))(j34:Int→Int→LX→Option (LX))(b:LU)(a f:Int)(g:LX)(h:Int)(w:LX):Option (LX):=
if(Cb h a)then
(Aoa f g).bind fun(ak,ai,al,am,an,aq)=>
j26 h h w ak ai al am an
else
j34 a f w
def Ey(b:LU)(a f:Int)(g:LX):Nat→Int→LX→Option (LX)
|0,_,_=>none
|q+1,h,w=>Pj (Zs (Ey b a f g q) b a f g) Ph b a f g h w
def Aam b a f g:=Ey b a f g FUEL
def Ac4(j18:LU→Int→Int→LX→Int→LX→Option (LX))(a f:Int)(g:LX)(b:LU):Option (LX):=
(mkI (Ac b) (0:Int32)).bind fun ao=>
(Jm (geq (Ac b) (Ac b))).bind fun _=>
j18 b a f g 0 ao
def Pa:=Ac4 Aam
def Ast:Option Int:=
some 0
def Asf:=Ast
def Cy(j6:Option Int)(bk4:Int→Option Int)(a:LX)(b f:Int):Option Int:=
if(Cb f (Ac a))then
(getI a f).bind fun g=>
if(Cb (Ae g:Int) (Azu b))then
some 16
else
(getI a f).bind fun h=>
if(Ls (Ae h:Int) b)then
some 16
else
bk4 (Ad f 1)
else
j6
def Az(a:LX)(b:Int):Nat→Int→Option Int
|0,_=>none
|q+1,f=>Cy Asf (Az a b q) a b f
def Asi a b:=Az a b FUEL
def Gg(j4:LX→Int→Int→Option Int)(k:Int)(a:LX):Option Int:=
(Ud k).bind fun b=>
if(geq b 0)then
some 2
else
if(Eb (Ac a) 4000)then
some 4
else
j4 a b 0
def cadenzaref18_Check:=Gg Asi
def Xf(g f:Int)(a:LX):Option (LX×Int):=
(cadenzaref18_Check f a).bind fun b=>
if(Ay b 0)then
some (([]:LX),b)
else
some (a,0)
abbrev Sc:=Option (LX×Int)
def Hy(f a b:Int)(g:LX)(h:LU):Sc:=
if(Ay f 0)then
some (([]:LX),f)
else
(
(
(Pa a b g h).bind fun m=>
(Xf a b m).bind fun(n,o)=>
some (n,o)))
def Hn:=Hy
def Qu(j2:Int→Int→Int→LX→LU→Sc)(a b:Int)(g:LX)(p:Int)(k:LB):Sc:=
(Ml a b p).bind fun y=>
if(Ay y 0)then
some (([]:LX),2)
else
(Oy k).bind fun aa=>
if(Ay aa 0)then
(Oy k).bind fun ab=>
some (([]:LX),ab)
else
(Ba k 0 (Ak (Ac k) 4)).bind fun ac=>
(Ach a p ac).bind fun(h,f)=>
j2 f a b g h
def cadenzaref21_Decode:=Qu Hn
def Xc(a b:Int):Option (LB):=
if(geq a 24)then
(Dg ([(Ae (Gs b 256):UInt8),(Ae (Gs (Cn b 256) 256):UInt8)]:LB) ([(Ae (Cn b 65536):UInt8)]:LB)).bind fun g=>
some g
else
some ([(Ae (Gs b 256):UInt8),(Ae (Gs (Cn b 256) 256):UInt8)]:LB)
def La:=Xc
def Aih(j2:Int→Int→Option (LB))(a:Int)(f:Int32):Option (LB):=
if(geq a 8)then
some ([(Ae (Ad (Ae f:Int) 128):UInt8)]:LB)
else
if(Cb (Ae f:Int) 0)then
(Ud a).bind fun h=>
j2 a (Ad (Ae f:Int) (Bd 2 h))
else
j2 a (Ae f:Int)
def Ae0:=Aih La
abbrev Fj:=Option (LB×Int)
def Aso(b:LB):Fj:=
some (b,0)
def Asg:=Aso
def Sj(j6:LB→Fj)(bk4:Int→LB→Fj)(f:Int)(a:LX)(g:Int)(b:LB):Fj:=
if(Cb g (Ac a))then
(getI a g).bind fun h=>
(Ae0 f h).bind fun k=>
(Dg b k).bind fun m=>
bk4 (Ad g 1) m
else
j6 b
def Iy(f:Int)(a:LX):Nat→Int→LB→Fj
|0,_,_=>none
|q+1,g,b=>Sj Asg (Iy f a q) f a g b
def Ash f a:=Iy f a FUEL
def Adp(j4:Int→LX→Int→LB→Fj)(f:Int)(a:LX):Fj:=
(cadenzaref18_Check f a).bind fun n=>
if(Ay n 0)then
(cadenzaref18_Check f a).bind fun o=>
some (([]:LB),o)
else
j4 f a 0 ([]:LB)
def Qx:=Adp Ash
abbrev Sm:=Option (LB×Int)
def Dx(o:LX)(f:Int)(p g:LB)(h k a m n:Int)(u:LI)(b:Int)(v:LB)(w:Bool)(y:Int):Sm:=
if(Ay f 0)then
some (([]:LB),f)
else
(Qx a o).bind fun(ac,ai)=>
some (ac,0)
def Dw:=Dx
def Ec(j2:LX→Int→LB→LB→Int→Int→Int→Int→Int→LI→Int→LB→Bool→Int→Sm)(p g:LB)(h k a m n:Int)(u:LI)(b:Int)(v:LB)(w:Bool)(y:Int):Sm:=
(getI u b).bind fun aa=>
if(Cb (Ac g) aa)then
some (([]:LB),(-1:Int))
else
(Kh p).bind fun(ad,aj)=>
(Ba g 0 aa).bind fun ae=>
(Fi h k a m n).bind fun(af,ag)=>
(Fg h k a m n).bind fun ab=>
(getI ab b).bind fun _=>
(getI ab b).bind fun ah=>
(cadenzaref21_Decode af ag ad ah ae).bind fun(o,f)=>
j2 o f p g h k a m n u b v w y
def Cq:=Ec Dw
abbrev Kx:=Option (LB×LB×Int×Int×Int×Int×Int×LI×Int×LB×Bool×Int×Int)
def Bm(g a:LB)(m o p u v:Int)(b:LI)(f:Int)(n:LB)(h:Bool)(k:Int):Kx:=
if(geq (Ac b) 0)then
(Di a m o p u v g).bind fun(ag,ak,w)=>
if(Ay w 0)then
some (g,a,m,o,p,u,v,b,f,n,h,k,w)
else
(Ba a ag (Ac a)).bind fun al=>
some (g,al,m,o,p,u,v,ak,f,n,h,k,0)
else
if(geq f (Ac b))then
if(Eb (Ac a) 4000)then
some (g,a,m,o,p,u,v,b,f,n,h,k,38)
else
some (g,a,m,o,p,u,v,b,f,n,h,k,(-1:Int))
else
(Cq g a m o p u v b f n h k).bind fun(am,y)=>
if(Ay y 0)then
some (g,a,m,o,p,u,v,b,f,n,h,k,y)
else
(Dg ([]:LB) n).bind fun an=>
(Dg an am).bind fun ah=>
(
(
(
(getI b f).bind fun ad=>
(
(Ba a ad (Ac a)).bind fun ae=>
some (g,ae,m,o,p,u,v,b,(Ad f 1),ah,h,k,0)))))
def Bp:=Bm
def Fm(g af:LB)(aa w ab ac y:Int)(b:LI)(f:Int)(n:LB)(h:Bool)(k:Int):Kx:=
(Dd aa w ab ac y g).bind fun aw=>
some (g,af,aa,w,ab,ac,y,b,f,n,h,k,aw)
def Fb:=Fm
def Bf(j3:LB→LB→Int→Int→Int→Int→Int→LI→Int→LB→Bool→Int→Kx)(j4:LB→LB→Int→Int→Int→Int→Int→LI→Int→LB→Bool→Int→Kx)(g a:LB)(m o p u v:Int)(b:LI)(f:Int)(n:LB)(h:Bool)(k:Int):Kx:=
if(geq m 0)then
(Uo a).bind fun(ag,aa,w,ab,ac,y,ai)=>
if(Ay ai 0)then
some (g,a,m,o,p,u,v,b,f,n,h,k,ai)
else
(
(Ba a ag (Ac a)).bind fun af=>
(
j3 g af aa w ab ac y b f n h k))
else
j4 g a m o p u v b f n h k
def cadenzaref37_take:=Bf Fb Bp
def Td(o p:LB)(b f g h k:Int)(m:LI)(a:Int)(n:LB)(u:Bool)(v:Int):Option Bool:=
(cadenzaref37_take o p b f g h k m a n u v).bind fun(af,ag,ah,ai,aj,ak,al,am,an,ao,ap,aq,w)=>
some (geq w (-1:Int))
def Bu:=Td
def Ms(j4:LB→LB→Int→Int→Int→Int→Int→LI→Int→LB→Bool→Int→Option Bool)(o p:LB)(b f g h k:Int)(m:LI)(a:Int)(n:LB)(u:Bool)(v:Int):Option Bool:=
if(geq (Ac m) 0)then
if((Ay a 0)||(Eb (Ac n) 0))then
some false
else
j4 o p b f g h k m a n u v
else
(Gp m).bind fun y=>
if(Ay y 0)then
if((true||(Cb a 0))||(Eb a (Ac m)))then
some false
else
(Th b f g h k a).bind fun aa=>
if(Eb (Ac n) aa)then
some false
else
j4 o p b f g h k m a n u v
else
(Fg b f g h k).bind fun ab=>
if(((Ay (Ac m) (Ac ab))||(Cb a 0))||(Eb a (Ac m)))then
some false
else
(Th b f g h k a).bind fun ac=>
if(Eb (Ac n) ac)then
some false
else
j4 o p b f g h k m a n u v
def Mo:=Ms Bu
def Tc(j4:LB→LB→Int→Int→Int→Int→Int→LI→Int→LB→Bool→Int→Option Bool)(j3:LB→LB→Int→Int→Int→Int→Int→LI→Int→LB→Bool→Int→Option Bool)(o p:LB)(b f g h k:Int)(m:LI)(a:Int)(n:LB)(u:Bool)(v:Int):Option Bool:=
if((geq b 0)&&((geq f 0)&&((geq g 0)&&((geq h 0)&&((geq k 0)&&true)))))then
if(((Eb (Ac m) 0)||(Ay a 0))||(Eb (Ac n) 0))then
some false
else
j4 o p b f g h k m a n u v
else
(Jk b f g h k).bind fun ad=>
if(Ay ad 0)then
some false
else
(Dd b f g h k o).bind fun ae=>
if(Ay ae 0)then
some false
else
j3 o p b f g h k m a n u v
def Jc:=Tc Bu Mo
def Uv(a:Int):Option Bool:=
some (((((((geq a 4)||(geq a 12))||(geq a 16))||(geq a 22))||(geq a 24))||(geq a 26))||(geq a 38))
def Cw(h k:LB)(m n o p u:Int)(v:LI)(f:Int)(g:LB)(b:Bool)(a:Int):Option Int:=
if(Eb (Ac h) 64)then
some 8
else
if((geq a 0)&&(!b))then
(Jc h k m n o p u v f g b a).bind fun w=>
if(!w)then
some 8
else
some 0
else
if((geq (Ac k) 0)&&(geq (Ac v) 0))then
if((!(((geq m 0)&&((geq n 0)&&((geq o 0)&&((geq p 0)&&((geq u 0)&&true)))))&&(geq f 0)))||(Eb (Ac g) 12000))then
some 8
else
if(Ay a 0)then
if b then
some 8
else
(Uv a).bind fun y=>
if(!y)then
some 8
else
some 0
else
some 0
else
if((!(false&&(geq f 0)))||(Eb (Ac g) 12000))then
some 8
else
if(Ay a 0)then
if b then
some 8
else
(Uv a).bind fun aa=>
if(!aa)then
some 8
else
some 0
else
some 0
abbrev Xi:=Option (LB×LB×Int×Int×Int×Int×Int×LI×Int×LB×Bool×Int)
def Agh(f:LB)(g h k m n:Int)(o:LI)(p:Int)(u:Bool)(v:Int)(a b:LB):Xi:=
(Dg ([]:LI) o).bind fun af=>
some (f,a,g,h,k,m,n,af,p,b,u,v)
def Ahd:=Agh
def Aha(j2:LB→Int→Int→Int→Int→Int→LI→Int→Bool→Int→LB→LB→Xi)(f w:LB)(g h k m n:Int)(o:LI)(p:Int)(y:LB)(u:Bool)(v:Int):Xi:=
(
(
(
(Dg ([]:LB) w).bind fun a=>
(
(Dg ([]:LB) y).bind fun b=>
j2 f g h k m n o p u v a b))))
def Tx:=Aha Ahd
def Nu(f g:LB)(h k m n o:Int)(p:LI)(u:Int)(v:LB)(b:Bool)(a:Int):Option Int:=
if(Ay a 0)then
some a
else
if b then
some 36
else
some 0
def Amg(a m:LB)(n o p u v:Int)(w:LI)(y:Int)(b:LB)(aa:Bool)(ab:Int):Option (LB×LB×Int×Int×Int×Int×Int×LI×Int×LB×Bool×Int):=
(
(
(Dg ([]:LB) b).bind fun f=>
some (a,([]:LB),0,0,0,0,0,([]:LI),0,f,false,0)))
def Ww(b f:LB)(g h k m n:Int)(o:LI)(p:Int)(u:LB)(v:Bool)(w a:Int):Option (LB×LB×Int×Int×Int×Int×Int×LI×Int×LB×Bool×Int×Int):=
(Amg b f g h k m n o p u v w).bind fun(y,aa,ab,ac,ad,ae,af,ag,ah,ai,aj,ak)=>
some (y,aa,ab,ac,ad,ae,af,ag,ah,ai,aj,a,a)
abbrev Ku:=Option (LB×LB×Int×Int×Int×Int×Int×LI×Int×LB×Bool×Int×Int)
def Bo(bk3:LB→LB→Int→Int→Int→Int→Int→LI→Int→LB→Bool→Int→Ku)(a b:LB)(f g h k m:Int)(n:LI)(o:Int)(p:LB)(u:Bool)(v:Int):Ku:=
(cadenzaref37_take a b f g h k m n o p u v).bind fun(bb,bc,bd,be,bf,bg,bh,bi,bj,bk,bl,bm,w)=>
if(geq w (-1:Int))then
(Tx a b f g h k m n o p u v).bind fun(bn,bp,bq,br,bs,bt,bu,bv,bw,bx,bz,da)=>
some (bn,bp,bq,br,bs,bt,bu,bv,bw,bx,bz,da,0)
else
if(Ay w 0)then
(Ww a b f g h k m n o p u v w).bind fun(db,dc,dd,de,df,dg,dh,di,dj,dk,dl,dm,dn)=>
some (db,dc,dd,de,df,dg,dh,di,dj,dk,dl,dm,dn)
else
bk3 bb bc bd be bf bg bh bi bj bk bl bm
def Au:Nat→LB→LB→Int→Int→Int→Int→Int→LI→Int→LB→Bool→Int→Ku
|0,_,_,_,_,_,_,_,_,_,_,_,_=>none
|q+1,a,b,f,g,h,k,m,n,o,p,u,v=>Bo (Au q) a b f g h k m n o p u v
def At2:=Au FUEL
def Nw(j3:LB→LB→Int→Int→Int→Int→Int→LI→Int→LB→Bool→Int→Ku)(al am:LB)(an ao ap aq ar:Int)(au:LI)(av:Int)(aw:LB)(ax:Bool)(ay:Int)(dp:LB):Ku:=
(Cw al am an ao ap aq ar au av aw ax ay).bind fun az=>
if(Ay az 0)then
some (([]:LB),([]:LB),0,0,0,0,0,([]:LI),0,([]:LB),false,0,az)
else
(Tx al am an ao ap aq ar au av aw ax ay).bind fun(y,aa,ab,ac,ad,ae,af,ag,ah,ai,aj,ak)=>
(Nu y aa ab ac ad ae af ag ah ai aj ak).bind fun ba=>
if(Ay ba 0)then
some (y,aa,ab,ac,ad,ae,af,ag,ah,ai,aj,ak,ba)
else
(Dg aa dp).bind fun dq=>
j3 y dq ab ac ad ae af ag ah ai aj ak
def Hk:=Nw At2
abbrev Fz:=Option (Int×Int)
def Vh(a:LB)(f g:Int)(b h:LB)(k:Int):Fz:=
if(Cb (Ac a) k)then
some (0,24)
else
if(b==h)then
(Ba a (Ak (Ac a) k) (Ad (Ak (Ac a) k) 32)).bind fun o=>
(Tp f g).bind fun p=>
if(o !=p)then
some (0,12)
else
some (k,0)
else
some (k,0)
def Uu:=Vh
def Un(j6:LB→Int→Int→LB→LB→Int→Fz)(a:LB)(f g:Int)(b h:LB):Fz:=
if(b==h)then
j6 a f g b h (Ad (Ad 32 f) 32)
else
j6 a f g b h (Ad 32 f)
def Va:=Un Uu
def Afw(j5:LB→Int→Int→LB→LB→Fz)(a:LB):Fz:=
(Ba a (Ak (Ac a) 32) (Ac a)).bind fun b=>
(Ty b).bind fun(f,g,n)=>
if(!n)then
some (0,12)
else
(Ki f g true).bind fun h=>
(
if(!(b==h))then
(Ki f g false).bind fun m=>
if(b !=m)then
some (0,12)
else
j5 a f g b h
else
j5 a f g b h)
def Afy:=Afw Va
def Af8(j4:LB→Fz)(a:LB):Fz:=
if(Cb (Ac a) 32)then
some (0,6)
else
(Ba a (Ak (Ac a) 32) (Ad (Ak (Ac a) 32) 8)).bind fun u=>
if(u !=([65,80,69,84,65,71,69,88]:LB))then
some (0,6)
else
j4 a
def Ac9:=Af8 Afy
abbrev En:=Option (Int×Int)
def Aqh(a:Int):En:=
some (a,0)
def Aqw:=Aqh
def Abh(j6:Int→En)(bk4:LB→Int→En)(b:LB)(a:Int):En:=
if(Eb (Ac b) 0)then
(Ac9 b).bind fun(g,h)=>
if(Ay h 0)then
some (0,38)
else
(Ba b 0 (Ak (Ac b) g)).bind fun k=>
bk4 k (Ad a 1)
else
j6 a
def Li:Nat→LB→Int→En
|0,_,_=>none
|q+1,b,a=>Abh Aqw (Li q) b a
def Aqq:=Li FUEL
def Abf(j4:LB→Int→En)(f:LB):En:=
if(Eb (Ac f) 4000)then
some (0,38)
else
j4 f 0
def Ot:=Abf Aqq
def Bz(p a:LB)(g u v w y:Int)(b:LI)(h:Int)(aa:LB)(ab:Bool)(ac:Int):Option Int:=
if(geq g 0)then
(Jd a).bind fun(k,f)=>
if(Ay f 0)then
some f
else
(Ba a k (Ac a)).bind fun m=>
(Ke m).bind fun(ad,ae,af,ag,ah,n)=>
some n
else
if((geq (Ac b) 0)||(Cb h (Ac b)))then
some 24
else
(Ot a).bind fun(ai,o)=>
if(Ay o 0)then
some 38
else
some 0
abbrev Ano:=Option (Int×Int×Int×Int×Int×Int×LI×Int)
def Avn(a:LB)(b f g h k n:Int):Ano:=
(Cu b f g h k).bind fun(ab,p)=>
if(Ay p 0)then
some (0,0,0,0,0,0,([]:LI),p)
else
(Ba a n (Ac a)).bind fun ac=>
(Yq ac (Ac ab)).bind fun(u,v)=>
if(Ay v 0)then
some (0,0,0,0,0,0,([]:LI),v)
else
some (b,f,g,h,k,(Ad (Ad n (Bd 4 (Ac u))) 4),u,0)
def Pn:=Avn
def Uw(j2:LB→Int→Int→Int→Int→Int→Int→Ano)(a o:LB):Ano:=
if(Eb (Ac o) 64)then
some (0,0,0,0,0,0,([]:LI),2)
else
if(Eb (Ac a) 100000)then
some (0,0,0,0,0,0,([]:LI),4)
else
(Gz a).bind fun(m,w)=>
if(Ay w 0)then
some (0,0,0,0,0,0,([]:LI),w)
else
(Ba a m (Ac a)).bind fun ad=>
(Jr ad).bind fun(b,f,g,h,k,y)=>
if(Ay y 0)then
some (0,0,0,0,0,0,([]:LI),y)
else
if((o==([]:LB)) !=(geq b 1))then
some (0,0,0,0,0,0,([]:LI),26)
else
if(o !=([]:LB))then
if(Cb (Ac a) (Ad (Ad m 22) 8))then
some (0,0,0,0,0,0,([]:LI),24)
else
(Ba a (Ad m 22) (Ad (Ad m 22) 8)).bind fun ae=>
(Lk ae o).bind fun(af,aa)=>
if(Ay aa 0)then
some (0,0,0,0,0,0,([]:LI),aa)
else
if(!af)then
some (0,0,0,0,0,0,([]:LI),26)
else
j2 a b f g h k (Ad (Ad m 22) 8)
else
j2 a b f g h k (Ad m 22)
def seekto_Open:=Uw Pn
abbrev Io:=Option (Int×Int×Int×Int×Int×Int×LI×Int)
def Aa8(m n b h k f g:Int)(o:LI):Io:=
if(Ay n 0)then
some (0,0,0,0,0,0,([]:LI),n)
else
some (b,h,k,f,g,(Ad (Ad m (Bd 4 (Ac o))) 4),o,0)
def Abi:=Aa8
def Abn(j4:Int→Int→Int→Int→Int→Int→Int→LI→Io)(a:LB)(b h k f g m:Int):Io:=
(Ba a m (Ac a)).bind fun y=>
(Du f g).bind fun aa=>
(Nv y (Ac aa)).bind fun(o,n)=>
j4 m n b h k f g o
def Lc:=Abn Abi
def Qe(j3:LB→Int→Int→Int→Int→Int→Int→Io)(a u:LB):Io:=
if(Eb (Ac a) 100000)then
some (0,0,0,0,0,0,([]:LI),4)
else
(Jd a).bind fun(p,v)=>
if(Ay v 0)then
some (0,0,0,0,0,0,([]:LI),v)
else
(Ba a p (Ac a)).bind fun ab=>
(Ke ab).bind fun(b,h,k,f,g,w)=>
if(Ay w 0)then
some (0,0,0,0,0,0,([]:LI),w)
else
if((u==([]:LB)) !=(geq b 1))then
some (0,0,0,0,0,0,([]:LI),26)
else
if(geq b 2)then
if(Cb (Ak (Ac a) (Ad p 22)) 8)then
some (0,0,0,0,0,0,([]:LI),24)
else
(Ba a (Ad p 22) (Ad (Ad p 22) 8)).bind fun ac=>
(Jz u).bind fun ad=>
if(ac !=ad)then
some (0,0,0,0,0,0,([]:LI),26)
else
j3 a b h k f g (Ad (Ad p 22) 8)
else
j3 a b h k f g (Ad p 22)
def cadenzaref40_Opened:=Qe Lc
def Asc(a:Int):Option Int:=
some a
def Asp:=Asc
def Sf(j6:Int→Option Int)(bk4:Int→Int→Option Int)(b h k m n o f:Int)(g:LI)(a p:Int):Option Int:=
if(Cb p b)then
(getI g p).bind fun u=>
bk4 (Ad a u) (Ad p 1)
else
j6 a
def Iw(b h k m n o f:Int)(g:LI):Nat→Int→Int→Option Int
|0,_,_=>none
|q+1,a,p=>Sf Asp (Iw b h k m n o f g q) b h k m n o f g a p
def Asx b h k m n o f g:=Iw b h k m n o f g FUEL
def Asw(j4:Int→Int→Int→Int→Int→Int→Int→LI→Int→Int→Option Int)(h k m n o f:Int)(g:LI)(b:Int):Option Int:=
j4 b h k m n o f g f 0
def Ajr:=Asw Asx
abbrev Zd:=Option (LB×Int)
def Air(p:LX)(m n g b h k o:Int)(a:LI):Zd:=
if(Ay m 0)then
some (([]:LB),m)
else
(Qx b p).bind fun(af,ai)=>
some (af,0)
def Ain:=Air
def Ah8(j2:LX→Int→Int→Int→Int→Int→Int→Int→LI→Zd)(v y:LB)(n g b h k o:Int)(a:LI)(f:Int):Zd:=
(Ajr n g b h k o a f).bind fun u=>
(getI a f).bind fun aa=>
if(Cb (Ak (Ac v) u) aa)then
some (([]:LB),24)
else
(Kh y).bind fun(ab,ag)=>
(getI a f).bind fun ac=>
(Ba v u (Ad u ac)).bind fun ad=>
(
(Du h k).bind fun w=>
(getI w f).bind fun _=>
(getI w f).bind fun ae=>
(cadenzaref21_Decode g b ab ae ad).bind fun(p,m)=>
j2 p m n g b h k o a)
def cadenzaref40_Got:=Ah8 Ain
def Ajv(a:LB):Option (Int×Int×Int×Int×Int×Int×Int):=
if(Eb (Ac a) 100000)then
some (0,0,0,0,0,0,4)
else
(Jd a).bind fun(b,f)=>
if(Ay f 0)then
some (0,0,0,0,0,0,f)
else
(Ba a b (Ac a)).bind fun g=>
(Ke g).bind fun(h,k,m,n,o,p)=>
some (b,h,k,m,n,o,p)
def Aio(f:LB)(a g m n o p:Int)(b:LB):Option (Int×Int):=
if((b==([]:LB)) !=(geq g 1))then
some (0,26)
else
if(b==([]:LB))then
some (a,0)
else
if(Cb (Ac f) (Ad a 8))then
some (0,24)
else
(Ba f a (Ad a 8)).bind fun h=>
(Jz b).bind fun k=>
if(h !=k)then
some (0,26)
else
some ((Ad a 8),0)
def Yu(a:LB)(b o p u f g:Int):Option (LI×Int):=
(Ba a b (Ac a)).bind fun h=>
(Du f g).bind fun k=>
(Nv h (Ac k)).bind fun(m,n)=>
some (m,n)
abbrev Dj:=Option (Int×Int×Int×LX×Int)
def Adn(a:LB)(n b f g:Int)(v:LX):Dj:=
(Ba a n (Ac a)).bind fun af=>
(Ot af).bind fun(ao,ag)=>
if(Ay ag 0)then
some (0,0,0,([]:LX),38)
else
some (b,f,g,v,0)
def Ado:=Adn
def Adq(bk7:Int→Int→LX→Dj)(a:LB)(o b f g k:Int)(h p:LI)(u:LX)(n m:Int)(y:LX)(w:Int)(v:LX):Dj:=
if(Ay w 0)then
some (0,0,0,([]:LX),w)
else
(Dg v y).bind fun ah=>
(getI h m).bind fun _=>
(getI h m).bind fun ai=>
bk7 (Ad n ai) (Ad m 1) ah
def Ady bk7:=Adq bk7
def Vi(j10:Int→Int→LX→Int→LX→Dj)(j12:LB→Int→Int→Int→Int→LX→Dj)(a:LB)(o b f g k:Int)(h p:LI)(u:LX)(n m:Int)(v:LX):Dj:=
if(Cb m (Ac h))then
(getI h m).bind fun _=>
(getI h m).bind fun aj=>
if(Cb (Ak (Ac a) n) aj)then
some (0,0,0,([]:LX),24)
else
(getI p m).bind fun _=>
(getI h m).bind fun _=>
(getI p m).bind fun ak=>
(getI h m).bind fun al=>
(Ba a n (Ad n al)).bind fun am=>
(cadenzaref21_Decode b f u ak am).bind fun(y,w)=>
j10 n m y w v
else
j12 a n b f g v
def Ka(a:LB)(o b f g k:Int)(h p:LI)(u:LX):Nat→Int→Int→LX→Dj
|0,_,_,_=>none
|q+1,n,m,v=>Vi (Ady (Ka a o b f g k h p u q) a o b f g k h p u) Ado a o b f g k h p u n m v
def Ags a o b f g k h p u:=Ka a o b f g k h p u FUEL
def Agd(j7:LB→Int→Int→Int→Int→Int→LI→LI→LX→Int→Int→LX→Dj)(a aa:LB):Dj:=
if(Eb (Ac aa) 64)then
some (0,0,0,([]:LX),2)
else
(Ajv a).bind fun(an,o,b,f,g,k,ab)=>
if(Ay ab 0)then
some (0,0,0,([]:LX),ab)
else
(Aio a (Ad an 22) o b f g k aa).bind fun(ac,ad)=>
if(Ay ad 0)then
some (0,0,0,([]:LX),ad)
else
(Yu a ac o b f g k).bind fun(h,ae)=>
if(Ay ae 0)then
some (0,0,0,([]:LX),ae)
else
(Du g k).bind fun p=>
(Kh aa).bind fun(u,ap)=>
j7 a o b f g k h p u (Ad ac (Ad (Bd 4 (Ac h)) 4)) 0 ([]:LX)
def Hs:=Agd Ags
end Go.Pl
