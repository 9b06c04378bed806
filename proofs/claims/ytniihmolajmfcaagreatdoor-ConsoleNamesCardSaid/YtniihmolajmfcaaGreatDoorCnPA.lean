/- A part of a proof (see the text that ends in Proof). No conditions. -/
import Derived.Test.YtniihmolajmfcaaGreatDoorCnBA
set_option linter.unusedVariables false
namespace Go.Pl
open Go Go.Lv
abbrev Jz3(R:Type):=Int->Int->Int->R
abbrev Jz4(R:Type):=Int->Int->Int->Int->R
abbrev Jz5(R:Type):=Int->Int->Int->Int->Int->R
abbrev Jz6(R:Type):=Int->Int->Int->Int->Int->Int->R
abbrev Jz7(R:Type):=Int->Int->Int->Int->Int->Int->Int->R
abbrev Jz8(R:Type):=Int->Int->Int->Int->Int->Int->Int->Int->R
abbrev Jz9(R:Type):=Int->Int->Int->Int->Int->Int->Int->Int->Int->R
abbrev Jz10(R:Type):=Int->Int->Int->Int->Int->Int->Int->Int->Int->Int->R
abbrev Jz11(R:Type):=Int->Int->Int->Int->Int->Int->Int->Int->Int->Int->Int->R
abbrev LB:=List UInt8
abbrev LI:=List Int
abbrev LX:=List Int32
abbrev LU:=List UInt32
abbrev LQ:=List UInt64
abbrev Alf:=List LB
abbrev Anr:=Int->LB->Option (LB)
abbrev Amn:=Bool->Option Int
abbrev Ale:=Option Int
abbrev Alx:=List (LB×LB×Unit)
abbrev Am8:=List LI
abbrev Alm:=List (UInt8×Int×Unit)
variable(c e:LB)(l:LI)(z d j C E M y8 Akb Akc Akd Akv:Int)(I:LI)(B:LX)(Ake:LI)(i o9:LB)(A U Z Aj1 Aj2:Int)(Akj:LI)(Aj3:Int)(P:LB)(D:Bool)(G o7:Int)(Akl:LI)(Y:LB)(Aky:LI)(R:LX)(O:Alf)(l5:LB)(Akf:Bool)(p8 Aj9:Int)(J:UInt8)(L T Akz Ak0 Ak1 Ak2:Int)(Ak3:Alf)(Ak4 Ak5 Ak6:Int)(w9:LB)(Akg:Bool)(Ak7:Int)(Akm:LB)(Aka:LX)(Akn:LB)(Ak8:Bool)(Ak9:Int)(Ala:LB)(Akw:Alf)(Aj4:LB->Option (LB))(Aj5:Anr)(Ako Akp:Int)(F:UInt64)(l6:Int)(o8:LB)(V:UInt32)(l7:UInt64)(Akk:LB)(q9 Alb Alc:Int)(Akx Ald:UInt64)(N:Int32)(Aj6:Int)(y5 r9:LX)(y9:Int32)(Akh:Alf)(y7:Int)(Aj0:LB)(l8:LU)(Aj7 Aj8:Int)(Akq:LX)(Akr:LQ)(X:Amn)(p9:Bool)(Aki:Int)(Aks:Ale)(Akt:Bool)(q8:Alx)(Aku:Am8)(l9:Alm)
def Ij:LB->UInt8->Int
|[],_=> -1
|b::l,c=>if(b==c)=true then 0 else if(Ij l c== -1)=true then -1 else Ij l c+1
def strings_Index:Ale:=match e with
|[z]=>some (Ij c z)
|_=>none
def stringslite_IndexByte:Ale:=some (Ij c J)
def Db:Ale:=(stringslite_IndexByte c J).bind λz=>some z
def Qk:Nat->LB->List LB
|0,_=>[]
|_+1,[]=>[]
|q+1,c::s=>if Bn (Ij (c::s) 10) 0=true then [c::s]else(c::s).take ((Ij (c::s) 10).toNat+1)::Qk q ((c::s).drop ((Ij (c::s) 10).toNat+1))
def DQ:Nat->LB->List LB
|0,_=>[]
|z+1,c=>if Bn (Ij c J) 0=true then [c]else c.take (Ij c J).toNat::DQ z (c.drop ((Ij c J).toNat+1))
def DI:LB->List LB
|[]=>[]
|[a]=>[[a]]
|a::b::r=>[a,b]::DI r
abbrev Ang:=Option (List LB)
def S2:Ang:=Option.bind (Dl (decide (Ac c<=17179869184))) λ_=>some (Qk (c.length+1) c)
def Q6:Ang:=Option.bind (Dl (decide (Ac w9<=17179869184))) λ_=>some (DQ J (w9.length+1) w9)
def R8:Ang:=Option.bind (Dl (decide (Ac c<=17179869184))) λ_=>some (DI c)
def dgt:Nat->Nat->LB->LB
|0,_,a=>a
|q+1,n,a=>if n<10 then UInt8.ofNat (48+n)::a else dgt q (n/10) (UInt8.ofNat (48+n %10)::a)
def strconv_Itoa:Option LB:=if decide (-9223372036854775808<=z/\z<=9223372036854775807)=true then some (if z<0 then 45::dgt 20 z.natAbs []else dgt 20 z.toNat [])else none
abbrev Alk:=Option (LB)
def Aj:Alk:=(strconv_Itoa z).bind λc=>(Az ([101,114,114,111,114,32]:LB) c).bind λd=>some d
def Ag2:Alk:=(Dl (decide (Ac c<=17179869184))).bind λ_=>some c
def TH:=Ag2
def TM:Alk:=if(Bn q9 (Ac o8))then(Ae o8 q9).bind λz=>(Ae ([48,49,50,51,52,53,54,55,56,57,97,98,99,100,101,102]:LB) (GI.toZ (Da z (GI.toZ (4:UInt64)).toNat))).bind λc=>(Az Aj0 ([c]:LB)).bind λd=>(Ae ([48,49,50,51,52,53,54,55,56,57,97,98,99,100,101,102]:LB) (GI.toZ (Ef z 15))).bind λe=>(Az d ([e]:LB)).bind λi=>Aj5 (Ad q9 1) i
else
Aj4 Aj0
def AE:Nat->Int->LB->Option (LB)
|0,_,_=>none
|z+1,d,e=>TM TH (AE z) c d e
def Aev a:=AE a Bu
abbrev Amy:=LB->Int->LB->Option (LB)
def PA(j4:Amy)(a:LB)(h:Int):Alk:=if(Ax h 0)then(Aj h).bind λp=>some p
else
j4 a 0 ([]:LB)
def Fq:=PA Aev
abbrev Alg:=Option Bool
def Jh:Alg:=some (c==e)
def Jz:Alg:=if(Dy (Ac c) (Ac e))then(Bm c 0 (Ac e)).bind λz=>(Jh z e).bind λd=>some d
else
some false
abbrev Ga:=Option (Int×Int)
def Aaf:Ga:=some (z,0)
def HR:=Aaf
def FI(j6:Int->Ga)(Vt:Int->Int->Ga)(a:LB)(b f:Int):Ga:=if(Bn f (Ac a))then(Ae a f).bind λg=>if(Cx g 127)then
some (0,12)
else
Vt (ig (Gg b (GI.toZ (7:UInt64)).toNat) (Aq g:Int)) (Ad f 1)
else
j6 b
def So:Nat->Int->Int->Ga
|0,_,_=>none
|z+1,d,e=>FI HR (So z) c d e
def fA a:=So a Bu
def HI(j4:LB->Int->Int->Ga)(a:LB):Ga:=if(Ax (Ac a) 4)then
some (0,2)
else
j4 a 0 0
def XK:=HI fA
abbrev El:=Option (Int×Int)
def Acv:El:=if(Cx L 4000)then
some (0,4)
else
if(Bn (Ac c) L)then
some (0,24)
else
if(geq J 16)then(Bm c (Ar L 10) L).bind λz=>(Bm z 0 3).bind λd=>if(d !=([51,68,73]:LB))then
some (0,12)
else(Bm z 3 (Ac z)).bind λe=>(Bm c 3 10).bind λi=>(Jh e i).bind λj=>if(!j)then
some (0,12)
else
some (L,0)
else
some (L,0)
def Acm:=Acv
def Adb(j8:LB->UInt8->Int->El)(a:LB)(g:Int)(b:UInt8):El:=if(geq b 16)then
j8 a b (Ad (Ad g 10) 10)
else
j8 a b (Ad g 10)
def Adt:=Adb Acm
def Abz(j7:LB->Int->UInt8->El)(a:LB)(g:Int)(b:UInt8)(m:Bool):El:=if m then
some (0,12)
else
j7 a g b
def LY:=Abz Adt
def OA(j6:LB->Int->UInt8->Bool->El)(a:LB)(f b:UInt8):El:=(Bm a 6 10).bind λaa=>(XK aa).bind λ(g,ab)=>if(Ax ab 0)then
if true then
j6 a g b true
else
if(geq b 0)then
j6 a g b (!((Dy f 2)&&(IV f 4)))
else
if(geq b 16)then
j6 a g b (!(geq f 4))
else
j6 a g b (!false)
else(Ae a 4).bind λac=>if(Ax ac 0)then
j6 a g b true
else
if(geq b 0)then
j6 a g b (!((Dy f 2)&&(IV f 4)))
else
if(geq b 16)then
j6 a g b (!(geq f 4))
else
j6 a g b (!false)
def MU:=OA LY
def Vg(j5:LB->UInt8->UInt8->El)(a:LB):El:=(Jz a ([(73:UInt8),(68:UInt8),(51:UInt8)]:LB)).bind λn=>if(!n)then
some (0,6)
else
if(Bn (Ac a) 10)then
some (0,24)
else(Ae a 3).bind λf=>(Ae a 5).bind λb=>(
(
(
j5 a f b)))
def aZ:=Vg MU
abbrev Og:=Option (UInt64×Int)
def G7:Og:=some (F,0)
def kF:=G7
def kK(j6:UInt64->Og)(Vt:UInt64->Int->Og)(a:LB)(f:UInt64)(b:Int):Og:=if(Bn b (Ac a))then(Ae a b).bind λg=>(Dl (Dy (Ct 8 b) 0)).bind λ_=>Vt (ig f (Gg (Aq g:UInt64) (GI.toZ (Ct 8 b)).toNat)) (Ad b 1)
else
j6 f
def OV:Nat->UInt64->Int->Og
|0,_,_=>none
|z+1,d,e=>kK kF (OV z) c d e
def K9 a:=OV a Bu
def lA(j4:LB->UInt64->Int->Og)(a:LB):Og:=if((Bn (Ac a) 1)||(Cx (Ac a) 8))then
some (0,2)
else
j4 a 0 0
def pW:=lA K9
abbrev Ams:=Option (UInt64×Int)
def tU:Ams:=if(((Bn d 1)||(Cx d 8))||(Bn z 0))then
some (0,2)
else
if(Cx z (Ar (Ac c) d))then
some (0,24)
else(Bm c z (Ad z d)).bind λe=>(pW e).bind λ(i,j)=>some (i,j)
def jy:Alg:=if(geq l6 8)then
some true
else(Dl (Dy (Ct 8 l6) 0)).bind λ_=>some (geq (Da F (GI.toZ (Ct 8 l6)).toNat) 0)
abbrev Of:=Option (LB×Int)
def K1:Of:=some (c,0)
def jW:=K1
def kH(j6:LB->Of)(Vt:Int->LB->Of)(f:UInt64)(g:LB)(a:Int)(b:LB):Of:=if(Bn a (Ac g))then(Dl (Dy (Ct 8 a) 0)).bind λ_=>(Ae b a).bind λ_=>(La b a (Aq (Da f (GI.toZ (Ct 8 a)).toNat):UInt8)).bind λk=>Vt (Ad a 1) k
else
j6 b
def RZ:Nat->Int->LB->Of
|0,_,_=>none
|z+1,c,d=>kH jW (RZ z) F o8 c d
def K3 f g:=RZ f g Bu
def kM(j4:UInt64->LB->Int->LB->Of)(f:UInt64)(h:Int):Of:=if((Bn h 1)||(Cx h 8))then
some (([]:LB),2)
else(jy f h).bind λm=>if(!m)then
some (([]:LB),16)
else(V5 h (0:UInt8)).bind λg=>(Dl (geq h h)).bind λ_=>j4 f g 0 g
def Ic:=kM K3
def S8:Alk:=some c
def rR:=S8
def sA:Alk:=if(Bn l6 (Ac ([(2000:UInt64),(Aq (Ad Ako 32):UInt64),(Aq Akp:UInt64),F,(0:UInt64),(0:UInt64)]:LQ)))then(Ae ([(2000:UInt64),(Aq (Ad Ako 32):UInt64),(Aq Akp:UInt64),F,(0:UInt64),(0:UInt64)]:LQ) l6).bind λ_=>(Ae ([(2000:UInt64),(Aq (Ad Ako 32):UInt64),(Aq Akp:UInt64),F,(0:UInt64),(0:UInt64)]:LQ) l6).bind λz=>(Ic z 4).bind λ(c,d)=>(Az o8 c).bind λe=>Aj5 (Ad l6 1) e
else
Aj4 o8
def aJ:Nat->Int->LB->Option (LB)
|0,_,_=>none
|c+1,e,i=>sA rR (aJ c) z d F e i
def Q7 a b f:=aJ a b f Bu
def uB(j4:Int->Int->UInt64->Int->LB->Option (LB))(a b:Int)(f:UInt64):Alk:=j4 a b f 0 ([(65:UInt8),(80:UInt8),(69:UInt8),(84:UInt8),(65:UInt8),(71:UInt8),(69:UInt8),(88:UInt8)]:LB)
def nZ:=uB Q7
def VD:Option (Int×Int×Bool):=(tU c 12 4).bind λ(z,d)=>(tU c 16 4).bind λ(e,i)=>if(((Bn z 32)||(Cx z 3032))||(Cx e 1000))then
some (0,0,false)
else(nZ (Ar (Aq z:Int) 32) (Aq e:Int) F).bind λj=>(Jh c j).bind λl=>some ((Ar (Aq z:Int) 32),(Aq e:Int),l)
abbrev Aly:=Option (Int×Int)
def xK:Aly:=(Jz c ([(65:UInt8),(80:UInt8),(69:UInt8),(84:UInt8),(65:UInt8),(71:UInt8),(69:UInt8),(88:UInt8)]:LB)).bind λz=>if(!z)then
some (0,6)
else
if(Bn (Ac c) 32)then
some (0,24)
else(Bm c 0 32).bind λd=>(VD d 2684354560).bind λ(e,i,j)=>if(!j)then
some (0,12)
else
if(Bn (Ac c) (Ad e 64))then
some (0,24)
else(Bm c (Ar (Ad e 64) 32) (Ad e 64)).bind λl=>(nZ e i 2147483648).bind λA=>(Jh l A).bind λB=>if(!B)then
some (0,12)
else
some ((Ad e 64),0)
def Td:Aly:=(aZ c).bind λ(z,d)=>if(Ax d 6)then
some (z,d)
else(xK c).bind λ(e,i)=>some (e,i)
def Ug(b:List UInt8):Nat->Int->Option (Int×Int)
  |0,_=>none
  |q+1,x=>Option.bind (Bm b x (Ac b)) λs=>Option.bind (Td s) λr=>
    if geq r.2 (6:Int)=true then some (x,0)
    else if(geq r.2 (0:Int)&&Cx (Ad x r.1) (4000:Int))=true then some (0,4)
    else if Ax r.2 (0:Int)=true then some (0,r.2)
    else Ug b q (Ad x r.1)
def Er(b:List UInt8):Aly:=Ug b Bu 0
def Ip:Alg:=if(Dy (Ac c) (Ac e))then(Bm c 0 (Ac e)).bind λz=>some (z==e)
else
some false
def Qe:Alg:=(Ip c e).bind λz=>some z
abbrev Bk:=Option (UInt32×Int)
def Aek:Bk:=some (V,0)
def QC:=Aek
def TF(j30:UInt32->Bk)(zL:UInt32->Int->Bk)(a:LB)(b:LU)(h:UInt32)(m:Int):Bk:=if(Bn m (Ac a))then(Ae a m).bind λp=>(Ae b (GI.toZ (ZV (Aq h:UInt8) p))).bind λ_=>(Ae b (GI.toZ (ZV (Aq h:UInt8) p))).bind λu=>zL (ZV (Da h (GI.toZ (8:UInt64)).toNat) u) (Ad m 1)
else
j30 h
def Yd:Nat->UInt32->Int->Bk
|0,_,_=>none
|z+1,d,e=>TF QC (Yd z) c l8 d e
def RC a b:=Yd a b Bu
def QN(j28:LB->LU->UInt32->Int->Bk)(f:UInt32)(a:LB)(b:LU):Bk:=j28 a b f 0
def Aem:=QN RC
def QG(j27:UInt32->LB->LU->Bk)(f:UInt32)(a:LB)(b:LU):Bk:=j27 f a b
def Af3:=QG Aem
abbrev An0:=Int->LU->Bk
def Aeb(Ez:An0)(f:UInt32)(a:LB)(g:Int)(o:LU):Bk:=Ez (Ad g 1) o
def Ags Ez:=Aeb Ez
def Afr(j24:An0)(f:UInt32)(a:LB)(g:Int)(k:UInt32)(b:LU):Bk:=(Ae b g).bind λ_=>(La b g k).bind λo=>j24 g o
def QM Ez f a:=Afr (Ags Ez f a) f a
def PU(j23:Int->UInt32->LU->Bk)(DW:UInt32->Int->Bk)(f:UInt32)(a:LB)(g:Int)(b:LU)(k:UInt32)(n:Int):Bk:=if(Bn n 8)then
DW (ZV (Da k (GI.toZ (1:UInt64)).toNat) (Ct 3988292384 (Ef k 1))) (Ad n 1)
else
j23 g k b
def Xk(Ez:An0)(f:UInt32)(a:LB)(g:Int)(b:LU):Nat->UInt32->Int->Bk
|0,_,_=>none
|q+1,k,n=>PU (QM Ez f a) (Xk Ez f a g b q) f a g b k n
def OW Ez f a g b:=Xk Ez f a g b Bu
def TG(j21:Int->LU->UInt32->Int->Bk)(j26:UInt32->LB->LU->Bk)(f:UInt32)(a:LB)(g:Int)(b:LU):Bk:=if(Bn g 256)then
j21 g b (Aq g:UInt32) 0
else
j26 f a b
def Xh:Nat->Int->LU->Bk
|0,_,_=>none
|z+1,c,d=>TG (OW (Xh z) V Akk) Af3 V Akk c d
def Aeh f a:=Xh f a Bu
def XI(j16:UInt32->LB->Int->LU->Bk)(f:UInt32)(a:LB):Bk:=if(Cx (Ac a) 100000)then
some (0,4)
else
j16 f a 0 (List.replicate 256 (0:UInt32))
def uR:=XI Aeh
def Sp:Option (UInt32×Int):=(uR 4294967295 c).bind λ(z,d)=>if(Ax d 0)then
some (0,d)
else
some ((F! z),0)
def Aac(b f a g h:Int):Alg:=some (((((((geq b 1)||(geq b 2))&&(Cx f 0))&&(IV f 6))&&(Cx g 0))&&(IV g 1048576))&&(Cx h 0))
def Aai:=Aac
def Aa5(j2:Jz5 (Option Bool))(b f a g h:Int):Alg:=if(geq a 8)then
if(geq a 8)then
j2 b f a g h
else
some false
else
if(geq a 16)then
if(geq a 16)then
j2 b f a g h
else
some false
else
if(geq a 24)then
j2 b f a g h
else
some false
def CJ:=Aa5 Aai
def Lj:Aly:=if((Bn z 1)||(Cx z 1048576))then
some (0,2)
else
some ((vV 1 (Fk (Ct 256 z) 245)),0)
def Mr:Aly:=(Lj z).bind λ(c,e)=>if(Ax e 0)then
some (0,e)
else
if((Bn d 1)||(Cx d 4000))then
some (0,2)
else(Dl (Ax c 0)).bind λ_=>if(Cx (Fk (Ar (Ad d c) 1) c) 1000)then
some (0,4)
else
some ((Fk (Ar (Ad d c) 1) c),0)
def TO(k a m f b:Int):Alg:=(Dl (Ax a 0)).bind λ_=>if(Cx b (Fk 4000 a))then
some false
else(Mr f b).bind λ(g,h)=>some ((geq h 0)&&(IV g 1000))
abbrev Hx:=Option (Int×Int×Int×Int×Int×Int)
def Ah0:Hx:=(Ae l 0).bind λ_=>(Ae l 0).bind λz=>(Ae l 1).bind λ_=>(Ae l 1).bind λc=>(Ae l 2).bind λ_=>(Ae l 2).bind λd=>(Ae l 3).bind λ_=>(Ae l 3).bind λe=>(Ae l 4).bind λ_=>(Ae l 4).bind λi=>(CJ z c d e i).bind λj=>if(!j)then
some (0,0,0,0,0,12)
else(TO z c d e i).bind λA=>if(!A)then
some (0,0,0,0,0,4)
else
some (z,c,d,e,i,0)
def PJ:=Ah0
def PM(j6:LI->Hx)(Vt:Int->Int->LI->Hx)(b:LB)(g f:Int)(a:LI):Hx:=if(Bn f 5)then(Ae ([(2:Int),(2:Int),(2:Int),(4:Int),(4:Int)]:LI) f).bind λh=>(tU b g h).bind λ(v,ae)=>(Ae a f).bind λ_=>(La a f (Aq v:Int)).bind λw=>Vt (Ad g h) (Ad f 1) w
else
j6 a
def Xg:Nat->Int->Int->LI->Hx
|0,_,_,_=>none
|z+1,d,e,i=>PM PJ (Xg z) c d e i
def Aet b:=Xg b Bu
def SU(j4:LB->Int->Int->LI->Hx)(b:LB):Hx:=(Bm b 0 (Eg 4 (Ac b))).bind λy=>(Qe ([84,84,65,49]:LB) y).bind λaa=>if(!aa)then
some (0,0,0,0,0,12)
else
if(Bn (Ac b) 22)then
some (0,0,0,0,0,24)
else(tU b 18 4).bind λ(ab,af)=>(Bm b 0 18).bind λac=>(Sp ac).bind λ(ad,ag)=>if(Ax (Aq ad:UInt64) ab)then
some (0,0,0,0,0,22)
else
j4 b 4 0 (List.replicate 5 (0:Int))
def Hk:=SU Aet
abbrev Bl:=Option (UInt64×Int)
def Afu:Bl:=some (F,0)
def Afy:=Afu
def Ae4(j30:UInt64->Bl)(h b:UInt64)(a:LB)(f:LQ):Bl:=j30 h
def SC:=Ae4 Afy
def QP(j29:UInt64->UInt64->LB->LQ->Bl)(Tv:UInt64->Int->Bl)(a:LB)(b:UInt64)(f:LQ)(h:UInt64)(m:Int):Bl:=if(Bn m (Ac a))then(Ae a m).bind λp=>Option.bind (Ae f (GI.toZ (ZV (Aq (Da h (GI.toZ (56:UInt64)).toNat):UInt8) p))) λ_=>Option.bind (Ae f (GI.toZ (ZV (Aq (Da h (GI.toZ (56:UInt64)).toNat):UInt8) p))) λu=>Tv (ZV (Gg h (GI.toZ (8:UInt64)).toNat) u) (Ad m 1)
else
j29 h b a f
def Xt:Nat->UInt64->Int->Bl
|0,_,_=>none
|z+1,d,e=>QP SC (Xt z) c F Akr d e
def QB a b f:=Xt a b f Bu
def PB(j27:LB->UInt64->LQ->UInt64->Int->Bl)(b:UInt64)(a:LB)(f:LQ):Bl:=j27 a b f b 0
def Ag1:=PB QB
abbrev An1:=Int->LQ->Bl
def Ae1(Ez:An1)(b:UInt64)(a:LB)(g:Int)(o:LQ):Bl:=Ez (Ad g 1) o
def Aej Ez:=Ae1 Ez
def Aec(j24:An1)(b:UInt64)(a:LB)(g:Int)(k:UInt64)(f:LQ):Bl:=(Ae f g).bind λ_=>(La f g k).bind λo=>j24 g o
def PX Ez b a:=Aec (Aej Ez b a) b a
def OR(j23:Int->UInt64->LQ->Bl)(DW:UInt64->Int->Bl)(b:UInt64)(a:LB)(g:Int)(f:LQ)(k:UInt64)(n:Int):Bl:=if(Bn n 8)then
DW (ZV (Gg k (GI.toZ (1:UInt64)).toNat) (Ct 4823603603198064275 (Da k (GI.toZ (63:UInt64)).toNat))) (Ad n 1)
else
j23 g k f
def Yu(Ez:An1)(b:UInt64)(a:LB)(g:Int)(f:LQ):Nat->UInt64->Int->Bl
|0,_,_=>none
|q+1,k,n=>OR (PX Ez b a) (Yu Ez b a g f q) b a g f k n
def UC Ez b a g f:=Yu Ez b a g f Bu
def QV(j21:Int->LQ->UInt64->Int->Bl)(j26:UInt64->LB->LQ->Bl)(b:UInt64)(a:LB)(g:Int)(f:LQ):Bl:=if(Bn g 256)then
j21 g f (Gg (Aq g:UInt64) (GI.toZ (56:UInt64)).toNat) 0
else
j26 b a f
def Zk:Nat->Int->LQ->Bl
|0,_,_=>none
|z+1,c,d=>QV (UC (Zk z) F o8) Ag1 F o8 c d
def Af4 b a:=Zk b a Bu
def XW(j16:UInt64->LB->Int->LQ->Bl)(b:UInt64)(a:LB):Bl:=if(Cx (Ac a) 100000)then
some (0,4)
else
j16 b a 0 (List.replicate 256 (0:UInt64))
def tS:=XW Af4
def gJ:Ams:=(tS 0 c).bind λ(z,d)=>some (z,d)
def xL:Ams:=if(Cx (Ac c) 64)then
some (0,2)
else(gJ c).bind λ(z,d)=>some (z,0)
abbrev Al5:=Option (LB×Int)
def KF:Al5:=(xL c).bind λ(z,d)=>if(Ax d 0)then
some (([]:LB),d)
else(Ic z 8).bind λ(e,i)=>some (e,i)
abbrev Anc:=Option (Bool×Int)
def Rh:Anc:=(KF e).bind λ(z,d)=>if((Ax d 0)||(Ax (Ac c) (Ac z)))then
some (false,2)
else(Jh c z).bind λi=>some (i,0)
def IW:Ale:=(CJ z d j C E).bind λc=>if(!c)then
some 8
else(TO z d j C E).bind λe=>if(!e)then
some 8
else
some 0
abbrev Anl:=Option (UInt64×UInt64)
def NI:Anl:=some ((Ad (Ad (Ct (Da F (GI.toZ (32:UInt64)).toNat) (Da l7 (GI.toZ (32:UInt64)).toNat)) (Da (Ad (Ct (Da F (GI.toZ (32:UInt64)).toNat) (Ef l7 4294967295)) (Da (Ct (Ef F 4294967295) (Ef l7 4294967295)) (GI.toZ (32:UInt64)).toNat)) (GI.toZ (32:UInt64)).toNat)) (Da (Ad (Ef (Ad (Ct (Da F (GI.toZ (32:UInt64)).toNat) (Ef l7 4294967295)) (Da (Ct (Ef F 4294967295) (Ef l7 4294967295)) (GI.toZ (32:UInt64)).toNat)) 4294967295) (Ct (Ef F 4294967295) (Da l7 (GI.toZ (32:UInt64)).toNat))) (GI.toZ (32:UInt64)).toNat)),(Ct F l7))
def YA:Anl:=(NI F l7).bind λ(z,c)=>some (z,c)
abbrev Al3:=Option (LI)
def AG:Al3:=some l
def Lr:=AG
abbrev Am5:=Int->LI->Option (LI)
def Hs(j10:LI->Option (LI))(E8:Am5)(b:Int)(a:LI):Al3:=if(Bn b (Ac a))then(
(vL (Ac a) b (Ac a)).bind λ_=>(vL (Ac a) 0 b).bind λ_=>E8 (Ad b (XS ((Ac a)-b) (SG a 0 (b-(0:Int))).length)) (Nr a b ((Ac a)-b) (SG a 0 (b-(0:Int)))))
else
j10 a
def Hw:Nat->Int->LI->Option (LI)
|0,_,_=>none
|q+1,b,a=>Hs Lr (Hw q) b a
def DO:=Hw Bu
def Na(j8:Am5)(f:LI)(g:UInt64):Al3:=(V5 (Aq g:Int) (0:Int)).bind λk=>(Dl (geq (Aq g:Int) (Aq g:Int))).bind λ_=>j8 (XS (Ac k) f.length) (uN k f)
def DG:=Na DO
def Ml(j7:LI->UInt64->Option (LI))(f:LI)(h:Int):Al3:=(YA (Aq (Ac f):UInt64) (Aq h:UInt64)).bind λ(m,g)=>if((Cx m 0)||(Cx g 9223372036854775807))then
none
else
j7 f g
def DT:=Ml DG
def Mz(j6:LI->Int->Option (LI))(f:LI)(h:Int):Al3:=if(Bn h 0)then
none
else
j6 f h
def Se:=Mz DT
def AI:Al3:=some l
def Lz:=AI
def Ls(j16:LI->Option (LI))(Tw:Am5)(a:Am8)(g:Int)(f:LI):Al3:=if(Bn g (Ac a))then(Ae a g).bind λn=>(Az f n).bind λo=>Tw (Ad g 1) o
else
j16 f
def He:Nat->Int->LI->Option (LI)
|0,_,_=>none
|z+1,c,d=>Ls Lz (He z) Aku c d
def Lw a:=He a Bu
def Lt(j14:(List LI)->Int->LI->Option (LI))(a:Am8)(p:LI):Al3:=j14 a 0 p
def AJ:=Lt Lw
def Lu(j13:(List LI)->LI->Option (LI))(b:Int)(a:Am8):Al3:=if(Cx (Ar b (Ar (0:Int) (0:Int))) 0)then(vL 0 0 0).bind λ_=>(V5 (Ar b (Ar (0:Int) (0:Int))) (0:Int)).bind λu=>(Az ([]:LI) u).bind λk=>(vL (Ac k) 0 0).bind λ_=>j13 a (SG k 0 ((0:Int)-(0:Int)))
else
j13 a ([]:LI)
def AH:=Lu AJ
def Ma(j12:Int-> (List LI)->Option (LI))(a:Am8)(b:Int):Al3:=if(Bn b 0)then
none
else
j12 b a
def AF:=Ma AH
def Mo(j11:(List LI)->Int->Option (LI))(bk9:Int->Int->Option (LI))(a:Am8)(b h:Int):Al3:=if(Bn h (Ac a))then(Ae a h).bind λm=>if(Bn (Ad b (Ac m)) 0)then
none
else
bk9 (Ad b (Ac m)) (Ad h 1)
else
j11 a b
def Ht:Nat->Int->Int->Option (LI)
|0,_,_=>none
|z+1,c,d=>Mo AF (Ht z) Aku c d
def CV a:=Ht a Bu
def Mw(j9:(List LI)->Int->Int->Option (LI))(a:Am8):Al3:=j9 a 0 0
def Rz:=Mw CV
def RD:Al3:=(Rz ([l,I]:Am8)).bind λz=>some z
def jZ:Option (LI×Int):=(Mr z d).bind λ(c,e)=>if(Ax e 0)then
some (([]:LI),e)
else(Lj z).bind λ(i,j)=>(Se ([i]:LI) (Ar c 1)).bind λl=>(RD l ([(Ar d (Ct (Ar c 1) i))]:LI)).bind λA=>some (A,0)
def Cd:Option (LI×Int):=(IW z d j C E).bind λc=>if(Ax c 0)then
some (([]:LI),c)
else(jZ C E).bind λ(e,i)=>some (e,i)
def Agi:Ale:=some 0
def UW:=Agi
abbrev Ans:=Int->Int->Option Int
def UK(j6:Ale)(Vt:Ans)(a:LI)(f b:Int):Ale:=if(Bn b (Ac a))then(Ae a b).bind λg=>if((Bn g 5)||(Cx g f))then
some 8
else
Vt (Ar f g) (Ad b 1)
else
j6
def Yg:Nat->Int->Int->Option Int
|0,_,_=>none
|z+1,c,d=>UK UW (Yg z) l c d
def Ag4 a:=Yg a Bu
abbrev Anh:=LI->Int->Int->Option Int
def SO(j4:Anh)(a:LI):Ale:=if((geq (Ac a) 0)||(Cx (Ac a) 1000))then
some 8
else
j4 a 100000 0
def Ps:=SO Ag4
abbrev Jp:=Option (LI×Int)
def Aib:Jp:=(Ps l).bind λz=>if(Ax z 0)then
some (([]:LI),12)
else
some (l,0)
def WT:=Aib
def XJ(j6:LI->Jp)(Vt:Int->LI->Jp)(a:LB)(f:LI)(g:Int)(b:LI):Jp:=if(Bn g (Ac f))then(tU a (Ct 4 g) 4).bind λ(k,u)=>(Ae b g).bind λ_=>(La b g (Aq k:Int)).bind λm=>Vt (Ad g 1) m
else
j6 b
def CY:Nat->Int->LI->Jp
|0,_,_=>none
|z+1,d,e=>XJ WT (CY z) c l d e
def Ahy a f:=CY a f Bu
def YC(j4:LB->LI->Int->LI->Jp)(a:LB)(h:Int):Jp:=if((Bn h 1)||(Cx h 1000))then
some (([]:LI),2)
else
if(Bn (Ac a) (Ad (Ct 4 h) 4))then
some (([]:LI),24)
else(tU a (Ct 4 h) 4).bind λ(n,v)=>(Bm a 0 (Ct 4 h)).bind λo=>(Sp o).bind λ(p,w)=>if(Ax (Aq p:UInt64) n)then
some (([]:LI),22)
else(V5 h (0:Int)).bind λf=>(Dl (geq h h)).bind λ_=>j4 a f 0 f
def Ti:=YC Ahy
abbrev CO:=Option (Int×Int×Int×Int×Int×Int×LI×Int)
def Af2:CO:=(Cd z d j C E).bind λ(e,i)=>if(Ax i 0)then
some (0,0,0,0,0,0,([]:LI),i)
else(Bm c M (Ac c)).bind λl=>(Ti l (Ac e)).bind λ(A,B)=>if(Ax B 0)then
some (0,0,0,0,0,0,([]:LI),B)
else
some (z,d,j,C,E,(Ad (Ad M (Ct 4 (Ac A))) 4),A,0)
def Afj:=Af2
def Aea(j2:LB->Jz6 CO)(a n:LB):CO:=if(Cx (Ac n) 64)then
some (0,0,0,0,0,0,([]:LI),2)
else
if(Cx (Ac a) 100000)then
some (0,0,0,0,0,0,([]:LI),4)
else(Er a).bind λ(f,w)=>if(Ax w 0)then
some (0,0,0,0,0,0,([]:LI),w)
else(Bm a f (Ac a)).bind λad=>(Hk ad).bind λ(b,g,h,k,m,y)=>if(Ax y 0)then
some (0,0,0,0,0,0,([]:LI),y)
else
if((n==([]:LB)) !=(geq b 1))then
some (0,0,0,0,0,0,([]:LI),26)
else
if(n !=([]:LB))then
if(Bn (Ac a) (Ad (Ad f 22) 8))then
some (0,0,0,0,0,0,([]:LI),24)
else(Bm a (Ad f 22) (Ad (Ad f 22) 8)).bind λae=>(Rh ae n).bind λ(af,aa)=>if(Ax aa 0)then
some (0,0,0,0,0,0,([]:LI),aa)
else
if(!af)then
some (0,0,0,0,0,0,([]:LI),26)
else
j2 a b g h k m (Ad (Ad f 22) 8)
else
j2 a b g h k m (Ad f 22)
def Gl:=Aea Afj
def OT:Option (Int×Int×Int×Int×Int×Int×Int×Int×Int×Int×LI×Int):=if(Cx (Ac c) 100000)then
some (0,0,0,0,0,0,0,0,0,0,([]:LI),4)
else(Er c).bind λ(z,d)=>if(Ax d 0)then
some (0,0,0,0,0,0,0,0,0,0,([]:LI),d)
else(Bm c z (Ac c)).bind λe=>(Hk e).bind λ(i,j,l,A,B,C)=>if(Ax C 0)then
some (i,j,l,A,B,0,0,0,0,0,([]:LI),C)
else(Cd i j l A B).bind λ(D,E)=>if(geq i 2)then
some (i,j,l,A,B,z,(Ad z 22),(Ad (Ad z 22) 8),0,0,D,0)
else
some (i,j,l,A,B,z,(Ad z 22),(Ad z 22),0,0,D,0)
abbrev Anm:=Option (LX)
def X2:Anm:=some B
def pR:=X2
def vH(j6:LX->Option (LX))(Vt:Int->LX->Option (LX))(f:UInt64)(a:Int)(b:LX):Anm:=if(Bn a 8)then(Dl (Dy (Ct 8 a) 0)).bind λ_=>(Ae b a).bind λ_=>(La b a (Aq (Aq (Da f (GI.toZ (Ct 8 a)).toNat):Int8):Int32)).bind λg=>Vt (Ad a 1) g
else
j6 b
def ZF:Nat->Int->LX->Option (LX)
|0,_,_=>none
|z+1,c,d=>vH pR (ZF z) F c d
def X4 f:=ZF f Bu
def tT(j4:UInt64->Int->LX->Option (LX))(f:UInt64):Anm:=j4 f 0 (List.replicate 16 (0:Int32))
def Y4:=tT X4
abbrev Ani:=Option (LX×Int)
def Kj:Ani:=if(Cx (Ac c) 64)then
some (([(0:Int32),(0:Int32),(0:Int32),(0:Int32),(0:Int32),(0:Int32),(0:Int32),(0:Int32),(0:Int32),(0:Int32),(0:Int32),(0:Int32),(0:Int32),(0:Int32),(0:Int32),(0:Int32)]:LX),2)
else(gJ c).bind λ(z,d)=>if(Ax d 0)then
some (([(0:Int32),(0:Int32),(0:Int32),(0:Int32),(0:Int32),(0:Int32),(0:Int32),(0:Int32),(0:Int32),(0:Int32),(0:Int32),(0:Int32),(0:Int32),(0:Int32),(0:Int32),(0:Int32)]:LX),d)
else(Y4 z).bind λe=>some (e,0)
abbrev DF:=Option (Int32×Int32×Int)
def Aeg:DF:=if D then(Dl (Dy (Ar z 1) 0)).bind λ_=>some ((qm (Gg (1:Int32) (GI.toZ (Ar z 1)).toNat)),(Ar (Gg (1:Int32) (GI.toZ (Ar z 1)).toNat) 1),0)
else
some (0,0,2)
def Agy:=Aeg
def Afz(j2:Int->Bool->DF)(a:Int):DF:=if(geq a 8)then
j2 a (geq a 8)
else
if(geq a 16)then
j2 a (geq a 16)
else
j2 a (geq a 24)
def CB:=Afz Agy
def Ki:Ale:=(CB d).bind λ(c,e,i)=>if(((Ax i 0)||(Bn z 1))||(Cx z 6))then
some 2
else
some 0
def RF:Al5:=if(Bn (Ac c) 5)then
some (([]:LB),24)
else
if(Cx (Ac c) 41254)then
some (([]:LB),4)
else(Bm c 0 (Ar (Ac c) 4)).bind λz=>(Sp z).bind λ(d,e)=>if(Ax e 0)then
some (([]:LB),e)
else(Bm c (Ar (Ac c) 4) (Ac c)).bind λi=>(pW i).bind λ(j,l)=>if((Ax l 0)||(Ax j (Aq d:UInt64)))then
some (([]:LB),22)
else(Bm c 0 (Ar (Ac c) 4)).bind λA=>some (A,0)
def Ca:Alk:=(
(Az ([]:LB) c).bind λz=>some z)
abbrev Anp:=Option (LB×Int×Int)
def lg:Anp:=if(Cx (Ac c) 41250)then
some (([]:LB),0,4)
else(Ca c).bind λz=>some (z,(Ct 8 (Ac c)),0)
def aK:Option (Int×Int×UInt64×UInt64):=some (10,10,16384,16384)
def Gy:Ale:=if(((Bn z 0)||(Cx z 330000))||(Ax (Ac c) (T7 (Ad z 7) (GI.toZ (3:UInt64)).toNat)))then
some 8
else
if(Cx (Ef z 7) 0)then(Ae c (Ar (Ac c) 1)).bind λd=>(Dl (Dy (Ef z 7) 0)).bind λ_=>if(Ax (Da d (GI.toZ (Ef z 7)).toNat) 0)then
some 8
else
some 0
else
some 0
abbrev Anw:=Option UInt64
def O0:Anw:=some F
def kS:=O0
def kO(j6:UInt64->Option UInt64)(Vt:UInt64->Int->Option UInt64)(b f:Int)(h:LB)(k:Int)(g:UInt64)(a:Int):Anw:=if(Bn a f)then(Ae h (T7 (Ad b a) (GI.toZ (3:UInt64)).toNat)).bind λm=>(Dl (Dy (Ef (Ad b a) 7) 0)).bind λ_=>(Dl (Dy (Eg (Ar f a) (Ar 8 (Ef (Ad b a) 7))) 0)).bind λ_=>(Dl (Dy a 0)).bind λ_=>Vt (ig g (Gg (Aq (Ef (Da m (GI.toZ (Ef (Ad b a) 7)).toNat) (Ar (Gg (1:UInt8) (GI.toZ (Eg (Ar f a) (Ar 8 (Ef (Ad b a) 7)))).toNat) 1)):UInt64) (GI.toZ a).toNat)) (Ad a (Eg (Ar f a) (Ar 8 (Ef (Ad b a) 7))))
else
j6 g
def RJ:Nat->UInt64->Int->Option UInt64
|0,_,_=>none
|c+1,e,j=>kO kS (RJ c) z d i A e j
def I2 b f h k:=RJ b f h k Bu
def jT(j4:Int->Int->LB->Int->UInt64->Int->Option UInt64)(h:LB)(k b f:Int):Anw:=j4 b f h k 0 0
def tW:=jT I2
abbrev Cz:=Option (LB×Int×Int)
def B9:Cz:=some (i,z,0)
def bV:=B9
abbrev Anj:=Int->Int->LB->Cz
def Ajj(Tv:Anj)(a:Int)(g:LB)(b f h:Int)(u:LB):Cz:=Tv (Ad f 64) h u
def aQ Tv:=Ajj Tv
abbrev Amz:=UInt64->Int->Int->LB->Cz
def Ajk(vK:Amz)(a f:Int)(g:LB)(b:Int)(m n:UInt64)(k h:Int)(w:LB):Cz:=(Dl (Dy (Eg k (Ar 8 (Ef h 7))) 0)).bind λ_=>vK (Da n (GI.toZ (Eg k (Ar 8 (Ef h 7)))).toNat) (Ar k (Eg k (Ar 8 (Ef h 7)))) (Ad h (Eg k (Ar 8 (Ef h 7)))) w
def A9 vK:=Ajk vK
def D8(j48:Amz)(a f:Int)(g:LB)(b:Int)(m n:UInt64)(k h:Int)(v:LB):Cz:=(Ae v (Ar (Ac v) 1)).bind λ_=>(Dl (Dy (Eg k (Ar 8 (Ef h 7))) 0)).bind λ_=>(Dl (Dy (Ef h 7) 0)).bind λ_=>(Ae v (Ar (Ac v) 1)).bind λaa=>(Ae v (Ar (Ac v) 1)).bind λ_=>Option.bind (La v (Ar (Ac v) 1) (ig aa (Gg (Aq (Ef n (Ar (Gg (1:UInt64) (GI.toZ (Eg k (Ar 8 (Ef h 7)))).toNat) 1)):UInt8) (GI.toZ (Ef h 7)).toNat))) λw=>j48 n k h w
def cT vK a f g b m:=D8 (A9 vK a f g b m) a f g b m
def cD(j47:Amz)(j50:Anj)(a:Int)(g:LB)(b f:Int)(m n:UInt64)(k h:Int)(u:LB):Cz:=if(Cx k 0)then
if(geq (Ef h 7) 0)then(Az u ([(0:UInt8)]:LB)).bind λab=>j47 n k h ab
else
j47 n k h u
else
j50 f h u
def JQ(Tv:Anj)(a:Int)(g:LB)(b f:Int)(m:UInt64):Nat->UInt64->Int->Int->LB->Cz
|0,_,_,_,_=>none
|q+1,n,k,h,u=>cD (cT (JQ Tv a g b f m q) a f g b m) (aQ Tv a g b) a g b f m n k h u
def dT Tv a g b f m:=JQ Tv a g b f m Bu
def dQ(j44:Int->UInt64->UInt64->Int->Int->LB->Cz)(j52:Int->LB->Cz)(a:Int)(g:LB)(b f o:Int)(p:LB):Cz:=if(Bn f a)then(tW g b f (Eg 64 (Ar a f))).bind λm=>j44 f m m (Eg 64 (Ar a f)) o p
else
j52 o p
def JI:Nat->Int->Int->LB->Cz
|0,_,_,_=>none
|c+1,d,e,j=>dQ (dT (JI c) z i A) bV z i A d e j
def Aip a g b:=JI a g b Bu
def kQ(j27:Int->LB->Jz3 (LB->Cz))(g:LB)(b y a:Int):Cz:=(Gy g b).bind λac=>if(Ax ac 0)then
some (([]:LB),0,8)
else
if(((Bn y 0)||(Cx y a))||(Cx a b))then
some (([]:LB),0,2)
else
j27 a g b y 0 ([]:LB)
def sL:=kQ Aip
def Ahm:Ale:=if(!((geq (Eg (vV z 0) 24) z)&&((geq (Eg (vV d 0) 24) d)&&((geq (Eg F 68719476735) F)&&((geq (Eg l7 68719476735) l7)&&true)))))then
some 8
else
some 0
def WR:=Ahm
abbrev Am0:=Int->Int->UInt64->UInt64->Option Int
def CR(j4:Am0)(a b:Int)(f g:UInt64):Ale:=(
(
j4 a b f g))
def YB:=CR WR
def DB(j3:Am0)(a b:Int)(f g:UInt64):Ale:=(
(
j3 a b f g))
def ZP:=DB YB
def Yw:Ams:=(Gy c z).bind λe=>if(Ax e 0)then
some (0,8)
else
if(((Bn j 0)||(Cx j 64))||(Bn d 0))then
some (0,2)
else
if(Cx d (Ar z j))then
some (0,24)
else(tW c z d j).bind λi=>some (i,0)
def Lq:Ale:=if(geq F 0)then
some 64
else(Ae ([(0:UInt8),(1:UInt8),(56:UInt8),(2:UInt8),(57:UInt8),(49:UInt8),(28:UInt8),(3:UInt8),(61:UInt8),(58:UInt8),(42:UInt8),(50:UInt8),(38:UInt8),(29:UInt8),(17:UInt8),(4:UInt8),(62:UInt8),(47:UInt8),(59:UInt8),(36:UInt8),(45:UInt8),(43:UInt8),(51:UInt8),(22:UInt8),(53:UInt8),(39:UInt8),(33:UInt8),(30:UInt8),(24:UInt8),(18:UInt8),(12:UInt8),(5:UInt8),(63:UInt8),(55:UInt8),(48:UInt8),(27:UInt8),(60:UInt8),(41:UInt8),(37:UInt8),(16:UInt8),(46:UInt8),(35:UInt8),(44:UInt8),(21:UInt8),(52:UInt8),(32:UInt8),(23:UInt8),(11:UInt8),(54:UInt8),(26:UInt8),(40:UInt8),(15:UInt8),(34:UInt8),(20:UInt8),(31:UInt8),(10:UInt8),(25:UInt8),(14:UInt8),(19:UInt8),(9:UInt8),(13:UInt8),(8:UInt8),(7:UInt8),(6:UInt8)]:LB) (GI.toZ (Da (Ct (Ef F (qm F)) 285870213051353865) (GI.toZ (58:UInt64)).toNat))).bind λz=>some (Aq z:Int)
abbrev Ej:=Option (Int×Int×Int)
def Af1:Ej:=some (0,0,24)
def Af0:=Af1
def Ai6(j10:Ej):Ej:=j10
def Ahn:=Ai6 Af0
def Ahp(j9:Ej)(f a:Int):Ej:=if(geq f 48)then
some (f,(Ad 0 (Ad a f)),0)
else
j9
def Ai0:=Ahp Ahn
def Ahx(j8:Int->Int->Ej)(f b a:Int):Ej:=if(Bn f (Eg 48 (Ar b a)))then
some (f,(Ad (Ad (0:Int) (1:Int)) (Ad a f)),0)
else
j8 f a
def Ai4:=Ahx Ai0
def Ai1(j7:Jz3 Ej)(h:Int)(k:UInt64)(a:Int)(g:LB)(b:Int):Ej:=if(Ax h 0)then
some (0,0,h)
else(Lq (F! k)).bind λf=>j7 f b a
def XF:=Ai1 Ai4
def DH(j6:Int->UInt64->Int->LB->Int->Ej)(g:LB)(b a:Int):Ej:=(Gy g b).bind λm=>if(Ax m 0)then
some (0,0,m)
else
if(Bn a 0)then
some (0,0,2)
else
if(Dy a b)then
some (0,0,24)
else(
(
(Yw g b a (Eg 48 (Ar b a))).bind λ(k,h)=>j6 h k a g b))
def sS:=DH XF
def KU:Alg:=(Dl (Dy q9 0)).bind λ_=>some (Dy (Da V (GI.toZ q9).toNat) 48)
abbrev SN:=Option (UInt32×Int×Int)
def Ajn:SN:=(Yw i A d U).bind λ(c,e)=>if(Ax e 0)then
some (0,0,e)
else
if(Bn j 48)then(Dl (Dy z 0)).bind λ_=>some ((ig (Gg (Aq j:UInt32) (GI.toZ z).toNat) (Aq c:UInt32)),(Ad d U),0)
else(KU (Aq c:UInt32) z).bind λl=>if(!l)then
some (0,0,12)
else
some ((Aq c:UInt32),(Ad d U),0)
def C0:=Ajn
def Ajq(j2:Jz3 (LB->Int->Int->SN))(g:LB)(h v a:Int):SN:=(Gy g h).bind λo=>if(Ax o 0)then
some (0,0,o)
else
if((Bn a 0)||(Cx a 24))then
some (0,0,2)
else(sS g h v).bind λ(f,b,p)=>if(Ax p 0)then
some (0,0,p)
else
if(geq f 48)then
j2 a b f g h 32
else
j2 a b f g h a
def xP:=Ajq C0
def KH(a f:Int)(g h:UInt64)(b:UInt32):Option (Int×UInt32):=(Dl (Dy a 0)).bind λ_=>if(geq (Da b (GI.toZ a).toNat) 0)then
some (0,b)
else(Dl (Dy a 0)).bind λ_=>some (1,(Ar b (Gg (1:UInt32) (GI.toZ a).toNat)))
abbrev Fp:=Option (UInt32×Int×Int×Int×UInt64×UInt64×Int)
def Ahl:Fp:=some (V,q9,Alb,Alc,(Ad Akx (Ar (Aq V:UInt64) (Da Akx (GI.toZ (4:UInt64)).toNat))),Ald,0)
def Ahs:=Ahl
def B8(j10:UInt32->Jz3 (UInt64->UInt64->Fp))(f:UInt32)(k m:Int)(b n:UInt64)(w:Int):Fp:=j10 f k w m b n
def Air:=B8 Ahs
def C7(j9:UInt32->Int->Int->UInt64->UInt64->Int->Fp)(f:UInt32)(k a:Int)(b:UInt64)(m:Int)(n:UInt64):Fp:=if(Cx a 0)then(Dl (Dy a 0)).bind λ_=>if(Bn (Ad b (Ar (Aq f:UInt64) (Da b (GI.toZ (4:UInt64)).toNat))) (Gg (16:UInt64) (GI.toZ a).toNat))then
j9 f k m b n (Ar a 1)
else
if(Bn a 24)then(Dl (Dy a 0)).bind λ_=>if(Cx (Ad b (Ar (Aq f:UInt64) (Da b (GI.toZ (4:UInt64)).toNat))) (Gg (32:UInt64) (GI.toZ a).toNat))then
j9 f k m b n (Ad a 1)
else
j9 f k m b n a
else
j9 f k m b n a
else
if(Bn a 24)then(Dl (Dy a 0)).bind λ_=>if(Cx (Ad b (Ar (Aq f:UInt64) (Da b (GI.toZ (4:UInt64)).toNat))) (Gg (32:UInt64) (GI.toZ a).toNat))then
j9 f k m b n (Ad a 1)
else
j9 f k m b n a
else
j9 f k m b n a
def dZ:=C7 Air
def bW(j8:UInt32->Int->Int->UInt64->Int->UInt64->Fp)(a h:Int)(b g:UInt64)(f:UInt32)(k:Int):Fp:=(KH a h b g f).bind λ(ad,o)=>if(geq ad 1)then
if(Cx h 0)then(Dl (Dy h 0)).bind λ_=>if(Bn (Ad g (Ar (Aq o:UInt64) (Da g (GI.toZ (4:UInt64)).toNat))) (Gg (16:UInt64) (GI.toZ h).toNat))then
j8 f k a b (Ar h 1) (Ad g (Ar (Aq o:UInt64) (Da g (GI.toZ (4:UInt64)).toNat)))
else
if(Bn h 24)then(Dl (Dy h 0)).bind λ_=>if(Cx (Ad g (Ar (Aq o:UInt64) (Da g (GI.toZ (4:UInt64)).toNat))) (Gg (32:UInt64) (GI.toZ h).toNat))then
j8 f k a b (Ad h 1) (Ad g (Ar (Aq o:UInt64) (Da g (GI.toZ (4:UInt64)).toNat)))
else
j8 f k a b h (Ad g (Ar (Aq o:UInt64) (Da g (GI.toZ (4:UInt64)).toNat)))
else
j8 f k a b h (Ad g (Ar (Aq o:UInt64) (Da g (GI.toZ (4:UInt64)).toNat)))
else
if(Bn h 24)then(Dl (Dy h 0)).bind λ_=>if(Cx (Ad g (Ar (Aq o:UInt64) (Da g (GI.toZ (4:UInt64)).toNat))) (Gg (32:UInt64) (GI.toZ h).toNat))then
j8 f k a b (Ad h 1) (Ad g (Ar (Aq o:UInt64) (Da g (GI.toZ (4:UInt64)).toNat)))
else
j8 f k a b h (Ad g (Ar (Aq o:UInt64) (Da g (GI.toZ (4:UInt64)).toNat)))
else
j8 f k a b h (Ad g (Ar (Aq o:UInt64) (Da g (GI.toZ (4:UInt64)).toNat)))
else
j8 f k a b h g
def Aiw:=bW dZ
def cL(j7:Int->Int->UInt64->UInt64->UInt32->Int->Fp)(p:Int)(u:LB)(v a h:Int)(b g:UInt64):Fp:=(Yw u v p 1).bind λ(ae,aa)=>if(Ax aa 0)then
some (0,0,0,0,0,0,aa)
else
if(geq ae 0)then(Yw u v (Ad p 1) a).bind λ(af,ab)=>if(Ax ab 0)then
some (0,0,0,0,0,0,ab)
else
j7 a h b g (Aq af:UInt32) (Ad (Ad p 1) a)
else(xP u v (Ad p 1) h).bind λ(y,ag,ac)=>if(Ax ac 0)then
some (0,0,0,0,0,0,ac)
else(Dl (Dy a 0)).bind λ_=>if(Bn (Ad y (Gg (1:UInt32) (GI.toZ a).toNat)) y)then
some (0,0,0,0,0,0,12)
else
j7 a h b g (Ad y (Gg (1:UInt32) (GI.toZ a).toNat)) ag
def D5:=cL Aiw
def eQ(j6:Int->LB->Jz3 (UInt64->UInt64->Fp))(u:LB)(v p a h:Int)(b g:UInt64):Fp:=(Gy u v).bind λah=>if(Ax ah 0)then
some (0,0,0,0,0,0,8)
else(ZP a h b g).bind λai=>if(Ax ai 0)then
some (0,0,0,0,0,0,8)
else
j6 p u v a h b g
def FQ:=eQ D5
abbrev Bj:=Option (LU×Int×Int)
def ZD:Bj:=some (l8,z,0)
def Zc:=ZD
abbrev Alh:=List (Int×Int×UInt64×UInt64×Unit)
def ZN(Ez:Int->Int-> (List (Int×Int×UInt64×UInt64×Unit))->LU->Bj)(a f:Int)(g:LB)(b k v:Int)(w:UInt32)(h:Int)(ah:Alh)(n:LU):Bj:=(Az n ([w]:LU)).bind λak=>Ez (Ad k v) (Ad h 1) ah ak
def YL Ez:=ZN Ez
def YW(j22:Int->Int->UInt32->Int-> (List (Int×Int×UInt64×UInt64×Unit))->LU->Bj)(a f:Int)(g:LB)(b k h y:Int)(w:UInt32)(v:Int)(m:Alh)(n:LU)(aa ab:Int)(ac ad:UInt64):Bj:=if(Ax y 0)then
some (([]:LU),0,y)
else(Dl (Ax a 0)).bind λ_=>(Ae m (Hq h a)).bind λ_=>(La m (Hq h a) (aa,ab,ac,ad,())).bind λah=>j22 k v w h ah n
def Yn Ez a f g b:=YW (YL Ez a f g b) a f g b
def Oe(j21:Jz3 (UInt32->Int-> (List (Int×Int×UInt64×UInt64×Unit))->LU->Int->Int->UInt64->UInt64->Bj))(j24:Int->LU->Bj)(a f:Int)(g:LB)(b k h:Int)(m:Alh)(n:LU):Bj:=if(Bn h (Ct f a))then(sL g b k (Eg (Ad k 81) b)).bind λ(ag,ae,af)=>if(Ax af 0)then
some (([]:LU),0,af)
else(Dl (Ax a 0)).bind λ_=>(Ae m (Hq h a)).bind λ_=>(
(
(Ae m (Hq h a)).bind λo=>(
(FQ ag ae 0 o.1 o.2.1 o.2.2.1 o.2.2.2.1).bind λ(w,v,aa,ab,ac,ad,y)=>j21 k h y w v m n aa ab ac ad)))
else
j24 k n
def Nq:Nat->Int->Int-> (List (Int×Int×UInt64×UInt64×Unit))->LU->Bj
|0,_,_,_,_=>none
|c+1,e,j,l,B=>Oe (Yn (Nq c) z d i A) Zc z d i A e j l B
def Zs a f g b:=Nq a f g b Bu
def Xe(j16:Int->Int->LB->Jz3 ( (List (Int×Int×UInt64×UInt64×Unit))->LU->Bj))(a f:Int)(g:LB)(b:Int)(p:Alh):Bj:=j16 a f g b 0 0 p ([]:LU)
def YG:=Xe Zs
def Xn(j15:Int->Int->LB->Int-> (List (Int×Int×UInt64×UInt64×Unit))->Bj)(r!:Int-> (List (Int×Int×UInt64×UInt64×Unit))->Bj)(a f:Int)(g:LB)(b u:Int)(p:Alh):Bj:=if(Bn u 6)then(aK).bind λ(al,ae,af,am)=>(Ae p u).bind λ_=>(La p u (al,ae,af,am,())).bind λan=>r! (Ad u 1) an
else
j15 a f g b p
def Nv:Nat->Int-> (List (Int×Int×UInt64×UInt64×Unit))->Bj
|0,_,_=>none
|c+1,e,j=>Xn YG (Nv c) z d i A e j
def aE a f g b:=Nv a f g b Bu
def BJ(j13:Int->Int->LB->Int->Int-> (List (Int×Int×UInt64×UInt64×Unit))->Bj)(a f:Int)(g:LB)(b:Int):Bj:=j13 a f g b 0 (List.replicate 6 ((0:Int),(0:Int),(0:UInt64),(0:UInt64),()))
def QZ:=BJ aE
abbrev YR:=Option (Int×LX×LX×Int)
def N9:YR:=if D then
some (10,B,(List.replicate 16 (0:Int32)),0)
else
if(geq z 16)then
some (9,B,(List.replicate 16 (0:Int32)),0)
else
some (0,(List.replicate 16 (0:Int32)),(List.replicate 16 (0:Int32)),2)
def H8:=N9
def L6(j2:Int->LX->Bool->YR)(a:Int)(b:LX):YR:=if(geq a 8)then
j2 a b (geq a 8)
else
j2 a b (geq a 24)
def tP:=L6 H8
def jI:Option (Int×Int32×Int×LX×LX×Int):=(tP z B).bind λ(c,d,e,i)=>if(Ax i 0)then
some (0,0,0,(List.replicate 16 (0:Int32)),(List.replicate 16 (0:Int32)),i)
else
some (z,0,c,d,e,0)
abbrev Anx:=Option Int32
def Tm:Anx:=some (ZV (Aq (Da V (GI.toZ (1:UInt64)).toNat):Int32) (qm (Aq (Ef V 1):Int32)))
def Ul(a:Int)(k:Int32)(b:Int)(f m:LX):Ale:=(tP a f).bind λ(g,n,o,h)=>if((Ax h 0)||(Ax g b))then
some 8
else
some 0
def kL:Aly:=if(geq z 8)then
some (4,0)
else
if(geq z 16)then
if(geq z 16)then
some (5,0)
else
some (0,2)
else
if(geq z 24)then
some (5,0)
else
some (0,2)
def jP:Anx:=(Dl (Dy z 0)).bind λ_=>(Dl (Dy z 0)).bind λ_=>some (Aq (T7 (Ar (Gg (Aq N:Int) (GI.toZ z).toNat) (Aq N:Int)) (GI.toZ z).toNat):Int32)
def Um:Option (Int32×Int):=(kL z).bind λ(c,d)=>if(Ax d 0)then
some (0,d)
else(jP c N).bind λe=>some (e,0)
def Ys(a:Int)(b f:LX):Ale:=if((Ax a 9)&&(Ax a 10))then
some 8
else
some 0
abbrev Jr:=Option (Int32×Int)
def Ai7(h:Int32)(a:Int)(b f:LX):Jr:=(Dl (Dy a 0)).bind λ_=>some ((Da h (GI.toZ a).toNat),0)
def XG:=Ai7
def XL(j6:Int32->Int->LX->LX->Jr)(Vt:Int32->Int->Jr)(b:LX)(a:Int)(f:LX)(h:Int32)(g:Int):Jr:=if(Bn g 16)then(Ae b g).bind λm=>(Ae f g).bind λ_=>(Ae f g).bind λn=>Vt (Ad h (Ct m n)) (Ad g 1)
else
j6 h a b f
def DJ:Nat->Int32->Int->Jr
|0,_,_=>none
|z+1,c,d=>XL XG (DJ z) B A R c d
def Ahz b a f:=DJ b a f Bu
def WY(j4:LX->Int->LX->Int32->Int->Jr)(a:Int)(b f:LX):Jr:=(Ys a b f).bind λk=>if(Ax k 0)then
some (0,k)
else(Dl (Dy (Ar a 1) 0)).bind λ_=>j4 b a f (Gg (1:Int32) (GI.toZ (Ar a 1)).toNat) 0
def ZB:=WY Ahz
def fT:Anx:=if(geq z 0)then
some 4
else
if(Bn z 4)then
some 2
else
some 1
abbrev Ji:=Option (Int×LX×LX×Int)
def Aia:Ji:=some (z,B,R,0)
def XN:=Aia
def XM(j6:Int->LX->LX->Ji)(Vt:Int->LX->Ji)(h:Int32)(f:LX)(g a:Int)(b:LX):Ji:=if(Bn a 16)then(Ae f a).bind λm=>if(geq m 0)then
Vt (Ad a 1) b
else
if((Bn m 0)==(Bn h 0))then(Ae b a).bind λ_=>(Ae b a).bind λo=>(fT a).bind λp=>(Ae b a).bind λ_=>(La b a (Ad o p)).bind λu=>Vt (Ad a 1) u
else(Ae b a).bind λ_=>(Ae b a).bind λv=>(fT a).bind λw=>(Ae b a).bind λ_=>(La b a (Ar v w)).bind λy=>Vt (Ad a 1) y
else
j6 g b f
def CU:Nat->Int->LX->Ji
|0,_,_=>none
|z+1,c,d=>XM XN (CU z) N y5 y7 c d
def Ahq h f g:=CU h f g Bu
def XV(j4:Int32->LX->Int->Int->LX->Ji)(g:Int)(k f:LX)(h:Int32):Ji:=(Ys g k f).bind λn=>if(Ax n 0)then
some (0,(List.replicate 16 (0:Int32)),(List.replicate 16 (0:Int32)),n)
else
if(geq h 0)then
some (g,k,f,0)
else
j4 h f g 0 k
def vI:=XV Ahq
abbrev TW:=Option (Int×LX×LX×Int)
def Ais:TW:=(Ae (Nr r9 1 ((16:Int)-(1:Int)) (SG r9 0 ((16:Int)-(0:Int)))) 0).bind λ_=>(La (Nr r9 1 ((16:Int)-(1:Int)) (SG r9 0 ((16:Int)-(0:Int)))) 0 N).bind λz=>some (Aj6,y5,z,0)
def dH:=Ais
def KC(j2:Int32->Int->LX->LX->TW)(b:Int)(f a:LX)(g:Int32):TW:=(Ys b f a).bind λh=>if(Ax h 0)then
some (0,(List.replicate 16 (0:Int32)),(List.replicate 16 (0:Int32)),h)
else(
(vL 16 1 16).bind λ_=>(vL 16 0 16).bind λ_=>j2 g b f a)
def yB:=KC dH
def YK:Option (Int×LX×LX):=(vI z B R y9).bind λ(c,d,e,i)=>(yB c d e N).bind λ(j,l,A,C)=>some (j,l,A)
abbrev Am2:=Option (Int32×Int×LX×LX×Int)
def uQ:Am2:=(ZB z B R).bind λ(c,d)=>if(Ax d 0)then
some (0,0,(List.replicate 16 (0:Int32)),(List.replicate 16 (0:Int32)),d)
else(YK z B R (Ad N c) N).bind λ(e,i,j)=>some ((Ad N c),e,i,j,0)
abbrev Amq:=Option (Int32×Int×Int32×Int×LX×LX×Int)
def Hu:Amq:=(Ul z N Aj6 y5 r9).bind λc=>if(Ax c 0)then
some (0,0,0,0,(List.replicate 16 (0:Int32)),(List.replicate 16 (0:Int32)),c)
else(Um z N).bind λ(d,e)=>(uQ Aj6 y5 r9 y9).bind λ(i,j,l,A,B)=>(
some ((Ad i d),z,(Ad i d),j,l,A,B))
def iC:Ale:=if((Bn z 1)||(Cx z 6))then
some 2
else
if(Cx (Ac B) 4000)then
some 4
else(Dl (Ax z 0)).bind λ_=>if(Ax (Hq (Ac B) z) 0)then
some 2
else
some 0
def Cv:Anm:=(
(Az ([]:LX) B).bind λz=>some z)
abbrev Dm:=Option (LX×Int)
def Aji:Dm:=some (B,0)
def bX:=Aji
abbrev Ana:=Int->LX->Dm
def Ajp(Lp:Ana)(b a:Int)(h:LX):Dm:=Lp (Ad a b) h
def dB Lp:=Ajp Lp
def bK(j20:Ana)(zM:Ana)(b a g:Int)(h:LX):Dm:=if(Dy g 0)then(Dl (decide (0<= (Ad g 1)/\ (Ad g 1)<((Ad a b)-a)))).bind λ_=>(Dl (decide (0<=g/\g<((Ad a b)-a)))).bind λ_=>(Ae h (a+(Ad g 1))).bind λn=>(Ae h (a+g)).bind λo=>(Dl (decide (0<=g/\g<((Ad a b)-a)))).bind λ_=>(La h (a+g) (Ar n o)).bind λp=>zM (Ar g 1) p
else
j20 a h
def KJ(Lp:Ana)(b a:Int):Nat->Int->LX->Dm
|0,_,_=>none
|q+1,g,h=>bK (dB Lp b) (KJ Lp b a q) b a g h
def bU Lp b a:=KJ Lp b a Bu
def aP(j18:Int->Int->LX->Dm)(b a:Int)(u:LX):Dm:=j18 a (Ar (Ar ((Ad a b)-a) 1) 1) u
def B2 Lp b:=aP (bU Lp b) b
def bN(j17:Ana)(j22:LX->Dm)(b a:Int)(f:LX):Dm:=if(Bn a (Ac f))then(vL (Ac f) a (Ad a b)).bind λ_=>if(Cx (Ar ((Ad a b)-a) 1) 0)then(Dl (decide (0<= (Ar ((Ad a b)-a) 1)/\ (Ar ((Ad a b)-a) 1)<((Ad a b)-a)))).bind λ_=>Option.bind (Dl (decide (0<= (Ar (Ar ((Ad a b)-a) 1) 1)/\ (Ar (Ar ((Ad a b)-a) 1) 1)<((Ad a b)-a)))) λ_=>(Ae f (a+(Ar ((Ad a b)-a) 1))).bind λv=>(Ae f (a+(Ar (Ar ((Ad a b)-a) 1) 1))).bind λw=>(Dl (decide (0<= (Ar ((Ad a b)-a) 1)/\ (Ar ((Ad a b)-a) 1)<((Ad a b)-a)))).bind λ_=>(La f (a+(Ar ((Ad a b)-a) 1)) (Ad v (Fk w 2))).bind λy=>j17 a y
else
j17 a f
else
j22 f
def KD:Nat->Int->LX->Dm
|0,_,_=>none
|c+1,d,e=>bN (B2 (KD c) z) bX z d e
def A4 b:=KD b Bu
def kY(j12:Int->Int->LX->Dm)(b:Int)(k:LX):Dm:=(iC b k).bind λm=>if(Ax m 0)then
some (([]:LX),m)
else(Cv k).bind λaa=>j12 b 0 aa
def I5:=kY A4
def Agt:Ale:=some 0
def SK:=Agt
abbrev Al9:=Int->Option Int
def PC(j6:Ale)(Vt:Al9)(b f:Int32)(a:LX)(g:Int):Ale:=if(Bn g (Ac a))then(Ae a g).bind λh=>if((Bn h b)||(Cx h f))then
some 16
else
Vt (Ad g 1)
else
j6
def Xo:Nat->Int->Option Int
|0,_=>none
|z+1,c=>PC SK (Xo z) N y9 Akq c
def Ae2 b f a:=Xo b f a Bu
def SE(j4:Int32->Int32->LX->Int->Option Int)(m:Int)(a:LX):Ale:=(CB m).bind λ(b,f,k)=>if(Ax k 0)then
some k
else
if(Cx (Ac a) 4000)then
some 4
else
j4 b f a 0
def Pc:=SE Ae2
abbrev Bq:=Option (LX×Int)
def VR:Bq:=(I5 z B).bind λ(c,e)=>if(Ax e 0)then
some (([]:LX),e)
else(Pc d c).bind λi=>if(Ax i 0)then
some (([]:LX),i)
else
some (c,0)
def Vx:=VR
abbrev Alq:=List (Int×Int32×(Int×LX×LX×Unit)×Unit)
def VZ(r!:Int-> (List (Int×Int32×(Int×LX×LX×Unit)×Unit))->LX->Bq)(a:Int)(f:LU)(b g:Int)(y:Int32)(v:Int)(h:Alq)(k:LX)(aa:Int)(w:Int32)(ab:Int)(ac ad:LX):Bq:=if(Ax v 0)then
some (([]:LX),v)
else(La h (Hq g a) (aa,w,(ab,ac,ad,()),())).bind λai=>(Az k ([y]:LX)).bind λaj=>r! (Ad g 1) ai aj
def We r!:=VZ r!
def Mb(j16:Int->Int32->Int-> (List (Int×Int32×(Int×LX×LX×Unit)×Unit))->LX->Int->Int32->Int->LX->LX->Bq)(j18:Int->Int->LX->Bq)(f:LU)(a b g:Int)(h:Alq)(k:LX):Bq:=if(Bn g (Ac f))then(Ae f g).bind λag=>(Dl (Ax a 0)).bind λ_=>(Ae h (Hq g a)).bind λ_=>(
(Ae h (Hq g a)).bind λm=>(
(Tm ag).bind λae=>(
(Hu m.1 m.2.1 m.2.2.1.1 m.2.2.1.2.1 m.2.2.1.2.2.1 ae).bind λ(y,aa,w,ab,ac,ad,v)=>j16 g y v h k aa w ab ac ad)))
else
j18 a b k
def Mc:Nat->Int-> (List (Int×Int32×(Int×LX×LX×Unit)×Unit))->LX->Bq
|0,_,_,_=>none
|z+1,c,d,e=>Mb (We (Mc z) Aj7 l8 Aj8) Vx l8 Aj7 Aj8 c d e
def Wj f a b:=Mc f a b Bu
def Wf(j13:LU->Jz3 ( (List (Int×Int32×(Int×LX×LX×Unit)×Unit))->LX->Bq))(f:LU)(a b:Int)(n:Alq):Bq:=j13 f a b 0 n ([]:LX)
def WM:=Wf Wj
def Wi(j12:LU->Int->Int-> (List (Int×Int32×(Int×LX×LX×Unit)×Unit))->Bq)(t!:Int-> (List (Int×Int32×(Int×LX×LX×Unit)×Unit))->Bq)(f:LU)(a b:Int)(o:LX)(p:Int)(n:Alq):Bq:=if(Bn p 6)then(jI b o).bind λ(ak,af,ae,al,am,w)=>(Ae n p).bind λ_=>(La n p (ak,af,(ae,al,am,()),())).bind λan=>t! (Ad p 1) an
else
j12 f a b n
def Mh:Nat->Int-> (List (Int×Int32×(Int×LX×LX×Unit)×Unit))->Bq
|0,_,_=>none
|z+1,c,d=>Wi WM (Mh z) l8 Aj7 Aj8 Akq c d
def WI f a b o:=Mh f a b o Bu
def Zo(j10:LU->Int->Int->LX->Int-> (List (Int×Int32×(Int×LX×LX×Unit)×Unit))->Bq)(a b:Int)(o:LX)(f:LU):Bq:=j10 f a b o 0 (List.replicate 6 ((0:Int),(0:Int32),((0:Int),(List.replicate 16 (0:Int32)),(List.replicate 16 (0:Int32)),()),()))
def MV:=Zo WI
def Ib:Ani:=(Ki z d).bind λc=>if(Ax c 0)then
some (([]:LX),c)
else
if(Bn A 1)then
some (([]:LX),2)
else(Dl (Ax z 0)).bind λ_=>if(Cx A (Fk 4000 z))then
some (([]:LX),2)
else(RF P).bind λ(e,i)=>if(Ax i 0)then
some (([]:LX),i)
else(lg e).bind λ(j,l,C)=>if(Ax C 0)then
some (([]:LX),C)
else(QZ z A j l).bind λ(D,E,F)=>if(Ax F 0)then
some (([]:LX),F)
else
if(Dy (Ar l E) 8)then
some (([]:LX),12)
else(Yw j l E (Ar l E)).bind λ(G,I)=>if((Ax I 0)||(Ax G 0))then
some (([]:LX),12)
else(MV z d B D).bind λ(J,L)=>some (J,L)
abbrev aC:=Option (Int×Int)
def M0:aC:=(Bm c (Ar (Ac c) 32) (Ac c)).bind λz=>(VD z 0).bind λ(d,e,i)=>if i then
if(Bn (Ar (Ac c) 32) d)then
some (0,24)
else
some ((Ad d 32),0)
else(Bm c (Ar (Ac c) 32) (Ac c)).bind λj=>(VD j 2147483648).bind λ(l,A,B)=>if(!B)then
some (0,12)
else
if(Bn (Ac c) (Ad l 64))then
some (0,24)
else(Bm c (Ar (Ac c) (Ad l 64)) (Ad (Ar (Ac c) (Ad l 64)) 32)).bind λC=>(nZ l A 2684354560).bind λD=>(Jh C D).bind λE=>if(!E)then
some (0,12)
else
some ((Ad l 64),0)
def E9:=M0
def J4(j2:LB->aC)(a:LB):aC:=if(Bn (Ar (Ac a) 32) 0)then
some (0,6)
else(Bm a (Ar (Ac a) 32) (Ac a)).bind λv=>(Jz v ([(65:UInt8),(80:UInt8),(69:UInt8),(84:UInt8),(65:UInt8),(71:UInt8),(69:UInt8),(88:UInt8)]:LB)).bind λw=>if(!w)then
some (0,6)
else
j2 a
def H7:=J4 E9
abbrev Dg:=Option (Int×Int)
def Aar:Dg:=some (z,0)
def HY:=Aar
abbrev An2:=Int->LB->Dg
def Abe(E8:An2)(a:Int)(g:LB):Dg:=E8 (Ad a 1) g
def Abc E8:=Abe E8
def Aba(j12:An2)(a f:Int)(b:LB):Dg:=if(geq f 0)then
some (0,38)
else(Bm b 0 (Ar (Ac b) f)).bind λg=>j12 a g
def FU E8:=Aba (Abc E8)
def NY(j11:Int->Int->LB->Dg)(j14:Int->Dg)(a:Int)(b:LB):Dg:=if(Cx (Ac b) 0)then(H7 b).bind λ(f,k)=>j11 a f b
else
j14 a
def Ux:Nat->Int->LB->Dg
|0,_,_=>none
|q+1,a,b=>NY (FU (Ux q)) HY a b
def Ad7:=Ux Bu
def NP(j8:An2)(h:LB):Dg:=if(Cx (Ac h) 4000)then
some (0,38)
else
j8 0 h
def Qm:=NP Ad7
abbrev Bh:=Option (Int×Int×Int×LX×Int)
def Ae0:Bh:=(Bm c z (Ac c)).bind λe=>(Qm e).bind λ(i,l)=>if(Ax l 0)then
some (0,0,0,([]:LX),38)
else
some (d,j,C,B,0)
def QT:=Ae0
def Aey(DW:Int->Int->LX->Bh)(a:LB)(w:LI)(m f g h o p n b ab ae:Int)(ac:LX)(k:LI)(y aj ak aa:Int)(an ad:LX):Bh:=if(Ax ak 0)then
some (0,0,0,([]:LX),ak)
else(Az ad an).bind λau=>DW (Ad y aj) (Ad aa 1) au
def QO DW:=Aey DW
def SH(j24:Jz4 (LX->LX->Bh))(j26:LB->Jz4 (LX->Bh))(a:LB)(w:LI)(m f g h o p n b ab ae:Int)(ac:LX)(k:LI)(y aa:Int)(ad:LX):Bh:=if(Bn aa (Ac w))then(Ae w aa).bind λ_=>(Ae w aa).bind λaj=>if(Bn (Ac a) (Ad y aj))then
some (0,0,0,([]:LX),24)
else(Ae k aa).bind λ_=>(Bm a y (Ad y aj)).bind λav=>(Ae k aa).bind λaw=>(Ib f g ac aw av).bind λ(an,ak)=>j24 y aj ak aa an ad
else
j26 a y f g h ad
def Xv:Nat->Int->Int->LX->Bh
|0,_,_,_=>none
|e+1,i,A,D=>SH (QO (Xv e) c l z d j C E M y8 Akb Akc Akd B Ake) QT c l z d j C E M y8 Akb Akc Akd B Ake i A D
def QR a w m f g h o p n b ab ae ac k:=Xv a w m f g h o p n b ab ae ac k Bu
def Qs(j21:LB->LI->Jz10 (LX->LI->Int->Int->LX->Bh))(a u:LB)(m f g h o p n b:Int)(k:LI)(ao ab ae:Int)(w:LI):Bh:=if(Ax ao 0)then
some (0,0,0,([]:LX),ao)
else(Kj u).bind λ(ac,bc)=>j21 a w m f g h o p n b ab ae ac k ab 0 ([]:LX)
def Xw:=Qs QR
abbrev Alw:=LB->LB->Jz8 (LI->Int->Int->Int->LI->Bh)
def PN(j20:Alw)(a u:LB)(v:LI)(m f g h o p n b af:Int)(k:LI):Bh:=j20 a u m f g h o p n b k 0 (Ad (Ad b (Ct 4 (Ac v))) 4) af v
def Aes:=PN Xw
def QS(j19:LB->LB->LI->Jz9 (LI->Bh))(WO:Int->Int->Bh)(v:LI)(a u:LB)(m f g h o p n b:Int)(k:LI)(ag af:Int):Bh:=if(Bn ag (Ac v))then(Ae v ag).bind λ_=>(Ae v ag).bind λax=>WO (Ad ag 1) (Ad af ax)
else
j19 a u v m f g h o p n b af k
def Xi:Nat->Int->Int->Bh
|0,_,_=>none
|z+1,c,d=>QS Aes (Xi z) l i o9 A U Z Aj1 Aj2 Aj3 G o7 Akl c d
def Ady v a u m f g h o p n b k:=Xi v a u m f g h o p n b k Bu
def PL(j20:Alw)(j17:LI->LB->LB->Jz8 (LI->Int->Int->Bh))(al:Int)(a u:LB)(m f g h o p n b ah ai:Int)(v k:LI):Bh:=if(Ax al 0)then
j20 a u m f g h o p n b k al ah ai ([]:LI)
else
j17 v a u m f g h o p n b k 0 (Ad (Ad b (Ct 4 (Ac v))) 4)
def Adw:=PL Xw Ady
def RN(j20:Alw)(j16:Int->LB->LB->Jz10 (LI->LI->Bh))(a u:LB)(m f g h o p n b ah ai:Int)(k:LI):Bh:=if(Bn (Ac a) b)then
j20 a u m f g h o p n b k 24 ah ai ([]:LI)
else(Bm a b (Ac a)).bind λay=>(Ti ay (Ac k)).bind λ(v,al)=>j16 al a u m f g h o p n b ah ai v k
def Ag7:=RN Xw Adw
def RQ(j15:LB->LB->Jz10 (LI->Bh))(a u:LB)(m f g h o p n b ah ai:Int)(k:LI)(am:Int):Bh:=if(Ax am 0)then
some (0,0,0,([]:LX),am)
else
j15 a u m f g h o p n b ah ai k
def PW:=RQ Ag7
def WV(j14:LB->LB->Jz10 (LI->Int->Bh))(a u:LB):Bh:=if(Cx (Ac u) 64)then
some (0,0,0,([]:LX),2)
else(OT a).bind λ(m,f,g,h,o,p,n,b,ah,ai,k,ap)=>if(Ax ap 0)then
some (0,0,0,([]:LX),ap)
else
if((u==([]:LB)) !=(geq m 1))then
j14 a u m f g h o p n b ah ai k 26
else
if(geq m 1)then
j14 a u m f g h o p n b ah ai k 0
else
if(Bn (Ac a) b)then
j14 a u m f g h o p n b ah ai k 24
else(Bm a n b).bind λaz=>(Rh az u).bind λ(ba,bd)=>if(!ba)then
j14 a u m f g h o p n b ah ai k 26
else
j14 a u m f g h o p n b ah ai k 0
def ZJ:=WV PW
def TZ:Ale:=(ZJ c e).bind λ(z,d,i,j,l)=>some l
def eT(a n:LB)(b:Int):Option UInt8:=if(Cx (Ac a) 100000)then
some 0
else(Er a).bind λ(f,g)=>if(Ax g 0)then
some 1
else(Bm a f (Ac a)).bind λh=>(Hk h).bind λ(k,o,p,u,v,m)=>if(Ax m 0)then
some 2
else
if(geq b 26)then
if(geq b 26)then
some 3
else
some 4
else
if((geq k 2)&&(Bn (Ar (Ac a) f) 30))then
some 3
else
some 4
abbrev Dz:=Option (LI×Int)
def aW:Dz:=some (l,0)
def AT:=aW
def Aao(O9:Int->Int->LI->Dz)(a:LI)(b g h:Int)(k:LI):Dz:=O9 (Ad b 1) (Ad g h) k
def GF O9:=Aao O9
def FO(j8:Jz3 (LI->Dz))(j10:LI->Dz)(a:LI)(b g:Int)(f:LI):Dz:=if(Bn b (Ac a))then(Ae a b).bind λh=>(Az f ([(Ad g h)]:LI)).bind λk=>j8 b g h k
else
j10 f
def Tq:Nat->Int->Int->LI->Dz
|0,_,_,_=>none
|z+1,c,d,e=>FO (GF (Tq z) l) AT l c d e
def Abb a:=Tq a Bu
def GM(j6:LI->Int->Int->LI->Dz)(a:LI):Dz:=(Ps a).bind λm=>if(Ax m 0)then
some (([]:LI),m)
else
j6 a 0 0 ([(0:Int)]:LI)
def DU:=GM Abb
abbrev Cf:=Option (LB×Int)
def Acg:Cf:=some (c,0)
def OE:=Acg
abbrev Ann:=Int->LB->Cf
def Adg(Ez:Ann)(b:Int)(a:LX)(f:Int)(h:LB):Cf:=Ez (Ad f 1) h
def NF Ez:=Adg Ez
def MM(j28:Ann)(zP:Ann)(b:Int)(a:LX)(k:Int32)(f m:Int)(h:LB):Cf:=if(Bn m (Fk b 8))then(Dl (Dy (Ct 8 m) 0)).bind λ_=>(Az h ([(Aq (Da k (GI.toZ (Ct 8 m)).toNat):UInt8)]:LB)).bind λp=>zP (Ad m 1) p
else
j28 f h
def Vn(Ez:Ann)(b:Int)(a:LX)(k:Int32)(f:Int):Nat->Int->LB->Cf
|0,_,_=>none
|q+1,m,h=>MM (NF Ez b a) (Vn Ez b a k f q) b a k f m h
def OI Ez b a k f:=Vn Ez b a k f Bu
def LJ(j26:Int32->Int->Int->LB->Cf)(b:Int)(a:LX)(f:Int)(g:LB)(k:Int32):Cf:=j26 k f 0 g
def Adf Ez b a:=LJ (OI Ez b a) b a
def NT(j25:Int->LB->Int32->Cf)(j30:LB->Cf)(b:Int)(a:LX)(f:Int)(g:LB):Cf:=if(Bn f (Ac a))then(Ae a f).bind λn=>if(geq b 8)then
j25 f g (Ad n 128)
else
j25 f g n
else
j30 g
def Vo:Nat->Int->LB->Cf
|0,_,_=>none
|c+1,d,e=>NT (Adf (Vo c) z B) OE z B d e
def Ad8 b a:=Vo b a Bu
def SI(j16:Int->LX->Int->LB->Cf)(b:Int)(a:LX):Cf:=(Pc b a).bind λo=>if(Ax o 0)then
some (([]:LB),o)
else
j16 b a 0 ([]:LB)
def Hn:=SI Ad8
abbrev Cs:=Option (LB×Int)
def Ac8:Cs:=if(Ax d 0)then
some (([]:LB),d)
else
if((Bn z 0)||(Dy z 0))then
some (([]:LB),2)
else
none
def Adc:=Ac8
def Aa3:Cs:=some (i,z)
def FA:=Aa3
def Adr(j10:Int->LB->Cs)(w a m g:Int)(aa:LX)(n o p h:Int)(k:LB)(u:LX)(v b f:LI):Cs:=if(Ax w 0)then
j10 w ([]:LB)
else(Hn g aa).bind λ(ak,al)=>j10 al ak
def Aca:=Adr FA
def Adn(j10:Int->LB->Cs)(j9:Jz4 (LX->Int->Int->Int->Int->LB->LX->LI->LI->LI->Cs))(a h ab y:Int)(k:LB)(m g:Int)(u:LX)(n o p:Int)(f v b:LI):Cs:=if(Cx (Ad h y) (Ac k))then
j10 24 ([]:LB)
else(Ae f a).bind λ_=>(Bm k (Ad h ab) (Ad h y)).bind λam=>(Ae f a).bind λan=>(Ib m g u an am).bind λ(aa,w)=>j9 w a m g aa n o p h k u v b f
def Adh:=Adn FA Aca
def Ace(j8:Jz4 (LB->Int->Int->LX->Int->Int->Int->LI->LI->LI->Cs))(a:Int)(f:LI)(n m g o p h:Int)(k:LB)(u:LX)(v b:LI):Cs:=if(Ax (0:Int) (0:Int))then
some (([]:LB),0)
else
if((Bn a 0)||(Dy a (Ac f)))then
some (([]:LB),2)
else(Ae b a).bind λ_=>(Ae b (Ad a 1)).bind λ_=>(Ae b a).bind λab=>(Ae b (Ad a 1)).bind λy=>j8 a h ab y k m g u n o p f v b
def Ac4:=Ace Adh
def Acz(j6:Int->Int->Cs)(j7:Int->LI->Jz6 (LB->LX->LI->LI->Cs))(k ad:LB)(a:Int):Cs:=(Gl k ad).bind λ(n,m,g,o,p,h,v,ae)=>if(Ax ae 0)then
j6 a ae
else(Cd n m g o p).bind λ(f,af)=>if(Ax af 0)then
j6 a af
else(DU v).bind λ(b,ag)=>if(Ax ag 0)then
j6 a ag
else(Kj ad).bind λ(u,ah)=>if(Ax ah 0)then
j6 a ah
else(Ae b (Ac f)).bind λ_=>(Ae b (Ac f)).bind λao=>j7 a f n m g o p h k u v b
def Ln:=Acz Adc Ac4
abbrev Hr:=Option (Int×Int)
def Agn(n f a b g h:Int):Hr:=some ((Fk (Ct (Ct n a) b) 8),0)
def RW:=Agn
def RT(j6:Jz6 Hr)(Vt:Int->Int->Hr)(m f a b g h:Int)(k:LI)(n o:Int):Hr:=if(Bn o m)then(Ae k o).bind λ_=>(Ae k o).bind λp=>Vt (Ad n p) (Ad o 1)
else
j6 n f a b g h
def Yt:Nat->Int->Int->Hr
|0,_,_=>none
|c+1,e,i=>RT RW (Yt c) z d j C E M I e i
def Adx m f a b g h k:=Yt m f a b g h k Bu
def RU(j4:Jz6 (LI->Int->Int->Hr))(f a b g h m:Int):Hr:=(Cd f a b g h).bind λ(k,u)=>if((Ax u 0)||(Cx m (Ac k)))then
some (0,8)
else
j4 m f a b g h k 0 0
def UE:=RU Adx
abbrev Fh:=Option (Int×UInt8×Int×Int×Int)
def Agm(b f g h k m o:Int)(a:LI)(y:Int)(aa:UInt8)(ab:Int):Fh:=(UE f g h k m y).bind λ(ac,ad)=>some (b,aa,ab,ac,ad)
def SL:=Agm
def QH(j8:Jz7 (LI->Int->UInt8->Int->Fh))(O9:Int->Fh)(p n:LB)(a:LI)(b:Int)(u:UInt8)(f g h k m o v:Int):Fh:=if(Bn v (Ac a))then
if(geq b 0)then
j8 b f g h k m o a (Ac a) u 0
else(Ln p n v).bind λ(ag,ae)=>if(Ax ae 0)then
j8 b f g h k m o a v 5 v
else
O9 (Ad v 1)
else
j8 b f g h k m o a (Ac a) u 0
def Zx:Nat->Int->Fh
|0,_=>none
|d+1,i=>QH SL (Zx d) c e l z J L T Akz Ak0 Ak1 Ak2 i
def Agz p n a b u f g h k m o:=Zx p n a b u f g h k m o Bu
def RG(j6:LB->LB->LI->Int->UInt8->Jz7 Fh)(p n:LB)(b f g h k m o:Int)(a:LI)(u:UInt8):Fh:=j6 p n a b u f g h k m o 0
def Agg:=RG Agz
def TL(j5:LB->LB->Jz7 (LI->UInt8->Fh))(p n:LB):Fh:=if(Cx (Ac n) 64)then
some (0,0,0,0,2)
else(TZ p n).bind λb=>(Gl p n).bind λ(f,g,h,k,m,o,a,w)=>if(Ax w 0)then(eT p n w).bind λaf=>some (b,af,0,0,0)
else
if(Ax b 0)then
j5 p n b f g h k m o a 6
else
j5 p n b f g h k m o a 0
def AR:=TL Agg
def qV:Option (Int×Int×Int×Int×Int×Int×LI×Int×UInt8×Int×Int×Int):=(Gl c e).bind λ(z,d,i,j,l,A,B,C)=>if(Ax C 0)then
some (0,0,0,0,0,0,([]:LI),0,0,0,0,C)
else(AR c e).bind λ(D,E,F,G,I)=>if(Ax I 0)then
some (0,0,0,0,0,0,([]:LI),0,0,0,0,I)
else
some (z,d,i,j,l,A,B,D,E,F,G,0)
def Ah2:Ale:=if Akg then
some 8
else
if(Bn z 0)then
if(Bn z 0)then
some 8
else
some 0
else
if(Cx z 99)then
if(Cx z 99)then
some 8
else
some 0
else
if(Cx J 6)then
if(Cx J 6)then
some 8
else
some 0
else
if(Bn L 0)then
if(Bn L 0)then
some 8
else
some 0
else
if(Dy L (Ac l))then
if(Dy L (Ac l))then
some 8
else
some 0
else
if(Bn T 0)then
if(Bn T 0)then
some 8
else
some 0
else
if(Cx T 12000)then
some 8
else
some 0
def Agl:=Ah2
def Ae3(j4:LI->Int->UInt8->Int->Int->Bool->Option Int)(n o p u v k:Int)(m:LI)(a:Int)(h:UInt8)(b g:Int)(f:LI)(ab:Bool):Ale:=if ab then
some 8
else
if(Bn k 22)then
j4 f a h b g (Bn k 22)
else
j4 f a h b g (Cx k 100000)
def Adz:=Ae3 Agl
def Ah3(j3:Jz6 (LI->Int->UInt8->Int->Int->LI->Bool->Option Int))(n o p u v k:Int)(m:LI)(a:Int)(h:UInt8)(b g:Int):Ale:=(Cd n o p u v).bind λ(f,w)=>if(Ax w 0)then
j3 n o p u v k m a h b g f (Ax w 0)
else(Ps m).bind λy=>if(Ax y 0)then
j3 n o p u v k m a h b g f (Ax y 0)
else
j3 n o p u v k m a h b g f (Ax (Ac f) (Ac m))
def UU:=Ah3 Adz
abbrev Ah:=Option (LB×Int)
def Afh:Ah:=(Az c ([10]:LB)).bind λz=>(Dl (decide (Ac z<=17179869184))).bind λ_=>some (z,0)
def UQ:=Afh
abbrev Amr:=Int->LB->Ah
def PT(j50:LB->Ah)(zS:Amr)(a:Int)(b:UInt8)(f g w:Int)(v:LB):Ah:=if(Bn w (Ac ([a,(Aq b:Int),f,g]:LI)))then(Ae ([a,(Aq b:Int),f,g]:LI) w).bind λ_=>(Ae ([a,(Aq b:Int),f,g]:LI) w).bind λbf=>(strconv_Itoa bf).bind λaq=>(Az ([32]:LB) aq).bind λbg=>(Az v bg).bind λbh=>zS (Ad w 1) bh
else
j50 v
def Zl:Nat->Int->LB->Ah
|0,_,_=>none
|c+1,d,e=>PT UQ (Zl c) z J L T d e
def PF a b f g:=Zl a b f g Bu
def SS(j48:Int->UInt8->Jz3 (LB->Ah))(a:Int)(b:UInt8)(f g:Int)(y:LB):Ah:=(Az y ([10,102,111,117,110,100]:LB)).bind λar=>j48 a b f g 0 ar
def Ah1:=SS PF
def SF(j47:Int->UInt8->Int->Int->LB->Ah)(zV:Amr)(h:LI)(a:Int)(b:UInt8)(f g ak:Int)(y:LB):Ah:=if(Bn ak (Ac h))then(Ae h ak).bind λbi=>(strconv_Itoa bi).bind λau=>(Az ([32]:LB) au).bind λaq=>(Az y aq).bind λbj=>zV (Ad ak 1) bj
else
j47 a b f g y
def Xu:Nat->Int->LB->Ah
|0,_,_=>none
|c+1,d,e=>SF Ah1 (Xu c) l z J L T d e
def RL h a b f g:=Xu h a b f g Bu
def RB(j45:LI->Int->UInt8->Jz3 (LB->Ah))(k m n o p u:Int)(h:LI)(a:Int)(b:UInt8)(f g:Int)(aa:LB):Ah:=(Az aa ([58]:LB)).bind λav=>j45 h a b f g 0 av
def Ag0:=RB RL
abbrev Alo:=Jz6 (LI->Int->UInt8->Int->Int->LB->Ah)
def SD(j44:Alo)(zY:Amr)(u k m n o p:Int)(h:LI)(a:Int)(b:UInt8)(f g ab:Int)(aa:LB):Ah:=if(Bn ab (Ac ([u]:LI)))then(Ae ([u]:LI) ab).bind λ_=>(Ae ([u]:LI) ab).bind λbk=>(strconv_Itoa bk).bind λaw=>(Az ([32]:LB) aw).bind λau=>(Az aa au).bind λbl=>zY (Ad ab 1) bl
else
j44 k m n o p u h a b f g aa
def Xp:Nat->Int->LB->Ah
|0,_,_=>none
|c+1,e,i=>SD Ag0 (Xp c) z d j C E M I A J L T e i
def TY u k m n o p h a b f g:=Xp u k m n o p h a b f g Bu
abbrev Aln:=Jz6 (LI->Int->UInt8->Int->Int->Int->LB->Ah)
def TA(j42:Aln)(k m n o p u:Int)(h:LI)(a:Int)(b:UInt8)(f g:Int)(ac:LB):Ah:=(Az ac ([10,102,114,97,109,101,115]:LB)).bind λax=>j42 u k m n o p h a b f g 0 ax
def Age:=TA TY
def RI(j41:Alo)(zZ:Amr)(p k m n o u:Int)(h:LI)(a:Int)(b:UInt8)(f g ad:Int)(ac:LB):Ah:=if(Bn ad (Ac ([p]:LI)))then(Ae ([p]:LI) ad).bind λ_=>(Ae ([p]:LI) ad).bind λbm=>(strconv_Itoa bm).bind λay=>(Az ([32]:LB) ay).bind λaw=>(Az ac aw).bind λap=>zZ (Ad ad 1) ap
else
j41 k m n o p u h a b f g ac
def Ze:Nat->Int->LB->Ah
|0,_,_=>none
|c+1,e,i=>RI Age (Ze c) z d j C E M I A J L T e i
def SV p k m n o u h a b f g:=Ze p k m n o u h a b f g Bu
def TC(j39:Aln)(k m n o p u:Int)(h:LI)(a:Int)(b:UInt8)(f g:Int)(ae:LB):Ah:=(Az ae ([32,99,111,117,110,116]:LB)).bind λaz=>j39 p k m n o u h a b f g 0 az
def Ago:=TC SV
def QU(j38:Alo)(za:Amr)(o k m n p u:Int)(h:LI)(a:Int)(b:UInt8)(f g af:Int)(ae:LB):Ah:=if(Bn af (Ac ([o]:LI)))then(Ae ([o]:LI) af).bind λ_=>(Ae ([o]:LI) af).bind λbn=>(strconv_Itoa bn).bind λba=>(Az ([32]:LB) ba).bind λay=>(Az ae ay).bind λar=>za (Ad af 1) ar
else
j38 k m n o p u h a b f g ae
def Yz:Nat->Int->LB->Ah
|0,_,_=>none
|c+1,e,i=>QU Ago (Yz c) z d j C E M I A J L T e i
def TQ o k m n p u h a b f g:=Yz o k m n p u h a b f g Bu
def RA(j36:Aln)(k m n o p u:Int)(h:LI)(a:Int)(b:UInt8)(f g:Int)(ag:LB):Ah:=(Az ag ([32,114,97,116,101]:LB)).bind λbp=>j36 o k m n p u h a b f g 0 bp
def Afq:=RA TQ
def SZ(j35:Alo)(zf:Amr)(n k m o p u:Int)(h:LI)(a:Int)(b:UInt8)(f g ah:Int)(ag:LB):Ah:=if(Bn ah (Ac ([n]:LI)))then(Ae ([n]:LI) ah).bind λ_=>(Ae ([n]:LI) ah).bind λbq=>(strconv_Itoa bq).bind λbb=>(Az ([32]:LB) bb).bind λba=>(Az ag ba).bind λav=>zf (Ad ah 1) av
else
j35 k m n o p u h a b f g ag
def Xb:Nat->Int->LB->Ah
|0,_,_=>none
|c+1,e,i=>SZ Afq (Xb c) z d j C E M I A J L T e i
def RP n k m o p u h a b f g:=Xb n k m o p u h a b f g Bu
def UB(j33:Aln)(k m n o p u:Int)(h:LI)(a:Int)(b:UInt8)(f g:Int)(ai:LB):Ah:=(Az ai ([32,98,105,116,115]:LB)).bind λbr=>j33 n k m o p u h a b f g 0 br
def Agh:=UB RP
def RH(j32:Alo)(zh:Amr)(m k n o p u:Int)(h:LI)(a:Int)(b:UInt8)(f g aj:Int)(ai:LB):Ah:=if(Bn aj (Ac ([m]:LI)))then(Ae ([m]:LI) aj).bind λ_=>(Ae ([m]:LI) aj).bind λbs=>(strconv_Itoa bs).bind λbc=>(Az ([32]:LB) bc).bind λbb=>(Az ai bb).bind λax=>zh (Ad aj 1) ax
else
j32 k m n o p u h a b f g ai
def Xl:Nat->Int->LB->Ah
|0,_,_=>none
|c+1,e,i=>RH Agh (Xl c) z d j C E M I A J L T e i
def UT m k n o p u h a b f g:=Xl m k n o p u h a b f g Bu
def TI(j30:Aln)(k m n o p u:Int)(h:LI)(a:Int)(b:UInt8)(f g:Int)(al:LB):Ah:=(Az al ([32,99,104,97,110,110,101,108,115]:LB)).bind λbt=>j30 m k n o p u h a b f g 0 bt
def Aez:=TI UT
def OQ(j29:Alo)(Tv:Amr)(k m n o p u:Int)(h:LI)(a:Int)(b:UInt8)(f g am:Int)(al:LB):Ah:=if(Bn am (Ac ([k]:LI)))then(Ae ([k]:LI) am).bind λ_=>(Ae ([k]:LI) am).bind λbu=>(strconv_Itoa bu).bind λbv=>(Az ([32]:LB) bv).bind λbc=>(Az al bc).bind λaz=>Tv (Ad am 1) az
else
j29 k m n o p u h a b f g al
def Yx:Nat->Int->LB->Ah
|0,_,_=>none
|c+1,e,i=>OQ Aez (Yx c) z d j C E M I A J L T e i
def Afg k m n o p u h a b f g:=Yx k m n o p u h a b f g Bu
def SR(j27:Aln)(k m n o p u:Int)(h:LI)(a:Int)(b:UInt8)(f g:Int):Ah:=(Az ([]:LB) ([102,111,114,109,97,116]:LB)).bind λbw=>j27 k m n o p u h a b f g 0 bw
def PD:=SR Afg
def DV(j26:Jz6 (LI->Int->UInt8->Int->Int->Ah))(k m n o p u:Int)(h:LI)(a:Int)(b:UInt8)(f g:Int):Ah:=(UU k m n o p u h a b f g).bind λan=>if(Ax an 0)then
some (([]:LB),an)
else(
(
(
j26 k m n o p u h a b f g)))
def uW:=DV PD
def Ey:Alg:=if(Dy (Ac c) (Ac e))then(Bm c (Ar (Ac c) (Ac e)) (Ac c)).bind λz=>some (z==e)
else
some false
def Hz:Alk:=(Ey c e).bind λz=>if z then(Bm c 0 (Ar (Ac c) (Ac e))).bind λd=>some d
else
some c
def Jn:Alk:=(Hz c e).bind λz=>some z
def strings_Count:Ale:=match e with
|[z]=>some (Int.ofNat (c.count z))
|_=>none
def kG(s:LB):Option (Int32×Int):=none
def VW:Alk:=(Bm c z (Ac c)).bind λd=>(Az i d).bind λe=>(Dl (decide (Ac e<=17179869184))).bind λ_=>some e
def Ia:=VW
abbrev Anf:=Int->Int->LB->Option (LB)
def Yk(j12:Amy)(E8:Anf)(a g b:LB)(f h m:Int)(n:LB):Alk:=if(Bn m f)then(Bm a h (Ac a)).bind λae=>(strings_Index ae g).bind λaa=>(Bm a h (Ad h aa)).bind λaf=>(Az n af).bind λag=>(Az ag b).bind λah=>E8 (Ad (Ad h aa) (Ac g)) (Ad m 1) ah
else
j12 a h n
def Nt:Nat->Int->Int->LB->Option (LB)
|0,_,_,_=>none
|z+1,d,j,l=>Yk Ia (Nt z) c e i A d j l
def aF a g b f:=Nt a g b f Bu
def Wg(j12:Amy)(t!:Anf)(a b:LB)(f k o:Int)(p:LB):Alk:=if(Bn o (Ar f 1))then(Bm a k (Ac a)).bind λv=>(kG v).bind λ(am,ab)=>(Bm a k (Ad k ab)).bind λai=>(Az p ai).bind λaj=>(Az aj b).bind λak=>t! (Ad k ab) (Ad o 1) ak
else
j12 a k p
def Me:Nat->Int->Int->LB->Option (LB)
|0,_,_,_=>none
|d+1,i,j,l=>Wg Ia (Me d) c e z i j l
def VV a b f:=Me a b f Bu
def Zw(j8:LB->LB->LB->Jz3 (LB->Option (LB)))(j10:LB->LB->Jz3 (LB->Option (LB)))(a g b:LB)(f:Int):Alk:=Option.bind (Dl (decide (0<= (Ad (Ac a) (Ct f (Ar (Ac b) (Ac g))))/\ (Ad (Ac a) (Ct f (Ar (Ac b) (Ac g))))<=281474976710656))) λ_=>if(Cx (Ac g) 0)then
j8 a g b f 0 0 ([]:LB)
else(Az ([]:LB) b).bind λal=>j10 a b f 0 0 al
def YT:=Zw aF VV
def Wy(j7:LB->LB->LB->Int->Option (LB))(a g b:LB)(u:Int):Alk:=if((g==b)||(geq u 0))then
some a
else(strings_Count a g).bind λw=>if(geq w 0)then
some a
else
if((Bn u 0)||(Bn w u))then
j7 a g b w
else
j7 a g b u
def MO:=Wy YT
def Yj:Alk:=(MO c e i (-1:Int)).bind λz=>some z
def Aad:Alk:=(Dl (decide (Ac c<=17179869184))).bind λ_=>some c
def FY:=Aad
def HE:Alk:=if(Bn y7 (Ac Akh))then(Ae Akh y7).bind λz=>(Az Aj0 o8).bind λc=>(Az c z).bind λd=>Aj5 (Ad y7 1) d
else
Aj4 Aj0
def Sk:Nat->Int->LB->Option (LB)
|0,_,_=>none
|z+1,d,e=>HE FY (Sk z) c O d e
def HB a f:=Sk a f Bu
def DY(j14:LB-> (List LB)->Int->LB->Option (LB))(b:Alf)(a:LB)(g:Int):Alk:=(Dl (decide (0<=g/\g<=281474976710656))).bind λ_=>(Ae b 0).bind λn=>(Az ([]:LB) n).bind λv=>(Bm b 1 (Ac b)).bind λf=>j14 a f 0 v
def fH:=DY HB
abbrev Amo:=(List LB)->LB->Int->Option (LB)
abbrev Anq:=Int->Int->Option (LB)
def EJ(j13:Amo)(X7:Anq)(b:Alf)(a:LB)(g m:Int):Alk:=if(Bn m (Ac b))then(Ae b m).bind λn=>if(Cx (Ac n) (Ar 9223372036854775807 g))then
none
else
X7 (Ad g (Ac n)) (Ad m 1)
else
j13 b a g
def Tn:Nat->Int->Int->Option (LB)
|0,_,_=>none
|z+1,c,d=>EJ fH (Tn z) O l5 c d
def Aal b a:=Tn b a Bu
def Tu(j11:(List LB)->LB->Int->Int->Option (LB))(b:Alf)(a:LB)(w:Int):Alk:=j11 b a w 0
def EU:=Tu Aal
def NR(j10:Amo)(b:Alf)(a:LB):Alk:=j10 b a (Ad 0 (Ct (Ac a) (Ar (Ac b) 1)))
def Adu:=NR EU
abbrev Ane:=(List LB)->LB->Option (LB)
def MY(j9:Ane)(j10:Amo)(b:Alf)(a:LB):Alk:=if(geq (Ac b) 0)then
some ([]:LB)
else
if(geq (Ac b) 1)then(Ae b 0).bind λn=>some n
else
if(Cx (Ac a) 0)then(Dl (Ax (Ar (Ac b) 1) 0)).bind λ_=>if(Dy (Ac a) (Fk 9223372036854775807 (Ar (Ac b) 1)))then
none
else
j9 b a
else
j10 b a 0
def JR:=MY Adu EU
def Ad6:Alk:=(JR O ([32]:LB)).bind λz=>some z
def MA:=Ad6
abbrev Am9:=Int-> (List LB)->Option (LB)
def MP(j6:(List LB)->Option (LB))(Vt:Am9)(a:LI)(f:Int)(b:Alf):Alk:=if(Bn f (Ac a))then(Ae a f).bind λk=>(strconv_Itoa k).bind λm=>(Az b ([m]:Alf)).bind λn=>Vt (Ad f 1) n
else
j6 b
def Uw:Nat->Int-> (List LB)->Option (LB)
|0,_,_=>none
|z+1,c,d=>MP MA (Uw z) l c d
def Ad2 a:=Uw a Bu
def LR(j4:LI->Int-> (List LB)->Option (LB))(a:LI)(h:Int):Alk:=if(Ax h 0)then(Aj h).bind λg=>some g
else
j4 a 0 ([]:Alf)
def Gf:=LR Ad2
abbrev Alr:=Option (LB×LB×Int×Int×Int×Int×Int×LI×Int×LB×Bool×Int×Int)
def Pm:Alr:=if(Cx (Ac c) 64)then
some (([]:LB),([]:LB),0,0,0,0,0,([]:LI),0,([]:LB),false,0,2)
else
some (c,([]:LB),0,0,0,0,0,([]:LI),0,([]:LB),false,0,0)
def Jf:Alk:=(
(Az ([]:LB) c).bind λz=>some z)
def Hm:Al3:=(
(Az ([]:LI) l).bind λz=>some z)
def Dx:Option (LB×LB×Int×Int×Int×Int×Int×LI×Int×LB×Bool×Int):=(Jf e).bind λi=>(Jf P).bind λl=>(Hm I).bind λB=>some (c,i,z,d,j,C,E,B,A,l,D,G)
def Qn(a f g h k:Int)(b:LB):Ale:=if((b==([]:LB)) !=(geq a 1))then
some 26
else
some 0
def Ac1(y:Int)(o p:LB)(h b f k m:Int)(g:LI)(a:Int)(n:LB)(u:Bool)(v:Int):Alg:=some (IV (Ac n) y)
def NO:=Ac1
def ME(j8:Int->LB->LB->Jz5 (LI->Int->LB->Bool->Int->Option Bool))(O9:Int->Int->Option Bool)(w:LI)(o p:LB)(h b f k m:Int)(g:LI)(a:Int)(n:LB)(u:Bool)(v y aa:Int):Alg:=if(Bn aa (Ac w))then(Ae w aa).bind λac=>O9 (Ad y (Fk (Ct (Ct ac b) f) 8)) (Ad aa 1)
else
j8 y o p h b f k m g a n u v
def Uv:Nat->Int->Int->Option Bool
|0,_,_=>none
|z+1,c,d=>ME NO (Uv z) l i o9 A U Z Aj1 Aj2 Akj Aj3 P D G c d
def Adi w o p h b f k m g a n u v:=Uv w o p h b f k m g a n u v Bu
def NN(j6:LI->LB->LB->Jz5 (LI->Int->LB->Bool->Int->Int->Int->Option Bool))(o p:LB)(h b f k m:Int)(g:LI)(a:Int)(n:LB)(u:Bool)(v:Int)(ab:LI):Alg:=if(geq (Ac g) 0)then
some ((geq a 0)&&(geq (Ac n) 0))
else(Ps g).bind λad=>if((((Ax ad 0)||(Ax (Ac g) (Ac ab)))||(Bn a 0))||(Cx a (Ac ab)))then
some false
else(Bm ab 0 a).bind λw=>j6 w o p h b f k m g a n u v 0 0
def Ade:=NN Adi
def NV(j5:LB->LB->Jz5 (LI->Int->LB->Bool->Int->LI->Option Bool))(o p:LB)(h b f k m:Int)(g:LI)(a:Int)(n:LB)(u:Bool)(v:Int):Alg:=if((geq h 0)&&((geq b 0)&&((geq f 0)&&((geq k 0)&&((geq m 0)&&true)))))then
some (((geq (Ac g) 0)&&(geq a 0))&&(geq (Ac n) 0))
else(Cd h b f k m).bind λ(ab,ae)=>if(Ax ae 0)then
some false
else(Qn h b f k m o).bind λaf=>if(Ax af 0)then
some false
else
j5 o p h b f k m g a n u v ab
def JK:=NV Ade
def Ao:Anc:=some (false,z)
def Acr:Alg:=some false
def MS:=Acr
abbrev Am3:=Int->Option Bool
def MI(j6:Alg)(Vt:Am3)(a:LB)(b:Int):Alg:=if(Bn b 2)then(Ae ([([73,68,51]:LB),([65,80,69,84,65,71,69,88]:LB)]:Alf) b).bind λf=>if(Bn (Ac a) (Ac f))then(Qe f a).bind λg=>if g then
some true
else
Vt (Ad b 1)
else
Vt (Ad b 1)
else
j6
def Vj:Nat->Int->Option Bool
|0,_=>none
|z+1,d=>MI MS (Vj z) c d
def Acy a:=Vj a Bu
abbrev Amt:=LB->Int->Option Bool
def NQ(j4:Amt)(a:LB):Alg:=j4 a 0
def Rs:=NQ Acy
def CT(f a b g h:Int):Aly:=some (a,b)
def My:Ale:=some (-1:Int)
def Gh:=My
def Gk(j6:Ale)(Vt:Al9)(a:LI)(b f:Int):Ale:=if(Bn f (Ac a))then(Ae a f).bind λg=>if(geq b g)then
some f
else
Vt (Ad f 1)
else
j6
def Dp:Nat->Int->Option Int
|0,_=>none
|c+1,d=>Gk Gh (Dp c) l z d
def Nd a b:=Dp a b Bu
def Gj(j4:Anh)(a:LI)(b:Int):Ale:=j4 a b 0
def Hl:=Gj Nd
def Gi:Alg:=(Hl l z).bind λc=>some (Dy c 0)
def Mv:Alg:=(Gi ([(4:Int),(12:Int),(16:Int),(22:Int),(24:Int),(26:Int),(38:Int)]:LI) z).bind λc=>some c
def eH:Ale:=if(!D)then
some 8
else
some 0
def Fu:=eH
def dJ:Ale:=X ((true==true)&&((geq (0:Int) (0:Int))&&true))
def BP:=dJ Fu
def aN:Ale:=X ((p9==true)&&((geq Aki 0)&&true))
def Qf:=aN Fu
abbrev Al4:=Bool->Int->Option Int
def eL(j13:Al4)(g ax:LB)(ay az ab ba af b:Int)(n:Bool)(o:Int)(f:LI)(k:LB):Ale:=(Qn ay az ab ba af g).bind λdi=>(Ao di).bind λ(dj,ai)=>j13 dj ai
def AS:=eL Qf
def bY:Ale:=X ((p9==true)&&((geq Aki 0)&&true))
def Kw:=bY Fu
def bG(j25:Al4)(g a:LB)(h p m u v b:Int)(n:Bool)(o:Int)(f:LI)(k:LB)(de:Int):Ale:=(Cd h p m u v).bind λ(dm,be)=>if(Ax be 0)then(Ao be).bind λ(aj,bg)=>j25 aj bg
else(Bm a de (Ac a)).bind λdn=>(Ti dn (Ac dm)).bind λ(dp,ab)=>if(geq ab 24)then
j25 true 0
else
if(Ax ab 0)then(Ao ab).bind λ(dq,af)=>j25 dq af
else(Bm a (Ad (Ad de (Ct 4 (Ac dp))) 4) (Ac a)).bind λfc=>j25 false 0
def Rt:=bG Kw
abbrev Al6:=LB->LB->Jz6 (Bool->Int->LI->LB->Int->Option Int)
def bO(j25:Al4)(j24:Al6)(bh:Bool)(bf:Int)(g a:LB)(h p m u v b:Int)(n:Bool)(o:Int)(f:LI)(k:LB):Ale:=if(Ax bf 0)then(Ao bf).bind λ(dr,be)=>j25 dr be
else
if(!bh)then(Ao 26).bind λ(aj,bg)=>j25 aj bg
else
j24 g a h p m u v b n o f k 8
def dW:=bO Kw Rt
def eE(j15:Bool->Int->LB->LB->Jz6 (Bool->Int->LI->LB->Option Int))(g a:LB)(h p m u v b:Int)(n:Bool)(o:Int)(f:LI)(k:LB):Ale:=(Bm a 0 8).bind λds=>(Rh ds g).bind λ(bh,bf)=>j15 bh bf g a h p m u v b n o f k
def AP:=eE dW
def bF:Ale:=X ((p9==true)&&((geq Aki 0)&&true))
def Kr:=bF Fu
def Rl(j28:Al4)(y ac:Int)(g a:LB)(h p m u v b:Int)(n:Bool)(o:Int)(ak:LX)(f:LI)(k:LB):Ale:=if(Ax ac 0)then(Ao ac).bind λ(bi,bj)=>j28 bi bj
else(Hn m ak).bind λ(bk,bb)=>if(Ax bb 0)then(Ao bb).bind λ(bl,bm)=>j28 bl bm
else(Az k bk).bind λdv=>(
(Bm a y (Ac a)).bind λdw=>j28 false 0)
def CI:=Rl Kr
def BM(j27:Int->Int->LB->LB->Jz6 (Bool->Int->LX->LI->LB->Option Int))(y:Int)(g a:LB)(h p m u v b:Int)(n:Bool)(o:Int)(bc:LX)(ag f:LI)(k:LB):Ale:=(Ae ag b).bind λ_=>(Bm a 0 y).bind λdx=>(Ae ag b).bind λdy=>(CT h p m u v).bind λ(dz,bd)=>(Ib dz bd bc dy dx).bind λ(ak,ac)=>j27 y ac g a h p m u v b n o ak f k
def aY:=BM CI
abbrev Ama:=LB->LB->Jz6 (Bool->Int->LI->LB->Option Int)
def Tk(j13:Al4)(j12:Ama)(j25:Al4)(j23:Ama)(j24:Al6)(j28:Al4)(j26:Int->LB->LB->Jz6 (Bool->Int->LX->LI->LI->LB->Option Int))(j22:Amn)(j21:Ale)(al am:LB)(an ao ap aq ar:Int)(au:LI)(ad:Int)(ae:LB)(aa:Bool)(w:Int):Ale:=if(Cx (Ac al) 64)then
some 8
else
if((geq w 0)&&(!aa))then(Dx al am an ao ap aq ar au ad ae aa w).bind λ(g,a,h,p,m,u,v,f,b,k,n,o)=>(JK al am an ao ap aq ar au ad ae aa w).bind λbn=>if bn then
if(geq h 0)then(Er a).bind λ(ah,av)=>if(geq av 24)then
j13 true 0
else
if(Ax av 0)then(Ao av).bind λ(bp,bq)=>j13 bp bq
else(Bm a ah (Ac a)).bind λbr=>(Rs br).bind λaj=>if aj then
j13 true 0
else(Bm a ah (Ac a)).bind λbs=>(Hk bs).bind λ(ay,az,ab,ba,af,aw)=>if(geq aw 24)then
j13 true 0
else
if(Ax aw 0)then(Ao aw).bind λ(bt,bu)=>j13 bt bu
else(
(Bm a (Ad ah 22) (Ac a)).bind λax=>(
j12 g ax ay az ab ba af b n o f k))
else
if(geq (Ac f) 0)then
if(geq h 2)then
if(Bn (Ac a) 8)then
j25 true 0
else
j23 g a h p m u v b n o f k
else
j24 g a h p m u v b n o f k 0
else
if(Bn b (Ac f))then(Ae f b).bind λ_=>(Ae f b).bind λy=>if(Bn (Ac a) y)then
j28 true 0
else(Kj g).bind λ(bc,ai)=>if(Ax ai 0)then(Ao ai).bind λ(bv,bw)=>j28 bv bw
else(Cd h p m u v).bind λ(ag,bx)=>if((Ax bx 0)||(Dy b (Ac ag)))then(Ao 8).bind λ(bz,da)=>j28 bz da
else
j26 y g a h p m u v b n o bc ag f k
else
if(Cx (Ac a) 4000)then(Ao 38).bind λ(db,bd)=>j22 ((db==true)&&((geq bd 0)&&true))
else
j21
else
j22 false
else
if((geq (Ac am) 0)&&(geq (Ac au) 0))then
if((((geq an 0)&&((geq ao 0)&&((geq ap 0)&&((geq aq 0)&&((geq ar 0)&&true)))))&&(geq ad 0))&&(IV (Ac ae) 12000))then
if(geq w 0)then
j22 true
else
if(!aa)then(Mv w).bind λdc=>j22 dc
else
j22 false
else
j22 false
else
if((false&&(geq ad 0))&&(IV (Ac ae) 12000))then
if(geq w 0)then
j22 true
else
if(!aa)then(Mv w).bind λdd=>j22 dd
else
j22 false
else
j22 false
def Nb:=Tk Qf AS Kw AP Rt Kr aY Fu BP
def Nc:Alr:=(Nb c e z d j C E I A P D G).bind λi=>if(Ax i 0)then
some (([]:LB),([]:LB),0,0,0,0,0,([]:LI),0,([]:LB),false,0,i)
else
if(Ax G 0)then(
(
(Dx c e z d j C E I A P D G).bind λ(l,B,F,J,L,M,N,O,R,T,U,V)=>(
some (l,B,F,J,L,M,N,O,R,T,U,V,G))))
else
if D then(Dx c e z d j C E I A P D G).bind λ(X,Y,Z,l5,l6,l7,l8,l9,o7,o8,o9,p8)=>some (X,Y,Z,l5,l6,l7,l8,l9,o7,o8,o9,p8,36)
else(Dx c e z d j C E I A P D G).bind λ(p9,q8,q9,r9,w9,y5,y7,y8,y9,Aj0,Aj1,Aj2)=>some (p9,q8,q9,r9,w9,y5,y7,y8,y9,Aj0,Aj1,Aj2,0)
def KW(b g:LB)(h k m n o:Int)(p:LI)(u:Int)(f:LB)(v:Bool)(w a:Int):Alr:=some (b,([]:LB),0,0,0,0,0,([]:LI),0,f,false,a,a)
abbrev Am:=Option (LB×LB×Int×Int×Int×Int×Int×LI×Int×LB×Bool×Int×Int)
abbrev Al0:=LB->Jz6 (LI->LB->Am)
def eX(Ws:Al0)(a:LB)(b:Bool)(f:Int)(av:LB)(aw ax ay az ba bb:Int)(dy:Bool)(dk:Int)(bc:LI)(bd:LB):Am:=if dy then(Dx a av aw ax ay az ba bc bb bd b f).bind λ(dz,fa,fb,ap,be,ae,fc,fd,fe,ff,fg,af)=>some (dz,fa,fb,ap,be,ae,fc,fd,fe,ff,fg,af,0)
else
if(Ax dk 0)then(KW a av aw ax ay az ba bc bb bd b f dk).bind λ(fh,fi,fj,fk,fl,fm,fn,fo,fp,fq,fs,ft,fu)=>some (fh,fi,fj,fk,fl,fm,fn,fo,fp,fq,fs,ft,fu)
else
Ws av aw ax ay az ba bb bc bd
def Gq Ws:=eX Ws
abbrev Als:=LB->Jz6 (Bool->Int->LI->LB->Am)
def Abg(j71:Als)(a:LB)(b:Bool)(f:Int)(g:LB)(m o n p u h:Int)(k:LI)(v:LB):Am:=j71 g m o n p u h true 0 k v
def GY Ws a b f:=Abg (Gq Ws a b f) a b f
def Aaq(j71:Als)(a:LB)(b:Bool)(f h:Int)(k:LI)(v:LB)(fv:Bool)(fw:Int)(fx:LB)(fy fz ga gb gc:Int):Am:=j71 fx fy fz ga gb gc h fv fw k v
def Tl Ws a b f:=Aaq (Gq Ws a b f) a b f
abbrev Amh:=Int->LI->LB->Bool->Int->LB->Jz5 Am
def Ab8(j62:Amh)(a:LB)(b:Bool)(f:Int)(ag:LB)(ah ai y aj aa h:Int)(k:LI)(v:LB):Am:=(Qn ah ai y aj aa a).bind λgd=>(Ao gd).bind λ(ge,ak)=>j62 h k v ge ak ag ah ai y aj aa
def EK Ws a b f:=Ab8 (Tl Ws a b f) a b f
def Aap(j71:Als)(a:LB)(b:Bool)(f m o n p u h:Int)(v:LB)(bf:Bool)(bg:Int)(bh:LB)(bi:LI):Am:=j71 bh m o n p u h bf bg bi v
def Lo Ws a b f:=Aap (Gq Ws a b f) a b f
abbrev Al2:=Jz6 (LB->Bool->Int->LB->LI->Am)
def Tr(j75:Al2)(a:LB)(b:Bool)(f:Int)(g:LB)(m o n p u h:Int)(k:LI)(v:LB)(dl:Int):Am:=(Cd m o n p u).bind λ(gf,ar)=>if(Ax ar 0)then(Ao ar).bind λ(al,bj)=>j75 m o n p u h v al bj g k
else(Bm g dl (Ac g)).bind λgg=>(Ti gg (Ac gf)).bind λ(dm,y)=>if(geq y 24)then
j75 m o n p u h v true 0 g k
else
if(Ax y 0)then(Ao y).bind λ(gh,aa)=>j75 m o n p u h v gh aa g k
else(Bm g (Ad (Ad dl (Ct 4 (Ac dm))) 4) (Ac g)).bind λgi=>j75 m o n p u h v false 0 gi dm
def IL Ws a b f:=Tr (Lo Ws a b f) a b f
abbrev Aml:=LB->Jz6 (LI->LB->Int->Am)
def HU(j75:Al2)(j74:Aml)(a:LB)(b:Bool)(f:Int)(bk:Bool)(au:Int)(g:LB)(m o n p u h:Int)(k:LI)(v:LB):Am:=if(Ax au 0)then(Ao au).bind λ(gj,ar)=>j75 m o n p u h v gj ar g k
else
if(!bk)then(Ao 26).bind λ(al,bj)=>j75 m o n p u h v al bj g k
else
j74 g m o n p u h k v 8
def eU Ws a b f:=HU (Lo Ws a b f) (IL Ws a b f) a b f
def EN(j64:Bool->Int->LB->Jz6 (LI->LB->Am))(a:LB)(b:Bool)(f:Int)(g:LB)(m o n p u h:Int)(k:LI)(v:LB):Am:=(Bm g 0 8).bind λgk=>(Rh gk a).bind λ(bk,au)=>j64 bk au g m o n p u h k v
def Aa0 Ws a b f:=EN (eU Ws a b f) a b f
def Aah(j71:Als)(a:LB)(b:Bool)(f m o n p u:Int)(k:LI)(bl:Bool)(bm:Int)(bn:LB)(bp:Int)(bq:LB):Am:=j71 bn m o n p u bp bl bm k bq
def Tj Ws a b f:=Aah (Gq Ws a b f) a b f
abbrev Ami:=Jz5 (LI->Bool->Int->LB->Int->LB->Am)
def Th(j78:Ami)(a:LB)(b:Bool)(f w ab:Int)(g:LB)(m o n p u h:Int)(am:LX)(k:LI)(v:LB):Am:=if(Ax ab 0)then(Ao ab).bind λ(br,bs)=>j78 m o n p u k br bs g h v
else(Hn n am).bind λ(bt,af)=>if(Ax af 0)then(Ao af).bind λ(bu,bv)=>j78 m o n p u k bu bv g h v
else(Az v bt).bind λbw=>(
(Bm g w (Ac g)).bind λbx=>j78 m o n p u k false 0 bx (Ad h 1) bw)
def FW Ws a b f:=Th (Tj Ws a b f) a b f
def EM(j77:Int->Int->LB->Jz6 (LX->LI->LB->Am))(a:LB)(b:Bool)(f w:Int)(g:LB)(m o n p u h:Int)(aq:LX)(ac k:LI)(v:LB):Am:=(Ae ac h).bind λ_=>(Bm g 0 w).bind λgl=>(Ae ac h).bind λgm=>(CT m o n p u).bind λ(be,ae)=>(Ib be ae aq gm gl).bind λ(am,ab)=>j77 w ab g m o n p u h am k v
def Abn Ws a b f:=EM (FW Ws a b f) a b f
def Sm(j62:Amh)(j61:Al0)(j75:Al2)(j73:Al0)(j74:Aml)(j78:Ami)(j76:Int->LB->Jz6 (LX->LI->LI->LB->Am))(j71:Als)(j70:Al0)(a:LB)(b:Bool)(f:Int)(g:LB)(m o n p u h:Int)(k:LI)(v:LB):Am:=if(geq m 0)then(Er g).bind λ(ad,an)=>if(geq an 24)then
j62 h k v true 0 g m o n p u
else
if(Ax an 0)then(Ao an).bind λ(bz,da)=>j62 h k v bz da g m o n p u
else(Bm g ad (Ac g)).bind λdb=>(Rs db).bind λal=>if al then
j62 h k v true 0 g m o n p u
else(Bm g ad (Ac g)).bind λdc=>(Hk dc).bind λ(ah,ai,y,aj,aa,ao)=>if(geq ao 24)then
j62 h k v true 0 g m o n p u
else
if(Ax ao 0)then(Ao ao).bind λ(dd,de)=>j62 h k v dd de g m o n p u
else(
(Bm g (Ad ad 22) (Ac g)).bind λag=>(
j61 ag ah ai y aj aa h k v))
else
if(geq (Ac k) 0)then
if(geq m 2)then
if(Bn (Ac g) 8)then
j75 m o n p u h v true 0 g k
else
j73 g m o n p u h k v
else
j74 g m o n p u h k v 0
else
if(Bn h (Ac k))then(Ae k h).bind λ_=>(Ae k h).bind λw=>if(Bn (Ac g) w)then
j78 m o n p u k true 0 g h v
else(Kj a).bind λ(aq,ak)=>if(Ax ak 0)then(Ao ak).bind λ(df,dg)=>j78 m o n p u k df dg g h v
else(Cd m o n p u).bind λ(ac,dh)=>if((Ax dh 0)||(Dy h (Ac ac)))then(Ao 8).bind λ(di,ap)=>j78 m o n p u k di ap g h v
else
j76 w g m o n p u h aq ac k v
else
if(Cx (Ac g) 4000)then(Ao 38).bind λ(dj,ae)=>j71 g m o n p u h dj ae k v
else
j70 g m o n p u h k v
def Cn:Nat->LB->Jz6 (LI->LB->Am)
|0,_,_,_,_,_,_,_,_,_=>none
|z+1,d,e,i,j,l,A,B,C,E=>Sm (Tl (Cn z) c D G) (EK (Cn z) c D G) (Lo (Cn z) c D G) (Aa0 (Cn z) c D G) (IL (Cn z) c D G) (Tj (Cn z) c D G) (Abn (Cn z) c D G) (Gq (Cn z) c D G) (GY (Cn z) c D G) c D G d e i j l A B C E
def Aaj a b f:=Cn a b f Bu
def NS(j37:LB->Bool->Int->LB->Jz6 (LI->LB->Am))(gn go:LB)(gp gq gr gs gt:Int)(gu:LI)(gv:Int)(gw:LB)(gx:Bool)(gy:Int)(gz:LB):Am:=(Nc gn go gp gq gr gs gt gu gv gw gx gy).bind λ(a,dn,dp,dq,dr,ds,dt,du,dv,dw,b,f,dx)=>if(Ax dx 0)then
some (a,dn,dp,dq,dr,ds,dt,du,dv,dw,b,f,dx)
else(Az dn gz).bind λha=>j37 a b f ha dp dq dr ds dt dv du dw
def Ff:=NS Aaj
def PZ(p a:LB)(g u v w y:Int)(b:LI)(h:Int)(aa:LB)(ab:Bool)(ac:Int):Ale:=if(geq g 0)then(Er a).bind λ(k,f)=>if(Ax f 0)then
some f
else(Bm a k (Ac a)).bind λm=>(Hk m).bind λ(ad,ae,af,ag,ah,n)=>some n
else
if((Bn h (Ac b))||(geq (Ac b) 0))then
some 24
else(Qm a).bind λ(ai,o)=>some o
def Iu:Alr:=(Nc c e z d j C E I A P D G).bind λ(i,l,B,F,J,L,M,N,O,R,T,U,V)=>if(Ax V 0)then
some (i,l,B,F,J,L,M,N,O,R,T,U,V)
else(PZ i l B F J L M N O R T U).bind λX=>if(Ax X 0)then(KW i l B F J L M N O R T U X).bind λ(Y,Z,l5,l6,l7,l8,l9,o7,o8,o9,p8,p9,q8)=>some (Y,Z,l5,l6,l7,l8,l9,o7,o8,o9,p8,p9,q8)
else
some (i,([]:LB),0,0,0,0,0,([]:LI),0,R,true,0,0)
abbrev Br:=Option (LX×Int)
def dO:Br:=some (B,0)
def BO:=dO
abbrev Ano:=Int->LX->Br
def bS(Ez:Ano)(a:Int)(b:LB)(f:Int)(o:LX):Br:=Ez (Ad f (Fk a 8)) o
def Ql Ez:=bS Ez
def aR(j28:Ano)(a:Int)(b:LB)(f:Int)(k:Int32)(g:LX):Br:=(Dl (Dy (Ar 32 a) 0)).bind λ_=>(Dl (Dy (Ar 32 a) 0)).bind λ_=>(Az g ([(Da (Gg k (GI.toZ (Ar 32 a)).toNat) (GI.toZ (Ar 32 a)).toNat)]:LX)).bind λp=>j28 f p
def BL Ez a b:=aR (Ql Ez a b) a b
def BH(j27:Int->Int32->LX->Br)(zi:Int32->Int->Br)(a:Int)(b:LB)(f:Int)(g:LX)(k:Int32)(h:Int):Br:=if(Bn h (Fk a 8))then(Ae b (Ad f h)).bind λm=>(Dl (Dy (Ct 8 h) 0)).bind λ_=>zi (ig k (Gg (Aq m:Int32) (GI.toZ (Ct 8 h)).toNat)) (Ad h 1)
else
j27 f k g
def Ra(Ez:Ano)(a:Int)(b:LB)(f:Int)(g:LX):Nat->Int32->Int->Br
|0,_,_=>none
|q+1,k,h=>BH (BL Ez a b) (Ra Ez a b f g q) a b f g k h
def BY Ez a b f g:=Ra Ez a b f g Bu
def CC(j28:Ano)(j25:Int->LX->Int32->Int->Br)(j30:LX->Br)(a:Int)(b:LB)(f:Int)(g:LX):Br:=if(Bn f (Ac b))then
if(geq a 8)then(Ae b f).bind λm=>(Az g ([(Ar (Aq m:Int32) 128)]:LX)).bind λu=>j28 f u
else
j25 f g 0 0
else
j30 g
def Ky:Nat->Int->LX->Br
|0,_,_=>none
|c+1,d,e=>CC (Ql (Ky c) z i) (BY (Ky c) z i) BO z i d e
def eB a b:=Ky a b Bu
def GJ(j16:Int->LB->Int->LX->Br)(a:Int)(b:LB):Br:=(CB a).bind λ(v,w,n)=>if(Ax n 0)then
some (([]:LX),n)
else(Dl (Ax (Fk a 8) 0)).bind λ_=>if(Ax (Hq (Ac b) (Fk a 8)) 0)then
some (([]:LX),12)
else(Dl (Ax (Fk a 8) 0)).bind λ_=>if(Cx (Fk (Ac b) (Fk a 8)) 4000)then
some (([]:LX),4)
else
j16 a b 0 ([]:LX)
def Mm:=GJ eB
def Rb:Option (Int×Int×Int×LX×Int):=(Pm e).bind λ(z,d,i,j,l,A,B,C,D,E,F,G,I)=>if(Ax I 0)then
some (0,0,0,([]:LX),I)
else(Ff z d i j l A B C D E F G c).bind λ(J,L,M,N,O,P,R,T,U,V,X,Y,Z)=>if(Ax Z 0)then
some (0,0,0,([]:LX),Z)
else(Iu J L M N O P R T U V X Y).bind λ(l5,l6,l7,l8,l9,o7,o8,o9,p8,p9,q8,q9,r9)=>if(Ax r9 0)then
some (0,0,0,([]:LX),r9)
else
if((geq M 0)&&((geq N 0)&&((geq O 0)&&((geq P 0)&&((geq R 0)&&true)))))then
some (0,0,0,([]:LX),24)
else(Mm O p9).bind λ(w9,y5)=>if(Ax y5 0)then
some (0,0,0,([]:LX),y5)
else
some (N,O,P,w9,0)
def ZI:Alk:=(Gf I z).bind λc=>some c
def Zf:=ZI
abbrev Ant:=Int->LI->Option (LB)
def Zb(j6:Ant)(Vt:Ant)(a:Int)(b:LX)(g:Int)(f:LI):Alk:=if(Bn g (Ac b))then(Ae b g).bind λk=>(Az f ([(Aq k:Int)]:LI)).bind λm=>Vt (Ad g 1) m
else
j6 a f
def Od:Nat->Int->LI->Option (LB)
|0,_,_=>none
|c+1,d,e=>Zb Zf (Od c) z B d e
def aB a b:=Od a b Bu
def AD(j4:Int->LX->Int->LI->Option (LB))(n o p:Int)(b:LX)(a:Int):Alk:=j4 a b 0 ([]:LI)
def Fy:=AD aB
abbrev Cc:=Option (LI×Int)
def Aft:Cc:=if(Ax z 0)then
some (([]:LI),z)
else
some (I,0)
def Iy:=Aft
abbrev Amu:=Int->LI->Cc
def Ag6(j26:Amu)(a b:LB)(h k f m n o:Int)(p v:LI):Cc:=j26 0 v
def SP:=Ag6 Iy
def Aeq(Tw:Amu)(a b:LB)(g:LI)(h k f m n o:Int)(p:LI)(u:Int)(y:LI):Cc:=Tw (Ad u 1) y
def Agw Tw:=Aeq Tw
def Ag5(j26:Amu)(j23:Amu)(a b:LB)(g:LI)(h k f m n o:Int)(p:LI)(u:Int)(y:LI):Cc:=if(Ax (0:Int) (0:Int))then
j26 0 y
else
j23 u y
def Agv Tw a b g h k f m n o p:=Ag5 Iy (Agw Tw a b g h k f m n o p) a b g h k f m n o p
def Afn(j22:Amu)(a b:LB)(g:LI)(h k f m n o:Int)(p:LI)(u aa w:Int)(v:LI)(aj:LX):Cc:=if(!(geq w 0))then(Az v ([u]:LI)).bind λag=>j22 u ag
else
j22 u v
def TU Tw a b g h k f m n o p:=Afn (Agv Tw a b g h k f m n o p) a b g h k f m n o p
def SA(j26:Amu)(j21:Jz3 (LI->LX->Cc))(j25:LB->LB->Jz6 (LI->LI->Cc))(a b:LB)(g:LI)(h k f m n o:Int)(p:LI)(u:Int)(v:LI):Cc:=if(Bn u (Ac g))then(Ae g u).bind λ_=>(Ae g u).bind λaa=>(Ln a b u).bind λ(ah,w)=>if(geq w 0)then(Mm f ah).bind λ(ai,ac)=>if(Ax ac 0)then
j26 ac v
else
j21 u aa w v ai
else
j21 u aa w v ([]:LX)
else
j25 a b h k f m n o p v
def Xz:Nat->Int->LI->Cc
|0,_,_=>none
|i+1,A,B=>SA Iy (TU (Xz i) c e l z d j C E M I) SP c e l z d j C E M I A B
def Aei a b g h k f m n o p:=Xz a b g h k f m n o p Bu
def WW(j26:Amu)(j14:LB->LB->LI->Jz6 (LI->Int->LI->Cc))(a b:LB):Cc:=(Gl a b).bind λ(h,k,f,m,n,o,p,ad)=>if(Ax ad 0)then
j26 ad ([]:LI)
else(Cd h k f m n).bind λ(g,ae)=>if(Ax ae 0)then
j26 ae ([]:LI)
else
j14 a b g h k f m n o p 0 ([]:LI)
def ZX:=WW Iy Aei
def WX:Ale:=(Ki z d).bind λc=>if(Ax c 0)then
some c
else
if(Bn j 1)then
some 2
else(Dl (Ax z 0)).bind λ_=>if(Cx j (Fk 4000 z))then
some 2
else
some 0
def MX:Ani:=(WX z d j).bind λc=>if(Ax c 0)then
some (([]:LX),c)
else(V5 (Ct j z) (0:Int32)).bind λe=>(Dl (geq (Ct j z) (Ct j z))).bind λ_=>some (e,0)
abbrev Au:=Option (Int×Int×Int×LX×LI×Int)
def Rp:Au:=if(Ax C 0)then
some (0,0,0,([]:LX),([]:LI),C)
else
if(geq (Ac B) 0)then
some (0,0,0,([]:LX),([]:LI),6)
else(
(
some (z,d,j,B,I,0)))
def Hj:=Rp
abbrev Amf:=Jz4 (LI->LX->Au)
def CG(j40:Amf)(g h:LB)(m p u n v w y k a b f:Int)(aa ad:LI)(ac:LX):Au:=j40 a b f 0 ad ac
def aX:=CG Hj
def cH(DW:Int->LI->LX->Au)(g h:LB)(o:LI)(m k a b f p u n v w y:Int)(aa:LI)(ab:Int)(am:LI)(an:LX):Au:=DW (Ad ab 1) am an
def Kz DW:=cH DW
def Kv(j40:Amf)(j37:Int->LI->LX->Au)(g h:LB)(o:LI)(m k a b f p u n v w y:Int)(aa:LI)(ab ao:Int)(am:LI)(an:LX):Au:=if(Ax ao 0)then
j40 a b f ao am an
else
j37 ab am an
def Qh DW g h o m k a b f p u n v w y aa:=Kv Hj (Kz DW g h o m k a b f p u n v w y aa) g h o m k a b f p u n v w y aa
abbrev Am6:=Int->Int->LI->LX->Au
def AQ(j36:Am6)(g h:LB)(o:LI)(m a b f k p u n v w y:Int)(aa:LI)(ab af ae:Int)(ak aj ac:LX)(al:LI):Au:=(Az ac ak).bind λav=>j36 ab 0 al av
def eM DW g h o m a b f k p u n v w y aa:=AQ (Qh DW g h o m k a b f p u n v w y aa) g h o m a b f k p u n v w y aa
def BI(j36:Am6)(g h:LB)(o:LI)(m a b f k p u n v w y:Int)(aa:LI)(ab af ae:Int)(aj ac:LX)(aw:LI):Au:=(Az ac aj).bind λak=>j36 ab 0 aw ak
def cM DW g h o m a b f k p u n v w y aa:=BI (Qh DW g h o m k a b f p u n v w y aa) g h o m a b f k p u n v w y aa
def BQ(j36:Am6)(j34:Jz3 (LX->LX->LX->LI->Au))(j35:Jz3 (LX->LX->LI->Au))(g h:LB)(o:LI)(m k a b f p u n v w y:Int)(aa:LI)(ab af ae:Int)(ad:LI)(ac aj:LX):Au:=if(!(geq ae 0))then(Az ad ([ab]:LI)).bind λal=>if(geq k 2)then(MX a b af).bind λ(ak,ap)=>if(Ax ap 0)then
j36 ab ap al ac
else
j34 ab af ae ak aj ac al
else
j35 ab af ae aj ac al
else
j35 ab af ae aj ac ad
def aO DW g h o m k a b f p u n v w y aa:=BQ (Qh DW g h o m k a b f p u n v w y aa) (eM DW g h o m a b f k p u n v w y aa) (cM DW g h o m a b f k p u n v w y aa) g h o m k a b f p u n v w y aa
def CA(j40:Amf)(j33:Jz3 (LI->LX->LX->Au))(j39:LB->LB->Jz11 (LI->LI->LX->Au))(g h:LB)(o:LI)(m k a b f p u n v w y:Int)(aa:LI)(ab:Int)(ad:LI)(ac:LX):Au:=if(Bn ab (Ac o))then(Ae o ab).bind λ_=>(Ae o ab).bind λaf=>(Ln g h ab).bind λ(ax,ae)=>if(geq ae 0)then(Mm n ax).bind λ(ay,aq)=>if(Ax aq 0)then
j40 a b f aq ad ac
else
j33 ab af ae ad ac ay
else
j33 ab af ae ad ac ([]:LX)
else
j39 g h m p u n v w y k a b f aa ad ac
def Qy:Nat->Int->LI->LX->Au
|0,_,_,_=>none
|i+1,A,B,D=>CA Hj (aO (Qy i) c e l z d j C E M y8 Akb Akc Akd Akv I) aX c e l z d j C E M y8 Akb Akc Akd Akv I A B D
def eA g h o m k a b f p u n v w y aa:=Qy g h o m k a b f p u n v w y aa Bu
def GU(j40:Amf)(j21:LB->LB->LI->Jz11 (LI->Int->LI->LX->Au))(g h:LB)(k:Int):Au:=if((Bn k 0)||(Cx k 2))then
some (0,0,0,([]:LX),([]:LI),2)
else
if(geq k 0)then(ZJ g h).bind λ(az,ba,bb,bc,bd)=>some (az,ba,bb,bc,([]:LI),bd)
else(Gl g h).bind λ(be,a,b,f,bf,bg,bh,m)=>if(Ax m 0)then
some (0,0,0,([]:LX),([]:LI),m)
else(Gl g h).bind λ(p,u,n,v,w,y,aa,ar)=>if(Ax ar 0)then
j40 a b f ar ([]:LI) ([]:LX)
else(Cd p u n v w).bind λ(o,au)=>if(Ax au 0)then
j40 a b f au ([]:LI) ([]:LX)
else
j21 g h o m k a b f p u n v w y aa 0 ([]:LI) ([]:LX)
def Ng:=GU Hj eA
def pU(a b f:Int)(g:LX):Aly:=some (a,b)
def wV:Ale:=(pU z d j B).bind λ(c,e)=>(Ki c e).bind λi=>if((Ax i 0)||(Bn A 1))then
some 8
else(Dl (Ax z 0)).bind λ_=>if(Cx A (Fk 4000 z))then
some 8
else(Mr j A).bind λ(l,C)=>if(Ax C 0)then
some 8
else
some 0
def YM:Ale:=if(Bn z 1)then
some 8
else(Dl (Ax z 0)).bind λ_=>if(Ax (Hq (Ac B) z) 0)then
some 8
else(Dl (Ax z 0)).bind λ_=>(wV z d j B (Fk (Ac B) z)).bind λc=>if(Ax c 0)then
some c
else(Pc d B).bind λe=>if(Ax e 0)then
some 8
else
some 0
def UM:Ale:=if((((Bn z 1)||(Cx z 6))||(Bn j 1))||(Cx j 1048576))then
some 8
else
if(geq d 8)then
if(geq d 8)then
some 0
else
some 8
else
if(geq d 16)then
if(geq d 16)then
some 0
else
some 8
else
if(geq d 24)then
some 0
else
some 8
def XR:Anc:=(UM z d j).bind λc=>if(Ax c 0)then
some (false,c)
else
some (((Cx z 2)||(Cx d 16)),0)
def Abm:Alk:=if D then(Bm ([(1:UInt8),(0:UInt8),(0:UInt8),(0:UInt8),(0:UInt8),(0:UInt8),(16:UInt8),(0:UInt8),(128:UInt8),(0:UInt8),(0:UInt8),(170:UInt8),(0:UInt8),(56:UInt8),(155:UInt8),(113:UInt8)]:LB) 0 16).bind λz=>(Az Y z).bind λc=>some c
else
some Y
def HG:=Abm
def EC(j8:Bool->LB->Option (LB))(O9:Anr)(a:Bool)(h:Int)(f:LQ)(g:Int)(b:LB):Alk:=if(Bn g h)then(Ae f g).bind λ_=>(Ae f g).bind λv=>(Ae ([(2:Int),(2:Int),(4:Int),(4:Int),(2:Int),(2:Int),(2:Int),(2:Int),(4:Int)]:LI) g).bind λw=>(Ic v w).bind λ(y,ac)=>(Az b y).bind λaa=>O9 (Ad g 1) aa
else
j8 a b
def Tf:Nat->Int->LB->Option (LB)
|0,_,_=>none
|z+1,c,d=>EC HG (Tf z) D G Akr c d
def eV a h f:=Tf a h f Bu
def HJ(j6:Bool->Int->LQ->Int->LB->Option (LB))(a:Bool)(h:Int)(f:LQ):Alk:=j6 a h f 0 ([]:LB)
def Abd:=HJ eV
def EL(j5:Bool->Int->LQ->Option (LB))(m k n:Int)(a:Bool)(o:UInt64):Alk:=if a then(Ae ([(1:UInt64),(Aq m:UInt64),(Aq n:UInt64),(Ct (Aq n:UInt64) (Aq (Fk (Ct m k) 8):UInt64)),(Aq (Fk (Ct m k) 8):UInt64),(Aq k:UInt64),(22:UInt64),(Aq k:UInt64),o]:LQ) 0).bind λ_=>(La ([(1:UInt64),(Aq m:UInt64),(Aq n:UInt64),(Ct (Aq n:UInt64) (Aq (Fk (Ct m k) 8):UInt64)),(Aq (Fk (Ct m k) 8):UInt64),(Aq k:UInt64),(22:UInt64),(Aq k:UInt64),o]:LQ) 0 65534).bind λab=>j5 a 9 ab
else
j5 a 6 ([(1:UInt64),(Aq m:UInt64),(Aq n:UInt64),(Ct (Aq n:UInt64) (Aq (Fk (Ct m k) 8):UInt64)),(Aq (Fk (Ct m k) 8):UInt64),(Aq k:UInt64),(22:UInt64),(Aq k:UInt64),o]:LQ)
def XY:=EL Abd
def UN:Al5:=(XR z d j).bind λ(c,e)=>if(Ax e 0)then
some (([]:LB),e)
else(Dl (Dy z 0)).bind λ_=>(XY z d j c (Ar (Gg (1:UInt64) (GI.toZ z).toNat) 1)).bind λi=>some (i,0)
def Afl:Alg:=some (geq (Ac c) 4)
def TE:=Afl
def RO(j6:LB->Option Bool)(Vt:Am3)(a:LB)(b:Int):Alg:=if(Bn b (Ac a))then(Ae a b).bind λ_=>(Ae a b).bind λf=>if((Bn f 32)||(Cx f 126))then
some false
else
Vt (Ad b 1)
else
j6 a
def Za:Nat->Int->Option Bool
|0,_=>none
|z+1,d=>RO TE (Za z) c d
def Aew a:=Za a Bu
def TX(j4:Amt)(a:LB):Alg:=j4 a 0
def PO:=TX Aew
def D1:Ale:=some z
def cQ:=D1
def cW(j6:Al9)(Vt:Ans)(a:Alx)(b f:Int):Ale:=if(Bn f (Ac a))then(Ae a f).bind λg=>Vt (Ad b (Ad (Ad 8 (Ac g.2.1)) (Ef (Ac g.2.1) 1))) (Ad f 1)
else
j6 b
def JN:Nat->Int->Int->Option Int
|0,_,_=>none
|z+1,c,d=>cW cQ (JN z) q8 c d
def Ait a:=JN a Bu
def cY(j4:(List (LB×LB×Unit))->Int->Int->Option Int)(a:Alx):Ale:=j4 a 4 0
def ER:=cY Ait
def JX(a f:LB):Alg:=(PO a).bind λb=>some (!b)
def Ael:Ale:=some 0
def Ahg:=Ael
def Agk:Ale:=if Akt then
some 8
else
Aks
def Ri:=Agk Ahg
def Aer:Ale:=X p9
def RM:=Aer Ri
def Afo:Ale:=X (Dy (-1:Int) (0:Int))
def UG:=Afo RM
def Agj(u!:Al9)(a:Alx)(b:Int):Ale:=u! (Ad b 1)
def Aee u!:=Agj u!
def Ahf(j26:Amn)(j23:Al9)(a:Alx)(b:Int)(g:Bool):Ale:=if g then
j26 (Dy b 0)
else
j23 b
def UF u! a:=Ahf RM (Aee u! a) a
abbrev Am4:=Int->Bool->Option Int
def TN(j22:Am4)(j25:Ale)(a:Alx)(b:Int):Ale:=if(Bn b (Ac a))then(Ae a b).bind λk=>(JX k.1 k.2.1).bind λg=>j22 b g
else
j25
def Yo:Nat->Int->Option Int
|0,_=>none
|z+1,c=>TN (UF (Yo z) q8) UG q8 c
def Afi a:=Yo a Bu
def Afk:Ale:=X p9
def QW:=Afk Ri
def Aeu:Ale:=X (Dy (-1:Int) (0:Int))
def TJ:=Aeu QW
def Afp(Tv:Al9)(a:Alx)(f:Int):Ale:=Tv (Ad f 1)
def Aef Tv:=Afp Tv
def Afm(j34:Amn)(j31:Al9)(a:Alx)(f:Int)(h:Bool):Ale:=if h then
j34 (Dy f 0)
else
j31 f
def TV Tv a:=Afm QW (Aef Tv a) a
def TR(j30:Am4)(j33:Ale)(a:Alx)(f:Int):Ale:=if(Bn f (Ac a))then(Ae a f).bind λm=>(JX m.1 m.2.1).bind λh=>j30 f h
else
j33
def Yp:Nat->Int->Option Int
|0,_=>none
|z+1,c=>TR (TV (Yp z) q8) TJ q8 c
def Ag8 a:=Yp a Bu
abbrev Amv:=(List (LB×LB×Unit))->Int->Option Int
def CP(j35:Amn)(j19:Amv)(j27:Amv)(u:LB)(a:Alx):Ale:=if(Cx (Ac a) 20)then
some 4
else(PO u).bind λv=>if(!v)then
if true then
j35 true
else
j19 a 0
else(ER a).bind λw=>if(Cx (Ad w 8) 100000)then
j35 true
else
j27 a 0
def Tc:=CP Ri Afi Ag8
def VC:Option LB:=(Ic (Aq z:UInt64) 4).bind λ(d,_)=>(Az c e).bind λi=>Az i d
def bJ:List (LB×LB×Unit)->LB->Option LB
|[],o=>some o
|c::l,o=>(VC o c.1 (Ac c.2.1)).bind λp=>(Az p c.2.1).bind λu=>(V5 (Ef (Ac c.2.1) 1) (0:UInt8)).bind λz=>(Az u z).bind λv=>bJ l v
def KS:Al5:=(Tc c q8).bind λz=>if(Ax z 0)then
some (([]:LB),z)
else(ER q8).bind λd=>(VC [] [82,73,70,70] d).bind λe=>(Az e c).bind λi=>(bJ q8 i).bind λj=>some (j,0)
def xW:Al5:=(YM z d j B).bind λc=>if(Ax c 0)then
some (([]:LB),c)
else(UN z d j).bind λ(e,i)=>(Hn d B).bind λ(l,A)=>(KS ([87,65,86,69]:LB) ([(([102,109,116,32]:LB),e,()),(([100,97,116,97]:LB),l,())]:Alx)).bind λ(C,D)=>some (C,D)
abbrev Ep:=Option (LB×Int)
def Ab9:Ep:=some (i,z)
def GL:=Ab9
abbrev An3:=Int->LB->Ep
def Abk(j6:An3)(b:Int)(f:LB):Ep:=j6 b f
def Ab0:=Abk GL
def Aa9(j6:An3)(j5:An3)(a g h k:Int)(m:LX):Ep:=if(Ax a 0)then
j6 a ([]:LB)
else(xW g h k m).bind λ(f,b)=>j5 b f
def Ab5:=Aa9 GL Ab0
def Aay(j4:Jz4 (LX->Ep))(p u:LB):Ep:=(Rb p u).bind λ(g,h,k,m,a)=>j4 a g h k m
def DP:=Aay Ab5
def Nj:List LB->LB->Option (LB×Bool)
|[],a=>some (a,true)
|b::xs,a=>(Ae b 0).bind λh=>(Ae b 1).bind λk=>(Db ([48,49,50,51,52,53,54,55,56,57,97,98,99,100,101,102]:LB) h).bind λf=>(Db ([48,49,50,51,52,53,54,55,56,57,97,98,99,100,101,102]:LB) k).bind λg=>if((Bn f 0)||(Bn g 0))then
some (([]:LB),false)
else
Option.bind (Az a ([(Aq (ig (Gg f (GI.toZ (4:UInt64)).toNat) g):UInt8)]:LB)) λm=>Nj xs m
def Uc:Option (LB×Bool):=if(Ax (Hq (Ac c) 2) 0)then
some (([]:LB),false)
else
if(Bn (2:Int) (1:Int))then
none
else(R8 c).bind λz=>Nj z ([]:LB)
def Wr:Alk:=some c
def Kq:=Wr
def Ks:Alk:=if(Bn y7 (Ac Akh))then(Ae Akh y7).bind λz=>(Az Aj0 z).bind λc=>Aj5 (Ad y7 1) c
else
Aj4 Aj0
def Ge:Nat->Int->LB->Option (LB)
|0,_,_=>none
|z+1,c,d=>Ks Kq (Ge z) O c d
def Ko a:=Ge a Bu
def Kt(j14:(List LB)->Int->LB->Option (LB))(a:Alf)(p:LB):Alk:=j14 a 0 p
def Wo:=Kt Ko
def Kx(j13:Ane)(b:Int)(a:Alf):Alk:=if(Cx (Ar b (Ar (0:Int) (0:Int))) 0)then(vL 0 0 0).bind λ_=>(V5 (Ar b (Ar (0:Int) (0:Int))) (0:UInt8)).bind λu=>(Az ([]:LB) u).bind λk=>(vL (Ac k) 0 0).bind λ_=>j13 a (SG k 0 ((0:Int)-(0:Int)))
else
j13 a ([]:LB)
def Wp:=Kx Wo
def Ku(j12:Am9)(a:Alf)(b:Int):Alk:=if(Bn b 0)then
none
else
j12 b a
def Wq:=Ku Wp
def Lc(j11:(List LB)->Int->Option (LB))(bk9:Anq)(a:Alf)(b h:Int):Alk:=if(Bn h (Ac a))then(Ae a h).bind λm=>if(Bn (Ad b (Ac m)) 0)then
none
else
bk9 (Ad b (Ac m)) (Ad h 1)
else
j11 a b
def Gw:Nat->Int->Int->Option (LB)
|0,_,_=>none
|z+1,c,d=>Lc Wq (Gw z) O c d
def Xr a:=Gw a Bu
def Lh(j9:(List LB)->Int->Int->Option (LB))(a:Alf):Alk:=j9 a 0 0
def Df:=Lh Xr
def zl:Nat->LB->Option Nat
|a,[]=>some a
|a,b::r=>if 48<=b.toNat/\b.toNat<=57 then zl (a*10+(b.toNat-48)) r else none
def i!:LB->Option Int
|[]=>none
|b::r=>if(b==45)=true then(if r.isEmpty=true then none else Option.bind (zl 0 r) λm=>some (-(m:Int)))
  else if(b==43)=true then(if r.isEmpty=true then none else Option.bind (zl 0 r) λm=>some (m:Int))
  else Option.bind (zl 0 (b::r)) λm=>some (m:Int)
def Gx(s:LB):Option (Int×Bool):=if s.length<=18 then
  match i! s with
  |some n=>Option.bind (strconv_Itoa n) λt=>some (n,t==s&&(Dy n (-999999999)&&IV n 999999999))
  |none=>some (0,false)
  else none
abbrev Fz:=Option ((List (UInt8×Int×Unit))×Bool)
def Aa2:Fz:=some (l9,true)
def FD:=Aa2
def FJ(j6:(List (UInt8×Int×Unit))->Fz)(Vt:Int-> (List (UInt8×Int×Unit))->Fz)(a:Alf)(f:Int)(b:Alm):Fz:=if(Bn f (Ac a))then(Ae a f).bind λg=>if(g !=([101]:LB))then(Ae g 0).bind λm=>(Db ([32,102,100]:LB) m).bind λh=>(Bm g 1 (Ac g)).bind λn=>(Gx n).bind λ(k,o)=>if(((Bn h 1)||(!o))||(Bn k 0))then
some (([]:Alm),false)
else(Az b ([((Aq h:UInt8),k,())]:Alm)).bind λp=>Vt (Ad f 1) p
else(Az b ([((3:UInt8),(0:Int),())]:Alm)).bind λu=>Vt (Ad f 1) u
else
j6 b
def Sr:Nat->Int-> (List (UInt8×Int×Unit))->Fz
|0,_,_=>none
|z+1,c,d=>FJ FD (Sr z) O c d
def Aam a:=Sr a Bu
def HO(j4:(List LB)->Int-> (List (UInt8×Int×Unit))->Fz)(a:Alf):Fz:=j4 a 0 ([]:Alm)
def CZ:=HO Aam
def Acu:Alg:=if Akg then
some ((Dy L 0)&&(IV L 100000))
else
if(geq J 3)then
some (geq L 0)
else
some false
def Ad3:=Acu
def Ac2(j2:UInt8->Int->Bool->Option Bool)(a:UInt8)(b:Int):Alg:=if(geq a 1)then
j2 a b (geq a 1)
else
j2 a b (geq a 2)
def dP:=Ac2 Ad3
def RY:Alg:=(dP J L).bind λz=>some (!z)
def Aa7:Ale:=some 0
def Aau:=Aa7
def Ab2:Ale:=if Akt then
some 2
else
Aks
def Ab7:=Ab2 Aau
def Aab:Ale:=X p9
def FZ:=Aab Ab7
def Aak:Ale:=X (Dy (-1:Int) (0:Int))
def GO:=Aak FZ
def Aag(X7:Al9)(a:Alm)(b:Int):Ale:=X7 (Ad b 1)
def Abl X7:=Aag X7
def Ab4(j18:Amn)(j15:Al9)(a:Alm)(b:Int)(g:Bool):Ale:=if g then
j18 (Dy b 0)
else
j15 b
def EE X7 a:=Ab4 FZ (Abl X7 a) a
def GA(j14:Am4)(j17:Ale)(a:Alm)(b:Int):Ale:=if(Bn b (Ac a))then(Ae a b).bind λh=>(RY h.1 h.2.1).bind λg=>j14 b g
else
j17
def Sy:Nat->Int->Option Int
|0,_=>none
|z+1,c=>GA (EE (Sy z) l9) GO l9 c
def Aan a:=Sy a Bu
def NM(j11:(List (UInt8×Int×Unit))->Int->Option Int)(a:Alm):Ale:=if(Cx (Ac a) 200)then
some 4
else
j11 a 0
def cX:=NM Aan
def Ub:Option (LB×LB×Int×Int×Int×Int×Int×LI×Int×LB×Bool×Int×LB×Int):=(Nb c e z d j C E I A P D G).bind λi=>if(Ax i 0)then
some (([]:LB),([]:LB),0,0,0,0,0,([]:LI),0,([]:LB),false,0,([]:LB),i)
else
if(Bn o7 0)then
some (([]:LB),([]:LB),0,0,0,0,0,([]:LI),0,([]:LB),false,0,([]:LB),2)
else(Dx c e z d j C E I A P D G).bind λ(l,B,F,J,L,M,N,O,R,T,U,V)=>(Bm T 0 (Eg o7 (Ac T))).bind λX=>(Jf X).bind λY=>(Bm T (Eg o7 (Ac T)) (Ac T)).bind λZ=>some (l,B,F,J,L,M,N,O,R,Z,U,V,Y,0)
abbrev Bd:=Option (LB×LB×Int×Int×Int×Int×Int×LI×Int×LB×Bool×Int×(List (Int×LB×Unit))×Int)
abbrev Alp:=List (Int×LB×Unit)
def dM(f:LB)(g h k m n o:Int)(p:LB)(u:Bool)(v:Int)(a:LB)(aa:Alp)(w:LB)(y:LI):Bd:=some (f,w,g,h,k,m,n,y,o,p,u,v,aa,0)
def bL:=dM
def dY(j32:LB->Jz6 (LB->Bool->Int->LB-> (List (Int×LB×Unit))->LB->LI->Bd))(aa:Alp)(f:LB)(g h k m n o:Int)(p:LB)(u:Bool)(v:Int)(a w:LB)(y:LI):Bd:=j32 f g h k m n o p u v a aa w y
def AN:=dY bL
abbrev Alj:=Int->LB->Jz6 (LB->Bool->Int->LB-> (List (Int×LB×Unit))->LB->LI->Bd)
def dD(WO:Alj)(b:Alm)(ab:Int)(dm:LB)(dn dp dq dr ds dt:Int)(du:LB)(dv:Bool)(dw:Int)(dx:LB)(dy:Alp)(dz:LB)(fa:LI):Bd:=WO (Ad ab 1) dm dn dp dq dr ds dt du dv dw dx dy dz fa
def Fv WO:=dD WO
def Qv(j29:Alj)(b:Alm)(ac:UInt8×Int×Unit)(a:LB)(ad ab:Int)(f w:LB)(g h k m n:Int)(y:LI)(o:Int)(p:LB)(u:Bool)(v:Int)(ae:LB)(af ag ah ai aj ak:Int)(al:LB)(am:Bool)(an:Int)(aa:Alp)(ao:LB)(ap:LI):Bd:=(
(Bm a (Eg ac.2.1 (Ac a)) (Ac a)).bind λbv=>(Az aa ([(ad,([]:LB),())]:Alp)).bind λar=>j29 ab ae af ag ah ai aj ak al am an bv ar ao ap)
def CF WO b:=Qv (Fv WO b) b
def eO(j29:Alj)(b:Alm)(au ab:Int)(f w:LB)(g h k m n:Int)(y:LI)(o:Int)(p:LB)(u:Bool)(v:Int)(a av:LB)(aw ax ay az ba bb:Int)(bc:LB)(bd:Bool)(be:Int)(bf:LB)(aa:Alp)(ar:LB)(bg:LI):Bd:=(Az aa ([(au,bf,())]:Alp)).bind λfb=>j29 ab av aw ax ay az ba bb bc bd be a fb ar bg
def AL WO b:=eO (Fv WO b) b
def eG(j29:Alj)(b:Alm)(bh ab:Int)(f w:LB)(g h k m n:Int)(y:LI)(o:Int)(p:LB)(u:Bool)(v:Int)(a bi:LB)(bj bk bl bm bn bp:Int)(bq:LB)(br:Bool)(bs:Int)(aa:Alp)(bt:LB)(bu:LI):Bd:=(Az aa ([(bh,([]:LB),())]:Alp)).bind λfc=>j29 ab bi bj bk bl bm bn bp bq br bs a fc bt bu
def BA WO b:=eG (Fv WO b) b
def Qt(j26:(UInt8×Int×Unit)->LB->Int->Int->LB->LB->Jz5 (LI->Int->LB->Bool->Int->LB->Int->Int->Int->Int->Int->Int->LB->Bool->Int-> (List (Int×LB×Unit))->LB->LI->Bd))(j33:Int->Int->LB->LB->Jz5 (LI->Int->LB->Bool->Int->LB->LB->Int->Int->Int->Int->Int->Int->LB->Bool->Int->LB-> (List (Int×LB×Unit))->LB->LI->Bd))(j34:Int->Int->LB->LB->Jz5 (LI->Int->LB->Bool->Int->LB->LB->Int->Int->Int->Int->Int->Int->LB->Bool->Int-> (List (Int×LB×Unit))->LB->LI->Bd))(j29:Alj)(j31:(List (Int×LB×Unit))->LB->Jz6 (LB->Bool->Int->LB->LB->LI->Bd))(b:Alm)(ab:Int)(f:LB)(g h k m n o:Int)(p:LB)(u:Bool)(v:Int)(a:LB)(aa:Alp)(w:LB)(y:LI):Bd:=if(Bn ab (Ac b))then(Ae b ab).bind λac=>if(geq ac.1 1)then(
(
(
(Bm a 0 (Eg ac.2.1 (Ac a))).bind λaq=>(
(Ff f w g h k m n y o p u v aq).bind λ(ae,ao,af,ag,ah,ai,aj,ap,ak,al,am,an,ad)=>j26 ac a ad ab f w g h k m n y o p u v ae af ag ah ai aj ak al am an aa ao ap))))
else
if(geq ac.1 2)then(
(
(
(Ub f w g h k m n y o p u v ac.2.1).bind λ(av,ar,aw,ax,ay,az,ba,bg,bb,bc,bd,be,bf,au)=>j33 au ab f w g h k m n y o p u v a av aw ax ay az ba bb bc bd be bf aa ar bg)))
else
if(geq ac.1 3)then(
(
(
(Iu f w g h k m n y o p u v).bind λ(bi,bt,bj,bk,bl,bm,bn,bu,bp,bq,br,bs,bh)=>j34 bh ab f w g h k m n y o p u v a bi bj bk bl bm bn bp bq br bs aa bt bu)))
else
j29 ab f g h k m n o p u v a aa w y
else
j31 aa f g h k m n o p u v a w y
def Ft:Nat->Int->LB->Jz6 (LB->Bool->Int->LB-> (List (Int×LB×Unit))->LB->LI->Bd)
|0,_,_,_,_,_,_,_,_,_,_,_,_,_,_,_=>none
|z+1,c,d,e,i,j,l,A,B,C,D,E,F,G,I,J=>Qt (CF (Ft z) l9) (AL (Ft z) l9) (BA (Ft z) l9) (Fv (Ft z) l9) AN l9 c d e i j l A B C D E F G I J
def dU b:=Ft b Bu
def FC(j17:(List (UInt8×Int×Unit))->Int->LB->Jz6 (LB->Bool->Int->LB-> (List (Int×LB×Unit))->LB->LI->Bd))(fd fe:LB)(b:Alm):Bd:=(cX b).bind λbx=>if(Ax bx 0)then
some (([]:LB),([]:LB),0,0,0,0,0,([]:LI),0,([]:LB),false,0,([]:Alp),bx)
else(Pm fd).bind λ(ff,fg,fh,fi,fj,fk,fl,fm,fn,fo,fp,fq,bz)=>if(Ax bz 0)then
some (([]:LB),([]:LB),0,0,0,0,0,([]:LI),0,([]:LB),false,0,([]:Alp),bz)
else
j17 b 0 ff fh fi fj fk fl fn fo fp fq fe ([]:Alp) fg fm
def Ue:=FC dU
def OX:Aly:=(Nb c e z d j C E I A P D G).bind λi=>if(Ax i 0)then
some (0,i)
else
some ((Ad (Ac e) (Ct 8 (Ac I))),0)
abbrev Fe:=Option (Int×Int×Int)
def Acs:Fe:=some (z,d,0)
def LZ:=Acs
def Abx(bk7:LB->Jz3 (LB->Int->Int->Int->Int->Int->Int->LB->Bool->Int->LB->LI->Fe))(a:Alm)(b f g:Int)(ax af:LB)(ag ah ai aj ak al:Int)(ae:LB)(am:Bool)(an:Int)(ao:LB)(ap:LI):Fe:=(OX af ao ag ah ai aj ak ap al ae am an).bind λ(ay,aq)=>if(Ax aq 0)then
some (0,0,aq)
else
bk7 ax (vV b ay) (vV f (Ac ae)) (Ad g 1) af ag ah ai aj ak al ae am an ao ap
def LO bk7:=Abx bk7
def RE(j10:Jz3 (LB->LB->Int->Int->Int->Int->Int->Int->LB->Bool->Int->LB->LI->Fe))(j12:Int->Int->Fe)(a:Alm)(h:LB)(b f g:Int)(k:LB)(m n o p u v:Int)(w:LB)(y:Bool)(aa:Int)(ab:LB)(ac:LI):Fe:=if(Bn g (Ac a))then(Ae a g).bind λad=>if(geq ad.1 1)then(Bm h 0 (Eg ad.2.1 (Ac h))).bind λaz=>(Ff k ab m n o p u ac v w y aa az).bind λ(ba,bb,bc,bd,be,bf,bg,bh,bi,bj,bk,bl,fa)=>(Bm h (Eg ad.2.1 (Ac h)) (Ac h)).bind λbm=>j10 b f g bm ba bc bd be bf bg bi bj bk bl bb bh
else
if(geq ad.1 2)then(Ub k ab m n o p u ac v w y aa ad.2.1).bind λ(bn,bp,bq,br,bs,bt,bu,bv,bw,bx,bz,da,fb,fc)=>j10 b f g h bn bq br bs bt bu bw bx bz da bp bv
else
if(geq ad.1 3)then(Iu k ab m n o p u ac v w y aa).bind λ(db,dc,dd,de,df,dg,dh,di,dj,dk,dl,dm,fd)=>j10 b f g h db dd de df dg dh dj dk dl dm dc di
else
j10 b f g h k m n o p u v w y aa ab ac
else
j12 b f
def Zy:Nat->LB->Jz3 (LB->Int->Int->Int->Int->Int->Int->LB->Bool->Int->LB->LI->Fe)
|0,_,_,_,_,_,_,_,_,_,_,_,_,_,_,_,_=>none
|z+1,c,d,e,i,j,l,A,B,C,D,E,F,G,I,J,L=>RE (LO (Zy z) l9) LZ l9 c d e i j l A B C D E F G I J L
def Aed a:=Zy a Bu
def RV(j7:(List (UInt8×Int×Unit))->LB->Jz3 (LB->Int->Int->Int->Int->Int->Int->LB->Bool->Int->LB->LI->Fe))(ar au:LB)(a:Alm):Fe:=(Ue ar au a).bind λ(fe,ff,fg,fh,fi,fj,fk,fl,fm,fn,fo,fp,fq,av)=>if(Ax av 0)then
some (0,0,av)
else(Pm ar).bind λ(dn,dp,dq,dr,ds,dt,du,dv,dw,dx,dy,dz,aw)=>if(Ax aw 0)then
some (0,0,aw)
else
j7 a au 0 0 0 dn dq dr ds dt du dw dx dy dz dp dv
def QX:=RV Aed
abbrev Ch:=Option (Int×Int×Int×Int×Int×Int)
def Adq(a:LB)(m n o p u f g b ad y:Int)(h:LI):Ch:=if(Bn (Ac a) y)then
some (0,0,0,0,0,24)
else
some (f,g,b,ad,y,0)
def Acq:=Adq
def Acb(j12:LB->Jz10 (LI->Ch))(a:LB)(m n o p u f g b:Int)(h:LI)(ae ad y:Int):Ch:=if(Ax ae 0)then
some (0,0,0,0,0,ae)
else
j12 a m n o p u f g b ad y h
def Jy:=Acb Acq
abbrev Alz:=LB->Jz8 (LI->Int->Int->Int->Ch)
def Ac6(j11:Alz)(a:LB)(k:LI)(m n o p u f g b v:Int)(h:LI):Ch:=j11 a m n o p u f g b h 0 (Ad (Ad b (Ct 4 (Ac k))) 4) v
def NU:=Ac6 Jy
def OY(j10:LB->LI->Jz9 (LI->Ch))(E8:Int->Int->Ch)(k:LI)(a:LB)(m n o p u f g b:Int)(h:LI)(w v:Int):Ch:=if(Bn w (Ac k))then(Ae k w).bind λ_=>(Ae k w).bind λag=>E8 (Ad w 1) (Ad v ag)
else
j10 a k m n o p u f g b v h
def Xj:Nat->Int->Int->Ch
|0,_,_=>none
|z+1,c,d=>OY NU (Xj z) l i A U Z Aj1 Aj2 Aj3 G o7 Akl c d
def Ag3 k a m n o p u f g b h:=Xj k a m n o p u f g b h Bu
def TK(j11:Alz)(j8:LI->LB->Jz8 (LI->Int->Int->Ch))(aa:Int)(a:LB)(m n o p u f g b ab ac:Int)(k h:LI):Ch:=if(Ax aa 0)then
j11 a m n o p u f g b h aa ab ac
else
j8 k a m n o p u f g b h 0 (Ad (Ad b (Ct 4 (Ac k))) 4)
def Ahe:=TK Jy Ag3
def PY(j11:Alz)(j7:Int->LB->Jz10 (LI->LI->Ch))(a:LB):Ch:=(OT a).bind λ(m,n,o,p,u,f,g,b,ab,ac,h,af)=>if(Ax af 0)then
some (0,0,0,0,0,af)
else
if(Bn (Ac a) b)then
j11 a m n o p u f g b h 24 ab ac
else(Bm a b (Ac a)).bind λah=>(Ti ah (Ac h)).bind λ(k,aa)=>j7 aa a m n o p u f g b ab ac k h
def kZ:=PY Jy Ahe
abbrev Gs:=Option (Int×UInt8×Int×Int×Int)
def Ach:Gs:=some (0,6,0,0,0)
def NW:=Ach
def MQ(j6:Gs)(Vt:Int->Int->Gs)(a:Int)(b:LI)(g h k m n o p f:Int):Gs:=if(Bn f (Ac b))then(Ae b f).bind λ_=>(Ae b f).bind λv=>if(Bn a (Ad p v))then(UE g h k m n f).bind λ(ad,ae)=>some (0,5,f,ad,ae)
else
Vt (Ad p v) (Ad f 1)
else
j6
def Vq:Nat->Int->Int->Gs
|0,_,_=>none
|c+1,d,e=>MQ NW (Vq c) z I A U Z Aj1 Aj2 Aj3 d e
def Acj a b g h k m n o:=Vq a b g h k m n o Bu
def MN(j4:Int->LI->Jz8 Gs)(u w:LB)(a:Int):Gs:=(TZ u w).bind λy=>if(Ax y 0)then
some (0,0,0,0,y)
else
if((Bn a 0)||(Dy a (Ac u)))then
some (0,0,0,0,2)
else(kZ u).bind λ(af,ag,ah,aa,ai,ab)=>if(Ax ab 0)then
some (0,0,0,0,ab)
else(Gl u w).bind λ(g,h,k,m,n,o,b,ac)=>if(Ax ac 0)then
some (0,0,0,0,ac)
else
if(Bn a af)then
some (0,1,0,0,0)
else
if(Bn a ag)then
some (0,2,0,0,0)
else
if(Bn a ah)then
some (0,3,0,0,0)
else
if(Bn a aa)then
some (0,4,0,0,0)
else
j4 a b g h k m n o aa 0
def Js:=MN Acj
abbrev Bc:=Option (LB×Int)
def Abt:Bc:=(Bm c 0 (Ac c)).bind λz=>(Qm z).bind λ(d,e)=>if(Ax e 0)then
some (([]:LB),38)
else
some (([]:LB),0)
def ND:=Abt
def LV(j21:LB->Bc)(a:LB)(y:Int):Bc:=if(Bn y 0)then
none
else
j21 a
def MB:Nat->Bc
|0=>none
|d+1=>LV ND c z
def Ads a y:=MB a y Bu
def OG(j19:LB->Int->Bc)(a:LB)(y ah:Int):Bc:=if(Ax ah 0)then
some (([]:LB),ah)
else
if((Bn y 0)||(Dy y 0))then
some (([]:LB),2)
else
j19 a y
def Adp:=OG Ads
def Abv:Bc:=(Bm c (Ad z d) (Ac c)).bind λe=>(Qm e).bind λ(j,l)=>if(Ax l 0)then
some (([]:LB),38)
else
some (i,0)
def OJ:=Abv
def Ac5(WQ:Int->LB->Bc)(a:LB)(f:LI)(b k n m h o p:Int)(u:LX)(v g:LI)(w:Int)(ad:LB):Bc:=WQ (Ad w 1) ad
def Ac7 WQ:=Ac5 WQ
def Aby(j30:Int->LB->Bc)(a:LB)(f:LI)(b k n m h o p:Int)(u:LX)(v g:LI)(w:Int)(aa:LB)(ai:Int)(ar:LB):Bc:=if(Ax ai 0)then
some (([]:LB),ai)
else(Az aa ar).bind λad=>j30 w ad
def NG WQ a f b k n m h o p u v g:=Aby (Ac7 WQ a f b k n m h o p u v g) a f b k n m h o p u v g
abbrev Anu:=Int->LB->Int->LB->Bc
def Acd(j29:Anu)(a:LB)(f:LI)(b k m h n o p:Int)(u:LX)(v g:LI)(ab w:Int)(ae:LX)(aa:LB):Bc:=if(Ax ab 0)then
j29 w aa ab ([]:LB)
else(Hn h ae).bind λ(au,av)=>j29 w aa av au
def Acf WQ a f b k m h n o p u v g:=Acd (NG WQ a f b k n m h o p u v g) a f b k m h n o p u v g
def Aco(j29:Anu)(j28:Int->Int->LX->LB->Bc)(b:Int)(a:LB)(f:LI)(k m h:Int)(u:LX)(n o p:Int)(v g:LI)(w af ac:Int)(aa:LB):Bc:=if(Cx (Ad b ac) (Ac a))then
j29 w aa 24 ([]:LB)
else(Ae f w).bind λ_=>(Bm a (Ad b af) (Ad b ac)).bind λaw=>(Ae f w).bind λax=>(Ib m h u ax aw).bind λ(ae,ab)=>j28 ab w ae aa
def MT WQ b a f k m h u n o p v g:=Aco (NG WQ a f b k n m h o p u v g) (Acf WQ a f b k m h n o p u v g) b a f k m h u n o p v g
def ML(j27:Jz3 (LB->Bc))(j32:LB->Int->Int->LB->Bc)(a:LB)(f:LI)(b k n m h o p:Int)(u:LX)(v g:LI)(w:Int)(aa:LB):Bc:=if(Bn w (Ac f))then(Ae g w).bind λ_=>(Ae g (Ad w 1)).bind λ_=>(Ae g w).bind λaf=>(Ae g (Ad w 1)).bind λac=>j27 w af ac aa
else
j32 a b k aa
def Ve:Nat->Int->LB->Bc
|0,_,_=>none
|e+1,i,A=>ML (MT (Ve e) z c l d C E B j M y8 Ake Akj) OJ c l z d j C E M y8 B Ake Akj i A
def Abu a f b k n m h o p u v g:=Ve a f b k n m h o p u v g Bu
def OB(j22:LB->LI->Jz7 (LX->LI->LI->Int->LB->Bc))(a:LB)(y:Int)(f:LI)(b k n m h o p:Int)(u:LX)(v g:LI):Bc:=if(Ax (0:Int) (0:Int))then
some (([]:LB),0)
else
if((Bn y 0)||(Dy y (Ac f)))then
some (([]:LB),2)
else
j22 a f b k n m h o p u v g y ([]:LB)
def Adl:=OB Abu
def PQ(j17:LB->Int->Int->Bc)(j18:LB->Int->LI->Jz7 (LX->LI->LI->Bc))(a aj:LB)(y:Int):Bc:=(Gl a aj).bind λ(n,m,h,o,p,b,v,ak)=>if(Ax ak 0)then
j17 a y ak
else(Cd n m h o p).bind λ(f,al)=>if(Ax al 0)then
j17 a y al
else(DU v).bind λ(g,am)=>if(Ax am 0)then
j17 a y am
else(Kj aj).bind λ(u,an)=>if(Ax an 0)then
j17 a y an
else(Ae g (Ac f)).bind λ_=>(Ae g (Ac f)).bind λk=>j18 a y f b k n m h o p u v g
def BC:=PQ Adp Adl
def XQ:Option (Int×Int×Int):=(Mr z d).bind λ(c,e)=>if(Ax e 0)then
some (0,0,e)
else
if((Bn j 0)||(Dy j d))then
some (0,0,2)
else(Lj z).bind λ(i,l)=>(Dl (Ax i 0)).bind λ_=>(Dl (Ax i 0)).bind λ_=>some ((Fk j i),(Hq j i),0)
def jG:Al5:=(Gl c e).bind λ(d,i,j,l,A,B,C,D)=>if(Ax D 0)then
some (([]:LB),D)
else
if((Bn z 0)||(Dy z A))then
some (([]:LB),2)
else(XQ l A z).bind λ(E,F,G)=>if(Ax G 0)then
some (([]:LB),G)
else(BC c e E).bind λ(I,J)=>if(Ax J 0)then
some (([]:LB),J)
else(Dl (decide ((Ac I)<= (Ac I)/\ (Ac I)<=Ac I))).bind λ_=>(Bm I (Fk (Ct (Ct F i) j) 8) (Ac I)).bind λL=>some (L,0)
def kE:Al5:=if(((Bn z 0)||(Dy z (Ac c)))||(geq J 0))then
some (([]:LB),2)
else(Jf c).bind λd=>(Ae d z).bind λ_=>(Ae d z).bind λe=>(Ae d z).bind λ_=>(La d z (ZV e J)).bind λi=>some (i,0)
abbrev Ei:=Option (LB×Int)
def Aaz:Ei:=if(!D)then
some (([]:LB),2)
else
some (Y,0)
def IA:=Aaz
def Ac0(O9:Int->Bool->LB->Ei)(a:Int)(g:UInt32)(b:Int)(m:Bool)(n:LB):Ei:=O9 (Ad b 1) m n
def MC O9:=Ac0 O9
def NK(j8:Int->Bool->LB->Ei)(j10:Bool->LB->Ei)(a:Int)(g:UInt32)(b:Int)(h:Bool)(f:LB):Ei:=if(Bn b 32)then(Dl (Dy b 0)).bind λ_=>if(geq (Ef (Da g (GI.toZ b).toNat) 1) 1)then
if(Bn (Ad a b) (Ct 8 (Ac f)))then(Ae f (Fk (Ad a b) 8)).bind λ_=>(Dl (Dy (Hq (Ad a b) 8) 0)).bind λ_=>(Ae f (Fk (Ad a b) 8)).bind λo=>(Ae f (Fk (Ad a b) 8)).bind λ_=>(La f (Fk (Ad a b) 8) (ZV o (Gg (1:UInt8) (GI.toZ (Hq (Ad a b) 8)).toNat))).bind λp=>j8 b true p
else
j8 b h f
else
j8 b h f
else
j10 h f
def Ut:Nat->Int->Bool->LB->Ei
|0,_,_,_=>none
|c+1,d,e,i=>NK (MC (Ut c) z V) IA z V d e i
def Adk a g:=Ut a g Bu
def LK(j6:Int->UInt32->Int->Bool->LB->Ei)(k:LB)(a:Int)(g:UInt32):Ei:=if((Bn a 0)||(Dy a (Ct 8 (Ac k))))then
some (([]:LB),2)
else(Jf k).bind λu=>j6 a g 0 false u
def KB:=LK Adk
abbrev Dw:=Option (LB×Int)
def aT:Dw:=(Iu c Y z d j C E Aky M i D G).bind λ(e,l,A,B,F,I,J,L,N,O,P,R,T)=>some (O,T)
def AX:=aT
def dI(bk7:LB->Int->LB->Jz6 (LB->Bool->Int->LB->LI->Dw))(a:LI)(b:LB)(ag ah f:Int)(aj:LB)(ac ad ae ak af al:Int)(ai:LB)(am:Bool)(an:Int)(ao:LB)(ab:LI):Dw:=if(Ax ag 0)then
some (ai,ag)
else(Bm b ah (Ac b)).bind λau=>bk7 au (Ad f 1) aj ac ad ae ak af al ai am an ao ab
def CD bk7:=dI bk7
def HC(j10:LB->Jz3 (LB->Int->Int->Int->Int->Int->Int->LB->Bool->Int->LB->LI->Dw))(j12:LB->Jz6 (LB->Bool->Int->LB->LI->Dw))(a:LI)(b:LB)(f:Int)(g:LB)(h k m n o p:Int)(u:LB)(v:Bool)(w:Int)(y:LB)(aa:LI):Dw:=if(Bn f (Ac a))then(Ae a f).bind λah=>(Bm b 0 ah).bind λap=>(Ff g y h k m n o aa p u v w ap).bind λ(aj,ao,ac,ad,ae,ak,af,ab,al,ai,am,an,ag)=>j10 b ag ah f aj ac ad ae ak af al ai am an ao ab
else
j12 g h k m n o p u v w y aa
def Tt:Nat->LB->Int->LB->Jz6 (LB->Bool->Int->LB->LI->Dw)
|0,_,_,_,_,_,_,_,_,_,_,_,_,_,_=>none
|z+1,c,d,e,i,j,A,B,C,D,E,F,G,I,J=>HC (CD (Tt z) l) AX l c d e i j A B C D E F G I J
def Ab1 a:=Tt a Bu
def IE(j7:LI->LB->Int->LB->Jz6 (LB->Bool->Int->LB->LI->Dw))(av aw:LB)(a:LI):Dw:=(Pm av).bind λ(ax,ay,az,ba,bb,bc,bd,be,bf,bg,bh,bi,aq)=>if(Ax aq 0)then
some (([]:LB),aq)
else
j7 a aw 0 ax az ba bb bc bd bf bg bh bi ay be
def CN:=IE Ab1
abbrev Ce:=Option (Int×Int)
def Abw:Ce:=some (z,0)
def NJ:=Abw
abbrev Anz:=Int->Int->Ce
def Ac3(Lp:Anz)(g b:LB)(f a:Int)(h:LB)(k m y:Int):Ce:=Lp y (Ad m 1)
def Ado Lp:=Ac3 Lp
def Acp(j20:Anz)(g b:LB)(f a:Int)(h:LB)(k n p m:Int)(u:LI):Ce:=(Az u ([(Ar (Ac b) p)]:LI)).bind λv=>(CN g b v).bind λ(aa,ab)=>if(Ax ab k)then
j20 m (Ad n 1)
else(Jh aa h).bind λac=>if(!ac)then
j20 m (Ad n 1)
else
j20 m n
def LN Lp g b f a h k:=Acp (Ado Lp g b f a h k) g b f a h k
def LM(j19:Jz3 (LI->Ce))(WO:Int->Int->LI->Ce)(g b:LB)(f a:Int)(h:LB)(k n m p o:Int)(u:LI):Ce:=if(Bn o a)then(Dl (Dy o 0)).bind λ_=>if(geq (Ef (T7 m (GI.toZ o).toNat) 1) 1)then(Az u ([(Ar (Ad (Ad f o) 1) p)]:LI)).bind λv=>WO (Ad (Ad f o) 1) (Ad o 1) v
else
WO p (Ad o 1) u
else
j19 n p m u
def Us(Lp:Anz)(g b:LB)(f a:Int)(h:LB)(k n m:Int):Nat->Int->Int->LI->Ce
|0,_,_,_=>none
|q+1,p,o,u=>LM (LN Lp g b f a h k) (Us Lp g b f a h k n m q) g b f a h k n m p o u
def MJ Lp g b f a h k n m:=Us Lp g b f a h k n m Bu
def NL(j17:Jz4 (LI->Ce))(j22:Int->Ce)(g b:LB)(f a:Int)(h:LB)(k n m:Int):Ce:=if(Bn m (Gg (1:Int) (GI.toZ a).toNat))then
j17 n m 0 0 ([]:LI)
else
j22 n
def Vs:Nat->Int->Int->Ce
|0,_,_=>none
|j+1,l,B=>NL (MJ (Vs j) c e z d i A) NJ c e z d i A l B
def Acw g b f a h k:=Vs g b f a h k Bu
def PK(j12:LB->LB->Int->Int->LB->Jz3 Ce)(g b:LB)(f a:Int):Ce:=if(Cx (Ac b) 100000)then
some (0,2)
else(Pm g).bind λ(ad,ae,af,ag,ah,ai,aj,ak,al,am,an,ao,w)=>if(Ax w 0)then
some (0,w)
else
if(((((Bn a 0)||(Cx a 8))||(Bn f 0))||(Cx f (Ac b)))||(Cx a (Ar (Ac b) f)))then
some (0,2)
else(CN g b ([(Ac b)]:LI)).bind λ(h,k)=>(Dl (Dy a 0)).bind λ_=>j12 g b f a h k 0 0
def UP:=PK Acw
def DE:Option (Int×Bool):=(Lj j).bind λ(c,e)=>(Ki z d).bind λl=>some (c,(((geq l 0)&&(geq e 0))&&(IV (Ac i) 64)))
abbrev Amb:=Option (Int×Int×Int×LB×LB×LX×(List LB)×LB×Bool×Int×Int)
def kP:Amb:=(DE z d j i).bind λ(c,e)=>if(!e)then
some (0,0,0,([]:LB),([]:LB),([]:LX),([]:Alf),([]:LB),false,0,2)
else
some (z,d,j,i,([]:LB),([]:LX),([]:Alf),([]:LB),false,0,0)
def Xs:Ale:=some (Fk (Ct z d) 8)
def Ua(a h k:Int)(m n:LB)(b:LX)(f:Alf)(o:LB)(p:Bool)(u g:Int):Ale:=(Dl (Ax a 0)).bind λ_=>some (Ad (Ct (Ac f) g) (Fk (Ac b) a))
def KV(a g h:Int)(k m:LB)(n:LX)(o:Alf)(p:LB)(u:Bool)(v b f:Int):Alg:=some ((IV b 1000)&&(IV (Ct f a) 4000))
def WE:Alg:=some (!D)
def WH:=WE
abbrev Am1:=Bool->Option Bool
def VT(j24:Am1)(y:Bool):Alg:=j24 y
def Wh:=VT WH
def WB(j23:Am1):Alg:=j23 (Dy (-1:Int) (0:Int))
def Wa:=WB Wh
def WC(Ez:Am3)(b:Alf)(f a h:Int):Alg:=Ez (Ad h 1)
def VY Ez:=WC Ez
def WJ(j23:Am1)(j20:Am3)(b:Alf)(f a h:Int)(w:LB):Alg:=if((Bn (Ac w) 5)||(Cx (Ac w) (Ad (Fk (Ad (Ct (Ct 81 f) a) 7) 8) 4)))then
j23 (Dy h 0)
else
j20 h
def Vw Ez b f a:=WJ Wh (VY Ez b f a) b f a
def Wc(j19:Int->LB->Option Bool)(j22:Alg)(b:Alf)(f a h:Int):Alg:=if(Bn h (Ac b))then(Ae b h).bind λw=>j19 h w
else
j22
def Mg:Nat->Int->Option Bool
|0,_=>none
|z+1,c=>Wc (Vw (Mg z) O p8 Aj9) Wa O p8 Aj9 c
def VS b f a:=Mg b f a Bu
def Vv(j16:(List LB)->Jz3 (Option Bool))(f a k o:Int)(p m:LB)(g:LX)(b:Alf)(n:LB)(u:Bool)(v:Int):Alg:=j16 b f a 0
def WK:=Vv VS
abbrev Al8:=Jz4 (LB->LB->LX-> (List LB)->LB->Bool->Int->Option Bool)
def Vy(j15:Al8)(f a k o:Int)(p m:LB)(g:LX)(b:Alf)(n:LB)(u:Bool)(v aa:Int):Alg:=(Ua a k o p m g b n u v f).bind λab=>(KV a k o p m g b n u v aa ab).bind λac=>if(!ac)then
some false
else
j15 f a k o p m g b n u v
def VX:=Vy WK
def Wd(j14:Jz4 (LB->LB->LX-> (List LB)->LB->Bool->Int->Int->Option Bool))(f a k o:Int)(p m:LB)(g:LX)(b:Alf)(n:LB)(u:Bool)(v:Int):Alg:=(Pc k g).bind λad=>if(Ax ad 0)then
some false
else
if(Cx (Ac g) 0)then
j14 f a k o p m g b n u v (Ad (Ac b) 1)
else
j14 f a k o p m g b n u v (Ac b)
def Vz:=Wd VX
def Xx(j13:Al8)(a k o:Int)(p m:LB)(g:LX)(b:Alf)(n:LB)(u:Bool)(v f:Int):Alg:=if(Cx (Ac n) 0)then
if true then
if true then
if(true||(Cx (Ac b) 1000))then
some false
else
j13 f a k o p m g b n u v
else(Dl (Ax a 0)).bind λ_=>if((Dy (Fk (Ac g) a) f)||(Cx (Ac b) 1000))then
some false
else
j13 f a k o p m g b n u v
else(Dl (Ax a 0)).bind λ_=>if(Ax (Hq (Ac g) a) 0)then
if(true||(Cx (Ac b) 1000))then
some false
else
j13 f a k o p m g b n u v
else(Dl (Ax a 0)).bind λ_=>if((Dy (Fk (Ac g) a) f)||(Cx (Ac b) 1000))then
some false
else
j13 f a k o p m g b n u v
else(Xs a k).bind λae=>if(Dy (Ac m) ae)then
if true then
if(true||(Cx (Ac b) 1000))then
some false
else
j13 f a k o p m g b n u v
else(Dl (Ax a 0)).bind λ_=>if((Dy (Fk (Ac g) a) f)||(Cx (Ac b) 1000))then
some false
else
j13 f a k o p m g b n u v
else(Dl (Ax a 0)).bind λ_=>if(Ax (Hq (Ac g) a) 0)then
if(true||(Cx (Ac b) 1000))then
some false
else
j13 f a k o p m g b n u v
else(Dl (Ax a 0)).bind λ_=>if((Dy (Fk (Ac g) a) f)||(Cx (Ac b) 1000))then
some false
else
j13 f a k o p m g b n u v
def MW:=Xx Vz
def XD:Ale:=(DE z d j i).bind λ(c,e)=>if(!e)then
some 8
else
if(Ax p8 0)then
if(!(((((geq p8 18)||(geq p8 24))&&(!Akf))&&(geq (Ad (Ad (Ac o9) (Ac R)) (Ac O)) 0))&&(geq (Ac l5) 0)))then
some 8
else
some 0
else
if Akf then
if(!((geq (Ad (Ad (Ac o9) (Ac R)) (Ac O)) 0)&&(IV (Ac l5) 100000)))then
some 8
else
some 0
else(MW z d j i o9 R O l5 Akf p8 c).bind λl=>if(!l)then
some 8
else
some 0
abbrev Ek:=Option (Int×Int×Int×LB×LB×LX×(List LB)×LB×Bool×Int)
def Adj(b f g:Int)(h:LB)(a:Alf)(k:Bool)(m:Int)(u:Alf)(n:LB)(o:LX)(p:LB):Ek:=some (b,f,g,h,n,o,u,p,k,m)
def NC:=Adj
def OC(j8:Jz3 (LB-> (List LB)->Bool->Int-> (List LB)->LB->LX->LB->Ek))(O9:Int-> (List LB)->Ek)(w a:Alf)(b f g:Int)(h:LB)(k:Bool)(m:Int)(n:LB)(o:LX)(p:LB)(v:Int)(u:Alf):Ek:=if(Bn v (Ac (uN w a)))then(Ae u v).bind λ_=>(Ae u v).bind λy=>(Ca y).bind λaa=>(Ae u v).bind λ_=>(La u v aa).bind λab=>O9 (Ad v 1) ab
else
j8 b f g h a k m u n o p
def Vr:Nat->Int-> (List LB)->Ek
|0,_,_=>none
|z+1,c,d=>OC NC (Vr z) O Ak3 Ak4 Ak5 Ak6 w9 Akg Ak7 Akm Aka Akn c d
def Ad0 w a b f g h k m n o p:=Vr w a b f g h k m n o p Bu
def NH(j6:(List LB)-> (List LB)->Jz3 (LB->Bool->Int->LB->LX->LB->Int-> (List LB)->Ek))(b f g:Int)(h:LB)(a:Alf)(k:Bool)(m:Int)(n:LB)(o:LX)(p:LB):Ek:=(V5 (Ac a) ([]:LB)).bind λw=>(Dl (geq (Ac a) (Ac a))).bind λ_=>j6 w a b f g h k m n o p 0 (uN w a)
def Ad4:=NH Ad0
def MH(j5:Jz3 (LB-> (List LB)->Bool->Int->LB->LX->LB->Ek))(b f g:Int)(h ac:LB)(ad:LX)(a:Alf)(ae:LB)(k:Bool)(m:Int):Ek:=(Ca ac).bind λn=>(Cv ad).bind λo=>(Ca ae).bind λp=>j5 b f g h a k m n o p
def dC:=MH Ad4
abbrev Vh:=Option (Int×Int×Int×LB×LB×LX×(List LB)×LB×Bool×Int×Int×Int)
def fG:Vh:=(dC d j C i o9 R O l5 Akf p8).bind λ(c,e,l,A,B,D,E,F,G,I)=>some (c,e,l,A,B,D,E,F,G,I,z,Aj9)
def Abo:=fG
def eW(j2:Jz4 (LB->LB->LX-> (List LB)->LB->Bool->Int->Int->Vh))(g h b:Int)(k m:LB)(n:LX)(o:Alf)(p:LB)(f:Bool)(a:Int):Vh:=(XD g h b k m n o p f a).bind λv=>if(Ax v 0)then
some (0,0,0,([]:LB),([]:LB),([]:LX),([]:Alf),([]:LB),false,0,0,v)
else(Lj b).bind λ(u,aj)=>if(Ax a 0)then
j2 u g h b k m n o p f a a
else
if f then
j2 u g h b k m n o p f a 36
else
j2 u g h b k m n o p f a aj
def DL:=eW Abo
def XB:Ale:=(Ki z d).bind λc=>if(Ax c 0)then
some c
else(Pc d B).bind λe=>if(Ax e 0)then
some e
else
if(geq (Ac B) 0)then
some 2
else(Dl (Ax z 0)).bind λ_=>if(Ax (Hq (Ac B) z) 0)then
some 2
else
some 0
abbrev En:=Option (LX×Int)
def K2:En:=some (B,0)
def jQ:=K2
abbrev Anb:=Int->LX->En
def G8(Lp:Anb)(b a:Int)(u:LX):En:=Lp (Ad a b) u
def M1 Lp:=G8 Lp
def O1(j20:Anb)(b a:Int)(g:LX):En:=if(Cx (Ar ((Ad a b)-a) 1) 0)then(Dl (decide (0<= (Ar ((Ad a b)-a) 1)/\ (Ar ((Ad a b)-a) 1)<((Ad a b)-a)))).bind λ_=>Option.bind (Dl (decide (0<= (Ar (Ar ((Ad a b)-a) 1) 1)/\ (Ar (Ar ((Ad a b)-a) 1) 1)<((Ad a b)-a)))) λ_=>(Ae g (a+(Ar ((Ad a b)-a) 1))).bind λk=>(Ae g (a+(Ar (Ar ((Ad a b)-a) 1) 1))).bind λm=>(Dl (decide (0<= (Ar ((Ad a b)-a) 1)/\ (Ar ((Ad a b)-a) 1)<((Ad a b)-a)))).bind λ_=>(La g (a+(Ar ((Ad a b)-a) 1)) (Ar k (Fk m 2))).bind λn=>j20 a n
else
j20 a g
def jS Lp b:=O1 (M1 Lp b) b
def jO(j19:Anb)(WO:Anb)(b a f:Int)(g:LX):En:=if(Bn f (Ar ((Ad a b)-a) 1))then(Dl (decide (0<= (Ad f 1)/\ (Ad f 1)<((Ad a b)-a)))).bind λ_=>(Dl (decide (0<=f/\f<((Ad a b)-a)))).bind λ_=>(Ae g (a+(Ad f 1))).bind λk=>(Ae g (a+f)).bind λm=>(Dl (decide (0<=f/\f<((Ad a b)-a)))).bind λ_=>(La g (a+f) (Ar k m)).bind λn=>WO (Ad f 1) n
else
j19 a g
def SJ(Lp:Anb)(b a:Int):Nat->Int->LX->En
|0,_,_=>none
|q+1,f,g=>jO (jS Lp b) (SJ Lp b a q) b a f g
def kB Lp b a:=SJ Lp b a Bu
def jY(j17:Int->Int->LX->En)(j22:LX->En)(b a:Int)(h:LX):En:=if(Bn a (Ac h))then(vL (Ac h) a (Ad a b)).bind λ_=>j17 a 0 h
else
j22 h
def UH:Nat->Int->LX->En
|0,_,_=>none
|c+1,d,e=>jY (kB (UH c) z) jQ z d e
def G3 b:=UH b Bu
def rV(j12:Int->Int->LX->En)(b:Int)(o:LX):En:=(iC b o).bind λp=>if(Ax p 0)then
some (([]:LX),p)
else(Cv o).bind λv=>j12 b 0 v
def nu:=rV G3
def US:Am2:=(ZB z B R).bind λ(c,d)=>if(Ax d 0)then
some (0,0,(List.replicate 16 (0:Int32)),(List.replicate 16 (0:Int32)),d)
else(YK z B R N (Ar N c)).bind λ(e,i,j)=>some ((Ar N c),e,i,j,0)
def Tx:Amq:=(Ul z N Aj6 y5 r9).bind λc=>if(Ax c 0)then
some (0,0,0,0,(List.replicate 16 (0:Int32)),(List.replicate 16 (0:Int32)),c)
else(Um z N).bind λ(d,e)=>(US Aj6 y5 r9 (Ar y9 d)).bind λ(i,j,l,A,B)=>(
some (i,z,y9,j,l,A,B))
def xB:Option UInt32:=some (ZV (Gg (Aq N:UInt32) (GI.toZ (1:UInt64)).toNat) (Aq (Da N (GI.toZ (31:UInt64)).toNat):UInt32))
abbrev Cb:=Option (LU×Int)
def ZT:Cb:=some (l8,0)
def Zz:=ZT
def Zn(j12:LU->Cb)(t!:Int-> (List (Int×Int32×(Int×LX×LX×Unit)×Unit))->LU->Cb)(b:LX)(a f g:Int)(k:Alq)(h:LU):Cb:=if(Bn g (Ac b))then(Ae b g).bind λ_=>(Ae b g).bind λac=>(Dl (Ax a 0)).bind λ_=>(Ae k (Hq g a)).bind λ_=>(Ae k (Hq g a)).bind λp=>(Tx p.1 p.2.1 p.2.2.1.1 p.2.2.1.2.1 p.2.2.1.2.2.1 ac).bind λ(u,ad,ae,v,af,ag,w)=>if(Ax w 0)then
some (([]:LU),w)
else(La k (Hq g a) (ad,ae,(v,af,ag,()),())).bind λah=>(xB u).bind λai=>(Az h ([ai]:LU)).bind λaj=>t! (Ad g 1) ah aj
else
j12 h
def Nx:Nat->Int-> (List (Int×Int32×(Int×LX×LX×Unit)×Unit))->LU->Cb
|0,_,_,_=>none
|z+1,c,d,e=>Zn Zz (Nx z) B A U c d e
def Xm b a f:=Nx b a f Bu
def AK(j10:LX->Jz3 ( (List (Int×Int32×(Int×LX×LX×Unit)×Unit))->LU->Cb))(a f:Int)(b:LX)(m:Alq):Cb:=j10 b a f 0 m ([]:LU)
def aU:=AK Xm
def AO(j9:Int->Int->LX-> (List (Int×Int32×(Int×LX×LX×Unit)×Unit))->Cb)(bk7:Int-> (List (Int×Int32×(Int×LX×LX×Unit)×Unit))->Cb)(a f:Int)(n b:LX)(o:Int)(m:Alq):Cb:=if(Bn o 6)then(jI f n).bind λ(ak,al,u,am,an,v)=>(Ae m o).bind λ_=>(La m o (ak,al,(u,am,an,()),())).bind λao=>bk7 (Ad o 1) ao
else
j9 a f b m
def Qp:Nat->Int-> (List (Int×Int32×(Int×LX×LX×Unit)×Unit))->Cb
|0,_,_=>none
|c+1,e,i=>AO aU (Qp c) z d B R e i
def eS a f n b:=Qp a f n b Bu
def BB(j7:Int->Int->LX->LX->Int-> (List (Int×Int32×(Int×LX×LX×Unit)×Unit))->Cb)(a f:Int)(n y:LX):Cb:=(XB a f y).bind λaa=>if(Ax aa 0)then
some (([]:LU),aa)
else(nu a y).bind λ(b,ab)=>if(Ax ab 0)then
some (([]:LU),ab)
else
j7 a f n b 0 (List.replicate 6 ((0:Int),(0:Int32),((0:Int),(List.replicate 16 (0:Int32)),(List.replicate 16 (0:Int32)),()),()))
def QE:=BB eS
abbrev Ew:=Option ((List (Int×Int×UInt64×UInt64×Unit)))
def dR(a:Alh):Ew:=some a
def BU:=dR
abbrev Amm:=Int-> (List (Int×Int×UInt64×UInt64×Unit))->Ew
def BZ(j6:(List (Int×Int×UInt64×UInt64×Unit))->Ew)(Vt:Amm)(b:Int)(a:Alh):Ew:=if(Bn b 6)then(aK).bind λ(f,g,h,k)=>(Ae a b).bind λ_=>(La a b (f,g,h,k,())).bind λm=>Vt (Ad b 1) m
else
j6 a
def Pz:Nat->Int-> (List (Int×Int×UInt64×UInt64×Unit))->Ew
|0,_,_=>none
|q+1,b,a=>BZ BU (Pz q) b a
def dS:=Pz Bu
def AY(j4:Amm):Ew:=j4 0 (List.replicate 6 ((0:Int),(0:Int),(0:UInt64),(0:UInt64),()))
def RX:=AY dS
def gI:Al5:=(Ca c).bind λd=>some (d,z)
abbrev Ci:=Option (LB×Int×Int)
def Aiq:Ci:=some (i,z,0)
def bR:=Aiq
abbrev Al7:=UInt64->Int->Int->LB->Ci
def Ajr(v!:Al7)(b:UInt64)(a:Int)(m:UInt64)(h f:Int)(w:LB):Ci:=(Dl (Dy (Eg h (Ar 8 (Ef f 7))) 0)).bind λ_=>v! (Da m (GI.toZ (Eg h (Ar 8 (Ef f 7)))).toNat) (Ar h (Eg h (Ar 8 (Ef f 7)))) (Ad f (Eg h (Ar 8 (Ef f 7)))) w
def C8 v!:=Ajr v!
def Ajs(j19:Al7)(b:UInt64)(a:Int)(m:UInt64)(h f:Int)(u:LB):Ci:=(Ae u (Ar (Ac u) 1)).bind λ_=>(Dl (Dy (Eg h (Ar 8 (Ef f 7))) 0)).bind λ_=>(Dl (Dy (Ef f 7) 0)).bind λ_=>(Ae u (Ar (Ac u) 1)).bind λad=>(Ae u (Ar (Ac u) 1)).bind λ_=>Option.bind (La u (Ar (Ac u) 1) (ig ad (Gg (Aq (Ef m (Ar (Gg (1:UInt64) (GI.toZ (Eg h (Ar 8 (Ef f 7)))).toNat) 1)):UInt8) (GI.toZ (Ef f 7)).toNat))) λw=>j19 m h f w
def cI v! b a:=Ajs (C8 v! b a) b a
def cP(j18:Al7)(j21:Int->LB->Ci)(b:UInt64)(a:Int)(m:UInt64)(h f:Int)(o:LB):Ci:=if(Cx h 0)then
if(geq (Ef f 7) 0)then(Az o ([(0:UInt8)]:LB)).bind λaa=>j18 m h f aa
else
j18 m h f o
else
j21 f o
def JM:Nat->UInt64->Int->Int->LB->Ci
|0,_,_,_,_=>none
|z+1,c,d,e,i=>cP (cI (JM z) F l6) bR F l6 c d e i
def C2 b a:=JM b a Bu
def Aiu:Ci:=some (i,z,0)
def eF:=Aiu
def Ajo(WQ:Al7)(b:UInt64)(a:Int)(n:UInt64)(k g:Int)(ab:LB):Ci:=(Dl (Dy (Eg k (Ar 8 (Ef g 7))) 0)).bind λ_=>WQ (Da n (GI.toZ (Eg k (Ar 8 (Ef g 7)))).toNat) (Ar k (Eg k (Ar 8 (Ef g 7)))) (Ad g (Eg k (Ar 8 (Ef g 7)))) ab
def Ajh WQ:=Ajo WQ
def Aiv(j26:Al7)(b:UInt64)(a:Int)(n:UInt64)(k g:Int)(v:LB):Ci:=(Ae v (Ar (Ac v) 1)).bind λ_=>(Dl (Dy (Eg k (Ar 8 (Ef g 7))) 0)).bind λ_=>(Dl (Dy (Ef g 7) 0)).bind λ_=>(Ae v (Ar (Ac v) 1)).bind λae=>(Ae v (Ar (Ac v) 1)).bind λ_=>Option.bind (La v (Ar (Ac v) 1) (ig ae (Gg (Aq (Ef n (Ar (Gg (1:UInt64) (GI.toZ (Eg k (Ar 8 (Ef g 7)))).toNat) 1)):UInt8) (GI.toZ (Ef g 7)).toNat))) λab=>j26 n k g ab
def dE WQ b a:=Aiv (Ajh WQ b a) b a
def aV(j25:Al7)(j28:Int->LB->Ci)(b:UInt64)(a:Int)(n:UInt64)(k g:Int)(p:LB):Ci:=if(Cx k 0)then
if(geq (Ef g 7) 0)then(Az p ([(0:UInt8)]:LB)).bind λw=>j25 n k g w
else
j25 n k g p
else
j28 g p
def JY:Nat->UInt64->Int->Int->LB->Ci
|0,_,_,_,_=>none
|z+1,c,d,e,i=>aV (dE (JY z) F l6) eF F l6 c d e i
def Ajl b a:=JY b a Bu
abbrev Amw:=UInt64->Int->UInt64->Int->Int->LB->Ci
def kA(j15:Amw)(j22:Amw)(ac:LB)(y:Int)(b:UInt64)(a:Int):Ci:=(Gy ac y).bind λaf=>if(Ax af 0)then
some (([]:LB),0,8)
else
if((Bn a 0)||(Cx a 64))then
some (([]:LB),0,2)
else
if(Bn a 64)then(Dl (Dy a 0)).bind λ_=>if(Ax (Da b (GI.toZ a).toNat) 0)then
some (([]:LB),0,16)
else
if(Cx (Ad y a) 330000)then
some (([]:LB),0,18)
else(gI ac y).bind λ(ag,ah)=>j15 b a b a ah ag
else
if(Cx (Ad y a) 330000)then
some (([]:LB),0,18)
else(gI ac y).bind λ(aa,ai)=>j22 b a b a ai aa
def SM:=kA C2 Ajl
def dX:Aly:=if((Bn z 0)||(Cx z 48))then
some (0,2)
else
some ((Eg (Ad z 1) 48),0)
def kU:Anp:=(Gy c z).bind λe=>if(Ax e 0)then
some (([]:LB),0,e)
else(dX d).bind λ(i,j)=>if(Ax j 0)then
some (([]:LB),0,j)
else(Dl (Dy d 0)).bind λ_=>(SM c z (Ar (Gg (1:UInt64) (GI.toZ d).toNat) 1) i).bind λ(l,A,B)=>some (l,A,B)
abbrev JB:=Option (LB×Int×Int)
def Ai9:JB:=(kU c z d).bind λ(e,i,j)=>if(Ax j 0)then
some (([]:LB),0,j)
else(SM e i (Aq V:UInt64) q9).bind λ(l,A,B)=>some (l,A,B)
def Ai3:=Ai9
def Ahj(j2:LB->Int->Int->UInt32->Int->JB)(b:LB)(f:Int)(g:UInt32)(a:Int):JB:=(Gy b f).bind λk=>if(Ax k 0)then
some (([]:LB),0,k)
else
if((Bn a 0)||(Cx a 24))then
some (([]:LB),0,2)
else(Dl (Dy a 0)).bind λ_=>(Dl (Dy a 0)).bind λ_=>(KU g a).bind λaa=>if aa then
j2 b f 48 g 32
else
j2 b f (Aq (Da g (GI.toZ a).toNat):Int) (Ef g (Ar (Gg (1:UInt32) (GI.toZ a).toNat) 1)) a
def sI:=Ahj Ai3
abbrev Em:=Option (LB×Int×Int×Int×UInt64×UInt64×Int)
def AA:Em:=(
(
some (Akk,z,d,j,(Ad F (Ar (Aq V:UInt64) (Da F (GI.toZ (4:UInt64)).toNat))),l7,0)))
def UD:=AA
def XT(j10:Jz3 (UInt64->UInt32->UInt64->LB->Em))(b:UInt32)(k n:Int)(a o:UInt64)(m:LB)(u:Int):Em:=j10 k u n a b o m
def Ai5:=XT UD
def WU(j9:UInt32->Int->Int->UInt64->UInt64->LB->Int->Em)(b:UInt32)(f:Int)(a:UInt64)(k:Int)(m:LB)(n:Int)(o:UInt64):Em:=if(Cx f 0)then(Dl (Dy f 0)).bind λ_=>if(Bn (Ad a (Ar (Aq b:UInt64) (Da a (GI.toZ (4:UInt64)).toNat))) (Gg (16:UInt64) (GI.toZ f).toNat))then
j9 b k n a o m (Ar f 1)
else
if(Bn f 24)then(Dl (Dy f 0)).bind λ_=>if(Cx (Ad a (Ar (Aq b:UInt64) (Da a (GI.toZ (4:UInt64)).toNat))) (Gg (32:UInt64) (GI.toZ f).toNat))then
j9 b k n a o m (Ad f 1)
else
j9 b k n a o m f
else
j9 b k n a o m f
else
if(Bn f 24)then(Dl (Dy f 0)).bind λ_=>if(Cx (Ad a (Ar (Aq b:UInt64) (Da a (GI.toZ (4:UInt64)).toNat))) (Gg (32:UInt64) (GI.toZ f).toNat))then
j9 b k n a o m (Ad f 1)
else
j9 b k n a o m f
else
j9 b k n a o m f
def XA:=WU Ai5
def WS(j8:UInt32->Int->UInt64->Int->LB->Int->UInt64->Em)(b:UInt32)(f h:Int)(a g:UInt64)(ac k:Int)(m:LB):Em:=if(Ax ac 0)then
some (([]:LB),0,0,0,0,0,ac)
else(KH f h a g b).bind λ(ag,p)=>if(geq ag 1)then
if(Cx h 0)then(Dl (Dy h 0)).bind λ_=>if(Bn (Ad g (Ar (Aq p:UInt64) (Da g (GI.toZ (4:UInt64)).toNat))) (Gg (16:UInt64) (GI.toZ h).toNat))then
j8 b f a k m (Ar h 1) (Ad g (Ar (Aq p:UInt64) (Da g (GI.toZ (4:UInt64)).toNat)))
else
if(Bn h 24)then(Dl (Dy h 0)).bind λ_=>if(Cx (Ad g (Ar (Aq p:UInt64) (Da g (GI.toZ (4:UInt64)).toNat))) (Gg (32:UInt64) (GI.toZ h).toNat))then
j8 b f a k m (Ad h 1) (Ad g (Ar (Aq p:UInt64) (Da g (GI.toZ (4:UInt64)).toNat)))
else
j8 b f a k m h (Ad g (Ar (Aq p:UInt64) (Da g (GI.toZ (4:UInt64)).toNat)))
else
j8 b f a k m h (Ad g (Ar (Aq p:UInt64) (Da g (GI.toZ (4:UInt64)).toNat)))
else
if(Bn h 24)then(Dl (Dy h 0)).bind λ_=>if(Cx (Ad g (Ar (Aq p:UInt64) (Da g (GI.toZ (4:UInt64)).toNat))) (Gg (32:UInt64) (GI.toZ h).toNat))then
j8 b f a k m (Ad h 1) (Ad g (Ar (Aq p:UInt64) (Da g (GI.toZ (4:UInt64)).toNat)))
else
j8 b f a k m h (Ad g (Ar (Aq p:UInt64) (Da g (GI.toZ (4:UInt64)).toNat)))
else
j8 b f a k m h (Ad g (Ar (Aq p:UInt64) (Da g (GI.toZ (4:UInt64)).toNat)))
else
j8 b f a k m h g
def Ai2:=WS XA
def XX(j7:UInt32->Int->Int->UInt64->UInt64->Int->Int->LB->Em)(b:UInt32)(v:LB)(w f h:Int)(a g:UInt64):Em:=(KH f h a g b).bind λ(ad,ae)=>(SM v w (Aq ad:UInt64) 1).bind λ(y,aa,ab)=>if((geq ab 0)&&(geq ad 0))then(SM y aa (Aq ae:UInt64) f).bind λ(ah,ai,aj)=>j7 b f h a g aj ai ah
else
if(geq ab 0)then(sI y aa ae h).bind λ(ak,al,am)=>j7 b f h a g am al ak
else
j7 b f h a g ab aa y
def Ahk:=XX Ai2
def YD(j6:UInt32->LB->Jz3 (UInt64->UInt64->Em))(v:LB)(w f h:Int)(a g:UInt64)(b:UInt32):Em:=(Gy v w).bind λan=>if(Ax an 0)then
some (([]:LB),0,0,0,0,0,8)
else(ZP f h a g).bind λao=>if(Ax ao 0)then
some (([]:LB),0,0,0,0,0,8)
else
j6 b v w f h a g
def rI:=YD Ahk
abbrev Be:=Option (LB×Int)
def ZK(v:Int)(p:LB):Be:=(Sp p).bind λ(af,ac)=>if(Ax ac 0)then
some (([]:LB),ac)
else(Ic (Aq af:UInt64) 4).bind λ(m,h)=>if(Ax h 0)then
some (([]:LB),h)
else(Df ([p,m]:Alf)).bind λag=>some (ag,0)
def Yq:=ZK
abbrev Al1:=Int-> (List (Int×Int×UInt64×UInt64×Unit))->Int->LB->Be
def YU(Tv:Al1)(b:LU)(a g f:Int)(n:Alh)(k:Int)(w:LB):Be:=Tv (Ad f 1) n k w
def Zt Tv:=YU Tv
abbrev Ank:=Int->Int->LB->Be
def aD(vK:Ank)(h:Int)(b:LU)(f a g:Int)(n:Alh)(m:LB)(o k:Int)(ab:LB):Be:=vK (Ad o 1) (Ad k 1) ab
def YY vK:=aD vK
def YN(j48:Ank)(h:Int)(b:LU)(f a g:Int)(n:Alh)(m:LB)(o k:Int)(y:LB):Be:=(Ae m (Fk o 8)).bind λ_=>(Ae m (Fk o 8)).bind λah=>(Dl (Dy (Hq o 8) 0)).bind λ_=>(Ae y (Fk k 8)).bind λ_=>(Dl (Dy (Hq k 8) 0)).bind λ_=>(Ae y (Fk k 8)).bind λai=>(Ae y (Fk k 8)).bind λ_=>Option.bind (La y (Fk k 8) (ig ai (Gg (Ef (Da ah (GI.toZ (Hq o 8)).toNat) 1) (GI.toZ (Hq k 8)).toNat))) λab=>j48 o k ab
def Yb vK h b f a g n m:=YN (YY vK h b f a g n m) h b f a g n m
def Zp(j47:Ank)(j50:Al1)(b:LU)(a g h f:Int)(n:Alh)(m:LB)(o k:Int)(w:LB):Be:=if(Bn o h)then
if(geq (Hq k 8) 0)then(Az w ([(0:UInt8)]:LB)).bind λaj=>j47 o k aj
else
j47 o k w
else
j50 f n k w
def Oc(Tv:Al1)(b:LU)(a g h f:Int)(n:Alh)(m:LB):Nat->Int->Int->LB->Be
|0,_,_,_=>none
|q+1,o,k,w=>Zp (Yb (Oc Tv b a g h f n m q) h b f a g n m) (Zt Tv b a g) b a g h f n m o k w
def Yr Tv b a g h f n m:=Oc Tv b a g h f n m Bu
def Yv(j44:Int->Int-> (List (Int×Int×UInt64×UInt64×Unit))->LB->Int->Int->LB->Be)(j52:Int->LB->Be)(b:LU)(a g f:Int)(u:Alh)(v:Int)(p:LB):Be:=if(Bn f (Ac b))then(Ae b f).bind λ_=>(Ae b f).bind λak=>(Dl (Ax a 0)).bind λ_=>(Ae u (Hq f a)).bind λ_=>(Ae u (Hq f a)).bind λaa=>(rI ([]:LB) 0 aa.1 aa.2.1 aa.2.2.1 aa.2.2.2.1 ak).bind λ(m,h,al,am,an,ao,ad)=>if(Ax ad 0)then
some (([]:LB),ad)
else(Dl (Ax a 0)).bind λ_=>(Ae u (Hq f a)).bind λ_=>(La u (Hq f a) (al,am,an,ao,())).bind λn=>j44 h f n m 0 v p
else
j52 v p
def Nz:Nat->Int-> (List (Int×Int×UInt64×UInt64×Unit))->Int->LB->Be
|0,_,_,_,_=>none
|z+1,c,d,e,i=>Yv (Yr (Nz z) l8 Aj7 Aj8) Yq l8 Aj7 Aj8 c d e i
def YJ b a g:=Nz b a g Bu
def AU(j27:LU->Jz3 ( (List (Int×Int×UInt64×UInt64×Unit))->Int->LB->Be))(a g:Int)(ap aq:LX):Be:=(QE a g ap aq).bind λ(b,ae)=>if(Ax ae 0)then
some (([]:LB),ae)
else(RX).bind λar=>j27 b a g 0 ar 0 ([]:LB)
def Zm:=AU YJ
def Rj(b f g:Int)(h k:LB)(m:LX)(n:Alf)(o:LB)(p:Bool)(u a:Int):Amb:=some (b,f,g,h,([]:LB),([]:LX),([]:Alf),([]:LB),false,a,a)
abbrev Bf:=Option (Int×Int×Int×LB×LB×LX×(List LB)×LB×Bool×Int×Int)
def Aa1:Bf:=some (z,d,j,i,Y,R,O,l5,D,G,0)
def IH:=Aa1
abbrev Amj:=Int->LB->LX-> (List LB)->Bf
def Aa6(Tw:Amj)(p:Int)(n:LB)(a b g:Int)(f:LB)(h:Bool)(k o:Int)(m:LB)(u:Int)(ao:LB)(ap:LX)(aq:Alf):Bf:=Tw (Ad u 1) ao ap aq
def Sj Tw:=Aa6 Tw
def Aa8(j24:Amj)(p:Int)(n:LB)(a b g:Int)(f:LB)(h:Bool)(k o:Int)(m:LB)(u ad:Int)(ae:LB)(af:LX)(ag:Alf):Bf:=if(Ax ad 0)then(Rj a b g f ae af ag m h k ad).bind λ(ar,au,av,aw,ax,ay,az,ba,bb,bc,bd)=>some (ar,au,av,aw,ax,ay,az,ba,bb,bc,bd)
else
j24 u ae af ag
def Jb Tw p n a b g f h k o m:=Aa8 (Sj Tw p n a b g f h k o m) p n a b g f h k o m
abbrev Amc:=Int->Int->LB->LX-> (List LB)->Bf
def eY(j23:Amc)(p:Int)(n:LB)(a b g:Int)(f:LB)(h:Bool)(k o:Int)(m:LB)(u:Int)(ab:LX)(v:Alf)(be:Int):Bf:=j23 u be ([]:LB) ab v
def Ab3 Tw p n a b g f h k o m:=eY (Jb Tw p n a b g f h k o m) p n a b g f h k o m
def Ab6(j23:Amc)(p:Int)(n:LB)(a b g:Int)(f:LB)(h:Bool)(k o:Int)(m:LB)(u:Int)(ac:Alf):Bf:=j23 u 0 ([]:LB) ([]:LX) ac
def Aae Tw p n a b g f h k o m:=Ab6 (Jb Tw p n a b g f h k o m) p n a b g f h k o m
def Aa4(j23:Amc)(j21:Int->LX-> (List LB)->Int->Bf)(j22:Int-> (List LB)->Bf)(p:Int)(n:LB)(a b g:Int)(f:LB)(h:Bool)(k o:Int)(m:LB)(u:Int)(aa:LB)(w:LX)(v:Alf):Bf:=(Mm b aa).bind λ(bf,ah)=>if(Ax ah 0)then
j23 u ah aa w v
else(Az w bf).bind λab=>if(Bn (Ac ab) (Ct o a))then
j23 u 0 ([]:LB) ab v
else(Kj f).bind λ(bg,ai)=>if(Ax ai 0)then
j21 u ab v ai
else(Zm a b bg ab).bind λ(bh,aj)=>if(Ax aj 0)then
j21 u ab v aj
else(Az v ([bh]:Alf)).bind λac=>j22 u ac
def ES Tw p n a b g f h k o m:=Aa4 (Jb Tw p n a b g f h k o m) (Ab3 Tw p n a b g f h k o m) (Aae Tw p n a b g f h k o m) p n a b g f h k o m
def HA(j24:Amj)(j23:Amc)(j20:Amj)(j26:Jz3 (LB->Bool->Int->LB->LX-> (List LB)->LB->Bf))(p:Int)(n:LB)(a b g:Int)(f:LB)(h:Bool)(k o:Int)(m:LB)(u:Int)(y:LB)(w:LX)(v:Alf):Bf:=if(Bn u (Ac n))then(Ae n u).bind λbi=>(Az y ([bi]:LB)).bind λaa=>if(Bn (Ac aa) p)then
j24 u aa w v
else(Ua a b g f aa w v m h k o).bind λbj=>(KV a b g f aa w v m h k (Ad (Ac v) 1) (Ad bj 1)).bind λbk=>if(!bk)then
j23 u 18 aa w v
else
j20 u aa w v
else
j26 a b g f h k y w v m
def Ii:Nat->Int->LB->LX-> (List LB)->Bf
|0,_,_,_,_=>none
|c+1,d,e,j,l=>HA (Sj (Ii c) z i A U Z P D G o7 Y) (Jb (Ii c) z i A U Z P D G o7 Y) (ES (Ii c) z i A U Z P D G o7 Y) IH z i A U Z P D G o7 Y d e j l
def Aav p n a b g f h k o m:=Ii p n a b g f h k o m Bu
def OF(j14:Int->LB->Jz3 (LB->Bool->Int->Int->LB->Int->LB->LX-> (List LB)->Bf))(bl bm bn:Int)(bp bq:LB)(br:LX)(bs:Alf)(bt:LB)(bu:Bool)(bv:Int)(n:LB):Bf:=(DL bl bm bn bp bq br bs bt bu bv).bind λ(a,b,g,f,ak,al,am,m,h,k,o,an)=>if(Ax an 0)then
some (a,b,g,f,ak,al,am,m,h,k,an)
else(Xs a b).bind λp=>j14 p n a b g f h k o m 0 ak al am
def bA:=OF Aav
def YE:Aly:=if(Cx (Ac c) 64)then
some (0,2)
else
if(geq (Ac c) 0)then
some (1,0)
else
some (2,0)
abbrev Gv:=Option (LB×Int)
def Acl:Gv:=(Sp c).bind λ(z,d)=>(Ic (Aq z:UInt64) 4).bind λ(e,i)=>(Az c e).bind λj=>some (j,0)
def NZ:=Acl
def NX(j6:LB->Gv)(Vt:Int->LB->Gv)(b f g h k m:Int)(a:LB):Gv:=if(Bn m 5)then(Ae ([b,f,g,h,k]:LI) m).bind λw=>(Ae ([(2:Int),(2:Int),(2:Int),(4:Int),(4:Int)]:LI) m).bind λy=>(Ic (Aq w:UInt64) y).bind λ(n,v)=>(Az a n).bind λo=>Vt (Ad m 1) o
else
j6 a
def Uz:Nat->Int->LB->Gv
|0,_,_=>none
|c+1,e,i=>NX NZ (Uz c) z d j C E e i
def Ad5 b f g h k:=Uz b f g h k Bu
def OH(j4:Jz6 (LB->Gv))(b f g h k:Int):Gv:=(IW b f g h k).bind λp=>if(Ax p 0)then
some (([]:LB),p)
else
j4 b f g h k 0 ([(84:UInt8),(84:UInt8),(65:UInt8),(49:UInt8)]:LB)
def cZ:=OH Ad5
abbrev Dr:=Option (LB×Int)
def Ac9:Dr:=some (c,0)
def Ad9:=Ac9
def Acn(j14:LB->Dr)(b:LB):Dr:=(Sp b).bind λ(m,u)=>(Ic (Aq m:UInt64) 4).bind λ(n,v)=>(Az b n).bind λg=>j14 g
def MG:=Acn Ad9
def Adm(E8:Int->LB->Dr)(a:LI)(f:Int)(h:LB):Dr:=E8 (Ad f 1) h
def NA E8:=Adm E8
def UJ(j11:Int->LB->Dr)(j13:LB->Dr)(a:LI)(f:Int)(b:LB):Dr:=if(Bn f (Ac a))then(Ae a f).bind λo=>(Ic (Aq o:UInt64) 4).bind λ(p,w)=>(Az b p).bind λh=>j11 f h
else
j13 b
def Xa:Nat->Int->LB->Dr
|0,_,_=>none
|z+1,c,d=>UJ (NA (Xa z) l) MG l c d
def Agx a:=Xa a Bu
def QF(j8:LI->Int->LB->Dr)(a:LI):Dr:=(Ps a).bind λk=>if(Ax k 0)then
some (([]:LB),k)
else
j8 a 0 ([]:LB)
def UA:=QF Agx
abbrev Eh:=Option (LB×Int)
def Vi(f g h:Int)(b k:LB)(m:LX)(a:Alf)(n:LB)(o:Bool)(p:Int)(u:LB)(v:LI):Eh:=(UA v).bind λ(aa,y)=>if(Ax y 0)then
some (([]:LB),y)
else(
(Az u aa).bind λab=>(Df a).bind λac=>(Az ab ac).bind λad=>some (ad,0))
def MZ:=Vi
def MR(j8:Jz3 (LB->LB->LX-> (List LB)->LB->Bool->Int->LB->LI->Eh))(O9:Int->LI->Eh)(a:Alf)(f g h:Int)(b k:LB)(m:LX)(n:LB)(o:Bool)(p:Int)(u:LB)(w:Int)(v:LI):Eh:=if(Bn w (Ac a))then(Ae a w).bind λai=>(Az v ([(Ac ai)]:LI)).bind λaj=>O9 (Ad w 1) aj
else
j8 f g h b k m a n o p u v
def Vp:Nat->Int->LI->Eh
|0,_,_=>none
|z+1,c,d=>MR MZ (Vp z) O p8 Aj9 L w9 Akm Aka Akn Ak8 Ak9 Ala c d
def Ad1 a f g h b k m n o p u:=Vp a f g h b k m n o p u Bu
def OD(j6:(List LB)->Jz3 (LB->LB->LX->LB->Bool->Int->LB->Int->LI->Eh))(f g h:Int)(b k:LB)(m:LX)(a:Alf)(n:LB)(o:Bool)(p:Int)(u:LB):Eh:=j6 a f g h b k m n o p u 0 ([]:LI)
def Abs:=OD Ad1
def LW(j5:Jz3 (LB->LB->LX-> (List LB)->LB->Bool->Int->LB->Eh))(f g h:Int)(b k:LB)(m:LX)(a:Alf)(n:LB)(o:Bool)(p ak:Int):Eh:=(YE b).bind λ(al,ae)=>if(Ax ae 0)then
some (([]:LB),ae)
else(cZ al f g h ak).bind λ(af,ag)=>if(Ax ag 0)then
some (([]:LB),ag)
else
if(b !=([]:LB))then(KF b).bind λ(am,ah)=>if(Ax ah 0)then
some (([]:LB),ah)
else(Az af am).bind λan=>j5 f g h b k m a n o p an
else
j5 f g h b k m a n o p af
def eP:=LW Abs
abbrev Gp:=Option (Int×Int×Int×LB×LB×LX×(List LB)×LB×Bool×Int×Int)
def bP:Gp:=(eP d j C i Y Aka Akw l5 D G z).bind λ(c,e)=>if(Ax e 0)then(Rj d j C i Y Aka Akw l5 D G e).bind λ(l,A,B,E,F,I,J,L,M,N,O)=>some (l,A,B,E,F,I,J,L,M,N,O)
else
some (d,j,C,i,([]:LB),([]:LX),([]:Alf),c,true,0,0)
def BR:=bP
abbrev Amd:=Jz4 (LB->Bool->Int->LB->LB->LX-> (List LB)->Gp)
def bT(j4:Amd)(o a b g:Int)(f:LB)(k:Bool)(m:Int)(h n:LB)(ad:Int)(ae:LX)(af:Alf):Gp:=if(Ax ad 0)then(Rj a b g f h ae af n k m ad).bind λ(au,v,w,av,aw,ax,y,aa,ay,az,ba)=>some (au,v,w,av,aw,ax,y,aa,ay,az,ba)
else
j4 o a b g f k m h n ae af
def cK:=bT BR
def eD(j3:Jz4 (LB->Bool->Int->LB->LB->Int->LX-> (List LB)->Gp))(j4:Amd)(bb bc bd:Int)(be bf:LB)(bg:LX)(bh:Alf)(bi:LB)(bj:Bool)(bk:Int):Gp:=(DL bb bc bd be bf bg bh bi bj bk).bind λ(a,b,g,f,h,p,u,n,k,m,bl,ag)=>if(Ax ag 0)then
some (a,b,g,f,h,p,u,n,k,m,ag)
else(Ua a b g f h p u n k m bl).bind λo=>if((Cx (Ac h) 0)||(geq o 0))then(Rj a b g f h p u n k m 24).bind λ(bm,bn,bp,bq,br,bs,bt,bu,bv,bw,bx)=>some (bm,bn,bp,bq,br,bs,bt,bu,bv,bw,bx)
else
if(Cx (Ac p) 0)then(Kj f).bind λ(bz,ah)=>if(Ax ah 0)then
j3 o a b g f k m h n ah p u
else(Zm a b bz p).bind λ(da,ai)=>if(Ax ai 0)then
j3 o a b g f k m h n ai p u
else(Az u ([da]:Alf)).bind λdb=>j3 o a b g f k m h n 0 ([]:LX) db
else
j4 o a b g f k m h n p u
def PG:=eD cK BR
abbrev Ec:=Option (LB×Int)
def bM(aw bf bg bh:Int)(bi:LB)(bj:Bool)(bk:Int)(bl:LB)(bm:LX)(bn:Alf)(bc:LB):Ec:=if(Ax aw 0)then
some (([]:LB),aw)
else
some (bc,0)
def BW:=bM
abbrev Ame:=Jz4 (LB->Bool->Int->LB->LX-> (List LB)->LB->Ec)
def eI(j6:Ame)(w a y aa ab:Int)(ac:LB)(ad:Bool)(ae b f g:Int)(h k:LB)(m:LX)(n:Alf)(o:LB)(p:Bool)(u:Int)(af:LB)(ag:LX)(ah:Alf)(ai:LB):Ec:=j6 w y aa ab ac ad ae af ag ah ai
def cU:=eI BW
abbrev Alv:=Jz5 (LB->Bool->Int->Int->Int->Int->LB->LB->LX-> (List LB)->LB->Bool->Int->LB->LX-> (List LB)->LB->Ec)
def aS(j6:Ame)(j5:Alv)(v a aj ak al:Int)(am:LB)(an:Bool)(ao b f g:Int)(h k:LB)(m:LX)(n:Alf)(o:LB)(p:Bool)(u:Int)(ap:LB)(aq:LX)(ar:Alf)(au:LB):Ec:=if(Ax v 0)then
j6 v 0 0 0 ([]:LB) false 0 ([]:LB) ([]:LX) ([]:Alf) ([]:LB)
else(PG aj ak al am ap aq ar au an ao).bind λ(y,aa,ab,ac,af,ag,ah,ai,ad,ae,w)=>j5 w a y aa ab ac ad ae b f g h k m n o p u af ag ah ai
def dV:=aS BW cU
def cN(j4:Alv)(ax av ay:Int)(az:LX)(bd:LB):Ec:=(YM ax av ay az).bind λba=>if(Ax ba 0)then
some (([]:LB),ba)
else(Hn av az).bind λ(be,bb)=>if(Ax bb 0)then
some (([]:LB),bb)
else(kP ax av ay bd).bind λ(b,f,g,h,k,m,n,o,p,u,a)=>if(Ax a 0)then
some (([]:LB),a)
else(bA b f g h k m n o p u be).bind λ(aj,ak,al,am,ap,aq,ar,au,an,ao,v)=>j4 v a aj ak al am an ao b f g h k m n o p u ap aq ar au
def OZ:=cN dV
abbrev Aa:=Option (LB×LB×LB)
def GB:Aa:=some (([119,104,97,116]:LB),c,e)
def Pn:=GB
def IM:Aa:=some (i,c,e)
def It:=IM
def HM:Aa:=some (c,i,e)
def HT:=HM
abbrev Ali:=LB->LB->LB->Aa
def JC(j100:Ali)(g a hr:LB):Aa:=j100 g a hr
def KE:=JC It
def JO(j101:Ali)(ag a al:LB):Aa:=j101 ag a al
def LC:=JO HT
def JD(j98:Ali)(j99:Ali)(g a:LB)(k:LI):Aa:=(Ae k 0).bind λ_=>(Ae k 0).bind λhs=>(Bm g 0 hs).bind λht=>(Ca ht).bind λal=>if(Ax (0:Int) (0:Int))then(Aj 0).bind λdr=>j98 g a dr
else
if(Cx (Ac al) 100000)then(Aj 4).bind λds=>j98 g a ds
else(strconv_Itoa (Ac al)).bind λag=>j99 ag a al
def Qc:=JD KE LC
def IP:Aa:=some (c,e,i)
def EF:=IP
def GC(j128:Ali)(aa aj:Int)(ah:UInt8)(ab ai:Int)(g a:LB):Aa:=(Gf ([(Aq ah:Int),ab,ai]:LI) aa).bind λdt=>j128 dt g a
def Oi:=GC EF
def GZ:Aa:=some (c,e,i)
def Pu:=GZ
def GG:Aa:=some (c,e,i)
def Ph:=GG
def HL:Aa:=some (c,e,i)
def Pa:=HL
def HS:Aa:=some (i,c,e)
def Iz:=HS
def EY:Aa:=some (c,i,e)
def HD:=EY
def EI(j135:Ali)(g a hv:LB):Aa:=j135 g a hv
def EX:=EI Iz
def GX(j136:Ali)(br a ax:LB):Aa:=j136 br a ax
def EW:=GX HD
def EH(j133:Ali)(j134:Ali)(g a:LB)(k:LI):Aa:=(Ae k 0).bind λ_=>(Ae k 1).bind λ_=>(Ae k 0).bind λhw=>(Ae k 1).bind λbs=>(kE g hw (Aq bs:UInt8)).bind λ(ax,gs)=>if(Ax gs 0)then(Aj gs).bind λhx=>j133 g a hx
else
if(Cx (Ac ax) 100000)then(Aj 4).bind λhy=>j133 g a hy
else(strconv_Itoa (Ac ax)).bind λbr=>j134 br a ax
def Ot:=EH EX EW
def HX:Aa:=some (i,c,e)
def Il:=HX
def FT:Aa:=some (c,i,e)
def FF:=FT
def GN(j139:Ali)(g a ka:LB):Aa:=j139 g a ka
def Ox:=GN Il
def FB(j140:Ali)(ay a am:LB):Aa:=j140 ay a am
def Pr:=FB FF
def FE:Aa:=some (c,e,i)
def IQ:=FE
def EO(j142:Ali)(bt bu:Int)(g a:LB):Aa:=(Gf ([bt]:LI) bu).bind λdu=>j142 du g a
def Oz:=EO IQ
def EA:Aa:=some (c,e,i)
def FG:=EA
def FV:Aa:=some (c,i,e)
def EV:=FV
def HK(j149:Ali)(g a dv:LB):Aa:=j149 dv g a
def FN:=HK FG
def ID(j150:Ali)(bv a az:LB):Aa:=j150 bv a az
def IK:=ID EV
def GK(j147:Ali)(j148:Ali)(g a:LB)(p u v:Int)(ac:LX):Aa:=(OZ p u v ac a).bind λ(az,gt)=>if(Ax gt 0)then(Aj gt).bind λkb=>j147 g a kb
else
if(Cx (Ac az) 100000)then(Aj 4).bind λkc=>j147 g a kc
else(strconv_Itoa (Ac az)).bind λbv=>j148 bv a az
def Pg:=GK FN IK
def Oy(j146:LB->LB->Jz3 (LX->Aa))(wh:Int->LX->Aa)(w:LI)(g a:LB)(p u v af:Int)(ac:LX):Aa:=if(Bn af (Ac w))then(Ae w af).bind λkd=>(Az ac ([(Aq kd:Int32)]:LX)).bind λke=>wh (Ad af 1) ke
else
j146 g a p u v ac
def Iv:Nat->Int->LX->Aa
|0,_,_=>none
|z+1,c,d=>Oy Pg (Iv z) l i o9 A U Z c d
def EG w g a p u v:=Iv w g a p u v Bu
def Pv(j144:LI->LB->LB->Jz4 (LX->Aa))(g a:LB)(k:LI)(p u v:Int):Aa:=(Bm k 3 (Ac k)).bind λw=>j144 w g a p u v 0 ([]:LX)
def IS:=Pv EG
abbrev Anv:=LB->LB->Aa
abbrev Amx:=Int->Int->UInt8->Int->Int->LB->LB->Aa
def Jl(j100:Ali)(j97:LB->LB->LI->Aa)(j126:Anv)(j127:Amx)(j129:Ali)(j130:Ali)(j131:Ali)(j135:Ali)(j132:LB->LB->LI->Aa)(j139:Ali)(j137:Ali)(j138:Ali)(j141:Int->Int->LB->LB->Aa)(j143:LB->LB->LI->Jz3 Aa)(h g a:LB)(k:LI):Aa:=if(h==[99,117,116])then
if((true&&(Dy (Ac k) 1))&&(IV (Ac k) 1))then(Ae k 0).bind λ_=>(Ae k 0).bind λbw=>if(Bn bw 0)then(Aj 2).bind λaq=>j100 g a aq
else(Ae k 0).bind λ_=>(Ae k 0).bind λdw=>if(Cx dw (Ac g))then(Aj 2).bind λdx=>j100 g a dx
else
j97 g a k
else
j126 g a
else
if(h==[112,108,97,99,101])then
if((true&&(Dy (Ac k) 1))&&(IV (Ac k) 1))then(Ae k 0).bind λ_=>(
(
(
(Ae k 0).bind λan=>(
(Js g a an).bind λ(aj,ah,ab,ai,aa)=>j127 aa aj ah ab ai g a))))
else
j126 g a
else
if(h==[102,114,97,109,101])then
if((true&&(Dy (Ac k) 1))&&(IV (Ac k) 1))then(Ae k 0).bind λ_=>(Ae k 0).bind λdy=>(Ln g a dy).bind λ(dz,fa)=>(Fq dz fa).bind λbn=>j129 bn g a
else
j126 g a
else
if(h==[102,114,111,109])then
if((true&&(Dy (Ac k) 1))&&(IV (Ac k) 1))then(Ae k 0).bind λ_=>(Ae k 0).bind λfb=>(BC g a fb).bind λ(fc,fd)=>(Fq fc fd).bind λbp=>j130 bp g a
else
j126 g a
else
if(h==[97,116])then
if((true&&(Dy (Ac k) 1))&&(IV (Ac k) 1))then(Ae k 0).bind λ_=>(Ae k 0).bind λfe=>(jG g a fe).bind λ(ff,fg)=>(Fq ff fg).bind λbq=>j131 bq g a
else
j126 g a
else
if(h==[102,108,105,112])then
if((true&&(Dy (Ac k) 2))&&(IV (Ac k) 2))then(Ae k 1).bind λ_=>(Ae k 1).bind λfh=>if(Bn fh 0)then(Aj 2).bind λfi=>j135 g a fi
else(Ae k 1).bind λ_=>(Ae k 1).bind λfj=>if(Cx fj 255)then(Aj 2).bind λfk=>j135 g a fk
else
j132 g a k
else
j126 g a
else
if(h==[98,117,114,115,116])then
if((true&&(Dy (Ac k) 2))&&(IV (Ac k) 2))then(Ae k 1).bind λ_=>(Ae k 1).bind λbs=>if(Bn bs 0)then(Aj 2).bind λfl=>j139 g a fl
else(Ae k 0).bind λ_=>(Ae k 1).bind λ_=>(Ae k 0).bind λfm=>(Ae k 1).bind λfn=>(KB g fm (Aq fn:UInt32)).bind λ(am,bx)=>if(Ax bx 0)then(Aj bx).bind λfo=>j137 g a fo
else
if(Cx (Ac am) 100000)then(Aj 4).bind λfp=>j137 g a fp
else(strconv_Itoa (Ac am)).bind λay=>j138 ay a am
else
j126 g a
else
if(h==[119,97,121,115])then
if((true&&(Dy (Ac k) 2))&&(IV (Ac k) 2))then(Ae k 0).bind λ_=>(Ae k 1).bind λ_=>(Ae k 0).bind λfq=>(Ae k 1).bind λfs=>(UP a g fq fs).bind λ(bt,bu)=>j141 bt bu g a
else
j126 g a
else
if(h==[99,108,105,112])then
if((true&&(Dy (Ac k) 3))&&(IV (Ac k) 3000))then(Ae k 0).bind λ_=>(Ae k 1).bind λ_=>(Ae k 2).bind λ_=>(Ae k 0).bind λp=>(Ae k 1).bind λu=>(Ae k 2).bind λv=>(
j143 g a k p u v)
else
j126 g a
else
if((false&&(Dy (Ac k) 0))&&(IV (Ac k) 0))then
none
else
j126 g a
def Rg:=Jl It Qc Pn Oi Pu Ph Pa Iz Ot Il Ox Pr Oz IS
def Ru(j96:LB->LB->LB->LI->Aa)(zk:Int->LI->Aa)(h:LB)(m:Alf)(g a:LB)(y:Int)(k:LI):Aa:=if(Bn y (Ac m))then(Ae m y).bind λbw=>(Gx bw).bind λ(kf,kg)=>if(!kg)then
some (([119,104,97,116]:LB),g,a)
else(Az k ([kf]:LI)).bind λn=>zk (Ad y 1) n
else
j96 h g a k
def Jo:Nat->Int->LI->Aa
|0,_,_=>none
|z+1,d,e=>Ru Rg (Jo z) c O l5 w9 d e
def Qx h m g a:=Jo h m g a Bu
def Bz(j94:LB-> (List LB)->LB->LB->Int->LI->Aa)(h:LB)(m:Alf)(g a:LB):Aa:=j94 h m g a 0 ([]:LI)
def JG:=Bz Qx
abbrev Amk:=LB-> (List LB)->LB->LB->Aa
def By(j93:Amk)(h:LB)(m:Alf)(kh:LB)(ki:Bool)(g a:LB):Aa:=if ki then
some (kh,g,a)
else
j93 h m g a
def Cq:=By JG
abbrev Alu:=LB-> (List LB)->LB->Bool->LB->LB->Aa
def Re(j92:Alu)(h:LB)(m:Alf)(f b:LB):Aa:=j92 h m ([]:LB) false f b
def JL:=Re Cq
def Ro(j92:Alu)(h:LB)(m:Alf)(f b kj:LB):Aa:=j92 h m kj true f b
def KR:=Ro Cq
def Qj(j92:Alu)(bz h:LB)(m:Alf)(b ar:LB):Aa:=j92 h m bz true ar b
def JT:=Qj Cq
def Oo(j92:Alu)(h:LB)(m:Alf)(f b kk:LB):Aa:=j92 h m kk true f b
def IF:=Oo Cq
def Oj(j92:Alu)(da h:LB)(m:Alf)(b ao:LB):Aa:=j92 h m da true ao b
def FH:=Oj Cq
def Iw(j92:Alu)(db h:LB)(m:Alf)(f b:LB):Aa:=j92 h m db true f b
def Ok:=Iw Cq
abbrev Amg:=LB->LB-> (List LB)->LB->LB->Aa
def Om(j157:Amg)(h:LB)(m ad:Alf)(f b:LB):Aa:=(JR ad ([32]:LB)).bind λdb=>j157 db h m f b
def HP:=Om Ok
def Px(j156:LB-> (List LB)-> (List LB)->LB->LB->Aa)(wo:Int-> (List LB)->Aa)(n:Alp)(h:LB)(m:Alf)(f b:LB)(ae:Int)(ad:Alf):Aa:=if(Bn ae (Ac n))then(Ae n ae).bind λ_=>(Ae n ae).bind λgu=>(strconv_Itoa gu.1).bind λdr=>(Az dr ([58]:LB)).bind λds=>(strconv_Itoa (Ac gu.2.1)).bind λag=>(Az ds ag).bind λkl=>(Az ad ([kl]:Alf)).bind λkm=>wo (Ad ae 1) km
else
j156 h m ad f b
def Ih(n:Alp)(h:LB)(m:Alf)(f b:LB):Nat->Int-> (List LB)->Aa
|0,_,_=>none
|q+1,ae,ad=>Px HP (Ih n h m f b q) n h m f b ae ad
def GD n h m f b:=Ih n h m f b Bu
def Pf(j157:Amg)(j154:(List (Int×LB×Unit))->LB-> (List LB)->LB->LB->Int-> (List LB)->Aa)(ap:Int)(h:LB)(m:Alf)(n:Alp)(f b:LB):Aa:=if(Ax ap 0)then(Aj ap).bind λdb=>j157 db h m f b
else
j154 n h m f b 0 ([]:Alf)
def DZ:=Pf Ok GD
abbrev Am7:=LB-> (List LB)->LB->LB->LB->Aa
def Jk(j92:Alu)(j82:Am7)(j83:Amg)(j151:Am7)(j152:Amg)(j153:Int->LB-> (List LB)-> (List (Int×LB×Unit))->LB->LB->Aa)(j91:Amk)(h:LB)(m:Alf)(f b:LB):Aa:=if((h==([112,97,115,115,119,111,114,100]:LB))&&(geq (Ac m) 1))then(Ae m 0).bind λft=>if(Cx (Ac ft) 64)then(Aj 2).bind λba=>j92 h m ba true f b
else(Ae m 0).bind λfu=>j92 h m ([111,107]:LB) true f fu
else
if(((h==([102,105,108,101]:LB))||(h==([97,100,100]:LB)))&&(geq (Ac m) 1))then(Ae m 0).bind λfv=>(Uc fv).bind λ(ao,fw)=>if(!fw)then
j92 h m ([119,104,97,116]:LB) true f b
else
if(h==([97,100,100]:LB))then(Df ([f,ao]:Alf)).bind λar=>if(Ax (0:Int) (0:Int))then(Aj 0).bind λfx=>j82 h m f b fx
else
if(Cx (Ac ar) 100000)then(Aj 4).bind λfy=>j82 h m f b fy
else(strconv_Itoa (Ac ar)).bind λbz=>j83 bz h m b ar
else
if(Ax (0:Int) (0:Int))then(Aj 0).bind λfz=>j151 h m f b fz
else
if(Cx (Ac ao) 100000)then(Aj 4).bind λga=>j151 h m f b ga
else(strconv_Itoa (Ac ao)).bind λda=>j152 da h m b ao
else
if((h==([115,99,114,105,112,116]:LB))||(h==([112,101,97,107]:LB)))then(CZ m).bind λ(dc,gb)=>if(!gb)then
j92 h m ([119,104,97,116]:LB) true f b
else
if(h==([112,101,97,107]:LB))then(QX b f dc).bind λ(ak,au,av)=>(Gf ([ak,au]:LI) av).bind λgc=>j92 h m gc true f b
else(
(
(
(Ue b f dc).bind λ(gd,kn,dd,de,df,ko,dg,kp,kq,kr,ks,dh,n,ap)=>j153 ap h m n f b)))
else
j91 h m f b
def Qz:=Jk Cq KR JT IF FH DZ JL
def LG:Aa:=some (([119,104,97,116]:LB),c,e)
def Rq:=LG
def KK:Aa:=some (([111,107]:LB),c,([]:LB))
def Qr:=KK
def JW:Aa:=some (c,e,i)
def LH:=JW
def JS:Aa:=some (c,([]:LB),e)
def KQ:=JS
def JP(j68:Ali)(f b ge:LB):Aa:=j68 ge f b
def Qd:=JP LH
def IY(j69:Anv)(bb b:LB):Aa:=j69 bb b
def Rn:=IY KQ
def GW:Aa:=some (c,e,i)
def Pk:=GW
def GQ:Aa:=some (i,c,e)
def EP:=GQ
def IJ(j160:Ali)(ak bc bd be bf bg bh bi:Int)(bj:UInt8)(bk bl:Int)(f b:LB)(bm:LI):Aa:=if(Ax ak 0)then(Aj ak).bind λku=>j160 f b ku
else(uW bc bd be bf bg bh bm bi bj bk bl).bind λ(kv,aw)=>if(Ax aw 0)then(Aj aw).bind λgd=>j160 f b gd
else(Jn kv ([10]:LB)).bind λkw=>(Yj kw ([10]:LB) ([32,47,32]:LB)).bind λdj=>j160 f b dj
def Po:=IJ EP
def HQ:Aa:=some (c,e,i)
def HZ:=HQ
def FM(j162:Ali)(dk au:Int)(av:UInt8)(aw dl:Int)(f b:LB):Aa:=(Gf ([au,(Aq av:Int),aw,dl]:LI) dk).bind λdj=>j162 dj f b
def Ou:=FM HZ
def EZ:Aa:=some (c,e,i)
def Pb:=EZ
def HF:Aa:=some (c,e,i)
def Pw:=HF
def FR:Aa:=some (c,e,i)
def Pd:=FR
def GR:Aa:=some (c,e,i)
def Pq:=GR
def HN:Aa:=some (c,e,i)
def Pj:=HN
def Jj(j65:LB->Aa)(j66:Ali)(j67:Anv)(j158:Ali)(j159:Jz8 (UInt8->Int->Int->LB->LB->LI->Aa))(j161:Amx)(j163:Ali)(j164:Ali)(j165:Ali)(j166:Ali)(j167:Ali)(j80:Anv)(j81:Amk)(h:LB)(m:Alf)(f b:LB):Aa:=if(geq (Ac m) 0)then
if(h==[112,97,115,115,119,111,114,100])then
j65 f
else
if(h==[102,105,108,101])then
if(Ax (0:Int) (0:Int))then(Aj 0).bind λgf=>j66 f b gf
else
if(Cx (0:Int) (100000:Int))then(Aj 4).bind λba=>j66 f b ba
else(strconv_Itoa 0).bind λbb=>j67 bb b
else
if(h==[104,101,120])then(Fq f 0).bind λdi=>j158 di f b
else
if(h==[114,101,112,111,114,116])then(
(
(
(qV f b).bind λ(bc,bd,be,bf,bg,bh,bm,bi,bj,bk,bl,ak)=>j159 ak bc bd be bf bg bh bi bj bk bl f b bm)))
else
if(h==[116,111,108,100])then(
(
(
(AR f b).bind λ(au,av,aw,dl,dk)=>j161 dk au av aw dl f b)))
else
if(h==[115,97,109,112,108,101,115])then(Rb f b).bind λ(dd,de,df,gg,dg)=>(Fy dd de df gg dg).bind λdm=>j163 dm f b
else
if(h==[98,97,100])then(ZX f b).bind λ(gh,gi)=>(Gf gh gi).bind λaq=>j164 aq f b
else
if(h==[115,107,105,112])then(
(
(
(Ng f b 1).bind λ(dh,gj,ap,al,kx,ab)=>(Fy dh gj ap al ab).bind λag=>j165 ag f b)))
else
if(h==[115,105,108,101,110,116])then(
(
(
(Ng f b 2).bind λ(aa,gk,gl,gm,ky,gn)=>(Fy aa gk gl gm gn).bind λdn=>j166 dn f b)))
else
if(h==[119,97,118])then(DP f b).bind λ(go,gp)=>(Fq go gp).bind λdp=>j167 dp f b
else
j80 f b
else
j81 h m f b
def Qg:=Jj Qr Qd Rn Pk Po Ou Pb Pw Pd Pq Pj Rq Qz
def Sa(j64:Amk)(f b:LB)(o:Alf):Aa:=(Ae o 0).bind λh=>(Bm o 1 (Ac o)).bind λm=>j64 h m f b
def Ns:=Sa Qg
def Nh(f b:LB):List LB->List LB->Option (LB×LB×LB)
|[],o=>Ns f b o
|x::xs,o=>if(x==[])=true then some ([119,104,97,116],f,b)else Option.bind (Az o [x]) λgq=>Nh f b xs gq
def Mu:Option (LB×LB×LB):=Option.bind (Q6 32 i) λz=>Nh c e z []
def BE:Alg:=(Ey c e).bind λz=>some z
def Aaw:Ale:=if(c !=([]:LB))then(BE c ([10]:LB)).bind λz=>if(!z)then
some 12
else
some 0
else
some 0
def eZ:=Aaw
def Abi(j2:LB->Option Int)(a:LB):Ale:=if(Cx (Ac a) 3000)then
some 4
else(strings_Count a ([10]:LB)).bind λf=>if(Cx f 40)then
some 4
else
j2 a
def Tz:=Abi eZ
def Ud:List LB->LB->LB->LB->Option (LB×Int)
|[],b,f,a=>(Dl (decide (Ac a<=17179869184))).bind λ_=>some (a,0)
|g::xs,b,f,a=>(Jn g ([10]:LB)).bind λk=>(Mu b f k).bind λ(m,n,o)=>(Az m ([10]:LB)).bind λp=>(Az a p).bind λu=>Ud xs n o u
def Pe:Al5:=(Tz c).bind λz=>if(Ax z 0)then
some (([]:LB),z)
else(S2 c).bind λd=>Ud d ([]:LB) ([]:LB) ([]:LB)
def Hi:Alg:=(Pe c).bind λ(z,d)=>some ((geq d 0)&&(z==e))
def Af:Alg:=(Az c ([10,104,101,120,10]:LB)).bind λz=>(Hi z ([119,104,97,116,10,10]:LB)).bind λd=>some d
def Mq(a:LB):Aly:=(Tz a).bind λb=>if(Ax b 0)then
some (0,b)
else(strings_Count a ([10]:LB)).bind λf=>some (f,0)
noncomputable def Jq:Alg:=(Wb (λx:LB=>Mq x) (([99,108,105,112,32,49,32,56,32,49,32,49,32,50,10,115,97,109,112,108,101,115,10,114,101,112,111,114,116,10,102,108,105,112,32,52,53,32,49,10,116,111,108,100,10,115,105,108,101,110,116,10,115,99,114,105,112,116,32,102,52,48,32,100,57,32,102,57,32,101,10,119,104,97,116,10]:LB))).bind λ(a,b)=>if((geq b 0)&&(geq a 8))then(Wb (λx:LB×LB=>Hi x.1 x.2) (([99,108,105,112,32,49,32,56,32,49,32,49,32,50,10,115,97,109,112,108,101,115,10,114,101,112,111,114,116,10,102,108,105,112,32,52,53,32,49,10,116,111,108,100,10,115,105,108,101,110,116,10,115,99,114,105,112,116,32,102,52,48,32,100,57,32,102,57,32,101,10,119,104,97,116,10]:LB),([52,54,10,49,32,50,10,102,111,114,109,97,116,32,49,32,99,104,97,110,110,101,108,115,32,49,32,98,105,116,115,32,56,32,114,97,116,101,32,49,32,99,111,117,110,116,32,50,32,47,32,102,114,97,109,101,115,32,51,52,58,32,54,32,54,32,47,32,102,111,117,110,100,32,48,32,48,32,48,32,50,10,52,54,10,50,50,32,53,32,49,32,49,10,49,32,48,10,48,58,48,32,48,58,49,32,50,50,58,48,32,50,50,58,48,10,119,104,97,116,10]:LB))).bind λf=>some f
else
some false
noncomputable def Fm(a b f:Bool)(g:LB)(h k:Int)(m:LB):Alg:=(Wb (λx:LB=>Pe x) (m)).bind λ(v,w)=>(Bm m 1 (Ac m)).bind λy=>(Wb (λx:LB=>Mq x) (y)).bind λ(aa,ab)=>(V5 (3001:Int) (0:UInt8)).bind λac=>(Dl (geq (3001:Int) (3001:Int))).bind λ_=>(Wb (λx:LB=>Mq x) (ac)).bind λ(bw,ad)=>(V5 (3000:Int) (0:UInt8)).bind λae=>(Dl (geq (3000:Int) (3000:Int))).bind λ_=>(Wb (λx:LB=>Mq x) (ae)).bind λ(bx,af)=>if(((((((((((true&&a)&&b)&&f)&&(geq h 0))&&(g==([]:LB)))&&(geq k 12))&&(geq w 4))&&(geq ab 0))&&(geq aa 40))&&(geq ad 4))&&(geq af 12))then(Wb (λ_:Unit=>Jq) ()).bind λag=>some ag
else
some false
noncomputable def Fs:=Fm
noncomputable def Jg(j14:Bool->Bool->Bool->LB->Int->Int->LB->Option Bool)(Lp:Amt)(a b f:Bool)(g:LB)(h k:Int)(m:LB)(n:Int):Alg:=if(Bn n 41)then(Az m ([10]:LB)).bind λv=>Lp v (Ad n 1)
else
j14 a b f g h k m
noncomputable def Fl(a b f:Bool)(g:LB)(h k:Int):Nat->LB->Int->Option Bool
|0,_,_=>none
|q+1,m,n=>Jg Fs (Fl a b f g h k q) a b f g h k m n
noncomputable def Dn a b f g h k:=Fl a b f g h k Bu
noncomputable def Cp(j12:Bool->Bool->Bool->LB->Int->Int->LB->Int->Option Bool)(a:Bool)(o:LB):Alg:=(Az ([112,97,115,115,119,111,114,100,32,120,10,99,108,105,112,32,50,32,56,32,49,32,49,32,50,32,51,32,52,32,45,49,50,56,32,49,50,55,10,115,97,109,112,108,101,115,10,116,111,108,100,10,112,108,97,99,101,32,48,10,112,108,97,99,101,32,50,53,10,112,108,97,99,101,32,51,48,10,112,108,97,99,101,32,52,54,10,112,108,97,99,101,32,57,57,10,98,97,100,10,102,114,97,109,101,32,49,10,102,114,111,109,32,49,10,97,116,32,50,10,97,116,32,51,10,119,97,121,115,32,50,48,32,53,10,112,97,115,115,119,111,114,100,10,115,97,109,112,108,101,115,10,112,97,115,115,119,111,114,100,32]:LB) o).bind λu=>(Az u ([10,112,97,115,115,119,111,114,100,32,121,10,114,101,112,111,114,116,10,112,97,115,115,119,111,114,100,32,120,10,99,117,116,32,52,54,10,115,105,108,101,110,116,10,115,107,105,112,10,98,97,100,10,115,97,109,112,108,101,115,10,97,100,100,32,48,48,10,102,105,108,101,10,116,111,108,100,10]:LB)).bind λah=>(Wb (λx:LB×LB=>Hi x.1 x.2) (ah,([111,107,10,54,55,10,49,32,50,32,51,32,52,32,45,49,50,56,32,49,50,55,10,48,32,48,32,48,32,54,10,50,32,48,32,48,10,51,32,48,32,48,10,52,32,48,32,48,10,53,32,48,32,48,10,101,114,114,111,114,32,50,10,10,56,51,56,52,10,56,51,56,52,48,48,102,102,10,48,48,102,102,10,101,114,114,111,114,32,50,10,48,10,111,107,10,101,114,114,111,114,32,50,54,10,101,114,114,111,114,32,50,10,111,107,10,101,114,114,111,114,32,50,54,10,111,107,10,52,54,10,48,32,48,32,48,32,48,32,48,32,48,10,101,114,114,111,114,32,54,10,48,32,49,32,50,10,101,114,114,111,114,32,50,52,10,52,55,10,48,10,50,52,32,50,32,48,32,48,10]:LB))).bind λb=>(Wb (λx:LB×LB=>Hi x.1 x.2) (([102,105,108,101,32,53,52,53,52,52,49,10,104,101,120,10,97,100,100,32,51,49,102,102,10,104,101,120,10,116,111,108,100,10,99,117,116,32,54,10,99,117,116,32,45,49,10,102,108,105,112,32,48,32,50,53,54,10,102,108,105,112,32,48,32,45,49,10,102,108,105,112,32,53,32,49,10,102,108,105,112,32,48,32,48,10,102,108,105,112,32,52,32,49,10,104,101,120,10,98,117,114,115,116,32,48,32,45,49,10,98,117,114,115,116,32,51,57,32,49,10,104,101,120,10,98,117,114,115,116,32,52,48,32,49,10,98,117,114,115,116,32,48,32,48,10,115,99,114,105,112,116,32,102,57,32,100,49,32,101,32,100,50,32,102,49,10,115,99,114,105,112,116,32,102,49,48,48,48,48,49,10,112,101,97,107,32,102,53,32,101,10,112,101,97,107,32,102,50,10,119,97,118,10,119,97,121,115,32,48,32,57,10,99,108,105,112,32,49,32,57,32,49,32,49,10,99,108,105,112,32,49,32,56,32,49,10,99,108,105,112,32,49,32,56,32,49,32,49,50,56,10,99,108,105,112,32,49,32,56,32,48,32,49,10]:LB),([51,10,53,52,53,52,52,49,10,53,10,53,52,53,52,52,49,51,49,102,102,10,50,52,32,50,32,48,32,48,10,101,114,114,111,114,32,50,10,101,114,114,111,114,32,50,10,101,114,114,111,114,32,50,10,101,114,114,111,114,32,50,10,101,114,114,111,114,32,50,10,101,114,114,111,114,32,50,10,53,10,53,52,53,52,52,49,51,49,102,101,10,101,114,114,111,114,32,50,10,53,10,53,52,53,52,52,49,51,49,55,101,10,101,114,114,111,114,32,50,10,101,114,114,111,114,32,50,10,48,58,48,32,48,58,48,32,50,52,58,48,32,48,58,48,32,50,52,58,48,10,101,114,114,111,114,32,50,10,53,32,48,10,50,32,48,10,101,114,114,111,114,32,50,52,10,101,114,114,111,114,32,50,10,101,114,114,111,114,32,56,10,101,114,114,111,114,32,56,10,101,114,114,111,114,32,56,10,101,114,114,111,114,32,56,10]:LB))).bind λf=>(Wb (λx:LB=>Pe x) (([]:LB))).bind λ(g,h)=>(Wb (λx:LB=>Pe x) (([104,101,120]:LB))).bind λ(bz,k)=>j12 a b f g h k ([]:LB) 0
noncomputable def Je:=Cp Dn
noncomputable def Ka(j11:Bool->LB->Option Bool)(bk9:Amt)(a:Bool)(o:LB)(p:Int):Alg:=if(Bn p 65)then(Az o ([112]:LB)).bind λu=>bk9 u (Ad p 1)
else
j11 a o
noncomputable def Fw(a:Bool):Nat->LB->Int->Option Bool
|0,_,_=>none
|q+1,o,p=>Ka Je (Fw a q) a o p
noncomputable def Gb a:=Fw a Bu
noncomputable def Ke(j9:Bool->LB->Int->Option Bool)(a:Bool):Alg:=j9 a ([]:LB) 0
noncomputable def Vk:=Ke Gb
noncomputable def Dv(j8:Am1):Alg:=(Wb (λx:LB=>Af x) (([]:LB))).bind λai=>if ai then(Wb (λx:LB=>Af x) (([99,108,105,112]:LB))).bind λaj=>if aj then(Wb (λx:LB=>Af x) (([99,108,105,112,32,49,32,56]:LB))).bind λak=>if ak then(Wb (λx:LB=>Af x) (([99,108,105,112,32,49,32,56,32,120]:LB))).bind λal=>if al then(Wb (λx:LB=>Af x) (([99,108,105,112,32,32,49,32,56,32,49]:LB))).bind λam=>if am then(Wb (λx:LB=>Af x) (([72,101,120]:LB))).bind λan=>if an then(Wb (λx:LB=>Af x) (([104,101,120,32]:LB))).bind λao=>if ao then(Wb (λx:LB=>Af x) (([32,104,101,120]:LB))).bind λap=>if ap then(Wb (λx:LB=>Af x) (([104,101,120,32,49]:LB))).bind λaq=>if aq then(Wb (λx:LB=>Af x) (([102,105,108,101,32,48]:LB))).bind λar=>if ar then(Wb (λx:LB=>Af x) (([102,105,108,101,32,48,71]:LB))).bind λau=>if au then(Wb (λx:LB=>Af x) (([102,105,108,101,32,48,65]:LB))).bind λav=>if av then(Wb (λx:LB=>Af x) (([102,105,108,101,32,48,48,32,49,49]:LB))).bind λaw=>if aw then(Wb (λx:LB=>Af x) (([97,100,100]:LB))).bind λax=>if ax then(Wb (λx:LB=>Af x) (([97,100,100,32,120]:LB))).bind λay=>if ay then(Wb (λx:LB=>Af x) (([99,117,116]:LB))).bind λaz=>if az then(Wb (λx:LB=>Af x) (([99,117,116,32,120]:LB))).bind λba=>if ba then(Wb (λx:LB=>Af x) (([99,117,116,32,49,32,50]:LB))).bind λbb=>if bb then(Wb (λx:LB=>Af x) (([99,117,116,32,48,49]:LB))).bind λbc=>if bc then(Wb (λx:LB=>Af x) (([99,117,116,32,45,48]:LB))).bind λbd=>if bd then(Wb (λx:LB=>Af x) (([99,117,116,32,49,48,48,48,48,48,48,48,48,48]:LB))).bind λbe=>if be then(Wb (λx:LB=>Af x) (([102,108,105,112,32,49]:LB))).bind λbf=>if bf then(Wb (λx:LB=>Af x) (([102,108,105,112,32,49,32,50,32,51]:LB))).bind λbg=>if bg then(Wb (λx:LB=>Af x) (([98,117,114,115,116,32,49]:LB))).bind λbh=>if bh then(Wb (λx:LB=>Af x) (([112,108,97,99,101]:LB))).bind λbi=>if bi then(Wb (λx:LB=>Af x) (([102,114,97,109,101]:LB))).bind λbj=>if bj then(Wb (λx:LB=>Af x) (([97,116]:LB))).bind λbk=>if bk then(Wb (λx:LB=>Af x) (([119,97,121,115,32,49]:LB))).bind λbl=>if bl then(Wb (λx:LB=>Af x) (([115,99,114,105,112,116]:LB))).bind λbm=>if bm then(Wb (λx:LB=>Af x) (([115,99,114,105,112,116,32,102]:LB))).bind λbn=>if bn then(Wb (λx:LB=>Af x) (([115,99,114,105,112,116,32,102,45,49]:LB))).bind λbp=>if bp then(Wb (λx:LB=>Af x) (([115,99,114,105,112,116,32,120,49]:LB))).bind λbq=>if bq then(Wb (λx:LB=>Af x) (([115,99,114,105,112,116,32,101,49]:LB))).bind λbr=>if br then(Wb (λx:LB=>Af x) (([115,99,114,105,112,116,32,102,49,32,103]:LB))).bind λbs=>if bs then(Wb (λx:LB=>Af x) (([112,101,97,107]:LB))).bind λbt=>if bt then(Wb (λx:LB=>Af x) (([116,111,108,100,32,49]:LB))).bind λbu=>if bu then(Wb (λx:LB=>Af x) (([112,97,115,115,119,111,114,100,32,97,32,98]:LB))).bind λbv=>j8 bv
else
j8 false
else
j8 false
else
j8 false
else
j8 false
else
j8 false
else
j8 false
else
j8 false
else
j8 false
else
j8 false
else
j8 false
else
j8 false
else
j8 false
else
j8 false
else
j8 false
else
j8 false
else
j8 false
else
j8 false
else
j8 false
else
j8 false
else
j8 false
else
j8 false
else
j8 false
else
j8 false
else
j8 false
else
j8 false
else
j8 false
else
j8 false
else
j8 false
else
j8 false
else
j8 false
else
j8 false
else
j8 false
else
j8 false
else
j8 false
else
j8 false
else
j8 false
noncomputable def Hb:=Dv Vk
end Go.Pl
