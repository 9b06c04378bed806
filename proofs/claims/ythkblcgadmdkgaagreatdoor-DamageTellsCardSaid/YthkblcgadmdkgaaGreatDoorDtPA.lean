/- A part of the proof of a statement of this seat (see the text that ends in Proof): DtPure. No conditions of its own. -/
import Derived.Test.YthkblcgadmdkgaaGreatDoorDtBA
set_option linter.unusedVariables false
namespace Go.Pl
open Go Go.Lv
abbrev LB := List UInt8
abbrev LI := List Int
abbrev LX := List Int32
abbrev LU := List UInt32
abbrev LQ := List UInt64
def Abx (a : LB) : Option Bool :=
some (((Gy (Ac a) 5000) && (Cu (Ac a) 12000)) || (Gy (Ac a) 12100))
def Gj (a b : LB) : Option Bool :=
some (a == b)
def Jt (b a : LB) : Option Bool :=
if (Sr (Ac b) (Ac a)) then
(Bt b 0 (Ac a)).bind fun f =>
(Gj f a).bind fun g =>
some g
else
some false
abbrev Ex := Option (Int × Int)
def At9 (b : Int) : Ex :=
some (b, 0)
def Alo : Int → Ex := At9
def Xa (j6 : Int → Ex) (bk4 : Int → Int → Ex) (a : LB) (b f : Int) : Ex :=
if (Cu f (Ac a)) then
(getI a f).bind fun g =>
if (Gy g 127) then
some (0, 12)
else
bk4 (gor (Fh b (GI.toZ (7 : UInt64)).toNat) (Ad g : Int)) (Ae f 1)
else
j6 b
def Kt (a : LB) : Nat → Int → Int → Ex
| 0, _, _ => none
| q + 1, b, f => Xa Alo (Kt a q) a b f
def Adk (a : LB) : Int → Int → Ex := Kt a Az
def Adf (j4 : LB → Int → Int → Ex) (a : LB) : Ex :=
if (Ck (Ac a) 4) then
some (0, 2)
else
j4 a 0 0
def Aed : LB → Ex := Adf Adk
abbrev Dh := Option (Int × Int)
def Anl (a : LB) (b : UInt8) (h : Int) : Dh :=
if (Gy h 4000) then
some (0, 4)
else
if (Cu (Ac a) h) then
some (0, 24)
else
if (geq b 16) then
(Bt a (Al h 10) h).bind fun k =>
(Bt k 0 3).bind fun o =>
if (o != ([51, 68, 73] : LB)) then
some (0, 12)
else
(Bt k 3 (Ac k)).bind fun p =>
(Bt a 3 10).bind fun u =>
(Gj p u).bind fun v =>
if (!v) then
some (0, 12)
else
some (h, 0)
else
some (h, 0)
def Yu : LB → UInt8 → Int → Dh := Anl
def Af8 (j8 : LB → UInt8 → Int → Dh) (a : LB) (g : Int) (b : UInt8) : Dh :=
if (geq b 16) then
j8 a b (Ae (Ae g 10) 10)
else
j8 a b (Ae g 10)
def Yx : LB → Int → UInt8 → Dh := Af8 Yu
def Af2 (j7 : LB → Int → UInt8 → Dh) (a : LB) (g : Int) (b : UInt8) (m : Bool) : Dh :=
if m then
some (0, 12)
else
j7 a g b
def Af9 : LB → Int → UInt8 → Bool → Dh := Af2 Yx
def Afs (j6 : LB → Int → UInt8 → Bool → Dh) (a : LB) (f b : UInt8) : Dh :=
(Bt a 6 10).bind fun w =>
(Aed w).bind fun (g, y) =>
if (Ck y 0) then
if true then
j6 a g b true
else
if (geq b 0) then
j6 a g b (!((Sr f 2) && (gle f 4)))
else
if (geq b 16) then
j6 a g b (!(geq f 4))
else
j6 a g b (!false)
else
(getI a 4).bind fun aa =>
if (Ck aa 0) then
j6 a g b true
else
if (geq b 0) then
j6 a g b (!((Sr f 2) && (gle f 4)))
else
if (geq b 16) then
j6 a g b (!(geq f 4))
else
j6 a g b (!false)
def Af4 : LB → UInt8 → UInt8 → Dh := Afs Af9
def Yy (j5 : LB → UInt8 → UInt8 → Dh) (a : LB) : Dh :=
(Jt a ([(73 : UInt8), (68 : UInt8), (51 : UInt8)] : LB)).bind fun n =>
if (!n) then
some (0, 6)
else
if (Cu (Ac a) 10) then
some (0, 24)
else
(getI a 3).bind fun f =>
(getI a 5).bind fun b =>
(
(
(
j5 a f b)))
def Agx : LB → Dh := Yy Af4
abbrev Oi := Option (UInt64 × Int)
def Bfu (b : UInt64) : Oi :=
some (b, 0)
def Au2 : UInt64 → Oi := Bfu
def Ajj (j6 : UInt64 → Oi) (bk4 : UInt64 → Int → Oi) (a : LB) (b : UInt64) (f : Int) : Oi :=
if (Cu f (Ac a)) then
(getI a f).bind fun g =>
(Vd (Sr (Be 8 f) 0)).bind fun _ =>
bk4 (gor b (Fh (Ad g : UInt64) (GI.toZ (Be 8 f)).toNat)) (Ae f 1)
else
j6 b
def Aah (a : LB) : Nat → UInt64 → Int → Oi
| 0, _, _ => none
| q + 1, b, f => Ajj Au2 (Aah a q) a b f
def Ao5 (a : LB) : UInt64 → Int → Oi := Aah a Az
def Apo (j4 : LB → UInt64 → Int → Oi) (a : LB) : Oi :=
if ((Cu (Ac a) 1) || (Gy (Ac a) 8)) then
some (0, 2)
else
j4 a 0 0
def Aom : LB → Oi := Apo Ao5
def Alp (f : LB) (a b : Int) : Option (UInt64 × Int) :=
if (((Cu b 1) || (Gy b 8)) || (Cu a 0)) then
some (0, 2)
else
if (Gy a (Al (Ac f) b)) then
some (0, 24)
else
(Bt f a (Ae a b)).bind fun g =>
(Aom g).bind fun (h, k) =>
some (h, k)
def Av0 (b : UInt64) (a : Int) : Option Bool :=
if (geq a 8) then
some true
else
(Vd (Sr (Be 8 a) 0)).bind fun _ =>
some (geq (Cy b (GI.toZ (Be 8 a)).toNat) 0)
abbrev On := Option (LB × Int)
def Auv (a : LB) : On :=
some (a, 0)
def Apr : LB → On := Auv
def Ajt (j6 : LB → On) (bk4 : Int → LB → On) (f : UInt64) (g : LB) (b : Int) (a : LB) : On :=
if (Cu b (Ac g)) then
(Vd (Sr (Be 8 b) 0)).bind fun _ =>
(getI a b).bind fun _ =>
(Qv a b (Ad (Cy f (GI.toZ (Be 8 b)).toNat) : UInt8)).bind fun k =>
bk4 (Ae b 1) k
else
j6 a
def Zz (f : UInt64) (g : LB) : Nat → Int → LB → On
| 0, _, _ => none
| q + 1, b, a => Ajt Apr (Zz f g q) f g b a
def Apl (f : UInt64) (g : LB) : Int → LB → On := Zz f g Az
def Api (j4 : UInt64 → LB → Int → LB → On) (f : UInt64) (h : Int) : On :=
if ((Cu h 1) || (Gy h 8)) then
some (([] : LB), 2)
else
(Av0 f h).bind fun m =>
if (!m) then
some (([] : LB), 16)
else
(mkI h (0 : UInt8)).bind fun g =>
(Vd (geq h h)).bind fun _ =>
j4 f g 0 g
def Aoz : UInt64 → Int → On := Api Apl
def Axr (g : LB) : Option (LB) :=
some g
def Ary : LB → Option (LB) := Axr
def Am9 (j6 : LB → Option (LB)) (bk4 : Int → LB → Option (LB)) (a b : Int) (f : UInt64) (h : Int) (g : LB) : Option (LB) :=
if (Cu h (Ac ([(2000 : UInt64), (Ad (Ae a 32) : UInt64), (Ad b : UInt64), f, (0 : UInt64), (0 : UInt64)] : LQ))) then
(getI ([(2000 : UInt64), (Ad (Ae a 32) : UInt64), (Ad b : UInt64), f, (0 : UInt64), (0 : UInt64)] : LQ) h).bind fun _ =>
(getI ([(2000 : UInt64), (Ad (Ae a 32) : UInt64), (Ad b : UInt64), f, (0 : UInt64), (0 : UInt64)] : LQ) h).bind fun k =>
(Aoz k 4).bind fun (m, o) =>
(Iy g m).bind fun n =>
bk4 (Ae h 1) n
else
j6 g
def Ze (a b : Int) (f : UInt64) : Nat → Int → LB → Option (LB)
| 0, _, _ => none
| q + 1, h, g => Am9 Ary (Ze a b f q) a b f h g
def Arm (a b : Int) (f : UInt64) : Int → LB → Option (LB) := Ze a b f Az
def Ark (j4 : Int → Int → UInt64 → Int → LB → Option (LB)) (a b : Int) (f : UInt64) : Option (LB) :=
j4 a b f 0 ([(65 : UInt8), (80 : UInt8), (69 : UInt8), (84 : UInt8), (65 : UInt8), (71 : UInt8), (69 : UInt8), (88 : UInt8)] : LB)
def Aqe : Int → Int → UInt64 → Option (LB) := Ark Arm
def Ag4 (b : LB) (g : UInt64) : Option (Int × Int × Bool) :=
(Alp b 12 4).bind fun (a, m) =>
(Alp b 16 4).bind fun (f, n) =>
if (((Cu a 32) || (Gy a 3032)) || (Gy f 1000)) then
some (0, 0, false)
else
(Aqe (Al (Ad a : Int) 32) (Ad f : Int) g).bind fun h =>
(Gj b h).bind fun k =>
some ((Al (Ad a : Int) 32), (Ad f : Int), k)
def Aqh (a : LB) : Option (Int × Int) :=
(Jt a ([(65 : UInt8), (80 : UInt8), (69 : UInt8), (84 : UInt8), (65 : UInt8), (71 : UInt8), (69 : UInt8), (88 : UInt8)] : LB)).bind fun f =>
if (!f) then
some (0, 6)
else
if (Cu (Ac a) 32) then
some (0, 24)
else
(Bt a 0 32).bind fun g =>
(Ag4 g 2684354560).bind fun (b, h, k) =>
if (!k) then
some (0, 12)
else
if (Cu (Ac a) (Ae b 64)) then
some (0, 24)
else
(Bt a (Al (Ae b 64) 32) (Ae b 64)).bind fun m =>
(Aqe b h 2147483648).bind fun n =>
(Gj m n).bind fun o =>
if (!o) then
some (0, 12)
else
some ((Ae b 64), 0)
def Vu (a : LB) : Option (Int × Int) :=
(Agx a).bind fun (f, b) =>
if (Ck b 6) then
some (f, b)
else
(Aqh a).bind fun (g, h) =>
some (g, h)
def Tf (b : List UInt8) : Nat → Int → Option (Int × Int)
  | 0, _ => none
  | q + 1, x => Option.bind (Bt b x (Ac b)) fun s => Option.bind (Vu s) fun r =>
    if geq r.2 (6 : Int) = true then some (x, 0)
    else if (geq r.2 (0 : Int) && Gy (Ae x r.1) (4000 : Int)) = true then some (0, 4)
    else if Ck r.2 (0 : Int) = true then some (0, r.2)
    else Tf b q (Ae x r.1)
def Qx (b : List UInt8) : Option (Int × Int) := Tf b Az 0
def Ih (b a : LB) : Option Bool :=
if (Sr (Ac b) (Ac a)) then
(Bt b 0 (Ac a)).bind fun f =>
some (f == a)
else
some false
def Ut (a b : LB) : Option Bool :=
(Ih a b).bind fun f =>
some f
abbrev Au := Option (UInt32 × Int)
def Apw (h : UInt32) : Au :=
some (h, 0)
def Ah5 : UInt32 → Au := Apw
def Abi (j30 : UInt32 → Au) (bk28 : UInt32 → Int → Au) (a : LB) (b : LU) (h : UInt32) (m : Int) : Au :=
if (Cu m (Ac a)) then
(getI a m).bind fun p =>
(getI b (GI.toZ (Yh (Ad h : UInt8) p))).bind fun _ =>
(getI b (GI.toZ (Yh (Ad h : UInt8) p))).bind fun u =>
bk28 (Yh (Cy h (GI.toZ (8 : UInt64)).toNat) u) (Ae m 1)
else
j30 h
def Qh (a : LB) (b : LU) : Nat → UInt32 → Int → Au
| 0, _, _ => none
| q + 1, h, m => Abi Ah5 (Qh a b q) a b h m
def Ail (a : LB) (b : LU) : UInt32 → Int → Au := Qh a b Az
def Ah4 (j28 : LB → LU → UInt32 → Int → Au) (f : UInt32) (a : LB) (b : LU) : Au :=
j28 a b f 0
def Ah9 : UInt32 → LB → LU → Au := Ah4 Ail
def Aiq (j27 : UInt32 → LB → LU → Au) (f : UInt32) (a : LB) (b : LU) : Au :=
j27 f a b
def Aa8 : UInt32 → LB → LU → Au := Aiq Ah9
def Aof (bk16 : Int → LU → Au) (f : UInt32) (a : LB) (g : Int) (o : LU) : Au :=
bk16 (Ae g 1) o
def Ahs (bk16 : Int → LU → Au) : UInt32 → LB → Int → LU → Au := Aof bk16
def Ah6 (j24 : Int → LU → Au) (f : UInt32) (a : LB) (g : Int) (k : UInt32) (b : LU) : Au :=
(getI b g).bind fun _ =>
(Qv b g k).bind fun o =>
j24 g o
def Abe (bk16 : Int → LU → Au) (f : UInt32) (a : LB) : Int → UInt32 → LU → Au := Ah6 (Ahs bk16 f a) f a
def Ab1 (j23 : Int → UInt32 → LU → Au) (bk21 : UInt32 → Int → Au) (f : UInt32) (a : LB) (g : Int) (b : LU) (k : UInt32) (n : Int) : Au :=
if (Cu n 8) then
bk21 (Yh (Cy k (GI.toZ (1 : UInt64)).toNat) (Be 3988292384 (Il k 1))) (Ae n 1)
else
j23 g k b
def Qr (bk16 : Int → LU → Au) (f : UInt32) (a : LB) (g : Int) (b : LU) : Nat → UInt32 → Int → Au
| 0, _, _ => none
| q + 1, k, n => Ab1 (Abe bk16 f a) (Qr bk16 f a g b q) f a g b k n
def Ahk (bk16 : Int → LU → Au) (f : UInt32) (a : LB) (g : Int) (b : LU) : UInt32 → Int → Au := Qr bk16 f a g b Az
def Aaz (j21 : Int → LU → UInt32 → Int → Au) (j26 : UInt32 → LB → LU → Au) (f : UInt32) (a : LB) (g : Int) (b : LU) : Au :=
if (Cu g 256) then
j21 g b (Ad g : UInt32) 0
else
j26 f a b
def Lh (f : UInt32) (a : LB) : Nat → Int → LU → Au
| 0, _, _ => none
| q + 1, g, b => Aaz (Ahk (Lh f a q) f a) Aa8 f a g b
def Ai8 (f : UInt32) (a : LB) : Int → LU → Au := Lh f a Az
def Akg (j16 : UInt32 → LB → Int → LU → Au) (f : UInt32) (a : LB) : Au :=
if (Gy (Ac a) 100000) then
some (0, 4)
else
j16 f a 0 (List.replicate 256 (0 : UInt32))
def Amz : UInt32 → LB → Au := Akg Ai8
def Ag8 (b : LB) : Option (UInt32 × Int) :=
(Amz 4294967295 b).bind fun (f, a) =>
if (Ck a 0) then
some (0, a)
else
some ((Axc f), 0)
def Alx (b f a g h : Int) : Option Bool :=
some (((((((geq b 1) || (geq b 2)) && (Gy f 0)) && (gle f 6)) && (Gy g 0)) && (gle g 1048576)) && (Gy h 0))
def Xg : Int → Int → Int → Int → Int → Option Bool := Alx
def Ado (j2 : Int → Int → Int → Int → Int → Option Bool) (b f a g h : Int) : Option Bool :=
if (geq a 8) then
if (geq a 8) then
j2 b f a g h
else
some false
else
if (geq a 16) then
if (geq a 16) then
j2 b f a g h
else
some false
else
if (geq a 24) then
j2 b f a g h
else
some false
def Yi : Int → Int → Int → Int → Int → Option Bool := Ado Xg
def Ab2 (a : Int) : Option (Int × Int) :=
if ((Cu a 1) || (Gy a 1048576)) then
some (0, 2)
else
some ((Aqs 1 (Df (Be 256 a) 245)), 0)
def Yk (g b : Int) : Option (Int × Int) :=
(Ab2 g).bind fun (a, f) =>
if (Ck f 0) then
some (0, f)
else
if ((Cu b 1) || (Gy b 4000)) then
some (0, 2)
else
(Vd (Ck a 0)).bind fun _ =>
if (Gy (Df (Al (Ae b a) 1) a) 1000) then
some (0, 4)
else
some ((Df (Al (Ae b a) 1) a), 0)
def Afi (k a m f b : Int) : Option Bool :=
(Vd (Ck a 0)).bind fun _ =>
if (Gy b (Df 4000 a)) then
some false
else
(Yk f b).bind fun (g, h) =>
some ((geq h 0) && (gle g 1000))
abbrev Gw := Option (Int × Int × Int × Int × Int × Int)
def Aok (a : LI) : Gw :=
(getI a 0).bind fun _ =>
(getI a 0).bind fun h =>
(getI a 1).bind fun _ =>
(getI a 1).bind fun k =>
(getI a 2).bind fun _ =>
(getI a 2).bind fun m =>
(getI a 3).bind fun _ =>
(getI a 3).bind fun n =>
(getI a 4).bind fun _ =>
(getI a 4).bind fun o =>
(Yi h k m n o).bind fun p =>
if (!p) then
some (0, 0, 0, 0, 0, 12)
else
(Afi h k m n o).bind fun u =>
if (!u) then
some (0, 0, 0, 0, 0, 4)
else
some (h, k, m, n, o, 0)
def Abo : LI → Gw := Aok
def Acd (j6 : LI → Gw) (bk4 : Int → Int → LI → Gw) (b : LB) (g f : Int) (a : LI) : Gw :=
if (Cu f 5) then
(getI ([(2 : Int), (2 : Int), (2 : Int), (4 : Int), (4 : Int)] : LI) f).bind fun h =>
(Alp b g h).bind fun (v, ae) =>
(getI a f).bind fun _ =>
(Qv a f (Ad v : Int)).bind fun w =>
bk4 (Ae g h) (Ae f 1) w
else
j6 a
def Lb (b : LB) : Nat → Int → Int → LI → Gw
| 0, _, _, _ => none
| q + 1, g, f, a => Acd Abo (Lb b q) b g f a
def Ace (b : LB) : Int → Int → LI → Gw := Lb b Az
def Aic (j4 : LB → Int → Int → LI → Gw) (b : LB) : Gw :=
(Bt b 0 (Gd 4 (Ac b))).bind fun y =>
(Ut ([84, 84, 65, 49] : LB) y).bind fun aa =>
if (!aa) then
some (0, 0, 0, 0, 0, 12)
else
if (Cu (Ac b) 22) then
some (0, 0, 0, 0, 0, 24)
else
(Alp b 18 4).bind fun (ab, af) =>
(Bt b 0 18).bind fun ac =>
(Ag8 ac).bind fun (ad, ag) =>
if (Ck (Ad ad : UInt64) ab) then
some (0, 0, 0, 0, 0, 22)
else
j4 b 4 0 (List.replicate 5 (0 : Int))
def Zs : LB → Gw := Aic Ace
def Agr (a b f g h : Int) : Option Int :=
(Yi a b f g h).bind fun k =>
if (!k) then
some 8
else
(Afi a b f g h).bind fun m =>
if (!m) then
some 8
else
some 0
def Af1 (a b : UInt64) : Option (UInt64 × UInt64) :=
some ((Ae (Ae (Be (Cy a (GI.toZ (32 : UInt64)).toNat) (Cy b (GI.toZ (32 : UInt64)).toNat)) (Cy (Ae (Be (Cy a (GI.toZ (32 : UInt64)).toNat) (Il b 4294967295)) (Cy (Be (Il a 4294967295) (Il b 4294967295)) (GI.toZ (32 : UInt64)).toNat)) (GI.toZ (32 : UInt64)).toNat)) (Cy (Ae (Il (Ae (Be (Cy a (GI.toZ (32 : UInt64)).toNat) (Il b 4294967295)) (Cy (Be (Il a 4294967295) (Il b 4294967295)) (GI.toZ (32 : UInt64)).toNat)) 4294967295) (Be (Il a 4294967295) (Cy b (GI.toZ (32 : UInt64)).toNat))) (GI.toZ (32 : UInt64)).toNat)), (Be a b))
def Ad7 (a b : UInt64) : Option (UInt64 × UInt64) :=
(Af1 a b).bind fun (f, g) =>
some (f, g)
def Mh (a : LI) : Option (LI) :=
some a
def Hu : LI → Option (LI) := Mh
def Fx (j10 : LI → Option (LI)) (bk8 : Int → LI → Option (LI)) (b : Int) (a : LI) : Option (LI) :=
if (Cu b (Ac a)) then
(
(vwI (Ac a) b (Ac a)).bind fun _ =>
(vwI (Ac a) 0 b).bind fun _ =>
bk8 (Ae b (Aie ((Ac a) - b) (Alh a 0 (b - (0 : Int))).length)) (Ue a b ((Ac a) - b) (Alh a 0 (b - (0 : Int)))))
else
j10 a
def Ee : Nat → Int → LI → Option (LI)
| 0, _, _ => none
| q + 1, b, a => Fx Hu (Ee q) b a
def Oq : Int → LI → Option (LI) := Ee Az
def Of (j8 : Int → LI → Option (LI)) (f : LI) (g : UInt64) : Option (LI) :=
(mkI (Ad g : Int) (0 : Int)).bind fun k =>
(Vd (geq (Ad g : Int) (Ad g : Int))).bind fun _ =>
j8 (Aie (Ac k) f.length) (Ayb k f)
def Ok : LI → UInt64 → Option (LI) := Of Oq
def Oh (j7 : LI → UInt64 → Option (LI)) (f : LI) (h : Int) : Option (LI) :=
(Ad7 (Ad (Ac f) : UInt64) (Ad h : UInt64)).bind fun (m, g) =>
if ((Gy m 0) || (Gy g 9223372036854775807)) then
none
else
j7 f g
def Ou : LI → Int → Option (LI) := Oh Ok
def Oj (j6 : LI → Int → Option (LI)) (f : LI) (h : Int) : Option (LI) :=
if (Cu h 0) then
none
else
j6 f h
def Ma : LI → Int → Option (LI) := Oj Ou
def Ajf (f : LI) : Option (LI) :=
some f
def Xj : LI → Option (LI) := Ajf
def Ff (j16 : LI → Option (LI)) (bk14 : Int → LI → Option (LI)) (a : List LI) (g : Int) (f : LI) : Option (LI) :=
if (Cu g (Ac a)) then
(getI a g).bind fun o =>
(Iy f o).bind fun p =>
bk14 (Ae g 1) p
else
j16 f
def Ea (a : List LI) : Nat → Int → LI → Option (LI)
| 0, _, _ => none
| q + 1, g, f => Ff Xj (Ea a q) a g f
def Ml (a : List LI) : Int → LI → Option (LI) := Ea a Az
def Mj (j14 : (List LI) → Int → LI → Option (LI)) (a : List LI) (k : LI) : Option (LI) :=
j14 a 0 k
def Hv : (List LI) → LI → Option (LI) := Mj Ml
def Mo (j13 : (List LI) → LI → Option (LI)) (b : Int) (a : List LI) : Option (LI) :=
if (Gy (Al b (Al (0 : Int) (0 : Int))) 0) then
(vwI 0 0 0).bind fun _ =>
(mkI (Al b (Al (0 : Int) (0 : Int))) (0 : Int)).bind fun u =>
(Iy ([] : LI) u).bind fun m =>
(vwI (Ac m) 0 0).bind fun _ =>
j13 a (Alh m 0 ((0 : Int) - (0 : Int)))
else
j13 a ([] : LI)
def Mi : Int → (List LI) → Option (LI) := Mo Hv
def Mn (j12 : Int → (List LI) → Option (LI)) (a : List LI) (b : Int) : Option (LI) :=
if (Cu b 0) then
none
else
j12 b a
def Mk : (List LI) → Int → Option (LI) := Mn Mi
def Fy (j11 : (List LI) → Int → Option (LI)) (bk9 : Int → Int → Option (LI)) (a : List LI) (b h : Int) : Option (LI) :=
if (Cu h (Ac a)) then
(getI a h).bind fun n =>
if (Cu (Ae b (Ac n)) 0) then
none
else
bk9 (Ae b (Ac n)) (Ae h 1)
else
j11 a b
def Ef (a : List LI) : Nat → Int → Int → Option (LI)
| 0, _, _ => none
| q + 1, b, h => Fy Mk (Ef a q) a b h
def Og (a : List LI) : Int → Int → Option (LI) := Ef a Az
def Om (j9 : (List LI) → Int → Int → Option (LI)) (a : List LI) : Option (LI) :=
j9 a 0 0
def Mg : (List LI) → Option (LI) := Om Og
def Aid (a b : LI) : Option (LI) :=
(Mg ([a, b] : List LI)).bind fun f =>
some f
def Ajy (a b : Int) : Option (LI × Int) :=
(Yk a b).bind fun (f, g) =>
if (Ck g 0) then
some (([] : LI), g)
else
(Ab2 a).bind fun (h, n) =>
(Ma ([h] : LI) (Al f 1)).bind fun k =>
(Aid k ([(Al b (Be (Al f 1) h))] : LI)).bind fun m =>
some (m, 0)
def Oo (g h k a b : Int) : Option (LI × Int) :=
(Agr g h k a b).bind fun f =>
if (Ck f 0) then
some (([] : LI), f)
else
(Ajy a b).bind fun (m, n) =>
some (m, n)
def Qw (f : LB) : Option (Int × Int × Int × Int × Int × Int × Int × Int × Int × Int × LI × Int) :=
if (Gy (Ac f) 100000) then
some (0, 0, 0, 0, 0, 0, 0, 0, 0, 0, ([] : LI), 4)
else
(Qx f).bind fun (a, n) =>
if (Ck n 0) then
some (0, 0, 0, 0, 0, 0, 0, 0, 0, 0, ([] : LI), n)
else
(Bt f a (Ac f)).bind fun u =>
(Zs u).bind fun (b, g, h, k, m, o) =>
if (Ck o 0) then
some (b, g, h, k, m, 0, 0, 0, 0, 0, ([] : LI), o)
else
(Oo b g h k m).bind fun (p, v) =>
if (geq b 2) then
some (b, g, h, k, m, a, (Ae a 22), (Ae (Ae a 22) 8), 0, 0, p, 0)
else
some (b, g, h, k, m, a, (Ae a 22), (Ae a 22), 0, 0, p, 0)
abbrev As := Option (UInt64 × Int)
def Aou (h : UInt64) : As :=
some (h, 0)
def Ahi : UInt64 → As := Aou
def Aio (j30 : UInt64 → As) (h b : UInt64) (a : LB) (f : LQ) : As :=
j30 h
def Ahe : UInt64 → UInt64 → LB → LQ → As := Aio Ahi
def Ab7 (j29 : UInt64 → UInt64 → LB → LQ → As) (bk27 : UInt64 → Int → As) (a : LB) (b : UInt64) (f : LQ) (h : UInt64) (m : Int) : As :=
if (Cu m (Ac a)) then
(getI a m).bind fun p =>
Option.bind (getI f (GI.toZ (Yh (Ad (Cy h (GI.toZ (56 : UInt64)).toNat) : UInt8) p))) fun _ =>
Option.bind (getI f (GI.toZ (Yh (Ad (Cy h (GI.toZ (56 : UInt64)).toNat) : UInt8) p))) fun u =>
bk27 (Yh (Fh h (GI.toZ (8 : UInt64)).toNat) u) (Ae m 1)
else
j29 h b a f
def Pw (a : LB) (b : UInt64) (f : LQ) : Nat → UInt64 → Int → As
| 0, _, _ => none
| q + 1, h, m => Ab7 Ahe (Pw a b f q) a b f h m
def Ahp (a : LB) (b : UInt64) (f : LQ) : UInt64 → Int → As := Pw a b f Az
def Ah7 (j27 : LB → UInt64 → LQ → UInt64 → Int → As) (b : UInt64) (a : LB) (f : LQ) : As :=
j27 a b f b 0
def Abb : UInt64 → LB → LQ → As := Ah7 Ahp
def Aop (bk16 : Int → LQ → As) (b : UInt64) (a : LB) (g : Int) (o : LQ) : As :=
bk16 (Ae g 1) o
def Ai2 (bk16 : Int → LQ → As) : UInt64 → LB → Int → LQ → As := Aop bk16
def Ah8 (j24 : Int → LQ → As) (b : UInt64) (a : LB) (g : Int) (k : UInt64) (f : LQ) : As :=
(getI f g).bind fun _ =>
(Qv f g k).bind fun o =>
j24 g o
def Ab3 (bk16 : Int → LQ → As) (b : UInt64) (a : LB) : Int → UInt64 → LQ → As := Ah8 (Ai2 bk16 b a) b a
def Ab0 (j23 : Int → UInt64 → LQ → As) (bk21 : UInt64 → Int → As) (b : UInt64) (a : LB) (g : Int) (f : LQ) (k : UInt64) (n : Int) : As :=
if (Cu n 8) then
bk21 (Yh (Fh k (GI.toZ (1 : UInt64)).toNat) (Be 4823603603198064275 (Cy k (GI.toZ (63 : UInt64)).toNat))) (Ae n 1)
else
j23 g k f
def Qf (bk16 : Int → LQ → As) (b : UInt64) (a : LB) (g : Int) (f : LQ) : Nat → UInt64 → Int → As
| 0, _, _ => none
| q + 1, k, n => Ab0 (Ab3 bk16 b a) (Qf bk16 b a g f q) b a g f k n
def Ahy (bk16 : Int → LQ → As) (b : UInt64) (a : LB) (g : Int) (f : LQ) : UInt64 → Int → As := Qf bk16 b a g f Az
def Abk (j21 : Int → LQ → UInt64 → Int → As) (j26 : UInt64 → LB → LQ → As) (b : UInt64) (a : LB) (g : Int) (f : LQ) : As :=
if (Cu g 256) then
j21 g f (Fh (Ad g : UInt64) (GI.toZ (56 : UInt64)).toNat) 0
else
j26 b a f
def La (b : UInt64) (a : LB) : Nat → Int → LQ → As
| 0, _, _ => none
| q + 1, g, f => Abk (Ahy (La b a q) b a) Abb b a g f
def Ahv (b : UInt64) (a : LB) : Int → LQ → As := La b a Az
def Aj2 (j16 : UInt64 → LB → Int → LQ → As) (b : UInt64) (a : LB) : As :=
if (Gy (Ac a) 100000) then
some (0, 4)
else
j16 b a 0 (List.replicate 256 (0 : UInt64))
def Al8 : UInt64 → LB → As := Aj2 Ahv
def Alg (a : LB) : Option (UInt64 × Int) :=
(Al8 0 a).bind fun (b, f) =>
some (b, f)
def Atr (a : LB) : Option (UInt64 × Int) :=
if (Gy (Ac a) 64) then
some (0, 2)
else
(Alg a).bind fun (b, f) =>
some (b, 0)
def Agt (b : LB) : Option (LB × Int) :=
(Atr b).bind fun (f, a) =>
if (Ck a 0) then
some (([] : LB), a)
else
(Aoz f 8).bind fun (g, h) =>
some (g, h)
def Xc (a f : LB) : Option (Bool × Int) :=
(Agt f).bind fun (b, g) =>
if ((Ck g 0) || (Ck (Ac a) (Ac b))) then
some (false, 2)
else
(Gj a b).bind fun h =>
some (h, 0)
def Ayz : Option Int :=
some 0
def Aob : Option Int := Ayz
def Aa9 (j6 : Option Int) (bk4 : Int → Int → Option Int) (a : LI) (f b : Int) : Option Int :=
if (Cu b (Ac a)) then
(getI a b).bind fun g =>
if ((Cu g 5) || (Gy g f)) then
some 8
else
bk4 (Al f g) (Ae b 1)
else
j6
def Qm (a : LI) : Nat → Int → Int → Option Int
| 0, _, _ => none
| q + 1, f, b => Aa9 Aob (Qm a q) a f b
def Ait (a : LI) : Int → Int → Option Int := Qm a Az
def Ain (j4 : LI → Int → Int → Option Int) (a : LI) : Option Int :=
if ((geq (Ac a) 0) || (Gy (Ac a) 1000)) then
some 8
else
j4 a 100000 0
def Aen : LI → Option Int := Ain Ait
abbrev It := Option (LI × Int)
def Ard (a : LI) : It :=
(Aen a).bind fun k =>
if (Ck k 0) then
some (([] : LI), 12)
else
some (a, 0)
def Ad9 : LI → It := Ard
def Ad4 (j6 : LI → It) (bk4 : Int → LI → It) (b : LB) (f : LI) (g : Int) (a : LI) : It :=
if (Cu g (Ac f)) then
(Alp b (Be 4 g) 4).bind fun (k, u) =>
(getI a g).bind fun _ =>
(Qv a g (Ad k : Int)).bind fun m =>
bk4 (Ae g 1) m
else
j6 a
def Tc (b : LB) (f : LI) : Nat → Int → LI → It
| 0, _, _ => none
| q + 1, g, a => Ad4 Ad9 (Tc b f q) b f g a
def Akh (b : LB) (f : LI) : Int → LI → It := Tc b f Az
def Akq (j4 : LB → LI → Int → LI → It) (b : LB) (h : Int) : It :=
if ((Cu h 1) || (Gy h 1000)) then
some (([] : LI), 2)
else
if (Cu (Ac b) (Ae (Be 4 h) 4)) then
some (([] : LI), 24)
else
(Alp b (Be 4 h) 4).bind fun (n, v) =>
(Bt b 0 (Be 4 h)).bind fun o =>
(Ag8 o).bind fun (p, w) =>
if (Ck (Ad p : UInt64) n) then
some (([] : LI), 22)
else
(mkI h (0 : Int)).bind fun f =>
(Vd (geq h h)).bind fun _ =>
j4 b f 0 f
def Adc : LB → Int → It := Akq Akh
def Bhv (a : LX) : Option (LX) :=
some a
def Axw : LX → Option (LX) := Bhv
def Amk (j6 : LX → Option (LX)) (bk4 : Int → LX → Option (LX)) (f : UInt64) (b : Int) (a : LX) : Option (LX) :=
if (Cu b 8) then
(Vd (Sr (Be 8 b) 0)).bind fun _ =>
(getI a b).bind fun _ =>
(Qv a b (Ad (Ad (Cy f (GI.toZ (Be 8 b)).toNat) : Int8) : Int32)).bind fun g =>
bk4 (Ae b 1) g
else
j6 a
def Ade (f : UInt64) : Nat → Int → LX → Option (LX)
| 0, _, _ => none
| q + 1, b, a => Amk Axw (Ade f q) f b a
def Azb (f : UInt64) : Int → LX → Option (LX) := Ade f Az
def Axf (j4 : UInt64 → Int → LX → Option (LX)) (f : UInt64) : Option (LX) :=
j4 f 0 (List.replicate 16 (0 : Int32))
def Bdr : UInt64 → Option (LX) := Axf Azb
def Aky (a : LB) : Option (LX × Int) :=
if (Gy (Ac a) 64) then
some (([(0 : Int32), (0 : Int32), (0 : Int32), (0 : Int32), (0 : Int32), (0 : Int32), (0 : Int32), (0 : Int32), (0 : Int32), (0 : Int32), (0 : Int32), (0 : Int32), (0 : Int32), (0 : Int32), (0 : Int32), (0 : Int32)] : LX), 2)
else
(Alg a).bind fun (f, b) =>
if (Ck b 0) then
some (([(0 : Int32), (0 : Int32), (0 : Int32), (0 : Int32), (0 : Int32), (0 : Int32), (0 : Int32), (0 : Int32), (0 : Int32), (0 : Int32), (0 : Int32), (0 : Int32), (0 : Int32), (0 : Int32), (0 : Int32), (0 : Int32)] : LX), b)
else
(Bdr f).bind fun g =>
some (g, 0)
abbrev Yl := Option (Int32 × Int32 × Int)
def Aww (a : Int) (b : Bool) : Yl :=
if b then
(Vd (Sr (Al a 1) 0)).bind fun _ =>
some ((Asi (Fh (1 : Int32) (GI.toZ (Al a 1)).toNat)), (Al (Fh (1 : Int32) (GI.toZ (Al a 1)).toNat) 1), 0)
else
some (0, 0, 2)
def Apu : Int → Bool → Yl := Aww
def Aoq (j2 : Int → Bool → Yl) (a : Int) : Yl :=
if (geq a 8) then
j2 a (geq a 8)
else
if (geq a 16) then
j2 a (geq a 16)
else
j2 a (geq a 24)
def Aem : Int → Yl := Aoq Apu
def Ad2 (a b : Int) : Option Int :=
(Aem b).bind fun (g, h, f) =>
if (((Ck f 0) || (Cu a 1)) || (Gy a 6)) then
some 2
else
some 0
def Abs (a : LB) : Option (LB × Int) :=
if (Cu (Ac a) 5) then
some (([] : LB), 24)
else
if (Gy (Ac a) 41254) then
some (([] : LB), 4)
else
(Bt a 0 (Al (Ac a) 4)).bind fun f =>
(Ag8 f).bind fun (g, b) =>
if (Ck b 0) then
some (([] : LB), b)
else
(Bt a (Al (Ac a) 4) (Ac a)).bind fun h =>
(Aom h).bind fun (k, m) =>
if ((Ck m 0) || (Ck k (Ad g : UInt64))) then
some (([] : LB), 22)
else
(Bt a 0 (Al (Ac a) 4)).bind fun n =>
some (n, 0)
def Hc (a : LB) : Option (LB) :=
(
(Iy ([] : LB) a).bind fun b =>
some b)
def Bcq (a : LB) : Option (LB × Int × Int) :=
if (Gy (Ac a) 41250) then
some (([] : LB), 0, 4)
else
(Hc a).bind fun b =>
some (b, (Be 8 (Ac a)), 0)
def Aws : Option (Int × Int × UInt64 × UInt64) :=
some (10, 10, 16384, 16384)
def Sd (b : LB) (a : Int) : Option Int :=
if (((Cu a 0) || (Gy a 330000)) || (Ck (Ac b) (Bdm (Ae a 7) (GI.toZ (3 : UInt64)).toNat))) then
some 8
else
if (Gy (Il a 7) 0) then
(getI b (Al (Ac b) 1)).bind fun f =>
(Vd (Sr (Il a 7) 0)).bind fun _ =>
if (Ck (Cy f (GI.toZ (Il a 7)).toNat) 0) then
some 8
else
some 0
else
some 0
def Bd5 (g : UInt64) : Option UInt64 :=
some g
def Au7 : UInt64 → Option UInt64 := Bd5
def Aoy (j6 : UInt64 → Option UInt64) (bk4 : UInt64 → Int → Option UInt64) (b f : Int) (h : LB) (k : Int) (g : UInt64) (a : Int) : Option UInt64 :=
if (Cu a f) then
(getI h (Bdm (Ae b a) (GI.toZ (3 : UInt64)).toNat)).bind fun m =>
(Vd (Sr (Il (Ae b a) 7) 0)).bind fun _ =>
(Vd (Sr (Gd (Al f a) (Al 8 (Il (Ae b a) 7))) 0)).bind fun _ =>
(Vd (Sr a 0)).bind fun _ =>
bk4 (gor g (Fh (Ad (Il (Cy m (GI.toZ (Il (Ae b a) 7)).toNat) (Al (Fh (1 : UInt8) (GI.toZ (Gd (Al f a) (Al 8 (Il (Ae b a) 7)))).toNat) 1)) : UInt64) (GI.toZ a).toNat)) (Ae a (Gd (Al f a) (Al 8 (Il (Ae b a) 7))))
else
j6 g
def Afa (b f : Int) (h : LB) (k : Int) : Nat → UInt64 → Int → Option UInt64
| 0, _, _ => none
| q + 1, g, a => Aoy Au7 (Afa b f h k q) b f h k g a
def Avm (b f : Int) (h : LB) (k : Int) : UInt64 → Int → Option UInt64 := Afa b f h k Az
def Aux (j4 : Int → Int → LB → Int → UInt64 → Int → Option UInt64) (h : LB) (k b f : Int) : Option UInt64 :=
j4 b f h k 0 0
def Asr : LB → Int → Int → Int → Option UInt64 := Aux Avm
abbrev Bm := Option (LB × Int × Int)
def Ate (o : Int) (p : LB) : Bm :=
some (p, o, 0)
def Amj : Int → LB → Bm := Ate
def Asd (bk27 : Int → Int → LB → Bm) (a : Int) (g : LB) (f b h : Int) (u : LB) : Bm :=
bk27 (Ae b 64) h u
def Agv (bk27 : Int → Int → LB → Bm) : Int → LB → Int → Int → Int → LB → Bm := Asd bk27
def As0 (bk44 : UInt64 → Int → Int → LB → Bm) (a b : Int) (g : LB) (f : Int) (k n : UInt64) (m h : Int) (w : LB) : Bm :=
(Vd (Sr (Gd m (Al 8 (Il h 7))) 0)).bind fun _ =>
bk44 (Cy n (GI.toZ (Gd m (Al 8 (Il h 7)))).toNat) (Al m (Gd m (Al 8 (Il h 7)))) (Ae h (Gd m (Al 8 (Il h 7)))) w
def Amo (bk44 : UInt64 → Int → Int → LB → Bm) : Int → Int → LB → Int → UInt64 → UInt64 → Int → Int → LB → Bm := As0 bk44
def Anf (j48 : UInt64 → Int → Int → LB → Bm) (a b : Int) (g : LB) (f : Int) (k n : UInt64) (m h : Int) (v : LB) : Bm :=
(getI v (Al (Ac v) 1)).bind fun _ =>
(Vd (Sr (Gd m (Al 8 (Il h 7))) 0)).bind fun _ =>
(Vd (Sr (Il h 7) 0)).bind fun _ =>
(getI v (Al (Ac v) 1)).bind fun aa =>
(getI v (Al (Ac v) 1)).bind fun _ =>
Option.bind (Qv v (Al (Ac v) 1) (gor aa (Fh (Ad (Il n (Al (Fh (1 : UInt64) (GI.toZ (Gd m (Al 8 (Il h 7)))).toNat) 1)) : UInt8) (GI.toZ (Il h 7)).toNat))) fun w =>
j48 n m h w
def Ag1 (bk44 : UInt64 → Int → Int → LB → Bm) (a b : Int) (g : LB) (f : Int) (k : UInt64) : UInt64 → Int → Int → LB → Bm := Anf (Amo bk44 a b g f k) a b g f k
def Agw (j47 : UInt64 → Int → Int → LB → Bm) (j50 : Int → Int → LB → Bm) (a : Int) (g : LB) (f b : Int) (k n : UInt64) (m h : Int) (u : LB) : Bm :=
if (Gy m 0) then
if (geq (Il h 7) 0) then
(Iy u ([(0 : UInt8)] : LB)).bind fun ab =>
j47 n m h ab
else
j47 n m h u
else
j50 b h u
def Nw (bk27 : Int → Int → LB → Bm) (a : Int) (g : LB) (f b : Int) (k : UInt64) : Nat → UInt64 → Int → Int → LB → Bm
| 0, _, _, _, _ => none
| q + 1, n, m, h, u => Agw (Ag1 (Nw bk27 a g f b k q) a b g f k) (Agv bk27 a g f) a g f b k n m h u
def Ana (bk27 : Int → Int → LB → Bm) (a : Int) (g : LB) (f b : Int) (k : UInt64) : UInt64 → Int → Int → LB → Bm := Nw bk27 a g f b k Az
def Amc (j44 : Int → UInt64 → UInt64 → Int → Int → LB → Bm) (j52 : Int → LB → Bm) (a : Int) (g : LB) (f b o : Int) (p : LB) : Bm :=
if (Cu b a) then
(Asr g f b (Gd 64 (Al a b))).bind fun k =>
j44 b k k (Gd 64 (Al a b)) o p
else
j52 o p
def Xf (a : Int) (g : LB) (f : Int) : Nat → Int → Int → LB → Bm
| 0, _, _, _ => none
| q + 1, b, o, p => Amc (Ana (Xf a g f q) a g f) Amj a g f b o p
def Ame (a : Int) (g : LB) (f : Int) : Int → Int → LB → Bm := Xf a g f Az
def Aod (j27 : Int → LB → Int → Int → Int → LB → Bm) (g : LB) (f y a : Int) : Bm :=
(Sd g f).bind fun ac =>
if (Ck ac 0) then
some (([] : LB), 0, 8)
else
if (((Cu y 0) || (Gy y a)) || (Gy a f)) then
some (([] : LB), 0, 2)
else
j27 a g f y 0 ([] : LB)
def Apa : LB → Int → Int → Int → Bm := Aod Ame
def Arf (a b : Int) (f g : UInt64) : Option Int :=
if (!((geq (Gd (Aqs a 0) 24) a) && ((geq (Gd (Aqs b 0) 24) b) && ((geq (Gd f 68719476735) f) && ((geq (Gd g 68719476735) g) && true))))) then
some 8
else
some 0
def Ako : Int → Int → UInt64 → UInt64 → Option Int := Arf
def Ad3 (j4 : Int → Int → UInt64 → UInt64 → Option Int) (a b : Int) (f g : UInt64) : Option Int :=
(
(
j4 a b f g))
def Akp : Int → Int → UInt64 → UInt64 → Option Int := Ad3 Ako
def Aeb (j3 : Int → Int → UInt64 → UInt64 → Option Int) (a b : Int) (f g : UInt64) : Option Int :=
(
(
j3 a b f g))
def Amg : Int → Int → UInt64 → UInt64 → Option Int := Aeb Akp
def Acg (g : LB) (b f a : Int) : Option (UInt64 × Int) :=
(Sd g b).bind fun h =>
if (Ck h 0) then
some (0, 8)
else
if (((Cu a 0) || (Gy a 64)) || (Cu f 0)) then
some (0, 2)
else
if (Gy f (Al b a)) then
some (0, 24)
else
(Asr g b f a).bind fun k =>
some (k, 0)
def Fg (a : UInt64) : Option Int :=
if (geq a 0) then
some 64
else
(getI ([(0 : UInt8), (1 : UInt8), (56 : UInt8), (2 : UInt8), (57 : UInt8), (49 : UInt8), (28 : UInt8), (3 : UInt8), (61 : UInt8), (58 : UInt8), (42 : UInt8), (50 : UInt8), (38 : UInt8), (29 : UInt8), (17 : UInt8), (4 : UInt8), (62 : UInt8), (47 : UInt8), (59 : UInt8), (36 : UInt8), (45 : UInt8), (43 : UInt8), (51 : UInt8), (22 : UInt8), (53 : UInt8), (39 : UInt8), (33 : UInt8), (30 : UInt8), (24 : UInt8), (18 : UInt8), (12 : UInt8), (5 : UInt8), (63 : UInt8), (55 : UInt8), (48 : UInt8), (27 : UInt8), (60 : UInt8), (41 : UInt8), (37 : UInt8), (16 : UInt8), (46 : UInt8), (35 : UInt8), (44 : UInt8), (21 : UInt8), (52 : UInt8), (32 : UInt8), (23 : UInt8), (11 : UInt8), (54 : UInt8), (26 : UInt8), (40 : UInt8), (15 : UInt8), (34 : UInt8), (20 : UInt8), (31 : UInt8), (10 : UInt8), (25 : UInt8), (14 : UInt8), (19 : UInt8), (9 : UInt8), (13 : UInt8), (8 : UInt8), (7 : UInt8), (6 : UInt8)] : LB) (GI.toZ (Cy (Be (Il a (Asi a)) 285870213051353865) (GI.toZ (58 : UInt64)).toNat))).bind fun b =>
some (Ad b : Int)
abbrev De := Option (Int × Int × Int)
def Ax0 : De :=
some (0, 0, 24)
def Apf : De := Ax0
def Aq1 (j10 : De) : De :=
j10
def Aqu : De := Aq1 Apf
def Aj8 (j9 : De) (f a : Int) : De :=
if (geq f 48) then
some (f, (Ae 0 (Ae a f)), 0)
else
j9
def Aj0 : Int → Int → De := Aj8 Aqu
def Akm (j8 : Int → Int → De) (f b a : Int) : De :=
if (Cu f (Gd 48 (Al b a))) then
some (f, (Ae (Ae (0 : Int) (1 : Int)) (Ae a f)), 0)
else
j8 f a
def Akj : Int → Int → Int → De := Akm Aj0
def Akd (j7 : Int → Int → Int → De) (h : Int) (k : UInt64) (a : Int) (g : LB) (b : Int) : De :=
if (Ck h 0) then
some (0, 0, h)
else
(Fg (Axc k)).bind fun f =>
j7 f b a
def Akc : Int → UInt64 → Int → LB → Int → De := Akd Akj
def Yf (j6 : Int → UInt64 → Int → LB → Int → De) (g : LB) (b a : Int) : De :=
(Sd g b).bind fun m =>
if (Ck m 0) then
some (0, 0, m)
else
if (Cu a 0) then
some (0, 0, 2)
else
if (Sr a b) then
some (0, 0, 24)
else
(
(
(Acg g b a (Gd 48 (Al b a))).bind fun (k, h) =>
j6 h k a g b))
def Adn : LB → Int → Int → De := Yf Akc
def Amm (b : UInt32) (a : Int) : Option Bool :=
(Vd (Sr a 0)).bind fun _ =>
some (Sr (Cy b (GI.toZ a).toNat) 48)
abbrev Ae0 := Option (UInt32 × Int × Int)
def Am4 (a b f : Int) (g : LB) (h k : Int) : Ae0 :=
(Acg g h b k).bind fun (m, n) =>
if (Ck n 0) then
some (0, 0, n)
else
if (Cu f 48) then
(Vd (Sr a 0)).bind fun _ =>
some ((gor (Fh (Ad f : UInt32) (GI.toZ a).toNat) (Ad m : UInt32)), (Ae b k), 0)
else
(Amm (Ad m : UInt32) a).bind fun u =>
if (!u) then
some (0, 0, 12)
else
some ((Ad m : UInt32), (Ae b k), 0)
def Agp : Int → Int → Int → LB → Int → Int → Ae0 := Am4
def Am6 (j2 : Int → Int → Int → LB → Int → Int → Ae0) (g : LB) (h v a : Int) : Ae0 :=
(Sd g h).bind fun o =>
if (Ck o 0) then
some (0, 0, o)
else
if ((Cu a 0) || (Gy a 24)) then
some (0, 0, 2)
else
(Adn g h v).bind fun (f, b, p) =>
if (Ck p 0) then
some (0, 0, p)
else
if (geq f 48) then
j2 a b f g h 32
else
j2 a b f g h a
def Ap2 : LB → Int → Int → Int → Ae0 := Am6 Agp
def Amf (a f : Int) (g h : UInt64) (b : UInt32) : Option (Int × UInt32) :=
(Vd (Sr a 0)).bind fun _ =>
if (geq (Cy b (GI.toZ a).toNat) 0) then
some (0, b)
else
(Vd (Sr a 0)).bind fun _ =>
some (1, (Al b (Fh (1 : UInt32) (GI.toZ a).toNat)))
abbrev Dy := Option (UInt32 × Int × Int × Int × UInt64 × UInt64 × Int)
def Aqz (f : UInt32) (k w m : Int) (a n : UInt64) : Dy :=
some (f, k, w, m, (Ae a (Al (Ad f : UInt64) (Cy a (GI.toZ (4 : UInt64)).toNat))), n, 0)
def Aj5 : UInt32 → Int → Int → Int → UInt64 → UInt64 → Dy := Aqz
def Amv (j10 : UInt32 → Int → Int → Int → UInt64 → UInt64 → Dy) (f : UInt32) (k m : Int) (a n : UInt64) (w : Int) : Dy :=
j10 f k w m a n
def Al5 : UInt32 → Int → Int → UInt64 → UInt64 → Int → Dy := Amv Aj5
def Amq (j9 : UInt32 → Int → Int → UInt64 → UInt64 → Int → Dy) (f : UInt32) (k b : Int) (a : UInt64) (m : Int) (n : UInt64) : Dy :=
if (Gy b 0) then
(Vd (Sr b 0)).bind fun _ =>
if (Cu (Ae a (Al (Ad f : UInt64) (Cy a (GI.toZ (4 : UInt64)).toNat))) (Fh (16 : UInt64) (GI.toZ b).toNat)) then
j9 f k m a n (Al b 1)
else
if (Cu b 24) then
(Vd (Sr b 0)).bind fun _ =>
if (Gy (Ae a (Al (Ad f : UInt64) (Cy a (GI.toZ (4 : UInt64)).toNat))) (Fh (32 : UInt64) (GI.toZ b).toNat)) then
j9 f k m a n (Ae b 1)
else
j9 f k m a n b
else
j9 f k m a n b
else
if (Cu b 24) then
(Vd (Sr b 0)).bind fun _ =>
if (Gy (Ae a (Al (Ad f : UInt64) (Cy a (GI.toZ (4 : UInt64)).toNat))) (Fh (32 : UInt64) (GI.toZ b).toNat)) then
j9 f k m a n (Ae b 1)
else
j9 f k m a n b
else
j9 f k m a n b
def Aa5 : UInt32 → Int → Int → UInt64 → Int → UInt64 → Dy := Amq Al5
def Anc (j8 : UInt32 → Int → Int → UInt64 → Int → UInt64 → Dy) (b h : Int) (a g : UInt64) (f : UInt32) (k : Int) : Dy :=
(Amf b h a g f).bind fun (ad, o) =>
if (geq ad 1) then
if (Gy h 0) then
(Vd (Sr h 0)).bind fun _ =>
if (Cu (Ae g (Al (Ad o : UInt64) (Cy g (GI.toZ (4 : UInt64)).toNat))) (Fh (16 : UInt64) (GI.toZ h).toNat)) then
j8 f k b a (Al h 1) (Ae g (Al (Ad o : UInt64) (Cy g (GI.toZ (4 : UInt64)).toNat)))
else
if (Cu h 24) then
(Vd (Sr h 0)).bind fun _ =>
if (Gy (Ae g (Al (Ad o : UInt64) (Cy g (GI.toZ (4 : UInt64)).toNat))) (Fh (32 : UInt64) (GI.toZ h).toNat)) then
j8 f k b a (Ae h 1) (Ae g (Al (Ad o : UInt64) (Cy g (GI.toZ (4 : UInt64)).toNat)))
else
j8 f k b a h (Ae g (Al (Ad o : UInt64) (Cy g (GI.toZ (4 : UInt64)).toNat)))
else
j8 f k b a h (Ae g (Al (Ad o : UInt64) (Cy g (GI.toZ (4 : UInt64)).toNat)))
else
if (Cu h 24) then
(Vd (Sr h 0)).bind fun _ =>
if (Gy (Ae g (Al (Ad o : UInt64) (Cy g (GI.toZ (4 : UInt64)).toNat))) (Fh (32 : UInt64) (GI.toZ h).toNat)) then
j8 f k b a (Ae h 1) (Ae g (Al (Ad o : UInt64) (Cy g (GI.toZ (4 : UInt64)).toNat)))
else
j8 f k b a h (Ae g (Al (Ad o : UInt64) (Cy g (GI.toZ (4 : UInt64)).toNat)))
else
j8 f k b a h (Ae g (Al (Ad o : UInt64) (Cy g (GI.toZ (4 : UInt64)).toNat)))
else
j8 f k b a h g
def Ags : Int → Int → UInt64 → UInt64 → UInt32 → Int → Dy := Anc Aa5
def Anb (j7 : Int → Int → UInt64 → UInt64 → UInt32 → Int → Dy) (p : Int) (u : LB) (v b h : Int) (a g : UInt64) : Dy :=
(Acg u v p 1).bind fun (ae, aa) =>
if (Ck aa 0) then
some (0, 0, 0, 0, 0, 0, aa)
else
if (geq ae 0) then
(Acg u v (Ae p 1) b).bind fun (af, ab) =>
if (Ck ab 0) then
some (0, 0, 0, 0, 0, 0, ab)
else
j7 b h a g (Ad af : UInt32) (Ae (Ae p 1) b)
else
(Ap2 u v (Ae p 1) h).bind fun (y, ag, ac) =>
if (Ck ac 0) then
some (0, 0, 0, 0, 0, 0, ac)
else
(Vd (Sr b 0)).bind fun _ =>
if (Cu (Ae y (Fh (1 : UInt32) (GI.toZ b).toNat)) y) then
some (0, 0, 0, 0, 0, 0, 12)
else
j7 b h a g (Ae y (Fh (1 : UInt32) (GI.toZ b).toNat)) ag
def Am1 : Int → LB → Int → Int → Int → UInt64 → UInt64 → Dy := Anb Ags
def Al4 (j6 : Int → LB → Int → Int → Int → UInt64 → UInt64 → Dy) (u : LB) (v p b h : Int) (a g : UInt64) : Dy :=
(Sd u v).bind fun ah =>
if (Ck ah 0) then
some (0, 0, 0, 0, 0, 0, 8)
else
(Amg b h a g).bind fun ai =>
if (Ck ai 0) then
some (0, 0, 0, 0, 0, 0, 8)
else
j6 p u v b h a g
def Ww : LB → Int → Int → Int → Int → UInt64 → UInt64 → Dy := Al4 Am1
abbrev Aq := Option (LU × Int × Int)
def Ar7 (k : Int) (m : LU) : Aq :=
some (m, k, 0)
def Aig : Int → LU → Aq := Ar7
def Aih (bk16 : Int → Int → (List (Int × Int × UInt64 × UInt64 × Unit)) → LU → Aq) (a f : Int) (g : LB) (b k u : Int) (v : UInt32) (h : Int) (ah : List (Int × Int × UInt64 × UInt64 × Unit)) (m : LU) : Aq :=
(Iy m ([v] : LU)).bind fun ai =>
bk16 (Ae k u) (Ae h 1) ah ai
def Zi (bk16 : Int → Int → (List (Int × Int × UInt64 × UInt64 × Unit)) → LU → Aq) : Int → Int → LB → Int → Int → Int → UInt32 → Int → (List (Int × Int × UInt64 × UInt64 × Unit)) → LU → Aq := Aih bk16
def Rn (j22 : Int → Int → UInt32 → Int → (List (Int × Int × UInt64 × UInt64 × Unit)) → LU → Aq) (a f : Int) (g : LB) (b k h y : Int) (v : UInt32) (u : Int) (n : List (Int × Int × UInt64 × UInt64 × Unit)) (m : LU) (aa ab : Int) (ac ad : UInt64) : Aq :=
if (Ck y 0) then
some (([] : LU), 0, y)
else
(Vd (Ck a 0)).bind fun _ =>
(getI n (Kf h a)).bind fun _ =>
(Qv n (Kf h a) (aa, ab, ac, ad, ())).bind fun ah =>
j22 k u v h ah m
def Rf (bk16 : Int → Int → (List (Int × Int × UInt64 × UInt64 × Unit)) → LU → Aq) (a f : Int) (g : LB) (b : Int) : Int → Int → Int → UInt32 → Int → (List (Int × Int × UInt64 × UInt64 × Unit)) → LU → Int → Int → UInt64 → UInt64 → Aq := Rn (Zi bk16 a f g b) a f g b
def Rz (j21 : Int → Int → Int → UInt32 → Int → (List (Int × Int × UInt64 × UInt64 × Unit)) → LU → Int → Int → UInt64 → UInt64 → Aq) (j24 : Int → LU → Aq) (a f : Int) (g : LB) (b k h : Int) (n : List (Int × Int × UInt64 × UInt64 × Unit)) (m : LU) : Aq :=
if (Cu h (Be f a)) then
(Apa g b k (Gd (Ae k 81) b)).bind fun (af, ae, ag) =>
if (Ck ag 0) then
some (([] : LU), 0, ag)
else
(Vd (Ck a 0)).bind fun _ =>
(getI n (Kf h a)).bind fun _ =>
(
(
(getI n (Kf h a)).bind fun o =>
(
(Ww af ae 0 o.1 o.2.1 o.2.2.1 o.2.2.2.1).bind fun (v, u, aa, ab, ac, ad, y) =>
j21 k h y v u n m aa ab ac ad)))
else
j24 k m
def Ll (a f : Int) (g : LB) (b : Int) : Nat → Int → Int → (List (Int × Int × UInt64 × UInt64 × Unit)) → LU → Aq
| 0, _, _, _, _ => none
| q + 1, k, h, n, m => Rz (Rf (Ll a f g b q) a f g b) Aig a f g b k h n m
def Aho (a f : Int) (g : LB) (b : Int) : Int → Int → (List (Int × Int × UInt64 × UInt64 × Unit)) → LU → Aq := Ll a f g b Az
def Aii (j16 : Int → Int → LB → Int → Int → Int → (List (Int × Int × UInt64 × UInt64 × Unit)) → LU → Aq) (a f : Int) (g : LB) (b : Int) (p : List (Int × Int × UInt64 × UInt64 × Unit)) : Aq :=
j16 a f g b 0 0 p ([] : LU)
def Zk : Int → Int → LB → Int → (List (Int × Int × UInt64 × UInt64 × Unit)) → Aq := Aii Aho
def Aja (j15 : Int → Int → LB → Int → (List (Int × Int × UInt64 × UInt64 × Unit)) → Aq) (bk13 : Int → (List (Int × Int × UInt64 × UInt64 × Unit)) → Aq) (a f : Int) (g : LB) (b w : Int) (p : List (Int × Int × UInt64 × UInt64 × Unit)) : Aq :=
if (Cu w 6) then
(Aws).bind fun (aj, ae, ag, ak) =>
(getI p w).bind fun _ =>
(Qv p w (aj, ae, ag, ak, ())).bind fun al =>
bk13 (Ae w 1) al
else
j15 a f g b p
def Zc (a f : Int) (g : LB) (b : Int) : Nat → Int → (List (Int × Int × UInt64 × UInt64 × Unit)) → Aq
| 0, _, _ => none
| q + 1, w, p => Aja Zk (Zc a f g b q) a f g b w p
def Rq (a f : Int) (g : LB) (b : Int) : Int → (List (Int × Int × UInt64 × UInt64 × Unit)) → Aq := Zc a f g b Az
def Abr (j13 : Int → Int → LB → Int → Int → (List (Int × Int × UInt64 × UInt64 × Unit)) → Aq) (a f : Int) (g : LB) (b : Int) : Aq :=
j13 a f g b 0 (List.replicate 6 ((0 : Int), (0 : Int), (0 : UInt64), (0 : UInt64), ()))
def Abp : Int → Int → LB → Int → Aq := Abr Rq
abbrev Aht := Option (Int × LX × LX × Int)
def Bgm (a : Int) (b : LX) (f : Bool) : Aht :=
if f then
some (10, b, (List.replicate 16 (0 : Int32)), 0)
else
if (geq a 16) then
some (9, b, (List.replicate 16 (0 : Int32)), 0)
else
some (0, (List.replicate 16 (0 : Int32)), (List.replicate 16 (0 : Int32)), 2)
def Auw : Int → LX → Bool → Aht := Bgm
def Au0 (j2 : Int → LX → Bool → Aht) (a : Int) (b : LX) : Aht :=
if (geq a 8) then
j2 a b (geq a 8)
else
j2 a b (geq a 24)
def As1 : Int → LX → Aht := Au0 Auw
def Bby (a : Int) (f : LX) : Option (Int × Int32 × Int × LX × LX × Int) :=
(As1 a f).bind fun (g, h, k, b) =>
if (Ck b 0) then
some (0, 0, 0, (List.replicate 16 (0 : Int32)), (List.replicate 16 (0 : Int32)), b)
else
some (a, 0, g, h, k, 0)
def Xi (a : UInt32) : Option Int32 :=
some (Yh (Ad (Cy a (GI.toZ (1 : UInt64)).toNat) : Int32) (Asi (Ad (Il a 1) : Int32)))
def Aek (a : Int) (k : Int32) (b : Int) (f m : LX) : Option Int :=
(As1 a f).bind fun (g, n, o, h) =>
if ((Ck h 0) || (Ck g b)) then
some 8
else
some 0
def Aoi (a : Int) : Option (Int × Int) :=
if (geq a 8) then
some (4, 0)
else
if (geq a 16) then
if (geq a 16) then
some (5, 0)
else
some (0, 2)
else
if (geq a 24) then
some (5, 0)
else
some (0, 2)
def Ajh (a : Int) (b : Int32) : Option Int32 :=
(Vd (Sr a 0)).bind fun _ =>
(Vd (Sr a 0)).bind fun _ =>
some (Ad (Bdm (Al (Fh (Ad b : Int) (GI.toZ a).toNat) (Ad b : Int)) (GI.toZ a).toNat) : Int32)
def Ae8 (b : Int) (f : Int32) : Option (Int32 × Int) :=
(Aoi b).bind fun (g, a) =>
if (Ck a 0) then
some (0, a)
else
(Ajh g f).bind fun h =>
some (h, 0)
def Adv (a : Int) (b f : LX) : Option Int :=
if ((Ck a 9) && (Ck a 10)) then
some 8
else
some 0
abbrev Ir := Option (Int32 × Int)
def Aqv (g : Int32) (a : Int) (b f : LX) : Ir :=
(Vd (Sr a 0)).bind fun _ =>
some ((Cy g (GI.toZ a).toNat), 0)
def Akt : Int32 → Int → LX → LX → Ir := Aqv
def Aef (j6 : Int32 → Int → LX → LX → Ir) (bk4 : Int32 → Int → Ir) (b : LX) (a : Int) (f : LX) (g : Int32) (h : Int) : Ir :=
if (Cu h 16) then
(getI b h).bind fun m =>
(getI f h).bind fun _ =>
(getI f h).bind fun n =>
bk4 (Ae g (Be m n)) (Ae h 1)
else
j6 g a b f
def Tg (b : LX) (a : Int) (f : LX) : Nat → Int32 → Int → Ir
| 0, _, _ => none
| q + 1, g, h => Aef Akt (Tg b a f q) b a f g h
def Aj9 (b : LX) (a : Int) (f : LX) : Int32 → Int → Ir := Tg b a f Az
def Akb (j4 : LX → Int → LX → Int32 → Int → Ir) (a : Int) (b f : LX) : Ir :=
(Adv a b f).bind fun k =>
if (Ck k 0) then
some (0, k)
else
(Vd (Sr (Al a 1) 0)).bind fun _ =>
j4 b a f (Fh (1 : Int32) (GI.toZ (Al a 1)).toNat) 0
def Am3 : Int → LX → LX → Ir := Akb Aj9
def Alq (a : Int) : Option Int32 :=
if (geq a 0) then
some 4
else
if (Cu a 4) then
some 2
else
some 1
abbrev Iq := Option (Int × LX × LX × Int)
def Bae (g : Int) (b f : LX) : Iq :=
some (g, b, f, 0)
def Aqy : Int → LX → LX → Iq := Bae
def Ad8 (j6 : Int → LX → LX → Iq) (bk4 : Int → LX → Iq) (h : Int32) (f : LX) (g a : Int) (b : LX) : Iq :=
if (Cu a 16) then
(getI f a).bind fun m =>
if (geq m 0) then
bk4 (Ae a 1) b
else
if ((Cu m 0) == (Cu h 0)) then
(getI b a).bind fun _ =>
(getI b a).bind fun o =>
(Alq a).bind fun p =>
(getI b a).bind fun _ =>
(Qv b a (Ae o p)).bind fun u =>
bk4 (Ae a 1) u
else
(getI b a).bind fun _ =>
(getI b a).bind fun v =>
(Alq a).bind fun w =>
(getI b a).bind fun _ =>
(Qv b a (Al v w)).bind fun y =>
bk4 (Ae a 1) y
else
j6 g b f
def Th (h : Int32) (f : LX) (g : Int) : Nat → Int → LX → Iq
| 0, _, _ => none
| q + 1, a, b => Ad8 Aqy (Th h f g q) h f g a b
def Aq9 (h : Int32) (f : LX) (g : Int) : Int → LX → Iq := Th h f g Az
def Aj3 (j4 : Int32 → LX → Int → Int → LX → Iq) (g : Int) (k f : LX) (h : Int32) : Iq :=
(Adv g k f).bind fun n =>
if (Ck n 0) then
some (0, (List.replicate 16 (0 : Int32)), (List.replicate 16 (0 : Int32)), n)
else
if (geq h 0) then
some (g, k, f, 0)
else
j4 h f g 0 k
def Al9 : Int → LX → LX → Int32 → Iq := Aj3 Aq9
abbrev Ae6 := Option (Int × LX × LX × Int)
def Asz (g : Int32) (b : Int) (f a : LX) : Ae6 :=
(getI (Ue a 1 ((16 : Int) - (1 : Int)) (Alh a 0 ((16 : Int) - (0 : Int)))) 0).bind fun _ =>
(Qv (Ue a 1 ((16 : Int) - (1 : Int)) (Alh a 0 ((16 : Int) - (0 : Int)))) 0 g).bind fun k =>
some (b, f, k, 0)
def Amb : Int32 → Int → LX → LX → Ae6 := Asz
def Ago (j2 : Int32 → Int → LX → LX → Ae6) (b : Int) (f a : LX) (g : Int32) : Ae6 :=
(Adv b f a).bind fun h =>
if (Ck h 0) then
some (0, (List.replicate 16 (0 : Int32)), (List.replicate 16 (0 : Int32)), h)
else
(
(vwI 16 1 16).bind fun _ =>
(vwI 16 0 16).bind fun _ =>
j2 g b f a)
def Aqf : Int → LX → LX → Int32 → Ae6 := Ago Amb
def Ar6 (a : Int) (b f : LX) (g h : Int32) : Option (Int × LX × LX) :=
(Al9 a b f h).bind fun (k, m, n, v) =>
(Aqf k m n g).bind fun (o, p, u, w) =>
some (o, p, u)
def Aox (b : Int) (f g : LX) (a : Int32) : Option (Int32 × Int × LX × LX × Int) :=
(Am3 b f g).bind fun (h, k) =>
if (Ck k 0) then
some (0, 0, (List.replicate 16 (0 : Int32)), (List.replicate 16 (0 : Int32)), k)
else
(Ar6 b f g (Ae a h) a).bind fun (m, n, o) =>
some ((Ae a h), m, n, o, 0)
def Ju (a : Int) (b : Int32) (f : Int) (g h : LX) (o : Int32) : Option (Int32 × Int × Int32 × Int × LX × LX × Int) :=
(Aek a b f g h).bind fun k =>
if (Ck k 0) then
some (0, 0, 0, 0, (List.replicate 16 (0 : Int32)), (List.replicate 16 (0 : Int32)), k)
else
(Ae8 a b).bind fun (m, y) =>
(Aox f g h o).bind fun (n, p, u, v, w) =>
(
some ((Ae n m), a, (Ae n m), p, u, v, w))
def Ap7 (a : Int) (b : LX) : Option Int :=
if ((Cu a 1) || (Gy a 6)) then
some 2
else
if (Gy (Ac b) 4000) then
some 4
else
(Vd (Ck a 0)).bind fun _ =>
if (Ck (Kf (Ac b) a) 0) then
some 2
else
some 0
def Ga (a : LX) : Option (LX) :=
(
(Iy ([] : LX) a).bind fun b =>
some b)
abbrev Ci := Option (LX × Int)
def Bc6 (f : LX) : Ci :=
some (f, 0)
def Atg : LX → Ci := Bc6
def As7 (bk12 : Int → LX → Ci) (b a : Int) (h : LX) : Ci :=
bk12 (Ae a b) h
def Am8 (bk12 : Int → LX → Ci) : Int → Int → LX → Ci := As7 bk12
def Agy (j20 : Int → LX → Ci) (bk18 : Int → LX → Ci) (b a g : Int) (h : LX) : Ci :=
if (Sr g 0) then
(Vd (decide (0 ≤ (Ae g 1) ∧ (Ae g 1) < ((Ae a b) - a)))).bind fun _ =>
(Vd (decide (0 ≤ g ∧ g < ((Ae a b) - a)))).bind fun _ =>
(getI h (a + (Ae g 1))).bind fun o =>
(getI h (a + g)).bind fun p =>
(Vd (decide (0 ≤ g ∧ g < ((Ae a b) - a)))).bind fun _ =>
(Qv h (a + g) (Al o p)).bind fun u =>
bk18 (Al g 1) u
else
j20 a h
def Xh (bk12 : Int → LX → Ci) (b a : Int) : Nat → Int → LX → Ci
| 0, _, _ => none
| q + 1, g, h => Agy (Am8 bk12 b) (Xh bk12 b a q) b a g h
def Am7 (bk12 : Int → LX → Ci) (b a : Int) : Int → LX → Ci := Xh bk12 b a Az
def Ang (j18 : Int → Int → LX → Ci) (b a : Int) (k : LX) : Ci :=
j18 a (Al (Al ((Ae a b) - a) 1) 1) k
def Ag0 (bk12 : Int → LX → Ci) (b : Int) : Int → LX → Ci := Ang (Am7 bk12 b) b
def Anh (j17 : Int → LX → Ci) (j22 : LX → Ci) (b a : Int) (f : LX) : Ci :=
if (Cu a (Ac f)) then
(vwI (Ac f) a (Ae a b)).bind fun _ =>
if (Gy (Al ((Ae a b) - a) 1) 0) then
(Vd (decide (0 ≤ (Al ((Ae a b) - a) 1) ∧ (Al ((Ae a b) - a) 1) < ((Ae a b) - a)))).bind fun _ =>
Option.bind (Vd (decide (0 ≤ (Al (Al ((Ae a b) - a) 1) 1) ∧ (Al (Al ((Ae a b) - a) 1) 1) < ((Ae a b) - a)))) fun _ =>
(getI f (a + (Al ((Ae a b) - a) 1))).bind fun v =>
(getI f (a + (Al (Al ((Ae a b) - a) 1) 1))).bind fun w =>
(Vd (decide (0 ≤ (Al ((Ae a b) - a) 1) ∧ (Al ((Ae a b) - a) 1) < ((Ae a b) - a)))).bind fun _ =>
(Qv f (a + (Al ((Ae a b) - a) 1)) (Ae v (Df w 2))).bind fun y =>
j17 a y
else
j17 a f
else
j22 f
def Rp (b : Int) : Nat → Int → LX → Ci
| 0, _, _ => none
| q + 1, a, f => Anh (Ag0 (Rp b q) b) Atg b a f
def Amp (b : Int) : Int → LX → Ci := Rp b Az
def Ao8 (j12 : Int → Int → LX → Ci) (b : Int) (m : LX) : Ci :=
(Ap7 b m).bind fun n =>
if (Ck n 0) then
some (([] : LX), n)
else
(Ga m).bind fun aa =>
j12 b 0 aa
def Aso : Int → LX → Ci := Ao8 Amp
def Axi : Option Int :=
some 0
def Aoa : Option Int := Axi
def Abj (j6 : Option Int) (bk4 : Int → Option Int) (b f : Int32) (a : LX) (g : Int) : Option Int :=
if (Cu g (Ac a)) then
(getI a g).bind fun h =>
if ((Cu h b) || (Gy h f)) then
some 16
else
bk4 (Ae g 1)
else
j6
def Pu (b f : Int32) (a : LX) : Nat → Int → Option Int
| 0, _ => none
| q + 1, g => Abj Aoa (Pu b f a q) b f a g
def Apj (b f : Int32) (a : LX) : Int → Option Int := Pu b f a Az
def Ahu (j4 : Int32 → Int32 → LX → Int → Option Int) (m : Int) (a : LX) : Option Int :=
(Aem m).bind fun (b, f, k) =>
if (Ck k 0) then
some k
else
if (Gy (Ac a) 4000) then
some 4
else
j4 b f a 0
def Ae3 : Int → LX → Option Int := Ahu Apj
abbrev Ba := Option (LX × Int)
def Agj (a b : Int) (k : LX) : Ba :=
(Aso a k).bind fun (ah, af) =>
if (Ck af 0) then
some (([] : LX), af)
else
(Ae3 b ah).bind fun ae =>
if (Ck ae 0) then
some (([] : LX), ae)
else
some (ah, 0)
def Jy : Int → Int → LX → Ba := Agj
def Agg (bk13 : Int → (List (Int × Int32 × (Int × LX × LX × Unit) × Unit)) → LX → Ba) (a : Int) (f : LU) (b g : Int) (w : Int32) (u : Int) (h : List (Int × Int32 × (Int × LX × LX × Unit) × Unit)) (k : LX) (y : Int) (v : Int32) (aa : Int) (ab ac : LX) : Ba :=
if (Ck u 0) then
some (([] : LX), u)
else
(Qv h (Kf g a) (y, v, (aa, ab, ac, ()), ())).bind fun ai =>
(Iy k ([w] : LX)).bind fun aj =>
bk13 (Ae g 1) ai aj
def Xn (bk13 : Int → (List (Int × Int32 × (Int × LX × LX × Unit) × Unit)) → LX → Ba) : Int → LU → Int → Int → Int32 → Int → (List (Int × Int32 × (Int × LX × LX × Unit) × Unit)) → LX → Int → Int32 → Int → LX → LX → Ba := Agg bk13
def Jz (j16 : Int → Int32 → Int → (List (Int × Int32 × (Int × LX × LX × Unit) × Unit)) → LX → Int → Int32 → Int → LX → LX → Ba) (j18 : Int → Int → LX → Ba) (f : LU) (a b g : Int) (h : List (Int × Int32 × (Int × LX × LX × Unit) × Unit)) (k : LX) : Ba :=
if (Cu g (Ac f)) then
(getI f g).bind fun ag =>
(Vd (Ck a 0)).bind fun _ =>
(getI h (Kf g a)).bind fun _ =>
(
(getI h (Kf g a)).bind fun m =>
(
(Xi ag).bind fun ae =>
(
(Ju m.1 m.2.1 m.2.2.1.1 m.2.2.1.2.1 m.2.2.1.2.2.1 ae).bind fun (w, y, v, aa, ab, ac, u) =>
j16 g w u h k y v aa ab ac)))
else
j18 a b k
def Hk (f : LU) (a b : Int) : Nat → Int → (List (Int × Int32 × (Int × LX × LX × Unit) × Unit)) → LX → Ba
| 0, _, _, _ => none
| q + 1, g, h, k => Jz (Xn (Hk f a b q) a f b) Jy f a b g h k
def Agc (f : LU) (a b : Int) : Int → (List (Int × Int32 × (Int × LX × LX × Unit) × Unit)) → LX → Ba := Hk f a b Az
def Agf (j13 : LU → Int → Int → Int → (List (Int × Int32 × (Int × LX × LX × Unit) × Unit)) → LX → Ba) (f : LU) (a b : Int) (n : List (Int × Int32 × (Int × LX × LX × Unit) × Unit)) : Ba :=
j13 f a b 0 n ([] : LX)
def Xq : LU → Int → Int → (List (Int × Int32 × (Int × LX × LX × Unit) × Unit)) → Ba := Agf Agc
def Agn (j12 : LU → Int → Int → (List (Int × Int32 × (Int × LX × LX × Unit) × Unit)) → Ba) (bk10 : Int → (List (Int × Int32 × (Int × LX × LX × Unit) × Unit)) → Ba) (f : LU) (a b : Int) (o : LX) (p : Int) (n : List (Int × Int32 × (Int × LX × LX × Unit) × Unit)) : Ba :=
if (Cu p 6) then
(Bby b o).bind fun (ak, af, ae, al, am, v) =>
(getI n p).bind fun _ =>
(Qv n p (ak, af, (ae, al, am, ()), ())).bind fun an =>
bk10 (Ae p 1) an
else
j12 f a b n
def Xs (f : LU) (a b : Int) (o : LX) : Nat → Int → (List (Int × Int32 × (Int × LX × LX × Unit) × Unit)) → Ba
| 0, _, _ => none
| q + 1, p, n => Agn Xq (Xs f a b o q) f a b o p n
def Pe (f : LU) (a b : Int) (o : LX) : Int → (List (Int × Int32 × (Int × LX × LX × Unit) × Unit)) → Ba := Xs f a b o Az
def Zr (j10 : LU → Int → Int → LX → Int → (List (Int × Int32 × (Int × LX × LX × Unit) × Unit)) → Ba) (a b : Int) (o : LX) (f : LU) : Ba :=
j10 f a b o 0 (List.replicate 6 ((0 : Int), (0 : Int32), ((0 : Int), (List.replicate 16 (0 : Int32)), (List.replicate 16 (0 : Int32)), ()), ()))
def Sy : Int → Int → LX → LU → Ba := Zr Pe
def deframe_Decode (a h : Int) (u : LX) (f : Int) (v : LB) : Option (LX × Int) :=
(Ad2 a h).bind fun k =>
if (Ck k 0) then
some (([] : LX), k)
else
if (Cu f 1) then
some (([] : LX), 2)
else
(Vd (Ck a 0)).bind fun _ =>
if (Gy f (Df 4000 a)) then
some (([] : LX), 2)
else
(Abs v).bind fun (w, m) =>
if (Ck m 0) then
some (([] : LX), m)
else
(Bcq w).bind fun (n, b, o) =>
if (Ck o 0) then
some (([] : LX), o)
else
(Abp a f n b).bind fun (y, g, p) =>
if (Ck p 0) then
some (([] : LX), p)
else
if (Sr (Al b g) 8) then
some (([] : LX), 12)
else
(Acg n b g (Al b g)).bind fun (aa, ab) =>
if ((Ck ab 0) || (Ck aa 0)) then
some (([] : LX), 12)
else
(Sy a h u y).bind fun (ac, ad) =>
some (ac, ad)
abbrev Ahb := Option (Int × Int)
def Avg (a : LB) : Ahb :=
(Bt a (Al (Ac a) 32) (Ac a)).bind fun g =>
(Ag4 g 0).bind fun (f, y, h) =>
if h then
if (Cu (Al (Ac a) 32) f) then
some (0, 24)
else
some ((Ae f 32), 0)
else
(Bt a (Al (Ac a) 32) (Ac a)).bind fun k =>
(Ag4 k 2147483648).bind fun (b, m, n) =>
if (!n) then
some (0, 12)
else
if (Cu (Ac a) (Ae b 64)) then
some (0, 24)
else
(Bt a (Al (Ac a) (Ae b 64)) (Ae (Al (Ac a) (Ae b 64)) 32)).bind fun o =>
(Aqe b m 2684354560).bind fun p =>
(Gj o p).bind fun u =>
if (!u) then
some (0, 12)
else
some ((Ae b 64), 0)
def Apc : LB → Ahb := Avg
def Aph (j2 : LB → Ahb) (a : LB) : Ahb :=
if (Cu (Al (Ac a) 32) 0) then
some (0, 6)
else
(Bt a (Al (Ac a) 32) (Ac a)).bind fun v =>
(Jt v ([(65 : UInt8), (80 : UInt8), (69 : UInt8), (84 : UInt8), (65 : UInt8), (71 : UInt8), (69 : UInt8), (88 : UInt8)] : LB)).bind fun w =>
if (!w) then
some (0, 6)
else
j2 a
def Atc : LB → Ahb := Aph Apc
abbrev Bs := Option (Int × Int)
def Atx (a : Int) : Bs :=
some (a, 0)
def Ale : Int → Bs := Atx
def Ald (bk8 : Int → LB → Bs) (a : Int) (g : LB) : Bs :=
bk8 (Ae a 1) g
def Adh (bk8 : Int → LB → Bs) : Int → LB → Bs := Ald bk8
def Adq (j12 : Int → LB → Bs) (a f : Int) (b : LB) : Bs :=
if (geq f 0) then
some (0, 38)
else
(Bt b 0 (Al (Ac b) f)).bind fun g =>
j12 a g
def Adx (bk8 : Int → LB → Bs) : Int → Int → LB → Bs := Adq (Adh bk8)
def Afw (j11 : Int → Int → LB → Bs) (j14 : Int → Bs) (a : Int) (b : LB) : Bs :=
if (Gy (Ac b) 0) then
(Atc b).bind fun (f, k) =>
j11 a f b
else
j14 a
def Sp : Nat → Int → LB → Bs
| 0, _, _ => none
| q + 1, a, b => Afw (Adx (Sp q)) Ale a b
def Ann : Int → LB → Bs := Sp Az
def Afy (j8 : Int → LB → Bs) (h : LB) : Bs :=
if (Gy (Ac h) 4000) then
some (0, 38)
else
j8 0 h
def Agq : LB → Bs := Afy Ann
abbrev Ar := Option (Int × Int × Int × LX × Int)
def Apg (a : LB) (aa b f h : Int) (ad : LX) : Ar :=
(Bt a aa (Ac a)).bind fun aq =>
(Agq aq).bind fun (bb, ar) =>
if (Ck ar 0) then
some (0, 0, 0, ([] : LX), 38)
else
some (b, f, h, ad, 0)
def Ahw : LB → Int → Int → Int → Int → LX → Ar := Apg
def Apm (bk21 : Int → Int → LX → Ar) (a : LB) (w : LI) (m b f h o p n g y ab : Int) (ac : LX) (k : LI) (aa aj ak ae : Int) (am ad : LX) : Ar :=
if (Ck ak 0) then
some (0, 0, 0, ([] : LX), ak)
else
(Iy ad am).bind fun au =>
bk21 (Ae aa aj) (Ae ae 1) au
def Ah3 (bk21 : Int → Int → LX → Ar) : LB → LI → Int → Int → Int → Int → Int → Int → Int → Int → Int → Int → LX → LI → Int → Int → Int → Int → LX → LX → Ar := Apm bk21
def Ab9 (j24 : Int → Int → Int → Int → LX → LX → Ar) (j26 : LB → Int → Int → Int → Int → LX → Ar) (a : LB) (w : LI) (m b f h o p n g y ab : Int) (ac : LX) (k : LI) (aa ae : Int) (ad : LX) : Ar :=
if (Cu ae (Ac w)) then
(getI w ae).bind fun _ =>
(getI w ae).bind fun aj =>
if (Cu (Ac a) (Ae aa aj)) then
some (0, 0, 0, ([] : LX), 24)
else
(getI k ae).bind fun _ =>
(Bt a aa (Ae aa aj)).bind fun av =>
(getI k ae).bind fun aw =>
(deframe_Decode b f ac aw av).bind fun (am, ak) =>
j24 aa aj ak ae am ad
else
j26 a aa b f h ad
def Qd (a : LB) (w : LI) (m b f h o p n g y ab : Int) (ac : LX) (k : LI) : Nat → Int → Int → LX → Ar
| 0, _, _, _ => none
| q + 1, aa, ae, ad => Ab9 (Ah3 (Qd a w m b f h o p n g y ab ac k q) a w m b f h o p n g y ab ac k) Ahw a w m b f h o p n g y ab ac k aa ae ad
def Aoh (a : LB) (w : LI) (m b f h o p n g y ab : Int) (ac : LX) (k : LI) : Int → Int → LX → Ar := Qd a w m b f h o p n g y ab ac k Az
def Aa7 (j21 : LB → LI → Int → Int → Int → Int → Int → Int → Int → Int → Int → Int → LX → LI → Int → Int → LX → Ar) (a u : LB) (m b f h o p n g : Int) (k : LI) (an y ab : Int) (w : LI) : Ar :=
if (Ck an 0) then
some (0, 0, 0, ([] : LX), an)
else
(Aky u).bind fun (ac, bc) =>
j21 a w m b f h o p n g y ab ac k y 0 ([] : LX)
def Kx : LB → LB → Int → Int → Int → Int → Int → Int → Int → Int → LI → Int → Int → Int → LI → Ar := Aa7 Aoh
def Aij (j20 : LB → LB → Int → Int → Int → Int → Int → Int → Int → Int → LI → Int → Int → Int → LI → Ar) (a u : LB) (v : LI) (m b f h o p n g af : Int) (k : LI) : Ar :=
j20 a u m b f h o p n g k 0 (Ae (Ae g (Be 4 (Ac v))) 4) af v
def Abw : LB → LB → LI → Int → Int → Int → Int → Int → Int → Int → Int → Int → LI → Ar := Aij Kx
def Abn (j19 : LB → LB → LI → Int → Int → Int → Int → Int → Int → Int → Int → Int → LI → Ar) (bk17 : Int → Int → Ar) (v : LI) (a u : LB) (m b f h o p n g : Int) (k : LI) (ag af : Int) : Ar :=
if (Cu ag (Ac v)) then
(getI v ag).bind fun _ =>
(getI v ag).bind fun ax =>
bk17 (Ae ag 1) (Ae af ax)
else
j19 a u v m b f h o p n g af k
def Qq (v : LI) (a u : LB) (m b f h o p n g : Int) (k : LI) : Nat → Int → Int → Ar
| 0, _, _ => none
| q + 1, ag, af => Abn Abw (Qq v a u m b f h o p n g k q) v a u m b f h o p n g k ag af
def Ah0 (v : LI) (a u : LB) (m b f h o p n g : Int) (k : LI) : Int → Int → Ar := Qq v a u m b f h o p n g k Az
def Aay (j20 : LB → LB → Int → Int → Int → Int → Int → Int → Int → Int → LI → Int → Int → Int → LI → Ar) (j17 : LI → LB → LB → Int → Int → Int → Int → Int → Int → Int → Int → LI → Int → Int → Ar) (al : Int) (a u : LB) (m b f h o p n g ah ai : Int) (v k : LI) : Ar :=
if (Ck al 0) then
j20 a u m b f h o p n g k al ah ai ([] : LI)
else
j17 v a u m b f h o p n g k 0 (Ae (Ae g (Be 4 (Ac v))) 4)
def Abf : Int → LB → LB → Int → Int → Int → Int → Int → Int → Int → Int → Int → Int → LI → LI → Ar := Aay Kx Ah0
def Ahl (j20 : LB → LB → Int → Int → Int → Int → Int → Int → Int → Int → LI → Int → Int → Int → LI → Ar) (j16 : Int → LB → LB → Int → Int → Int → Int → Int → Int → Int → Int → Int → Int → LI → LI → Ar) (a u : LB) (m b f h o p n g ah ai : Int) (k : LI) : Ar :=
if (Cu (Ac a) g) then
j20 a u m b f h o p n g k 24 ah ai ([] : LI)
else
(Bt a g (Ac a)).bind fun ay =>
(Adc ay (Ac k)).bind fun (v, al) =>
j16 al a u m b f h o p n g ah ai v k
def Wb : LB → LB → Int → Int → Int → Int → Int → Int → Int → Int → Int → Int → LI → Ar := Ahl Kx Abf
def Abl (j15 : LB → LB → Int → Int → Int → Int → Int → Int → Int → Int → Int → Int → LI → Ar) (a u : LB) (m b f h o p n g ah ai : Int) (k : LI) (ao : Int) : Ar :=
if (Ck ao 0) then
some (0, 0, 0, ([] : LX), ao)
else
j15 a u m b f h o p n g ah ai k
def Pv : LB → LB → Int → Int → Int → Int → Int → Int → Int → Int → Int → Int → LI → Int → Ar := Abl Wb
def Aec (j14 : LB → LB → Int → Int → Int → Int → Int → Int → Int → Int → Int → Int → LI → Int → Ar) (a u : LB) : Ar :=
if (Gy (Ac u) 64) then
some (0, 0, 0, ([] : LX), 2)
else
(Qw a).bind fun (m, b, f, h, o, p, n, g, ah, ai, k, ap) =>
if (Ck ap 0) then
some (0, 0, 0, ([] : LX), ap)
else
if ((u == ([] : LB)) != (geq m 1)) then
j14 a u m b f h o p n g ah ai k 26
else
if (geq m 1) then
j14 a u m b f h o p n g ah ai k 0
else
if (Cu (Ac a) g) then
j14 a u m b f h o p n g ah ai k 24
else
(Bt a n g).bind fun az =>
(Xc az u).bind fun (ba, bd) =>
if (!ba) then
j14 a u m b f h o p n g ah ai k 26
else
j14 a u m b f h o p n g ah ai k 0
def Ky : LB → LB → Ar := Aec Pv
def Aeq (a b : LB) : Option Int :=
(Ky a b).bind fun (g, h, k, m, f) =>
some f
abbrev Ys := Option (Int × Int × Int × Int × Int × Int × LI × Int)
def Apx (a : LB) (b f g h k n : Int) : Ys :=
(Oo b f g h k).bind fun (ab, p) =>
if (Ck p 0) then
some (0, 0, 0, 0, 0, 0, ([] : LI), p)
else
(Bt a n (Ac a)).bind fun ac =>
(Adc ac (Ac ab)).bind fun (u, v) =>
if (Ck v 0) then
some (0, 0, 0, 0, 0, 0, ([] : LI), v)
else
some (b, f, g, h, k, (Ae (Ae n (Be 4 (Ac u))) 4), u, 0)
def Lg : LB → Int → Int → Int → Int → Int → Int → Ys := Apx
def Qk (j2 : LB → Int → Int → Int → Int → Int → Int → Ys) (a o : LB) : Ys :=
if (Gy (Ac o) 64) then
some (0, 0, 0, 0, 0, 0, ([] : LI), 2)
else
if (Gy (Ac a) 100000) then
some (0, 0, 0, 0, 0, 0, ([] : LI), 4)
else
(Qx a).bind fun (m, w) =>
if (Ck w 0) then
some (0, 0, 0, 0, 0, 0, ([] : LI), w)
else
(Bt a m (Ac a)).bind fun ad =>
(Zs ad).bind fun (b, f, g, h, k, y) =>
if (Ck y 0) then
some (0, 0, 0, 0, 0, 0, ([] : LI), y)
else
if ((o == ([] : LB)) != (geq b 1)) then
some (0, 0, 0, 0, 0, 0, ([] : LI), 26)
else
if (o != ([] : LB)) then
if (Cu (Ac a) (Ae (Ae m 22) 8)) then
some (0, 0, 0, 0, 0, 0, ([] : LI), 24)
else
(Bt a (Ae m 22) (Ae (Ae m 22) 8)).bind fun ae =>
(Xc ae o).bind fun (af, aa) =>
if (Ck aa 0) then
some (0, 0, 0, 0, 0, 0, ([] : LI), aa)
else
if (!af) then
some (0, 0, 0, 0, 0, 0, ([] : LI), 26)
else
j2 a b f g h k (Ae (Ae m 22) 8)
else
j2 a b f g h k (Ae m 22)
def seekto_Open : LB → LB → Ys := Qk Lg
def Xe (a n : LB) (b : Int) : Option UInt8 :=
if (Gy (Ac a) 100000) then
some 0
else
(Qx a).bind fun (f, g) =>
if (Ck g 0) then
some 1
else
(Bt a f (Ac a)).bind fun h =>
(Zs h).bind fun (k, o, p, u, v, m) =>
if (Ck m 0) then
some 2
else
if (geq b 26) then
if (geq b 26) then
some 3
else
some 4
else
if ((geq k 2) && (Cu (Al (Ac a) f) 30)) then
some 3
else
some 4
abbrev Cw := Option (LI × Int)
def As4 (f : LI) : Cw :=
some (f, 0)
def Ajg : LI → Cw := As4
def Alw (bk6 : Int → Int → LI → Cw) (a : LI) (b g h : Int) (k : LI) : Cw :=
bk6 (Ae b 1) (Ae g h) k
def Adj (bk6 : Int → Int → LI → Cw) : LI → Int → Int → Int → LI → Cw := Alw bk6
def Wv (j8 : Int → Int → Int → LI → Cw) (j10 : LI → Cw) (a : LI) (b g : Int) (f : LI) : Cw :=
if (Cu b (Ac a)) then
(getI a b).bind fun h =>
(Iy f ([(Ae g h)] : LI)).bind fun k =>
j8 b g h k
else
j10 f
def Kv (a : LI) : Nat → Int → Int → LI → Cw
| 0, _, _, _ => none
| q + 1, b, g, f => Wv (Adj (Kv a q) a) Ajg a b g f
def Alm (a : LI) : Int → Int → LI → Cw := Kv a Az
def Adr (j6 : LI → Int → Int → LI → Cw) (a : LI) : Cw :=
(Aen a).bind fun m =>
if (Ck m 0) then
some (([] : LI), m)
else
j6 a 0 0 ([(0 : Int)] : LI)
def Ad6 : LI → Cw := Adr Alm
abbrev Bd := Option (LB × Int)
def Avz (g : LB) : Bd :=
some (g, 0)
def Anu : LB → Bd := Avz
def Anv (bk16 : Int → LB → Bd) (b : Int) (a : LX) (f : Int) (h : LB) : Bd :=
bk16 (Ae f 1) h
def Afn (bk16 : Int → LB → Bd) : Int → LX → Int → LB → Bd := Anv bk16
def Zb (j28 : Int → LB → Bd) (bk26 : Int → LB → Bd) (b : Int) (a : LX) (k : Int32) (f m : Int) (h : LB) : Bd :=
if (Cu m (Df b 8)) then
(Vd (Sr (Be 8 m) 0)).bind fun _ =>
(Iy h ([(Ad (Cy k (GI.toZ (Be 8 m)).toNat) : UInt8)] : LB)).bind fun p =>
bk26 (Ae m 1) p
else
j28 f h
def Hs (bk16 : Int → LB → Bd) (b : Int) (a : LX) (k : Int32) (f : Int) : Nat → Int → LB → Bd
| 0, _, _ => none
| q + 1, m, h => Zb (Afn bk16 b a) (Hs bk16 b a k f q) b a k f m h
def Aft (bk16 : Int → LB → Bd) (b : Int) (a : LX) (k : Int32) (f : Int) : Int → LB → Bd := Hs bk16 b a k f Az
def Afo (j26 : Int32 → Int → Int → LB → Bd) (b : Int) (a : LX) (f : Int) (g : LB) (k : Int32) : Bd :=
j26 k f 0 g
def Jv (bk16 : Int → LB → Bd) (b : Int) (a : LX) : Int → LB → Int32 → Bd := Afo (Aft bk16 b a) b a
def Yv (j25 : Int → LB → Int32 → Bd) (j30 : LB → Bd) (b : Int) (a : LX) (f : Int) (g : LB) : Bd :=
if (Cu f (Ac a)) then
(getI a f).bind fun n =>
if (geq b 8) then
j25 f g (Ae n 128)
else
j25 f g n
else
j30 g
def Ez (b : Int) (a : LX) : Nat → Int → LB → Bd
| 0, _, _ => none
| q + 1, f, g => Yv (Jv (Ez b a q) b a) Anu b a f g
def Ank (b : Int) (a : LX) : Int → LB → Bd := Ez b a Az
def Ahq (j16 : Int → LX → Int → LB → Bd) (b : Int) (a : LX) : Bd :=
(Ae3 b a).bind fun o =>
if (Ck o 0) then
some (([] : LB), o)
else
j16 b a 0 ([] : LB)
def width_Bytes : Int → LX → Bd := Ahq Ank
abbrev Bq := Option (LB × Int)
def Avv (a ac : Int) : Bq :=
if (Ck ac 0) then
some (([] : LB), ac)
else
if ((Cu a 0) || (Sr a 0)) then
some (([] : LB), 2)
else
none
def Anm : Int → Int → Bq := Avv
def Att (ad : Int) (ae : LB) : Bq :=
some (ae, ad)
def Adl : Int → LB → Bq := Att
def Af5 (j10 : Int → LB → Bq) (w a h b : Int) (aa : LX) (n o p k : Int) (m : LB) (u : LX) (v f g : LI) : Bq :=
if (Ck w 0) then
j10 w ([] : LB)
else
(width_Bytes b aa).bind fun (ak, al) =>
j10 al ak
def Af6 : Int → Int → Int → Int → LX → Int → Int → Int → Int → LB → LX → LI → LI → LI → Bq := Af5 Adl
def Afx (j10 : Int → LB → Bq) (j9 : Int → Int → Int → Int → LX → Int → Int → Int → Int → LB → LX → LI → LI → LI → Bq) (a k ab y : Int) (m : LB) (h b : Int) (u : LX) (n o p : Int) (g v f : LI) : Bq :=
if (Gy (Ae k y) (Ac m)) then
j10 24 ([] : LB)
else
(getI g a).bind fun _ =>
(Bt m (Ae k ab) (Ae k y)).bind fun am =>
(getI g a).bind fun an =>
(deframe_Decode h b u an am).bind fun (aa, w) =>
j9 w a h b aa n o p k m u v f g
def Afr : Int → Int → Int → Int → LB → Int → Int → LX → Int → Int → Int → LI → LI → LI → Bq := Afx Adl Af6
def Afl (j8 : Int → Int → Int → Int → LB → Int → Int → LX → Int → Int → Int → LI → LI → LI → Bq) (a : Int) (g : LI) (n h b o p k : Int) (m : LB) (u : LX) (v f : LI) : Bq :=
if (Ck (0 : Int) (0 : Int)) then
some (([] : LB), 0)
else
if ((Cu a 0) || (Sr a (Ac g))) then
some (([] : LB), 2)
else
(getI f a).bind fun _ =>
(getI f (Ae a 1)).bind fun _ =>
(getI f a).bind fun ab =>
(getI f (Ae a 1)).bind fun y =>
j8 a k ab y m h b u n o p g v f
def Ta : Int → LI → Int → Int → Int → Int → Int → Int → LB → LX → LI → LI → Bq := Afl Afr
def Afv (j6 : Int → Int → Bq) (j7 : Int → LI → Int → Int → Int → Int → Int → Int → LB → LX → LI → LI → Bq) (m af : LB) (a : Int) : Bq :=
(seekto_Open m af).bind fun (n, h, b, o, p, k, v, ag) =>
if (Ck ag 0) then
j6 a ag
else
(Oo n h b o p).bind fun (g, ah) =>
if (Ck ah 0) then
j6 a ah
else
(Ad6 v).bind fun (f, ai) =>
if (Ck ai 0) then
j6 a ai
else
(Aky af).bind fun (u, aj) =>
if (Ck aj 0) then
j6 a aj
else
(getI f (Ac g)).bind fun _ =>
(getI f (Ac g)).bind fun ao =>
j7 a g n h b o p k m u v f
def Aat : LB → LB → Int → Bq := Afv Anm Ta
abbrev Gx := Option (Int × Int)
def Ao2 (k f a b g h : Int) : Gx :=
some ((Df (Be (Be k a) b) 8), 0)
def Ahx : Int → Int → Int → Int → Int → Int → Gx := Ao2
def Abg (j6 : Int → Int → Int → Int → Int → Int → Gx) (bk4 : Int → Int → Gx) (n f a b g h : Int) (m : LI) (k o : Int) : Gx :=
if (Cu o n) then
(getI m o).bind fun _ =>
(getI m o).bind fun p =>
bk4 (Ae k p) (Ae o 1)
else
j6 k f a b g h
def Pq (n f a b g h : Int) (m : LI) : Nat → Int → Int → Gx
| 0, _, _ => none
| q + 1, k, o => Abg Ahx (Pq n f a b g h m q) n f a b g h m k o
def Ao6 (n f a b g h : Int) (m : LI) : Int → Int → Gx := Pq n f a b g h m Az
def Ai7 (j4 : Int → Int → Int → Int → Int → Int → LI → Int → Int → Gx) (f a b g h n : Int) : Gx :=
(Oo f a b g h).bind fun (m, u) =>
if ((Ck u 0) || (Gy n (Ac m))) then
some (0, 8)
else
j4 n f a b g h m 0 0
def Aeu : Int → Int → Int → Int → Int → Int → Gx := Ai7 Ao6
abbrev Eg := Option (Int × UInt8 × Int × Int × Int)
def Aax (b f g h k m n : Int) (a : LI) (w : Int) (y : UInt8) (aa : Int) : Eg :=
(Aeu f g h k m w).bind fun (ac, ad) =>
some (b, y, aa, ac, ad)
def Ve : Int → Int → Int → Int → Int → Int → Int → LI → Int → UInt8 → Int → Eg := Aax
def Wd (j8 : Int → Int → Int → Int → Int → Int → Int → LI → Int → UInt8 → Int → Eg) (bk6 : Int → Eg) (p o : LB) (a : LI) (b : Int) (u : UInt8) (f g h k m n v : Int) : Eg :=
if (Cu v (Ac a)) then
if (geq b 0) then
j8 b f g h k m n a (Ac a) u 0
else
(Aat p o v).bind fun (ag, ae) =>
if (Ck ae 0) then
j8 b f g h k m n a v 5 v
else
bk6 (Ae v 1)
else
j8 b f g h k m n a (Ac a) u 0
def Lc (p o : LB) (a : LI) (b : Int) (u : UInt8) (f g h k m n : Int) : Nat → Int → Eg
| 0, _ => none
| q + 1, v => Wd Ve (Lc p o a b u f g h k m n q) p o a b u f g h k m n v
def Ai1 (p o : LB) (a : LI) (b : Int) (u : UInt8) (f g h k m n : Int) : Int → Eg := Lc p o a b u f g h k m n Az
def Air (j6 : LB → LB → LI → Int → UInt8 → Int → Int → Int → Int → Int → Int → Int → Eg) (p o : LB) (b f g h k m n : Int) (a : LI) (u : UInt8) : Eg :=
j6 p o a b u f g h k m n 0
def Ai5 : LB → LB → Int → Int → Int → Int → Int → Int → Int → LI → UInt8 → Eg := Air Ai1
def Ai0 (j5 : LB → LB → Int → Int → Int → Int → Int → Int → Int → LI → UInt8 → Eg) (p o : LB) : Eg :=
if (Gy (Ac o) 64) then
some (0, 0, 0, 0, 2)
else
(Aeq p o).bind fun b =>
(seekto_Open p o).bind fun (f, g, h, k, m, n, a, ab) =>
if (Ck ab 0) then
(Xe p o ab).bind fun af =>
some (b, af, 0, 0, 0)
else
if (Ck b 0) then
j5 p o b f g h k m n a 6
else
j5 p o b f g h k m n a 0
def Aaf : LB → LB → Eg := Ai0 Ai5
abbrev Ct := Option (Int × Int)
def An1 (a : Int) : Ct :=
some (a, 0)
def Ac9 : Int → Ct := An1
def Mb (j6 : Int → Ct) (bk4 : Int → Int → Ct) (b : LB) (a f : Int) : Ct :=
if (Cu f 4) then
(getI b f).bind fun g =>
if (Sr g 128) then
some (0, 12)
else
(getI b f).bind fun h =>
bk4 (Ae (Be 128 a) (Ad h : Int)) (Ae f 1)
else
j6 a
def Fu (b : LB) : Nat → Int → Int → Ct
| 0, _, _ => none
| q + 1, a, f => Mb Ac9 (Fu b q) b a f
def Ty (b : LB) : Int → Int → Ct := Fu b Az
def Tt (j4 : LB → Int → Int → Ct) (b : LB) : Ct :=
if (Ck (Ac b) 4) then
some (0, 2)
else
j4 b 0 0
def Se : LB → Ct := Tt Ty
abbrev Cm := Option (Int × Int)
def Aff (a : LB) (g : Int) : Cm :=
if (Gy g 4000) then
some (0, 4)
else
if (Cu (Ac a) g) then
some (0, 24)
else
(getI a 5).bind fun h =>
if (geq h 16) then
(Bt a (Al g 10) g).bind fun k =>
(Bt a 3 10).bind fun m =>
(Iy ([51, 68, 73] : LB) m).bind fun n =>
if (k != n) then
some (0, 12)
else
some (g, 0)
else
some (g, 0)
def Nv : LB → Int → Cm := Aff
def Vl (j6 : LB → Int → Cm) (a : LB) (b : Int) : Cm :=
(getI a 5).bind fun o =>
if (geq o 16) then
j6 a (Ae (Ae 10 b) 10)
else
j6 a (Ae 10 b)
def Mt : LB → Int → Cm := Vl Nv
def Vn (j5 : LB → Int → Cm) (a : LB) : Cm :=
if (Cu (Ac a) 10) then
some (0, 24)
else
(Bt a 6 10).bind fun p =>
(Se p).bind fun (b, f) =>
(getI a 3).bind fun u =>
if (Cu u 2) then
if true then
if true then
if (true || (Ck f 0)) then
some (0, 12)
else
j5 a b
else
(getI a 5).bind fun v =>
if (Ck v 0) then
(getI a 5).bind fun w =>
if (Ck w 16) then
if (true || (Ck f 0)) then
some (0, 12)
else
j5 a b
else
(getI a 3).bind fun y =>
if ((Ck y 4) || (Ck f 0)) then
some (0, 12)
else
j5 a b
else
if (false || (Ck f 0)) then
some (0, 12)
else
j5 a b
else
(getI a 4).bind fun aa =>
if (Ck aa 0) then
if (true || (Ck f 0)) then
some (0, 12)
else
j5 a b
else
(getI a 5).bind fun ab =>
if (Ck ab 0) then
(getI a 5).bind fun ac =>
if (Ck ac 16) then
if (true || (Ck f 0)) then
some (0, 12)
else
j5 a b
else
(getI a 3).bind fun ad =>
if ((Ck ad 4) || (Ck f 0)) then
some (0, 12)
else
j5 a b
else
if (false || (Ck f 0)) then
some (0, 12)
else
j5 a b
else
(getI a 3).bind fun ae =>
if (Gy ae 4) then
if true then
if (true || (Ck f 0)) then
some (0, 12)
else
j5 a b
else
(getI a 5).bind fun af =>
if (Ck af 0) then
(getI a 5).bind fun ag =>
if (Ck ag 16) then
if (true || (Ck f 0)) then
some (0, 12)
else
j5 a b
else
(getI a 3).bind fun ah =>
if ((Ck ah 4) || (Ck f 0)) then
some (0, 12)
else
j5 a b
else
if (false || (Ck f 0)) then
some (0, 12)
else
j5 a b
else
(getI a 4).bind fun ai =>
if (Ck ai 0) then
if (true || (Ck f 0)) then
some (0, 12)
else
j5 a b
else
(getI a 5).bind fun aj =>
if (Ck aj 0) then
(getI a 5).bind fun ak =>
if (Ck ak 16) then
if (true || (Ck f 0)) then
some (0, 12)
else
j5 a b
else
(getI a 3).bind fun al =>
if ((Ck al 4) || (Ck f 0)) then
some (0, 12)
else
j5 a b
else
if (false || (Ck f 0)) then
some (0, 12)
else
j5 a b
def Vw : LB → Cm := Vn Mt
def Vy (j4 : LB → Cm) (a : LB) : Cm :=
if (Cu (Ac a) 3) then
some (0, 6)
else
(Bt a 0 3).bind fun am =>
if (am != ([73, 68, 51] : LB)) then
some (0, 6)
else
j4 a
def Vc : LB → Cm := Vy Vw
def Ahj (a : UInt64) : Option UInt64 :=
some a
def Zl : UInt64 → Option UInt64 := Ahj
def Sm (j6 : UInt64 → Option UInt64) (bk4 : UInt64 → Int → Option UInt64) (b : LB) (a : UInt64) (f : Int) : Option UInt64 :=
if (Sr f 0) then
(getI b f).bind fun g =>
bk4 (Ae (Be 256 a) (Ad g : UInt64)) (Al f 1)
else
j6 a
def Ik (b : LB) : Nat → UInt64 → Int → Option UInt64
| 0, _, _ => none
| q + 1, a, f => Sm Zl (Ik b q) b a f
def Zq (b : LB) : UInt64 → Int → Option UInt64 := Ik b Az
def Zm (j4 : LB → UInt64 → Int → Option UInt64) (b : LB) : Option UInt64 :=
j4 b 0 (Al (Ac b) 1)
def Ak : LB → Option UInt64 := Zm Zq
def Jb (b : LB) : Option (Int × Int × Bool) :=
(Bt b 12 16).bind fun g =>
(Ak g).bind fun a =>
(Bt b 16 20).bind fun h =>
(Ak h).bind fun f =>
if (((Cu a 32) || (Gy a 3032)) || (Gy f 1000)) then
some (0, 0, false)
else
some ((Al (Ad a : Int) 32), (Ad f : Int), true)
def Aal (a : LB) : Option (LB) :=
some a
def Ql : LB → Option (LB) := Aal
def Ja (j6 : LB → Option (LB)) (bk4 : UInt64 → Int → LB → Option (LB)) (b : Int) (f : UInt64) (g : Int) (a : LB) : Option (LB) :=
if (Cu g b) then
(Iy a ([(Ad (Aaq f 256) : UInt8)] : LB)).bind fun h =>
bk4 (Df f 256) (Ae g 1) h
else
j6 a
def Er (b : Int) : Nat → UInt64 → Int → LB → Option (LB)
| 0, _, _, _ => none
| q + 1, f, g, a => Ja Ql (Er b q) b f g a
def Qp (b : Int) : UInt64 → Int → LB → Option (LB) := Er b Az
def Qt (j4 : Int → UInt64 → Int → LB → Option (LB)) (k : UInt64) (b : Int) : Option (LB) :=
j4 b k 0 ([] : LB)
def Dg : UInt64 → Int → Option (LB) := Qt Qp
def Kr (a b : Int) (f : UInt64) : Option (LB) :=
(Dg 2000 4).bind fun g =>
(Iy ([(65 : UInt8), (80 : UInt8), (69 : UInt8), (84 : UInt8), (65 : UInt8), (71 : UInt8), (69 : UInt8), (88 : UInt8)] : LB) g).bind fun h =>
(Dg (Ad (Ae a 32) : UInt64) 4).bind fun k =>
(Iy h k).bind fun m =>
(Dg (Ad b : UInt64) 4).bind fun n =>
(Iy m n).bind fun o =>
(Dg f 4).bind fun p =>
(Iy o p).bind fun u =>
(mkI (8 : Int) (0 : UInt8)).bind fun v =>
(Iy u v).bind fun w =>
some w
def Nn (a b : Int) : Option (LB) :=
(Kr a b 2684354560).bind fun f =>
some f
def Dw (a b : Int) (f : Bool) : Option (LB) :=
if f then
(Kr a b 2147483648).bind fun g =>
some g
else
(Kr a b 0).bind fun h =>
some h
abbrev Dz := Option (Int × Int)
def Acp (a : LB) (b f : Int) : Dz :=
if (Cu (Ac a) (Ae 64 b)) then
some (0, 24)
else
(Bt a (Al (Ae 64 b) 32) (Ae 64 b)).bind fun g =>
(Dw b f true).bind fun h =>
if (g != h) then
some (0, 12)
else
some ((Ae 64 b), 0)
def Uh : LB → Int → Int → Dz := Acp
def Tw (j4 : LB → Int → Int → Dz) (a : LB) : Dz :=
if (Cu (Ac a) 32) then
some (0, 24)
else
(Bt a 0 32).bind fun k =>
(Jb k).bind fun (b, f, m) =>
if (!m) then
some (0, 12)
else
(Bt a 0 32).bind fun n =>
(Nn b f).bind fun o =>
if (n != o) then
some (0, 12)
else
j4 a b f
def Uj : LB → Dz := Tw Uh
def Ul (j3 : LB → Dz) (a : LB) : Dz :=
if (Cu (Ac a) 8) then
some (0, 6)
else
(Bt a 0 8).bind fun p =>
if (p != ([65, 80, 69, 84, 65, 71, 69, 88] : LB)) then
some (0, 6)
else
j3 a
def Re : LB → Dz := Ul Uj
abbrev Cd := Option (LI × Int)
def Acy (bk6 : Int → LI → Cd) (a : LB) (b : Int) (f : LI) (g h : Int) : Cd :=
if (geq h 6) then
some (f, 0)
else
if (Ck h 0) then
some (([] : LI), h)
else
if (Gy (Ae b g) 4000) then
some (([] : LI), 4)
else
(Iy f ([g] : LI)).bind fun m =>
bk6 (Ae b g) m
def Ia (bk6 : Int → LI → Cd) : LB → Int → LI → Int → Int → Cd := Acy bk6
def Lu (j9 : Int → LI → Int → Int → Cd) (a : LB) (b : Int) (f : LI) : Cd :=
(Bt a b (Ac a)).bind fun n =>
(Vc n).bind fun (o, k) =>
if (geq k 6) then
(Bt a b (Ac a)).bind fun p =>
(Re p).bind fun (u, v) =>
j9 b f u v
else
j9 b f o k
def Hw (a : LB) : Nat → Int → LI → Cd
| 0, _, _ => none
| q + 1, b, f => Lu (Ia (Hw a q) a) a b f
def Ac5 (a : LB) : Int → LI → Cd := Hw a Az
def Acw (j6 : LB → Int → LI → Cd) (a : LB) : Cd :=
j6 a 0 ([] : LI)
def Zd : LB → Cd := Acw Ac5
abbrev Cr := Option (Int × Int)
def Acq (a b : Int) : Cr :=
some (b, a)
def Tl : Int → Int → Cr := Acq
def Lp (j6 : Int → Int → Cr) (bk4 : Int → Int → Cr) (a : Int) (f : LI) (b g : Int) : Cr :=
if (Cu g (Ac f)) then
(getI f g).bind fun _ =>
(getI f g).bind fun h =>
bk4 (Ae b h) (Ae g 1)
else
j6 a b
def Fp (a : Int) (f : LI) : Nat → Int → Int → Cr
| 0, _, _ => none
| q + 1, b, g => Lp Tl (Fp a f q) a f b g
def Lq (a : Int) (f : LI) : Int → Int → Cr := Fp a f Az
def Tn (j4 : Int → LI → Int → Int → Cr) (k : LB) : Cr :=
(Zd k).bind fun (f, a) =>
j4 a f 0 0
def Ij : LB → Cr := Tn Lq
def Aew (a : UInt32) (b : Bool) : Option UInt32 :=
if b then
some (Yh (Df a 2) 3988292384)
else
some (Df a 2)
def Wj : UInt32 → Bool → Option UInt32 := Aew
def Vi (j2 : UInt32 → Bool → Option UInt32) (a : UInt32) (f : Int) : Option UInt32 :=
if (geq f 1) then
j2 a (!(geq (Aaq a 2) 1))
else
j2 a (geq (Aaq a 2) 1)
def Uu : UInt32 → Int → Option UInt32 := Vi Wj
def Aet (a : UInt32) : Option UInt32 :=
some a
def Vs : UInt32 → Option UInt32 := Aet
def Nx (j6 : UInt32 → Option UInt32) (bk4 : UInt32 → UInt8 → Int → Option UInt32) (a : UInt32) (b : UInt8) (f : Int) : Option UInt32 :=
if (Cu f 8) then
(Uu a (Ad (Aaq b 2) : Int)).bind fun g =>
bk4 g (Df b 2) (Ae f 1)
else
j6 a
def Gs : Nat → UInt32 → UInt8 → Int → Option UInt32
| 0, _, _, _ => none
| q + 1, a, b, f => Nx Vs (Gs q) a b f
def Afg : UInt32 → UInt8 → Int → Option UInt32 := Gs Az
def Ae5 (j4 : UInt32 → UInt8 → Int → Option UInt32) (h : UInt32) (k : UInt8) : Option UInt32 :=
j4 h k 0
def Ab4 : UInt32 → UInt8 → Option UInt32 := Ae5 Afg
def Abc (a : UInt32) : Option UInt32 :=
some a
def Sf : UInt32 → Option UInt32 := Abc
def Ko (j6 : UInt32 → Option UInt32) (bk4 : UInt32 → Int → Option UInt32) (b : LB) (a : UInt32) (f : Int) : Option UInt32 :=
if (Cu f (Ac b)) then
(getI b f).bind fun g =>
(Ab4 a g).bind fun h =>
bk4 h (Ae f 1)
else
j6 a
def Fb (b : LB) : Nat → UInt32 → Int → Option UInt32
| 0, _, _ => none
| q + 1, a, f => Ko Sf (Fb b q) b a f
def Rw (b : LB) : UInt32 → Int → Option UInt32 := Fb b Az
def Ra (j4 : LB → UInt32 → Int → Option UInt32) (k : UInt32) (b : LB) : Option UInt32 :=
j4 b k 0
def Xt : UInt32 → LB → Option UInt32 := Ra Rw
def Mr (a : LB) : Option UInt32 :=
(Xt 4294967295 a).bind fun b =>
some (Al 4294967295 b)
def Pd (f g b a h : Int) : Option Bool :=
if ((((geq f 1) || (geq f 2)) && (Sr g 1)) && (gle g 6)) then
some ((((((geq b 8) || (geq b 16)) || (geq b 24)) && (Sr a 1)) && (gle a 1048576)) && (Sr h 1))
else
some (((false && (Sr a 1)) && (gle a 1048576)) && (Sr h 1))
def Oa (a : Int) : Option Int :=
some (Aqs 1 (Df (Be 256 a) 245))
def Ln (a : LI) : Option (LI) :=
some a
def Hx : LI → Option (LI) := Ln
def Ft (j6 : LI → Option (LI)) (bk4 : Int → LI → Option (LI)) (b f : Int) (a : LI) : Option (LI) :=
if (Gy f 0) then
(Oa b).bind fun g =>
(Iy a ([(Gd f g)] : LI)).bind fun h =>
(Oa b).bind fun k =>
bk4 (Al f k) h
else
j6 a
def Dq (b : Int) : Nat → Int → LI → Option (LI)
| 0, _, _ => none
| q + 1, f, a => Ft Hx (Dq b q) b f a
def Tm (b : Int) : Int → LI → Option (LI) := Dq b Az
def Tq (j4 : Int → Int → LI → Option (LI)) (b m : Int) : Option (LI) :=
j4 b m ([] : LI)
def Bw : Int → Int → Option (LI) := Tq Tm
def Jh (h a k f b : Int) : Option Bool :=
(
(Vd (Ck a 0)).bind fun _ =>
(
if (Gy b (Df 4000 a)) then
some true
else
(Bw f b).bind fun g =>
some (Gy (Ac g) 1000)))
abbrev Cl := Option (Int × Int × Int × Int × Int × Int)
def Afj (k h g f b : UInt64) : Cl :=
(Pd (Ad k : Int) (Ad h : Int) (Ad g : Int) (Ad f : Int) (Ad b : Int)).bind fun v =>
if (!v) then
some (0, 0, 0, 0, 0, 12)
else
(Jh (Ad k : Int) (Ad h : Int) (Ad g : Int) (Ad f : Int) (Ad b : Int)).bind fun w =>
if w then
some (0, 0, 0, 0, 0, 4)
else
some ((Ad k : Int), (Ad h : Int), (Ad g : Int), (Ad f : Int), (Ad b : Int), 0)
def We : UInt64 → UInt64 → UInt64 → UInt64 → UInt64 → Cl := Afj
def Nq (j6 : UInt64 → UInt64 → UInt64 → UInt64 → UInt64 → Cl) (a : LB) : Cl :=
(Bt a 4 6).bind fun u =>
(Bt a 6 8).bind fun p =>
(Bt a 8 10).bind fun o =>
(Bt a 10 14).bind fun n =>
(Bt a 14 18).bind fun m =>
(
(Ak u).bind fun k =>
(
(Ak p).bind fun h =>
(
(Ak o).bind fun g =>
(
(Ak n).bind fun f =>
(
(Ak m).bind fun b =>
(
j6 k h g f b))))))
def Ws : LB → Cl := Nq We
def Vj (j5 : LB → Cl) (a : LB) : Cl :=
if (Cu (Ac a) 22) then
some (0, 0, 0, 0, 0, 24)
else
(Bt a 18 22).bind fun y =>
(Bt a 0 18).bind fun aa =>
(Ak y).bind fun ab =>
(Mr aa).bind fun ac =>
if (Ck ab (Ad ac : UInt64)) then
some (0, 0, 0, 0, 0, 22)
else
j5 a
def Wf : LB → Cl := Vj Ws
def Wo (j4 : LB → Cl) (a : LB) : Cl :=
(Bt a 0 (Gd 4 (Ac a))).bind fun ad =>
(Bt ([84, 84, 65, 49] : LB) 0 (Gd 4 (Ac a))).bind fun ae =>
if (ad != ae) then
some (0, 0, 0, 0, 0, 12)
else
j4 a
def Iz : LB → Cl := Wo Wf
def Cx (a : LB) : Option (Int × Int × Int × Int × Int × Int × Int) :=
if (Gy (Ac a) 100000) then
some (0, 0, 0, 0, 0, 0, 4)
else
(Ij a).bind fun (b, f) =>
if (Ck f 0) then
some (0, 0, 0, 0, 0, 0, f)
else
(Bt a b (Ac a)).bind fun g =>
(Iz g).bind fun (h, k, m, n, o, p) =>
some (b, h, k, m, n, o, p)
def Ae2 (a : UInt64) (b : Bool) : Option UInt64 :=
if b then
some (Yh (Be a 2) 4823603603198064275)
else
some (Be a 2)
def Oc : UInt64 → Bool → Option UInt64 := Ae2
def Vq (j2 : UInt64 → Bool → Option UInt64) (a : UInt64) (f : Int) : Option UInt64 :=
if (geq f 1) then
j2 a (!(Sr a 9223372036854775808))
else
j2 a (Sr a 9223372036854775808)
def Uw : UInt64 → Int → Option UInt64 := Vq Oc
def Afd (a : UInt64) : Option UInt64 :=
some a
def Wp : UInt64 → Option UInt64 := Afd
def Ns (j6 : UInt64 → Option UInt64) (bk4 : UInt64 → Int → Option UInt64) (b : UInt8) (a : UInt64) (f : Int) : Option UInt64 :=
if (Gy f 0) then
(Vd (Ck f 0)).bind fun _ =>
(Uw a (Kf (Df (Ad b : Int) f) 2)).bind fun g =>
bk4 g (Df f 2)
else
j6 a
def Gp (b : UInt8) : Nat → UInt64 → Int → Option UInt64
| 0, _, _ => none
| q + 1, a, f => Ns Wp (Gp b q) b a f
def Aes (b : UInt8) : UInt64 → Int → Option UInt64 := Gp b Az
def Ae4 (j4 : UInt8 → UInt64 → Int → Option UInt64) (h : UInt64) (b : UInt8) : Option UInt64 :=
j4 b h 128
def Aby : UInt64 → UInt8 → Option UInt64 := Ae4 Aes
def Abq (a : UInt64) : Option UInt64 :=
some a
def Sa : UInt64 → Option UInt64 := Abq
def Kg (j6 : UInt64 → Option UInt64) (bk4 : UInt64 → Int → Option UInt64) (b : LB) (a : UInt64) (f : Int) : Option UInt64 :=
if (Cu f (Ac b)) then
(getI b f).bind fun g =>
(Aby a g).bind fun h =>
bk4 h (Ae f 1)
else
j6 a
def Fa (b : LB) : Nat → UInt64 → Int → Option UInt64
| 0, _, _ => none
| q + 1, a, f => Kg Sa (Fa b q) b a f
def Aau (b : LB) : UInt64 → Int → Option UInt64 := Fa b Az
def Aa1 (j4 : LB → UInt64 → Int → Option UInt64) (k : UInt64) (b : LB) : Option UInt64 :=
j4 b k 0
def Pk : UInt64 → LB → Option UInt64 := Aa1 Aau
def Abm (a : LB) : Option UInt64 :=
(Pk 0 a).bind fun b =>
some b
def Ix (a : LB) : Option (LB) :=
(Abm a).bind fun b =>
(Dg b 8).bind fun f =>
some f
def Xw (f : LB) (a g m n o p : Int) (b : LB) : Option (Int × Int) :=
if ((b == ([] : LB)) != (geq g 1)) then
some (0, 26)
else
if (b == ([] : LB)) then
some (a, 0)
else
if (Cu (Ac f) (Ae a 8)) then
some (0, 24)
else
(Bt f a (Ae a 8)).bind fun h =>
(Ix b).bind fun k =>
if (h != k) then
some (0, 26)
else
some ((Ae a 8), 0)
def Aaw (b : Int) : Option Int :=
if (Gy b 100000) then
some 8
else
some 0
def Ry : Int → Option Int := Aaw
def Ada (bk6 : Int → Int → Option Int) (a : LI) (b f : Int) : Option Int :=
(getI a f).bind fun g =>
bk6 (Ae b g) (Ae f 1)
def Tu (bk6 : Int → Int → Option Int) : LI → Int → Int → Option Int := Ada bk6
def Lo (j8 : Int → Int → Option Int) (j10 : Int → Option Int) (a : LI) (b f : Int) : Option Int :=
if (Cu f (Ac a)) then
(getI a f).bind fun h =>
if (Cu h 5) then
some 8
else
(getI a f).bind fun k =>
if (Gy k 100000) then
some 8
else
j8 b f
else
j10 b
def Fj (a : LI) : Nat → Int → Int → Option Int
| 0, _, _ => none
| q + 1, b, f => Lo (Tu (Fj a q) a) Ry a b f
def Uc (a : LI) : Int → Int → Option Int := Fj a Az
def Ui (j6 : LI → Int → Int → Option Int) (a : LI) : Option Int :=
if ((Cu (Ac a) 1) || (Gy (Ac a) 1000)) then
some 8
else
j6 a 0 0
def Sg : LI → Option Int := Ui Uc
abbrev Bn := Option (LI × Int)
def Aev (f : LI) : Bn :=
(Sg f).bind fun h =>
if (Ck h 0) then
some (([] : LI), 12)
else
some (f, 0)
def Mz : LI → Bn := Aev
def Nk (j8 : LI → Bn) (bk6 : Int → LI → Bn) (b : LB) (a g : Int) (f : LI) : Bn :=
if (Cu g a) then
(Bt b (Be 4 g) (Ae (Be 4 g) 4)).bind fun k =>
(Ak k).bind fun m =>
(Iy f ([(Ad m : Int)] : LI)).bind fun n =>
bk6 (Ae g 1) n
else
j8 f
def Gg (b : LB) (a : Int) : Nat → Int → LI → Bn
| 0, _, _ => none
| q + 1, g, f => Nk Mz (Gg b a q) b a g f
def Wg (b : LB) (a : Int) : Int → LI → Bn := Gg b a Az
def Wh (j6 : LB → Int → Int → LI → Bn) (b : LB) (a : Int) : Bn :=
j6 b a 0 ([] : LI)
def Wt : LB → Int → Bn := Wh Wg
def Vg (j5 : LB → Int → Bn) (b : LB) (a : Int) : Bn :=
if ((Cu a 1) || (Gy a 1000)) then
some (([] : LI), 2)
else
if (Cu (Ac b) (Ae (Be 4 a) 4)) then
some (([] : LI), 24)
else
(Bt b (Be 4 a) (Ae (Be 4 a) 4)).bind fun o =>
(Bt b 0 (Be 4 a)).bind fun p =>
(Ak o).bind fun u =>
(Mr p).bind fun v =>
if (Ck u (Ad v : UInt64)) then
some (([] : LI), 22)
else
j5 b a
def Nt : LB → Int → Bn := Vg Wt
def Ie (a : LB) (b o p u f g : Int) : Option (LI × Int) :=
(Bt a b (Ac a)).bind fun h =>
(Bw f g).bind fun k =>
(Nt h (Ac k)).bind fun (m, n) =>
some (m, n)
def Abu (b : UInt64) (a : LB) : Option (UInt64 × Int) :=
if (Gy (Ac a) 100000) then
some (0, 4)
else
(Pk b a).bind fun f =>
some (f, 0)
def Adb (a : LB) : Option (UInt64 × Int) :=
(Abu 0 a).bind fun (b, f) =>
some (b, f)
def Aqq (a : LX) : Option (LX) :=
some a
def Agh : LX → Option (LX) := Aqq
def Aiz (bk6 : UInt64 → Int → LX → Option (LX)) (b : UInt64) (f : Int) (a : LX) (g : Int32) : Option (LX) :=
(getI a f).bind fun _ =>
(Qv a f g).bind fun h =>
bk6 (Df b 256) (Ae f 1) h
def Rt (bk6 : UInt64 → Int → LX → Option (LX)) : UInt64 → Int → LX → Int32 → Option (LX) := Aiz bk6
def Ri (j8 : UInt64 → Int → LX → Int32 → Option (LX)) (j10 : LX → Option (LX)) (b : UInt64) (f : Int) (a : LX) : Option (LX) :=
if (Cu f 8) then
if (Gy (Ad (Aaq b 256) : Int32) 127) then
j8 b f a (Al (Ad (Aaq b 256) : Int32) 256)
else
j8 b f a (Ad (Aaq b 256) : Int32)
else
j10 a
def Ge : Nat → UInt64 → Int → LX → Option (LX)
| 0, _, _, _ => none
| q + 1, b, f, a => Ri (Rt (Ge q)) Agh b f a
def Aiw : UInt64 → Int → LX → Option (LX) := Ge Az
def Aha (j6 : UInt64 → Int → LX → Option (LX)) (k : UInt64) : Option (LX) :=
j6 k 0 (List.replicate 16 (0 : Int32))
def Afq : UInt64 → Option (LX) := Aha Aiw
def Hi (a : LB) : Option (LX × Int) :=
if (Gy (Ac a) 64) then
some (([(0 : Int32), (0 : Int32), (0 : Int32), (0 : Int32), (0 : Int32), (0 : Int32), (0 : Int32), (0 : Int32), (0 : Int32), (0 : Int32), (0 : Int32), (0 : Int32), (0 : Int32), (0 : Int32), (0 : Int32), (0 : Int32)] : LX), 2)
else
(Adb a).bind fun (b, g) =>
(Afq b).bind fun f =>
some (f, 0)
def Ng (a : Int) : Option Int :=
if (geq a 8) then
some 128
else
if (geq a 16) then
some 32768
else
if (geq a 24) then
some 8388608
else
some 0
def Zn (a b : Int) : Option Int :=
if ((Cu a 1) || (Gy a 6)) then
some 2
else
(Ng b).bind fun f =>
if (geq f 0) then
some 2
else
some 0
def Rk (a f b : Int) : Option Int :=
(Zn a f).bind fun g =>
if ((Ck g 0) || (Cu b 1)) then
some 2
else
(Vd (Ck a 0)).bind fun _ =>
if (Gy b (Df 4000 a)) then
some 2
else
some 0
def Pb (b : LB) : Option (LB) :=
(Mr b).bind fun a =>
(Iy ([] : LB) b).bind fun f =>
(Iy f ([(Ad a : UInt8), (Ad (Cy a (GI.toZ (8 : UInt64)).toNat) : UInt8), (Ad (Cy a (GI.toZ (16 : UInt64)).toNat) : UInt8), (Ad (Cy a (GI.toZ (24 : UInt64)).toNat) : UInt8)] : LB)).bind fun g =>
some g
def Jw (a : LB) : Option Int :=
if (Cu (Ac a) 5) then
some 24
else
if (Gy (Ac a) 41254) then
some 4
else
(Bt a 0 (Al (Ac a) 4)).bind fun b =>
(Pb b).bind fun f =>
if (f != a) then
some 22
else
some 0
def Io : Option (Int × Int × UInt64 × UInt64) :=
some (10, 10, 16384, 16384)
def An5 (a : UInt64) : Option UInt64 :=
some a
def Acx : UInt64 → Option UInt64 := An5
def Ly (j6 : UInt64 → Option UInt64) (bk4 : UInt64 → Int → Option UInt64) (b : Int) (a : UInt64) (f : Int) : Option UInt64 :=
if (Cu f b) then
bk4 (Be a 2) (Ae f 1)
else
j6 a
def Fo (b : Int) : Nat → UInt64 → Int → Option UInt64
| 0, _, _ => none
| q + 1, a, f => Ly Acx (Fo b q) b a f
def Ac0 (b : Int) : UInt64 → Int → Option UInt64 := Fo b Az
def Acj (j4 : Int → UInt64 → Int → Option UInt64) (b : Int) : Option UInt64 :=
j4 b 1 0
def Ec : Int → Option UInt64 := Acj Ac0
def Qo (a g : Int) (h k : UInt64) (b : UInt32) : Option Bool :=
(Ec a).bind fun f =>
some (Cu (Ad b : UInt64) f)
def Di (a g : Int) (h k : UInt64) (b : UInt32) : Option UInt32 :=
(Ec a).bind fun f =>
some (Ad (Al (Ad b : UInt64) f) : UInt32)
abbrev Kb := Option (Int × UInt64)
def Aey (b : Int) (a f : UInt64) : Kb :=
if (Cu b 24) then
(Ec (Ae b 5)).bind fun g =>
if (Gy (Al (Ae a f) (Df a 16)) g) then
some ((Ae b 1), (Al (Ae a f) (Df a 16)))
else
some (b, (Al (Ae a f) (Df a 16)))
else
some (b, (Al (Ae a f) (Df a 16)))
def Nr : Int → UInt64 → UInt64 → Kb := Aey
def Wa (j2 : Int → UInt64 → UInt64 → Kb) (b : Int) (a f : UInt64) : Kb :=
if (Gy b 0) then
(Ec (Ae b 4)).bind fun h =>
if (Cu (Al (Ae a f) (Df a 16)) h) then
some ((Al b 1), (Al (Ae a f) (Df a 16)))
else
j2 b a f
else
j2 b a f
def Cv : Int → UInt64 → UInt64 → Kb := Wa Nr
abbrev Ic := Option (Int × Int × UInt64 × UInt64)
def Aa0 (h : UInt32) (f a : Int) (g b : UInt64) (o : Int) (p : UInt64) : Ic :=
(Cv f g (Ad h : UInt64)).bind fun (v, w) =>
some (v, o, w, p)
def Kk : UInt32 → Int → Int → UInt64 → UInt64 → Int → UInt64 → Ic := Aa0
def Kj (j2 : UInt32 → Int → Int → UInt64 → UInt64 → Int → UInt64 → Ic) (f a : Int) (g b : UInt64) (h : UInt32) : Ic :=
(Qo f a g b h).bind fun u =>
if (!u) then
(
(
(Di f a g b h).bind fun k =>
(Cv a b (Ad k : UInt64)).bind fun (m, n) =>
j2 h f a g b m n))
else
j2 h f a g b a b
def Pf : Int → Int → UInt64 → UInt64 → UInt32 → Ic := Kj Kk
abbrev Ch := Option (Int × Int × UInt64 × UInt64)
def Amh (a b : Int) (f g : UInt64) : Ch :=
some (a, b, f, g)
def Aa4 : Int → Int → UInt64 → UInt64 → Ch := Amh
def Rl (j6 : Int → Int → UInt64 → UInt64 → Ch) (bk4 : Int → Int → Int → UInt64 → UInt64 → Ch) (h : Int) (k : LU) (m a b : Int) (f g : UInt64) : Ch :=
if (Cu m (Ac k)) then
(getI k m).bind fun n =>
(Pf a b f g n).bind fun (o, p, u, v) =>
bk4 (Ae m h) o p u v
else
j6 a b f g
def He (h : Int) (k : LU) : Nat → Int → Int → Int → UInt64 → UInt64 → Ch
| 0, _, _, _, _, _ => none
| q + 1, m, a, b, f, g => Rl Aa4 (He h k q) h k m a b f g
def Aa6 (h : Int) (k : LU) : Int → Int → Int → UInt64 → UInt64 → Ch := He h k Az
def Sj (j4 : Int → LU → Int → Int → Int → UInt64 → UInt64 → Ch) (h : Int) (k : LU) : Ch :=
(Io).bind fun (w, y, aa, ab) =>
(Vd (Ck h 0)).bind fun _ =>
j4 h k (Kf (Ac k) h) w y aa ab
def Ka : Int → LU → Ch := Sj Aa6
def Aip (a : Int) : Option Int :=
some (Kf a 2)
def Zj : Int → Option Int := Aip
def Sk (j6 : Int → Option Int) (bk4 : Int → Int → Option Int) (b a f : Int) : Option Int :=
if (Cu f (Kf b 8)) then
bk4 (Df a 2) (Ae f 1)
else
j6 a
def Im (b : Int) : Nat → Int → Int → Option Int
| 0, _, _ => none
| q + 1, a, f => Sk Zj (Im b q) b a f
def Zh (b : Int) : Int → Int → Option Int := Im b Az
def Zp (j4 : Int → Int → Int → Option Int) (g : LB) (k b : Int) : Option Int :=
(getI g (Df b 8)).bind fun h =>
j4 b (Ad h : Int) 0
def Hr : LB → Int → Int → Option Int := Zp Zh
abbrev By := Option (LB × Int)
def Agd (b g a : Int) (f : LB) : By :=
(getI f (Df a 8)).bind fun _ =>
(getI f (Df a 8)).bind fun m =>
(getI f (Df a 8)).bind fun _ =>
(Qv f (Df a 8) (Ae m (Ad (Be b g) : UInt8))).bind fun n =>
some (n, (Ae a 1))
def Ph : Int → Int → Int → LB → By := Agd
def Pm (j8 : Int → Int → Int → LB → By) (bk6 : Int → Int → By) (b a : Int) (f : LB) (g h : Int) : By :=
if (Cu h (Kf a 8)) then
bk6 (Be g 2) (Ae h 1)
else
j8 b g a f
def Hl (b a : Int) (f : LB) : Nat → Int → Int → By
| 0, _, _ => none
| q + 1, g, h => Pm Ph (Hl b a f q) b a f g h
def Yc (b a : Int) (f : LB) : Int → Int → By := Hl b a f Az
def Yb (j6 : Int → Int → LB → Int → Int → By) (b a : Int) (f : LB) : By :=
j6 b a f 1 0
def Oz : Int → Int → LB → By := Yb Yc
def Xl (j5 : Int → Int → LB → By) (k : LB) (a b : Int) : By :=
if (geq (Kf a 8) 0) then
(Iy k ([(0 : UInt8)] : LB)).bind fun o =>
j5 b a o
else
j5 b a k
def Qu : LB → Int → Int → By := Xl Oz
abbrev Bz := Option (LB × Int)
def Aly (a : Int) (b : LB) : Bz :=
some (b, a)
def Aac : Int → LB → Bz := Aly
def Jd (j6 : Int → LB → Bz) (bk4 : Int → Int → LB → Bz) (f : Int) (g : LB) (h k a : Int) (b : LB) : Bz :=
if (Cu k f) then
(Hr g h k).bind fun m =>
(Qu b a m).bind fun (n, o) =>
bk4 (Ae k 1) o n
else
j6 a b
def Ep (f : Int) (g : LB) (h : Int) : Nat → Int → Int → LB → Bz
| 0, _, _, _ => none
| q + 1, k, a, b => Jd Aac (Ep f g h q) f g h k a b
def Aae (f : Int) (g : LB) (h : Int) : Int → Int → LB → Bz := Ep f g h Az
def Zy (j4 : Int → LB → Int → Int → Int → LB → Bz) (g : LB) (h p f : Int) : Bz :=
j4 f g h p 0 ([] : LB)
def Vz : LB → Int → Int → Int → Bz := Zy Aae
def An3 (a : UInt64) : Option UInt64 :=
some a
def Acm : UInt64 → Option UInt64 := An3
def Lt (j6 : UInt64 → Option UInt64) (bk4 : UInt64 → Int → Option UInt64) (b : Int) (f : LB) (g : Int) (a : UInt64) (h : Int) : Option UInt64 :=
if (Sr h 0) then
(Hr f g (Ae b h)).bind fun k =>
bk4 (Ae (Be 2 a) (Ad k : UInt64)) (Al h 1)
else
j6 a
def Fl (b : Int) (f : LB) (g : Int) : Nat → UInt64 → Int → Option UInt64
| 0, _, _ => none
| q + 1, a, h => Lt Acm (Fl b f g q) b f g a h
def Ub (b : Int) (f : LB) (g : Int) : UInt64 → Int → Option UInt64 := Fl b f g Az
def Tk (j4 : Int → LB → Int → UInt64 → Int → Option UInt64) (f : LB) (g b m : Int) : Option UInt64 :=
j4 b f g 0 (Al m 1)
def Kw : LB → Int → Int → Int → Option UInt64 := Tk Ub
abbrev Dl := Option (Int × Int)
def Age (b a : Int) (g : LB) (f : Int) : Dl :=
if (geq a 48) then
some (a, (Ae b a))
else
if (Sr (Ae b a) f) then
some ((-1 : Int), 0)
else
some (a, (Ae (Ae b a) 1))
def Pj : Int → Int → LB → Int → Dl := Age
def Pp (j6 : Int → Int → LB → Int → Dl) (bk4 : Int → Dl) (b : Int) (g : LB) (f a : Int) : Dl :=
if ((Cu (Ae b a) f) && (Cu a 48)) then
(Hr g f (Ae b a)).bind fun h =>
if (geq h 1) then
bk4 (Ae a 1)
else
j6 b a g f
else
j6 b a g f
def Hn (b : Int) (g : LB) (f : Int) : Nat → Int → Dl
| 0, _ => none
| q + 1, a => Pp Pj (Hn b g f q) b g f a
def Agl (b : Int) (g : LB) (f : Int) : Int → Dl := Hn b g f Az
def Agm (j4 : Int → LB → Int → Int → Dl) (g : LB) (f b : Int) : Dl :=
j4 b g f 0
def Adz : LB → Int → Int → Dl := Agm Agl
def Va (b : UInt32) (f : Int) : Option Int :=
(Ec f).bind fun a =>
(Vd (Ck a 0)).bind fun _ =>
some (Ad (Gd 48 (Df (Ad b : UInt64) a)) : Int)
abbrev Ld := Option (UInt32 × Int × Int)
def Xp (g a b : Int) (h : LB) (f k : Int) : Ld :=
if ((Cu a 0) || (Cu (Al f b) k)) then
some (0, 0, 24)
else
(Kw h f b k).bind fun m =>
if (Cu a 48) then
(Ec g).bind fun o =>
some ((Ad (Ae (Be (Ad a : UInt64) o) m) : UInt32), (Ae b k), 0)
else
(Va (Ad m : UInt32) g).bind fun p =>
if (Cu p a) then
some (0, 0, 12)
else
some ((Ad m : UInt32), (Ae b k), 0)
def Oy : Int → Int → Int → LB → Int → Int → Ld := Xp
def Xy (j2 : Int → Int → Int → LB → Int → Int → Ld) (h : LB) (f n g : Int) : Ld :=
if (Sr n f) then
some (0, 0, 24)
else
(Adz h f n).bind fun (a, b) =>
if (geq a 48) then
j2 g a b h f 32
else
j2 g a b h f g
def Xb : LB → Int → Int → Int → Ld := Xy Oy
def Wz (g : LB) (b a f n : Int) (v w : UInt64) : Option (UInt32 × Int × Int) :=
if (Sr a b) then
some (0, 0, 24)
else
(Hr g b a).bind fun o =>
if (geq o 0) then
if (Cu (Al (Al b a) 1) f) then
some (0, 0, 24)
else
(Kw g b (Ae a 1) f).bind fun p =>
some ((Ad p : UInt32), (Ae (Ae a 1) f), 0)
else
(Xb g b (Ae a 1) n).bind fun (h, u, k) =>
if (Ck k 0) then
some (0, 0, k)
else
(Ec f).bind fun m =>
if (Gy (Ae (Ad h : UInt64) m) 4294967295) then
some (0, 0, 12)
else
some ((Ad (Ae (Ad h : UInt64) m) : UInt32), u, 0)
abbrev Ap := Option (LU × Int)
def Anz (b : LU) : Ap :=
some (b, 0)
def Ack : LU → Ap := Anz
def Mc (j18 : LU → Ap) (bk16 : Int → Ap) (a : LB) (b : LU) (m : Int) : Ap :=
if (Cu m (Be 8 (Ac a))) then
(Hr a (Be 8 (Ac a)) m).bind fun n =>
if (Ck n 0) then
some (b, 12)
else
bk16 (Ae m 1)
else
j18 b
def Fs (a : LB) (b : LU) : Nat → Int → Ap
| 0, _ => none
| q + 1, m => Mc Ack (Fs a b q) a b m
def Tz (a : LB) (b : LU) : Int → Ap := Fs a b Az
def Tp (j16 : LB → LU → Int → Ap) (f : Int) (a : LB) (b : LU) : Ap :=
if (Gy (Al (Be 8 (Ac a)) f) 7) then
some (b, 12)
else
j16 a b f
def Me : Int → LB → LU → Ap := Tp Tz
def Acz (bk10 : Int → Int → LU → Ap) (g h : Int) (a : LB) (f k : Int) (b : LU) (o p : Int) (u v : UInt64) : Ap :=
(Vz a (Be 8 (Ac a)) f (Gd (Ae f 81) (Be 8 (Ac a)))).bind fun (y, aa) =>
(Wz y aa 0 o p u v).bind fun (ab, ac, w) =>
if (Ck w 0) then
some (b, w)
else
(Iy b ([ab] : LU)).bind fun ad =>
bk10 (Ae f ac) (Ae k 1) ad
def Fq (bk10 : Int → Int → LU → Ap) : Int → Int → LB → Int → Int → LU → Int → Int → UInt64 → UInt64 → Ap := Acz bk10
def Tj (j13 : Int → Int → LU → Int → Int → UInt64 → UInt64 → Ap) (j15 : Int → LB → LU → Ap) (g h : Int) (a : LB) (f k : Int) (b : LU) : Ap :=
if (Cu k (Be h g)) then
(Io).bind fun (n, ae, af, ag) =>
if (Sr k g) then
(Ka g b).bind fun (ah, ai, aj, ak) =>
j13 f k b ah ai aj ak
else
j13 f k b n ae af ag
else
j15 f a b
def Dr (g h : Int) (a : LB) : Nat → Int → Int → LU → Ap
| 0, _, _, _ => none
| q + 1, f, k, b => Tj (Fq (Dr g h a q) g h a) Me g h a f k b
def Aci (g h : Int) (a : LB) : Int → Int → LU → Ap := Dr g h a Az
def Vv (j10 : Int → Int → LB → Int → Int → LU → Ap) (g h : Int) (a : LB) : Ap :=
j10 g h a 0 0 ([] : LU)
def Uv : Int → Int → LB → Ap := Vv Aci
def Aif (a : Int) : Option (Int × Int) :=
if (geq a 8) then
some (4, 0)
else
if ((geq a 16) || (geq a 24)) then
some (5, 0)
else
some (0, 2)
def Alz (a : Int) (b : LX) : Option (Int × LX × LX × Int) :=
(Aif a).bind fun (g, f) =>
if (Ck f 0) then
some (0, (List.replicate 16 (0 : Int32)), (List.replicate 16 (0 : Int32)), 2)
else
if (geq a 16) then
some (9, b, (List.replicate 16 (0 : Int32)), 0)
else
some (10, b, (List.replicate 16 (0 : Int32)), 0)
def Adu (a : Int) (b : LX) : Option (Int × Int32 × Int × LX × LX × Int) :=
(Alz a b).bind fun (f, g, h, k) =>
if (Ck k 0) then
some (0, 0, 0, (List.replicate 16 (0 : Int32)), (List.replicate 16 (0 : Int32)), 2)
else
some (a, 0, f, g, h, 0)
def Jl (a : UInt32) : Option Int32 :=
if (geq (Aaq a 2) 0) then
some (Ad (Df a 2) : Int32)
else
some (Ad (Df (Asi (Ae (Ad a : Int) 1)) 2) : Int32)
def Bu (a : Int) : Option Int32 :=
some (Ad (Ad (Ad a : UInt64) : UInt32) : Int32)
def Agb (a : Int) : Option Int32 :=
some (Ad a : Int32)
def Xu : Int → Option Int32 := Agb
def Pa (j6 : Int → Option Int32) (bk4 : Int → Int → Option Int32) (h : Int) (f g : LX) (a b : Int) : Option Int32 :=
if (Cu b 16) then
(getI f b).bind fun _ =>
(getI g b).bind fun _ =>
(getI f b).bind fun k =>
(getI g b).bind fun m =>
(Bu (Be (Ad k : Int) (Ad m : Int))).bind fun n =>
(Bu (Ae a (Ad n : Int))).bind fun o =>
bk4 (Ad o : Int) (Ae b 1)
else
j6 a
def Ho (h : Int) (f g : LX) : Nat → Int → Int → Option Int32
| 0, _, _ => none
| q + 1, a, b => Pa Xu (Ho h f g q) h f g a b
def Agk (h : Int) (f g : LX) : Int → Int → Option Int32 := Ho h f g Az
def Agi (j4 : Int → LX → LX → Int → Int → Option Int32) (h : Int) (f g : LX) : Option Int32 :=
j4 h f g 0 0
def Ad1 : Int → LX → LX → Option Int32 := Agi Agk
def Ae1 (b : Int) (f g : LX) (a : Int) : Option Int32 :=
(Ad1 b f g).bind fun k =>
(Bu (Ae (Ad k : Int) (Df a 2))).bind fun h =>
(Vd (Ck a 0)).bind fun _ =>
(Vd (Ck a 0)).bind fun _ =>
if (Cu (Kf (Ad h : Int) a) 0) then
some (Ad (Al (Df (Ad h : Int) a) 1) : Int32)
else
some (Ad (Df (Ad h : Int) a) : Int32)
def Nb : Int → LX → LX → Int → Option Int32 := Ae1
def Vt (j2 : Int → LX → LX → Int → Option Int32) (b : Int) (f g : LX) : Option Int32 :=
if (geq b 9) then
j2 b f g 512
else
j2 b f g 1024
def Us : Int → LX → LX → Option Int32 := Vt Nb
def Uz (a : Int) : Option Int32 :=
if (geq a 0) then
some 4
else
if (gle a 3) then
some 2
else
some 1
def Nu (a : Int32) : Option Int32 :=
if (Cu a 0) then
some (-1 : Int32)
else
if (Gy a 0) then
some 1
else
some 0
abbrev Ca := Option (Int × LX × LX)
def Ak1 (g : Int) (b a : LX) : Ca :=
some (g, b, a)
def Zw : Int → LX → LX → Ca := Ak1
def Jk (j6 : Int → LX → LX → Ca) (bk4 : Int → LX → Ca) (h : Int32) (g : Int) (a : LX) (f : Int) (b : LX) : Ca :=
if (Cu f 16) then
(getI b f).bind fun _ =>
(getI a f).bind fun _ =>
(getI b f).bind fun k =>
(getI a f).bind fun m =>
(Uz f).bind fun n =>
(Nu m).bind fun o =>
(Nu h).bind fun p =>
(getI b f).bind fun _ =>
(Qv b f (Ae k (Be (Be n o) p))).bind fun u =>
bk4 (Ae f 1) u
else
j6 g b a
def En (h : Int32) (g : Int) (a : LX) : Nat → Int → LX → Ca
| 0, _, _ => none
| q + 1, f, b => Jk Zw (En h g a q) h g a f b
def Aab (h : Int32) (g : Int) (a : LX) : Int → LX → Ca := En h g a Az
def Aaa (j4 : Int32 → Int → LX → Int → LX → Ca) (g : Int) (v a : LX) (h : Int32) : Ca :=
j4 h g a 0 v
def Wn : Int → LX → LX → Int32 → Ca := Aaa Aab
abbrev Cg := Option (Int × LX × LX)
def Aa2 (b : Int32) (f : Int) (g a : LX) : Cg :=
(getI a 0).bind fun _ =>
(Qv a 0 b).bind fun k =>
some (f, g, k)
def Rg : Int32 → Int → LX → LX → Cg := Aa2
def Kq (j6 : Int32 → Int → LX → LX → Cg) (bk4 : Int → LX → Cg) (b : Int32) (f : Int) (g : LX) (h : Int) (a : LX) : Cg :=
if (Gy h 0) then
(getI a (Al h 1)).bind fun _ =>
(getI a (Al h 1)).bind fun m =>
(getI a h).bind fun _ =>
(Qv a h m).bind fun n =>
bk4 (Al h 1) n
else
j6 b f g a
def Fc (b : Int32) (f : Int) (g : LX) : Nat → Int → LX → Cg
| 0, _, _ => none
| q + 1, h, a => Kq Rg (Fc b f g q) b f g h a
def Acb (b : Int32) (f : Int) (g : LX) : Int → LX → Cg := Fc b f g Az
def Abt (j4 : Int32 → Int → LX → Int → LX → Cg) (f : Int) (g o : LX) (b : Int32) : Cg :=
j4 b f g 15 o
def Ya : Int → LX → LX → Int32 → Cg := Abt Acb
def Np (a : Int) (b f : LX) (g : Int32) : Option (Int32 × Int × LX × LX) :=
(Us a b f).bind fun k =>
(Bu (Ae (Ad g : Int) (Ad k : Int))).bind fun h =>
(Wn a b f g).bind fun (m, n, o) =>
(Ya m n o h).bind fun (p, u, v) =>
some (h, p, u, v)
def Ab8 (b : Int32) (a : Int) : Option Int32 :=
(Vd (Ck a 0)).bind fun _ =>
(Vd (Ck a 0)).bind fun _ =>
if (Cu (Kf (Be (Al a 1) (Ad b : Int)) a) 0) then
some (Ad (Al (Df (Be (Al a 1) (Ad b : Int)) a) 1) : Int32)
else
some (Ad (Df (Be (Al a 1) (Ad b : Int)) a) : Int32)
def Kl : Int32 → Int → Option Int32 := Ab8
def Rh (j2 : Int32 → Int → Option Int32) (f : Int) (b : Int32) : Option Int32 :=
if (geq f 5) then
j2 b 32
else
j2 b 16
def Ke : Int → Int32 → Option Int32 := Rh Kl
def Pg (b : Int) (a : Int32) (h : Int) (k m : LX) : Option Int :=
if (geq b 8) then
(Ke 4 a).bind fun f =>
some (Ad f : Int)
else
(Ke 5 a).bind fun g =>
some (Ad g : Int)
def Gn (a : Int) (k : Int32) (b : Int) (f g : LX) (m : Int32) : Option (Int32 × Int × Int32 × Int × LX × LX) :=
(Np b f g m).bind fun (n, o, p, u) =>
(Pg a k b f g).bind fun v =>
(Bu (Ae (Ad n : Int) v)).bind fun h =>
some (h, a, h, o, p, u)
def Lm (a : Int) (b : LX) : Option Int :=
if ((Cu a 1) || (Gy a 6)) then
some 2
else
if (Gy (Ac b) 4000) then
some 4
else
(Vd (Ck a 0)).bind fun _ =>
if (Gy (Kf (Ac b) a) 0) then
some 2
else
some 0
def Ak5 (b : LX) : Option (LX) :=
some b
def Aai : LX → Option (LX) := Ak5
def Jg (j8 : LX → Option (LX)) (bk6 : Int → LX → Option (LX)) (a : LX) (f : Int) (b : LX) : Option (LX) :=
if (Sr f 0) then
(getI b (Ae f 1)).bind fun _ =>
(getI a f).bind fun m =>
(getI b (Ae f 1)).bind fun n =>
(Bu (Al (Ad n : Int) (Ad m : Int))).bind fun o =>
(getI b f).bind fun _ =>
(Qv b f o).bind fun p =>
bk6 (Al f 1) p
else
j8 b
def Es (a : LX) : Nat → Int → LX → Option (LX)
| 0, _, _ => none
| q + 1, f, b => Jg Aai (Es a q) a f b
def Zt (a : LX) : Int → LX → Option (LX) := Es a Az
def Pz (j6 : LX → Int → LX → Option (LX)) (a g : LX) : Option (LX) :=
j6 a (Al (Ac a) 2) g
def Jn : LX → LX → Option (LX) := Pz Zt
def Qg (j5 : LX → LX → Option (LX)) (a : LX) : Option (LX) :=
(mkI (Ac a) (0 : Int32)).bind fun k =>
(Vd (geq (Ac a) (Ac a))).bind fun _ =>
(getI a (Al (Ac a) 1)).bind fun u =>
(getI k (Al (Ac a) 1)).bind fun _ =>
(Qv k (Al (Ac a) 1) u).bind fun h =>
if (Gy (Ac a) 1) then
(getI a (Al (Ac a) 1)).bind fun v =>
(getI a (Al (Ac a) 2)).bind fun w =>
(Bu (Ae (Ad v : Int) (Df (Ad w : Int) 2))).bind fun y =>
(getI h (Al (Ac a) 1)).bind fun _ =>
(Qv h (Al (Ac a) 1) y).bind fun aa =>
j5 a aa
else
j5 a h
def Nz : LX → Option (LX) := Qg Jn
abbrev Cz := Option (LX × Int)
def Aow (f : LX) : Cz :=
some (f, 0)
def Aeh : LX → Cz := Aow
def Wi (j6 : LX → Cz) (bk4 : Int → LX → Cz) (a : Int) (b : LX) (g : Int) (f : LX) : Cz :=
if (Cu g (Ac b)) then
(Bt b g (Ae g a)).bind fun h =>
(Nz h).bind fun k =>
(Iy f k).bind fun m =>
bk4 (Ae g a) m
else
j6 f
def Iw (a : Int) (b : LX) : Nat → Int → LX → Cz
| 0, _, _ => none
| q + 1, g, f => Wi Aeh (Iw a b q) a b g f
def Ael (a : Int) (b : LX) : Int → LX → Cz := Iw a b Az
def Wl (j4 : Int → LX → Int → LX → Cz) (a : Int) (b : LX) : Cz :=
(Lm a b).bind fun n =>
if (Ck n 0) then
(Lm a b).bind fun o =>
some (([] : LX), o)
else
j4 a b 0 ([] : LX)
def Ux : Int → LX → Cz := Wl Ael
def Aam (a f : Int) (w : LX) : Option (LX) :=
(Ux a w).bind fun (aj, ai) =>
some aj
def Ji : Int → Int → LX → Option (LX) := Aam
def Aag (bk18 : Int → LX → Option (LX)) (b : LU) (a f : Int) (g : LX) (h : Int) (m : LX) : Option (LX) :=
bk18 (Ae h 1) m
def Qc (bk18 : Int → LX → Option (LX)) : LU → Int → Int → LX → Int → LX → Option (LX) := Aag bk18
def Zv (bk26 : Int → LX → Int → Int32 → Int → LX → LX → Option (LX)) (b : LU) (h a f : Int) (g : LX) (k : Int) (af : LX) (y : Int) (aa : Int32) (ab : Int) (ac ad : LX) : Option (LX) :=
bk26 (Ae k a) af y aa ab ac ad
def Qb (bk26 : Int → LX → Int → Int32 → Int → LX → LX → Option (LX)) : LU → Int → Int → Int → LX → Int → LX → Int → Int32 → Int → LX → LX → Option (LX) := Zv bk26
def Qn (j30 : Int → LX → Int → Int32 → Int → LX → LX → Option (LX)) (b : LU) (h a f : Int) (g : LX) (k : Int) (ae : Int32) (m : LX) (n : Int) (o : Int32) (p : Int) (u v : LX) (y : Int) (aa : Int32) (ab : Int) (ac ad : LX) : Option (LX) :=
(getI m k).bind fun _ =>
(Qv m k ae).bind fun af =>
j30 k af y aa ab ac ad
def Qi (bk26 : Int → LX → Int → Int32 → Int → LX → LX → Option (LX)) (b : LU) (h a f : Int) (g : LX) : Int → Int32 → LX → Int → Int32 → Int → LX → LX → Int → Int32 → Int → LX → LX → Option (LX) := Qn (Qb bk26 b h a f g) b h a f g
def Je (j29 : Int → Int32 → LX → Int → Int32 → Int → LX → LX → Int → Int32 → Int → LX → LX → Option (LX)) (j32 : Int → LX → Option (LX)) (b : LU) (a f : Int) (g : LX) (h k : Int) (m : LX) (n : Int) (o : Int32) (p : Int) (u v : LX) : Option (LX) :=
if (Cu k (Ac b)) then
(getI b k).bind fun ah =>
(
(Jl ah).bind fun ag =>
(
(Gn n o p u v ag).bind fun (ae, y, aa, ab, ac, ad) =>
j29 k ae m n o p u v y aa ab ac ad))
else
j32 h m
def Gm (bk18 : Int → LX → Option (LX)) (b : LU) (a f : Int) (g : LX) (h : Int) : Nat → Int → LX → Int → Int32 → Int → LX → LX → Option (LX)
| 0, _, _, _, _, _, _, _ => none
| q + 1, k, m, n, o, p, u, v => Je (Qi (Gm bk18 b a f g h q) b h a f g) (Qc bk18 b a f g) b a f g h k m n o p u v
def Pr (bk18 : Int → LX → Option (LX)) (b : LU) (a f : Int) (g : LX) (h : Int) : Int → LX → Int → Int32 → Int → LX → LX → Option (LX) := Gm bk18 b a f g h Az
def Jf (j26 : Int → Int → LX → Int → Int32 → Int → LX → LX → Option (LX)) (j34 : Int → Int → LX → Option (LX)) (b : LU) (a f : Int) (g : LX) (h : Int) (w : LX) : Option (LX) :=
if (Cu h a) then
(Adu f g).bind fun (ak, ai, al, am, an, ap) =>
j26 h h w ak ai al am an
else
j34 a f w
def Du (b : LU) (a f : Int) (g : LX) : Nat → Int → LX → Option (LX)
| 0, _, _ => none
| q + 1, h, w => Jf (Pr (Du b a f g q) b a f g) Ji b a f g h w
def Px (b : LU) (a f : Int) (g : LX) : Int → LX → Option (LX) := Du b a f g Az
def Ro (j18 : LU → Int → Int → LX → Int → LX → Option (LX)) (a f : Int) (g : LX) (b : LU) : Option (LX) :=
(mkI (Ac b) (0 : Int32)).bind fun ao =>
(Vd (geq (Ac b) (Ac b))).bind fun _ =>
j18 b a f g 0 ao
def Db : Int → Int → LX → LU → Option (LX) := Ro Px
def An0 : Option Int :=
some 0
def Ac4 : Option Int := An0
def Ei (j6 : Option Int) (bk4 : Int → Option Int) (a : LX) (b f : Int) : Option Int :=
if (Cu f (Ac a)) then
(getI a f).bind fun g =>
if (Cu (Ad g : Int) (Asi b)) then
some 16
else
(getI a f).bind fun h =>
if (Sr (Ad h : Int) b) then
some 16
else
bk4 (Ae f 1)
else
j6
def Br (a : LX) (b : Int) : Nat → Int → Option Int
| 0, _ => none
| q + 1, f => Ei Ac4 (Br a b q) a b f
def Acu (a : LX) (b : Int) : Int → Option Int := Br a b Az
def Hz (j4 : LX → Int → Int → Option Int) (k : Int) (a : LX) : Option Int :=
(Ng k).bind fun b =>
if (geq b 0) then
some 2
else
if (Gy (Ac a) 4000) then
some 4
else
j4 a b 0
def cadenzaref18_Check : Int → LX → Option Int := Hz Acu
def Dt (g f : Int) (a : LX) : Option (LX × Int) :=
(cadenzaref18_Check f a).bind fun b =>
if (Ck b 0) then
some (([] : LX), b)
else
some (a, 0)
abbrev Ib := Option (LX × Int)
def Hg (n a b : Int) (f : LX) (g : LU) : Ib :=
if (Ck n 0) then
some (([] : LX), n)
else
(
(
(Db a b f g).bind fun h =>
(Dt a b h).bind fun (k, m) =>
some (k, m)))
def Kn : Int → Int → Int → LX → LU → Ib := Hg
def Rc (j2 : Int → Int → Int → LX → LU → Ib) (a b : Int) (f : LX) (p : Int) (o : LB) : Ib :=
(Rk a b p).bind fun u =>
if (Ck u 0) then
some (([] : LX), 2)
else
(Jw o).bind fun v =>
if (Ck v 0) then
(Jw o).bind fun w =>
some (([] : LX), w)
else
(Bt o 0 (Al (Ac o) 4)).bind fun y =>
(Uv a p y).bind fun (g, n) =>
j2 n a b f g
def cadenzaref21_Decode : Int → Int → LX → Int → LB → Ib := Rc Kn
abbrev Cn := Option (Int × Int)
def Vp (a : LB) (f g : Int) (b h : LB) (k : Int) : Cn :=
if (Cu (Ac a) k) then
some (0, 24)
else
if (b == h) then
(Bt a (Al (Ac a) k) (Ae (Al (Ac a) k) 32)).bind fun o =>
(Nn f g).bind fun p =>
if (o != p) then
some (0, 12)
else
some (k, 0)
else
some (k, 0)
def Mv : LB → Int → Int → LB → LB → Int → Cn := Vp
def Ni (j6 : LB → Int → Int → LB → LB → Int → Cn) (a : LB) (f g : Int) (b h : LB) : Cn :=
if (b == h) then
j6 a f g b h (Ae (Ae 32 f) 32)
else
j6 a f g b h (Ae 32 f)
def Nd : LB → Int → Int → LB → LB → Cn := Ni Mv
def Nf (j5 : LB → Int → Int → LB → LB → Cn) (a : LB) : Cn :=
(Bt a (Al (Ac a) 32) (Ac a)).bind fun b =>
(Jb b).bind fun (f, g, n) =>
if (!n) then
some (0, 12)
else
(Dw f g true).bind fun h =>
(
if (!(b == h)) then
(Dw f g false).bind fun m =>
if (b != m) then
some (0, 12)
else
j5 a f g b h
else
j5 a f g b h)
def Vm : LB → Cn := Nf Nd
def Vx (j4 : LB → Cn) (a : LB) : Cn :=
if (Cu (Ac a) 32) then
some (0, 6)
else
(Bt a (Al (Ac a) 32) (Ae (Al (Ac a) 32) 8)).bind fun u =>
if (u != ([65, 80, 69, 84, 65, 71, 69, 88] : LB)) then
some (0, 6)
else
j4 a
def Uy : LB → Cn := Vx Vm
abbrev Cf := Option (Int × Int)
def Amn (a : Int) : Cf :=
some (a, 0)
def Abv : Int → Cf := Amn
def Rj (j6 : Int → Cf) (bk4 : LB → Int → Cf) (b : LB) (a : Int) : Cf :=
if (Gy (Ac b) 0) then
(Uy b).bind fun (g, h) =>
if (Ck h 0) then
some (0, 38)
else
(Bt b 0 (Al (Ac b) g)).bind fun k =>
bk4 k (Ae a 1)
else
j6 a
def Ha : Nat → LB → Int → Cf
| 0, _, _ => none
| q + 1, b, a => Rj Abv (Ha q) b a
def Aca : LB → Int → Cf := Ha Az
def Rb (j4 : LB → Int → Cf) (f : LB) : Cf :=
if (Gy (Ac f) 4000) then
some (0, 38)
else
j4 f 0
def Pc : LB → Cf := Rb Aca
abbrev Bh := Option (Int × Int × Int × LX × Int)
def Acn (a : LB) (n b f g : Int) (v : LX) : Bh :=
(Bt a n (Ac a)).bind fun af =>
(Pc af).bind fun (ao, ag) =>
if (Ck ag 0) then
some (0, 0, 0, ([] : LX), 38)
else
some (b, f, g, v, 0)
def Um : LB → Int → Int → Int → Int → LX → Bh := Acn
def Aco (bk7 : Int → Int → LX → Bh) (a : LB) (o b f g k : Int) (h p : LI) (u : LX) (n m : Int) (y : LX) (w : Int) (v : LX) : Bh :=
if (Ck w 0) then
some (0, 0, 0, ([] : LX), w)
else
(Iy v y).bind fun ah =>
(getI h m).bind fun _ =>
(getI h m).bind fun ai =>
bk7 (Ae n ai) (Ae m 1) ah
def Ti (bk7 : Int → Int → LX → Bh) : LB → Int → Int → Int → Int → Int → LI → LI → LX → Int → Int → LX → Int → LX → Bh := Aco bk7
def Na (j10 : Int → Int → LX → Int → LX → Bh) (j12 : LB → Int → Int → Int → Int → LX → Bh) (a : LB) (o b f g k : Int) (h p : LI) (u : LX) (n m : Int) (v : LX) : Bh :=
if (Cu m (Ac h)) then
(getI h m).bind fun _ =>
(getI h m).bind fun aj =>
if (Cu (Al (Ac a) n) aj) then
some (0, 0, 0, ([] : LX), 24)
else
(getI p m).bind fun _ =>
(getI h m).bind fun _ =>
(getI p m).bind fun ak =>
(getI h m).bind fun al =>
(Bt a n (Ae n al)).bind fun am =>
(cadenzaref21_Decode b f u ak am).bind fun (y, w) =>
j10 n m y w v
else
j12 a n b f g v
def Gh (a : LB) (o b f g k : Int) (h p : LI) (u : LX) : Nat → Int → Int → LX → Bh
| 0, _, _, _ => none
| q + 1, n, m, v => Na (Ti (Gh a o b f g k h p u q) a o b f g k h p u) Um a o b f g k h p u n m v
def Wc (a : LB) (o b f g k : Int) (h p : LI) (u : LX) : Int → Int → LX → Bh := Gh a o b f g k h p u Az
def Nj (j7 : LB → Int → Int → Int → Int → Int → LI → LI → LX → Int → Int → LX → Bh) (a aa : LB) : Bh :=
if (Gy (Ac aa) 64) then
some (0, 0, 0, ([] : LX), 2)
else
(Cx a).bind fun (an, o, b, f, g, k, ab) =>
if (Ck ab 0) then
some (0, 0, 0, ([] : LX), ab)
else
(Xw a (Ae an 22) o b f g k aa).bind fun (ac, ad) =>
if (Ck ad 0) then
some (0, 0, 0, ([] : LX), ad)
else
(Ie a ac o b f g k).bind fun (h, ae) =>
if (Ck ae 0) then
some (0, 0, 0, ([] : LX), ae)
else
(Bw g k).bind fun p =>
(Hi aa).bind fun (u, ap) =>
j7 a o b f g k h p u (Ae ac (Ae (Be 4 (Ac h)) 4)) 0 ([] : LX)
def Dk : LB → LB → Bh := Nj Wc
def Lj (a b : LB) : Option Int :=
(Dk a b).bind fun (g, h, k, m, f) =>
some f
abbrev Ds := Option (Int × Int × Int × Int × Int × Int × LI × Int)
def Aa3 (m n b h k f g : Int) (o : LI) : Ds :=
if (Ck n 0) then
some (0, 0, 0, 0, 0, 0, ([] : LI), n)
else
some (b, h, k, f, g, (Ae (Ae m (Be 4 (Ac o))) 4), o, 0)
def Sn : Int → Int → Int → Int → Int → Int → Int → LI → Ds := Aa3
def Rs (j4 : Int → Int → Int → Int → Int → Int → Int → LI → Ds) (a : LB) (b h k f g m : Int) : Ds :=
(Bt a m (Ac a)).bind fun y =>
(Bw f g).bind fun aa =>
(Nt y (Ac aa)).bind fun (o, n) =>
j4 m n b h k f g o
def Hj : LB → Int → Int → Int → Int → Int → Int → Ds := Rs Sn
def Hh (j3 : LB → Int → Int → Int → Int → Int → Int → Ds) (a u : LB) : Ds :=
if (Gy (Ac a) 100000) then
some (0, 0, 0, 0, 0, 0, ([] : LI), 4)
else
(Ij a).bind fun (p, v) =>
if (Ck v 0) then
some (0, 0, 0, 0, 0, 0, ([] : LI), v)
else
(Bt a p (Ac a)).bind fun ab =>
(Iz ab).bind fun (b, h, k, f, g, w) =>
if (Ck w 0) then
some (0, 0, 0, 0, 0, 0, ([] : LI), w)
else
if ((u == ([] : LB)) != (geq b 1)) then
some (0, 0, 0, 0, 0, 0, ([] : LI), 26)
else
if (geq b 2) then
if (Cu (Al (Ac a) (Ae p 22)) 8) then
some (0, 0, 0, 0, 0, 0, ([] : LI), 24)
else
(Bt a (Ae p 22) (Ae (Ae p 22) 8)).bind fun ac =>
(Ix u).bind fun ad =>
if (ac != ad) then
some (0, 0, 0, 0, 0, 0, ([] : LI), 26)
else
j3 a b h k f g (Ae (Ae p 22) 8)
else
j3 a b h k f g (Ae p 22)
def cadenzaref40_Opened : LB → LB → Ds := Hh Hj
def Nc (b a : LB) : Option (Int × Int × Int × Int × Int × Int × LI × Int) :=
if (Gy (Ac a) 64) then
some (0, 0, 0, 0, 0, 0, ([] : LI), 2)
else
(cadenzaref40_Opened b a).bind fun (f, g, h, k, m, n, o, p) =>
some (f, g, h, k, m, n, o, p)
def Ig (a f : LB) : Option UInt8 :=
if (Gy (Ac a) 100000) then
some 0
else
(Ij a).bind fun (b, h) =>
if (Ck h 0) then
some 1
else
(Bt a b (Ac a)).bind fun k =>
(Iz k).bind fun (g, p, u, v, w, m) =>
if (Ck m 0) then
some 2
else
if ((f == ([] : LB)) != (geq g 1)) then
some 3
else
if (geq g 2) then
(Bt a 0 (Gd (Ac a) (Ae (Ae b 22) 8))).bind fun n =>
(cadenzaref40_Opened n f).bind fun (y, aa, ab, ac, ad, ae, af, o) =>
if ((Ck o 24) || (Cu (Ac a) (Ae (Ae b 22) 8))) then
some 3
else
some 4
else
some 4
def Xm (a b : Int) : Option Int :=
some (Df (Be a b) 8)
def Aer (k h a b f g : Int) : Option Int :=
(Xm a b).bind fun p =>
some (Be k p)
def Vo : Int → Int → Int → Int → Int → Int → Option Int := Aer
def Nh (j6 : Int → Int → Int → Int → Int → Int → Option Int) (bk4 : Int → Int → Option Int) (n h a b f g : Int) (m : LI) (k o : Int) : Option Int :=
if (Cu o n) then
(getI m o).bind fun _ =>
(getI m o).bind fun u =>
bk4 (Ae k u) (Ae o 1)
else
j6 k h a b f g
def Gq (n h a b f g : Int) (m : LI) : Nat → Int → Int → Option Int
| 0, _, _ => none
| q + 1, k, o => Nh Vo (Gq n h a b f g m q) n h a b f g m k o
def Aep (n h a b f g : Int) (m : LI) : Int → Int → Option Int := Gq n h a b f g m Az
def Vk (j4 : Int → Int → Int → Int → Int → Int → LI → Int → Int → Option Int) (h a b f g n : Int) : Option Int :=
(Bw f g).bind fun m =>
j4 n h a b f g m 0 0
def Jm : Int → Int → Int → Int → Int → Int → Option Int := Vk Aep
def An6 (a : Int) : Option Int :=
some a
def Ac1 : Int → Option Int := An6
def Mf (j6 : Int → Option Int) (bk4 : Int → Int → Option Int) (b h k m n o f : Int) (g : LI) (a p : Int) : Option Int :=
if (Cu p b) then
(getI g p).bind fun u =>
bk4 (Ae a u) (Ae p 1)
else
j6 a
def Fw (b h k m n o f : Int) (g : LI) : Nat → Int → Int → Option Int
| 0, _, _ => none
| q + 1, a, p => Mf Ac1 (Fw b h k m n o f g q) b h k m n o f g a p
def Acl (b h k m n o f : Int) (g : LI) : Int → Int → Option Int := Fw b h k m n o f g Az
def Ac6 (j4 : Int → Int → Int → Int → Int → Int → Int → LI → Int → Int → Option Int) (h k m n o f : Int) (g : LI) (b : Int) : Option Int :=
j4 b h k m n o f g f 0
def Le : Int → Int → Int → Int → Int → Int → LI → Int → Option Int := Ac6 Acl
def Xz (a b : Int) : Option (LB) :=
if (geq a 24) then
(Iy ([(Ad (Kf b 256) : UInt8), (Ad (Kf (Df b 256) 256) : UInt8)] : LB) ([(Ad (Df b 65536) : UInt8)] : LB)).bind fun g =>
some g
else
some ([(Ad (Kf b 256) : UInt8), (Ad (Kf (Df b 256) 256) : UInt8)] : LB)
def Hm : Int → Int → Option (LB) := Xz
def Xv (j2 : Int → Int → Option (LB)) (a : Int) (f : Int32) : Option (LB) :=
if (geq a 8) then
some ([(Ad (Ae (Ad f : Int) 128) : UInt8)] : LB)
else
if (Cu (Ad f : Int) 0) then
(Ng a).bind fun h =>
j2 a (Ae (Ad f : Int) (Be 2 h))
else
j2 a (Ad f : Int)
def Wx : Int → Int32 → Option (LB) := Xv Hm
abbrev Cs := Option (LB × Int)
def An4 (b : LB) : Cs :=
some (b, 0)
def Ac7 : LB → Cs := An4
def Ls (j6 : LB → Cs) (bk4 : Int → LB → Cs) (f : Int) (a : LX) (g : Int) (b : LB) : Cs :=
if (Cu g (Ac a)) then
(getI a g).bind fun h =>
(Wx f h).bind fun k =>
(Iy b k).bind fun m =>
bk4 (Ae g 1) m
else
j6 b
def Fv (f : Int) (a : LX) : Nat → Int → LB → Cs
| 0, _, _ => none
| q + 1, g, b => Ls Ac7 (Fv f a q) f a g b
def Ac2 (f : Int) (a : LX) : Int → LB → Cs := Fv f a Az
def To (j4 : Int → LX → Int → LB → Cs) (f : Int) (a : LX) : Cs :=
(cadenzaref18_Check f a).bind fun n =>
if (Ck n 0) then
(cadenzaref18_Check f a).bind fun o =>
some (([] : LB), o)
else
j4 f a 0 ([] : LB)
def Qz : Int → LX → Cs := To Ac2
abbrev Kz := Option (LB × Int)
def Xx (p : LX) (m n g b h k o : Int) (a : LI) : Kz :=
if (Ck m 0) then
some (([] : LB), m)
else
(Qz b p).bind fun (af, ah) =>
some (af, 0)
def Po : LX → Int → Int → Int → Int → Int → Int → Int → LI → Kz := Xx
def Kc (j2 : LX → Int → Int → Int → Int → Int → Int → Int → LI → Kz) (v y : LB) (n g b h k o : Int) (a : LI) (f : Int) : Kz :=
(Le n g b h k o a f).bind fun u =>
(getI a f).bind fun aa =>
if (Cu (Al (Ac v) u) aa) then
some (([] : LB), 24)
else
(Hi y).bind fun (ab, ag) =>
(getI a f).bind fun ac =>
(Bt v u (Ae u ac)).bind fun ad =>
(
(Bw h k).bind fun w =>
(getI w f).bind fun _ =>
(getI w f).bind fun ae =>
(cadenzaref21_Decode g b ab ae ad).bind fun (p, m) =>
j2 p m n g b h k o a)
def cadenzaref40_Got : LB → LB → Int → Int → Int → Int → Int → Int → LI → Int → Kz := Kc Po
abbrev Da := Option (Int × UInt8 × Int × Int × Int)
def Apv (a b : Int) : Da :=
some (a, 6, 0, b, 0)
def Ae7 : Int → Int → Da := Apv
def Ny (j6 : Int → Int → Da) (bk4 : Int → Da) (g f : LB) (a b h k m n o v : Int) (p : LI) (u : Int) : Da :=
if (Cu u (Ac p)) then
(cadenzaref40_Got g f h k m n o v p u).bind fun (ac, w) =>
if (Ck w 0) then
(Jm h k m n o u).bind fun y =>
some (a, 5, u, y, 0)
else
bk4 (Ae u 1)
else
j6 a b
def Gk (g f : LB) (a b h k m n o v : Int) (p : LI) : Nat → Int → Da
| 0, _ => none
| q + 1, u => Ny Ae7 (Gk g f a b h k m n o v p q) g f a b h k m n o v p u
def Afb (g f : LB) (a b h k m n o v : Int) (p : LI) : Int → Da := Gk g f a b h k m n o v p Az
def Wm (j4 : LB → LB → Int → Int → Int → Int → Int → Int → Int → Int → LI → Int → Da) (g f : LB) : Da :=
if (Gy (Ac f) 64) then
some (0, 0, 0, 0, 2)
else
(Lj g f).bind fun a =>
(Nc g f).bind fun (h, k, m, n, o, v, p, aa) =>
if (Ck aa 0) then
(Ig g f).bind fun ab =>
some (a, ab, 0, 0, 0)
else
(Jm h k m n o (Ac p)).bind fun b =>
if (geq a 0) then
some (a, 0, 0, b, 0)
else
j4 g f a b h k m n o v p 0
def Jq : LB → LB → Da := Wm Afb
abbrev Bl := Option (Int × Int × Int × Int × Int × Int)
def Anx (a : LB) (k m n o p f g b aa y : Int) (h : LI) : Bl :=
if (Cu (Ac a) y) then
some (0, 0, 0, 0, 0, 24)
else
some (f, g, b, aa, y, 0)
def Af3 : LB → Int → Int → Int → Int → Int → Int → Int → Int → Int → Int → LI → Bl := Anx
def Aga (j12 : LB → Int → Int → Int → Int → Int → Int → Int → Int → Int → Int → LI → Bl) (a : LB) (k m n o p f g b : Int) (h : LI) (ae aa y : Int) : Bl :=
if (Ck ae 0) then
some (0, 0, 0, 0, 0, ae)
else
j12 a k m n o p f g b aa y h
def So : LB → Int → Int → Int → Int → Int → Int → Int → Int → LI → Int → Int → Int → Bl := Aga Af3
def Af0 (j11 : LB → Int → Int → Int → Int → Int → Int → Int → Int → LI → Int → Int → Int → Bl) (a : LB) (u : LI) (k m n o p f g b v : Int) (h : LI) : Bl :=
j11 a k m n o p f g b h 0 (Ae (Ae b (Be 4 (Ac u))) 4) v
def Yw : LB → LI → Int → Int → Int → Int → Int → Int → Int → Int → Int → LI → Bl := Af0 So
def Aba (j10 : LB → LI → Int → Int → Int → Int → Int → Int → Int → Int → Int → LI → Bl) (bk8 : Int → Int → Bl) (u : LI) (a : LB) (k m n o p f g b : Int) (h : LI) (w v : Int) : Bl :=
if (Cu w (Ac u)) then
(getI u w).bind fun _ =>
(getI u w).bind fun ag =>
bk8 (Ae w 1) (Ae v ag)
else
j10 a u k m n o p f g b v h
def Qj (u : LI) (a : LB) (k m n o p f g b : Int) (h : LI) : Nat → Int → Int → Bl
| 0, _, _ => none
| q + 1, w, v => Aba Yw (Qj u a k m n o p f g b h q) u a k m n o p f g b h w v
def Aiv (u : LI) (a : LB) (k m n o p f g b : Int) (h : LI) : Int → Int → Bl := Qj u a k m n o p f g b h Az
def Aia (j11 : LB → Int → Int → Int → Int → Int → Int → Int → Int → LI → Int → Int → Int → Bl) (j8 : LI → LB → Int → Int → Int → Int → Int → Int → Int → Int → LI → Int → Int → Bl) (ab : Int) (a : LB) (k m n o p f g b ac ad : Int) (u h : LI) : Bl :=
if (Ck ab 0) then
j11 a k m n o p f g b h ab ac ad
else
j8 u a k m n o p f g b h 0 (Ae (Ae b (Be 4 (Ac u))) 4)
def Aix : Int → LB → Int → Int → Int → Int → Int → Int → Int → Int → Int → Int → LI → LI → Bl := Aia So Aiv
def Ai9 (j11 : LB → Int → Int → Int → Int → Int → Int → Int → Int → LI → Int → Int → Int → Bl) (j7 : Int → LB → Int → Int → Int → Int → Int → Int → Int → Int → Int → Int → LI → LI → Bl) (a : LB) : Bl :=
(Qw a).bind fun (k, m, n, o, p, f, g, b, ac, ad, h, af) =>
if (Ck af 0) then
some (0, 0, 0, 0, 0, af)
else
if (Cu (Ac a) b) then
j11 a k m n o p f g b h 24 ac ad
else
(Bt a b (Ac a)).bind fun ah =>
(Adc ah (Ac h)).bind fun (u, ab) =>
j7 ab a k m n o p f g b ac ad u h
def Ajp : LB → Bl := Ai9 So Aix
abbrev Fz := Option (Int × UInt8 × Int × Int × Int)
def Avx : Fz :=
some (0, 6, 0, 0, 0)
def Ani : Fz := Avx
def Yt (j6 : Fz) (bk4 : Int → Int → Fz) (a : Int) (b : LI) (g h k m n o p f : Int) : Fz :=
if (Cu f (Ac b)) then
(getI b f).bind fun _ =>
(getI b f).bind fun v =>
if (Cu a (Ae p v)) then
(Aeu g h k m n f).bind fun (ad, ae) =>
some (0, 5, f, ad, ae)
else
bk4 (Ae p v) (Ae f 1)
else
j6
def Ms (a : Int) (b : LI) (g h k m n o : Int) : Nat → Int → Int → Fz
| 0, _, _ => none
| q + 1, p, f => Yt Ani (Ms a b g h k m n o q) a b g h k m n o p f
def Anr (a : Int) (b : LI) (g h k m n o : Int) : Int → Int → Fz := Ms a b g h k m n o Az
def Afu (j4 : Int → LI → Int → Int → Int → Int → Int → Int → Int → Int → Fz) (u w : LB) (a : Int) : Fz :=
(Aeq u w).bind fun y =>
if (Ck y 0) then
some (0, 0, 0, 0, y)
else
if ((Cu a 0) || (Sr a (Ac u))) then
some (0, 0, 0, 0, 2)
else
(Ajp u).bind fun (af, ag, ah, aa, ai, ab) =>
if (Ck ab 0) then
some (0, 0, 0, 0, ab)
else
(seekto_Open u w).bind fun (g, h, k, m, n, o, b, ac) =>
if (Ck ac 0) then
some (0, 0, 0, 0, ac)
else
if (Cu a af) then
some (0, 1, 0, 0, 0)
else
if (Cu a ag) then
some (0, 2, 0, 0, 0)
else
if (Cu a ah) then
some (0, 3, 0, 0, 0)
else
if (Cu a aa) then
some (0, 4, 0, 0, 0)
else
j4 a b g h k m n o aa 0
def Mx : LB → LB → Int → Fz := Afu Anr
abbrev Bj := Option (Int × Int × Int × Int × Int × Int)
def Acr (b : LB) (a f : Int) (g : LI) (h : Int) : Bj :=
if (Cu (Ac b) h) then
some (0, 0, 0, 0, 0, 24)
else
some (a, (Ae a 22), f, (Ae (Ae f (Be 4 (Ac g))) 4), h, 0)
def Lz : LB → Int → Int → LI → Int → Bj := Acr
def Md (j8 : LB → Int → Int → LI → Int → Bj) (bk6 : Int → Int → Bj) (b : LB) (a f : Int) (g : LI) (k h : Int) : Bj :=
if (Cu k (Ac g)) then
(getI g k).bind fun _ =>
(getI g k).bind fun y =>
bk6 (Ae k 1) (Ae h y)
else
j8 b a f g h
def Fm (b : LB) (a f : Int) (g : LI) : Nat → Int → Int → Bj
| 0, _, _ => none
| q + 1, k, h => Md Lz (Fm b a f g q) b a f g k h
def Tx (b : LB) (a f : Int) (g : LI) : Int → Int → Bj := Fm b a f g Az
def Ua (j6 : LB → Int → Int → LI → Int → Int → Bj) (b : LB) (m n o p u a f : Int) : Bj :=
if (Cu (Ac b) f) then
some (0, 0, 0, 0, 0, 24)
else
(Ie b f m n o p u).bind fun (g, v) =>
if (Ck v 0) then
some (0, 0, 0, 0, 0, v)
else
j6 b a f g 0 (Ae (Ae f (Be 4 (Ac g))) 4)
def Fk : LB → Int → Int → Int → Int → Int → Int → Int → Bj := Ua Tx
def Ug (j5 : LB → Int → Int → Int → Int → Int → Int → Int → Bj) (b : LB) : Bj :=
(Cx b).bind fun (a, m, n, o, p, u, w) =>
if (Ck w 0) then
some (0, 0, 0, 0, 0, w)
else
if (geq m 2) then
j5 b m n o p u a (Ae (Ae a 22) 8)
else
j5 b m n o p u a (Ae a 22)
def Ru : LB → Bj := Ug Fk
abbrev Cq := Option (Int × UInt8 × Int × Int × Int)
def Ac3 (m b f g h k n : Int) (o : LI) : Cq :=
(Jm b f g h k m).bind fun w =>
some (0, 5, m, w, 0)
def Tr : Int → Int → Int → Int → Int → Int → Int → LI → Cq := Ac3
def Uk (j6 : Int → Int → Int → Int → Int → Int → Int → LI → Cq) (bk4 : Int → Cq) (a b f g h k n : Int) (o : LI) (m : Int) : Cq :=
(Le b f g h k n o (Ae m 1)).bind fun y =>
if (Sr a y) then
bk4 (Ae m 1)
else
j6 m b f g h k n o
def Hy (a b f g h k n : Int) (o : LI) : Nat → Int → Cq
| 0, _ => none
| q + 1, m => Uk Tr (Hy a b f g h k n o q) a b f g h k n o m
def Acs (a b f g h k n : Int) (o : LI) : Int → Cq := Hy a b f g h k n o Az
def Uf (j4 : Int → Int → Int → Int → Int → Int → Int → LI → Int → Cq) (p u : LB) (a : Int) : Cq :=
(Lj p u).bind fun v =>
if (Ck v 0) then
some (0, 0, 0, 0, v)
else
if ((Cu a 0) || (Sr a (Ac p))) then
some (0, 0, 0, 0, 2)
else
(Ru p).bind fun (aa, ab, ac, ad, ae, af) =>
if (Cu a aa) then
some (0, 1, 0, 0, 0)
else
if (Cu a ab) then
some (0, 2, 0, 0, 0)
else
if (Cu a ac) then
some (0, 3, 0, 0, 0)
else
if (Cu a ad) then
some (0, 4, 0, 0, 0)
else
if (Sr a ae) then
some (0, 6, 0, 0, 0)
else
(Nc p u).bind fun (b, f, g, h, k, n, o, ag) =>
j4 a b f g h k n o 0
def Gc : LB → LB → Int → Cq := Uf Acs
def Ox (a b : LB) (f : Int) : Option Bool :=
(Abx a).bind fun g =>
if (g || (Gy (Ac b) 100)) then
some true
else
(Aaf a b).bind fun (h, k, m, n, o) =>
(Jq a b).bind fun (p, u, v, w, y) =>
(Mx a b f).bind fun (aa, ab, ac, ad, ae) =>
(Gc a b f).bind fun (af, ag, ah, ai, aj) =>
some (((((geq h p) && ((geq k u) && ((geq m v) && ((geq n w) && true)))) && (geq o y)) && ((geq aa af) && ((geq ab ag) && ((geq ac ah) && ((geq ad ai) && true))))) && (geq ae aj))
end Go.Pl
