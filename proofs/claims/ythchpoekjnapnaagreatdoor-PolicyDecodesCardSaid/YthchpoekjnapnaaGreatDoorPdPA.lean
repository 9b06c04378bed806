/- A part of the proof of a statement of this seat (see the text that ends in Proof): PdPure. No conditions of its own. -/
import Derived.Test.YthchpoekjnapnaaGreatDoorPdBA
set_option linter.unusedVariables false
namespace Go.Pl
open Go Go.Lv
abbrev LB := List UInt8
abbrev LI := List Int
abbrev LX := List Int32
abbrev LU := List UInt32
abbrev LQ := List UInt64
def Acv (a : LB) : Option Bool :=
some (((Hh (Ac a) 5000) && (Dh (Ac a) 12000)) || (Hh (Ac a) 12100))
def Gx (a b : LB) : Option Bool :=
some (a == b)
def Ke (b a : LB) : Option Bool :=
if (Tm (Ac b) (Ac a)) then
(Ce b 0 (Ac a)).bind fun f =>
(Gx f a).bind fun g =>
some g
else
some false
abbrev Fj := Option (Int × Int)
def Aua (b : Int) : Fj :=
some (b, 0)
def Ak5 : Int → Fj := Aua
def Xo (j6 : Int → Fj) (bk4 : Int → Int → Fj) (a : LB) (b f : Int) : Fj :=
if (Dh f (Ac a)) then
(getI a f).bind fun g =>
if (Hh g 127) then
some (0, 12)
else
bk4 (gor (Eo b (GI.toZ (7 : UInt64)).toNat) (Ad g : Int)) (Ae f 1)
else
j6 b
def Lf (a : LB) : Nat → Int → Int → Fj
| 0, _, _ => none
| q + 1, b, f => Xo Ak5 (Lf a q) a b f
def Ad6 (a : LB) : Int → Int → Fj := Lf a Ba
def Aee (j4 : LB → Int → Int → Fj) (a : LB) : Fj :=
if (Cl (Ac a) 4) then
some (0, 2)
else
j4 a 0 0
def Aev : LB → Fj := Aee Ad6
abbrev Dk := Option (Int × Int)
def Anr (a : LB) (b : UInt8) (h : Int) : Dk :=
if (Hh h 4000) then
some (0, 4)
else
if (Dh (Ac a) h) then
some (0, 24)
else
if (geq b 16) then
(Ce a (Am h 10) h).bind fun k =>
(Ce k 0 3).bind fun o =>
if (o != ([51, 68, 73] : LB)) then
some (0, 12)
else
(Ce k 3 (Ac k)).bind fun p =>
(Ce a 3 10).bind fun u =>
(Gx p u).bind fun v =>
if (!v) then
some (0, 12)
else
some (h, 0)
else
some (h, 0)
def Zp : LB → UInt8 → Int → Dk := Anr
def Agf (j8 : LB → UInt8 → Int → Dk) (a : LB) (g : Int) (b : UInt8) : Dk :=
if (geq b 16) then
j8 a b (Ae (Ae g 10) 10)
else
j8 a b (Ae g 10)
def Zn : LB → Int → UInt8 → Dk := Agf Zp
def Af7 (j7 : LB → Int → UInt8 → Dk) (a : LB) (g : Int) (b : UInt8) (m : Bool) : Dk :=
if m then
some (0, 12)
else
j7 a g b
def Agn : LB → Int → UInt8 → Bool → Dk := Af7 Zn
def Af6 (j6 : LB → Int → UInt8 → Bool → Dk) (a : LB) (f b : UInt8) : Dk :=
(Ce a 6 10).bind fun w =>
(Aev w).bind fun (g, y) =>
if (Cl y 0) then
if true then
j6 a g b true
else
if (geq b 0) then
j6 a g b (!((Tm f 2) && (gle f 4)))
else
if (geq b 16) then
j6 a g b (!(geq f 4))
else
j6 a g b (!false)
else
(getI a 4).bind fun aa =>
if (Cl aa 0) then
j6 a g b true
else
if (geq b 0) then
j6 a g b (!((Tm f 2) && (gle f 4)))
else
if (geq b 16) then
j6 a g b (!(geq f 4))
else
j6 a g b (!false)
def Agq : LB → UInt8 → UInt8 → Dk := Af6 Agn
def Zo (j5 : LB → UInt8 → UInt8 → Dk) (a : LB) : Dk :=
(Ke a ([(73 : UInt8), (68 : UInt8), (51 : UInt8)] : LB)).bind fun n =>
if (!n) then
some (0, 6)
else
if (Dh (Ac a) 10) then
some (0, 24)
else
(getI a 3).bind fun f =>
(getI a 5).bind fun b =>
(
(
(
j5 a f b)))
def Ahb : LB → Dk := Zo Agq
abbrev Ot := Option (UInt64 × Int)
def Bej (b : UInt64) : Ot :=
some (b, 0)
def Avd : UInt64 → Ot := Bej
def Ajl (j6 : UInt64 → Ot) (bk4 : UInt64 → Int → Ot) (a : LB) (b : UInt64) (f : Int) : Ot :=
if (Dh f (Ac a)) then
(getI a f).bind fun g =>
(Qx (Tm (Bj 8 f) 0)).bind fun _ =>
bk4 (gor b (Eo (Ad g : UInt64) (GI.toZ (Bj 8 f)).toNat)) (Ae f 1)
else
j6 b
def Aam (a : LB) : Nat → UInt64 → Int → Ot
| 0, _, _ => none
| q + 1, b, f => Ajl Avd (Aam a q) a b f
def Aox (a : LB) : UInt64 → Int → Ot := Aam a Ba
def Aop (j4 : LB → UInt64 → Int → Ot) (a : LB) : Ot :=
if ((Dh (Ac a) 1) || (Hh (Ac a) 8)) then
some (0, 2)
else
j4 a 0 0
def Aoe : LB → Ot := Aop Aox
def Alh (f : LB) (a b : Int) : Option (UInt64 × Int) :=
if (((Dh b 1) || (Hh b 8)) || (Dh a 0)) then
some (0, 2)
else
if (Hh a (Am (Ac f) b)) then
some (0, 24)
else
(Ce f a (Ae a b)).bind fun g =>
(Aoe g).bind fun (h, k) =>
some (h, k)
def Awi (b : UInt64) (a : Int) : Option Bool :=
if (geq a 8) then
some true
else
(Qx (Tm (Bj 8 a) 0)).bind fun _ =>
some (geq (Db b (GI.toZ (Bj 8 a)).toNat) 0)
abbrev Ou := Option (LB × Int)
def Av1 (a : LB) : Ou :=
some (a, 0)
def Apn : LB → Ou := Av1
def Ajs (j6 : LB → Ou) (bk4 : Int → LB → Ou) (f : UInt64) (g : LB) (b : Int) (a : LB) : Ou :=
if (Dh b (Ac g)) then
(Qx (Tm (Bj 8 b) 0)).bind fun _ =>
(getI a b).bind fun _ =>
(Qh a b (Ad (Db f (GI.toZ (Bj 8 b)).toNat) : UInt8)).bind fun k =>
bk4 (Ae b 1) k
else
j6 a
def Aa2 (f : UInt64) (g : LB) : Nat → Int → LB → Ou
| 0, _, _ => none
| q + 1, b, a => Ajs Apn (Aa2 f g q) f g b a
def Apx (f : UInt64) (g : LB) : Int → LB → Ou := Aa2 f g Ba
def Apw (j4 : UInt64 → LB → Int → LB → Ou) (f : UInt64) (h : Int) : Ou :=
if ((Dh h 1) || (Hh h 8)) then
some (([] : LB), 2)
else
(Awi f h).bind fun m =>
if (!m) then
some (([] : LB), 16)
else
(mkI h (0 : UInt8)).bind fun g =>
(Qx (geq h h)).bind fun _ =>
j4 f g 0 g
def Aoo : UInt64 → Int → Ou := Apw Apx
def Axd (g : LB) : Option (LB) :=
some g
def Ar2 : LB → Option (LB) := Axd
def Am8 (j6 : LB → Option (LB)) (bk4 : Int → LB → Option (LB)) (a b : Int) (f : UInt64) (h : Int) (g : LB) : Option (LB) :=
if (Dh h (Ac ([(2000 : UInt64), (Ad (Ae a 32) : UInt64), (Ad b : UInt64), f, (0 : UInt64), (0 : UInt64)] : LQ))) then
(getI ([(2000 : UInt64), (Ad (Ae a 32) : UInt64), (Ad b : UInt64), f, (0 : UInt64), (0 : UInt64)] : LQ) h).bind fun _ =>
(getI ([(2000 : UInt64), (Ad (Ae a 32) : UInt64), (Ad b : UInt64), f, (0 : UInt64), (0 : UInt64)] : LQ) h).bind fun k =>
(Aoo k 4).bind fun (m, o) =>
(Fz g m).bind fun n =>
bk4 (Ae h 1) n
else
j6 g
def Aae (a b : Int) (f : UInt64) : Nat → Int → LB → Option (LB)
| 0, _, _ => none
| q + 1, h, g => Am8 Ar2 (Aae a b f q) a b f h g
def Ar1 (a b : Int) (f : UInt64) : Int → LB → Option (LB) := Aae a b f Ba
def Ar4 (j4 : Int → Int → UInt64 → Int → LB → Option (LB)) (a b : Int) (f : UInt64) : Option (LB) :=
j4 a b f 0 ([(65 : UInt8), (80 : UInt8), (69 : UInt8), (84 : UInt8), (65 : UInt8), (71 : UInt8), (69 : UInt8), (88 : UInt8)] : LB)
def Ap5 : Int → Int → UInt64 → Option (LB) := Ar4 Ar1
def Aho (b : LB) (g : UInt64) : Option (Int × Int × Bool) :=
(Alh b 12 4).bind fun (a, m) =>
(Alh b 16 4).bind fun (f, n) =>
if (((Dh a 32) || (Hh a 3032)) || (Hh f 1000)) then
some (0, 0, false)
else
(Ap5 (Am (Ad a : Int) 32) (Ad f : Int) g).bind fun h =>
(Gx b h).bind fun k =>
some ((Am (Ad a : Int) 32), (Ad f : Int), k)
def Aqq (a : LB) : Option (Int × Int) :=
(Ke a ([(65 : UInt8), (80 : UInt8), (69 : UInt8), (84 : UInt8), (65 : UInt8), (71 : UInt8), (69 : UInt8), (88 : UInt8)] : LB)).bind fun f =>
if (!f) then
some (0, 6)
else
if (Dh (Ac a) 32) then
some (0, 24)
else
(Ce a 0 32).bind fun g =>
(Aho g 2684354560).bind fun (b, h, k) =>
if (!k) then
some (0, 12)
else
if (Dh (Ac a) (Ae b 64)) then
some (0, 24)
else
(Ce a (Am (Ae b 64) 32) (Ae b 64)).bind fun m =>
(Ap5 b h 2147483648).bind fun n =>
(Gx m n).bind fun o =>
if (!o) then
some (0, 12)
else
some ((Ae b 64), 0)
def Wp (a : LB) : Option (Int × Int) :=
(Ahb a).bind fun (f, b) =>
if (Cl b 6) then
some (f, b)
else
(Aqq a).bind fun (g, h) =>
some (g, h)
def Tr (b : List UInt8) : Nat → Int → Option (Int × Int)
  | 0, _ => none
  | q + 1, x => Option.bind (Ce b x (Ac b)) fun s => Option.bind (Wp s) fun r =>
    if geq r.2 (6 : Int) = true then some (x, 0)
    else if (geq r.2 (0 : Int) && Hh (Ae x r.1) (4000 : Int)) = true then some (0, 4)
    else if Cl r.2 (0 : Int) = true then some (0, r.2)
    else Tr b q (Ae x r.1)
def Xj (b : List UInt8) : Option (Int × Int) := Tr b Ba 0
def Is (b a : LB) : Option Bool :=
if (Tm (Ac b) (Ac a)) then
(Ce b 0 (Ac a)).bind fun f =>
some (f == a)
else
some false
def Va (a b : LB) : Option Bool :=
(Is a b).bind fun f =>
some f
abbrev Ax := Option (UInt32 × Int)
def Ao8 (h : UInt32) : Ax :=
some (h, 0)
def Ah9 : UInt32 → Ax := Ao8
def Acr (j30 : UInt32 → Ax) (bk28 : UInt32 → Int → Ax) (a : LB) (b : LU) (h : UInt32) (m : Int) : Ax :=
if (Dh m (Ac a)) then
(getI a m).bind fun p =>
(getI b (GI.toZ (Zf (Ad h : UInt8) p))).bind fun _ =>
(getI b (GI.toZ (Zf (Ad h : UInt8) p))).bind fun u =>
bk28 (Zf (Db h (GI.toZ (8 : UInt64)).toNat) u) (Ae m 1)
else
j30 h
def Qg (a : LB) (b : LU) : Nat → UInt32 → Int → Ax
| 0, _, _ => none
| q + 1, h, m => Acr Ah9 (Qg a b q) a b h m
def Air (a : LB) (b : LU) : UInt32 → Int → Ax := Qg a b Ba
def Ai3 (j28 : LB → LU → UInt32 → Int → Ax) (f : UInt32) (a : LB) (b : LU) : Ax :=
j28 a b f 0
def Ahw : UInt32 → LB → LU → Ax := Ai3 Air
def Ahz (j27 : UInt32 → LB → LU → Ax) (f : UInt32) (a : LB) (b : LU) : Ax :=
j27 f a b
def Ab0 : UInt32 → LB → LU → Ax := Ahz Ahw
def Apr (bk16 : Int → LU → Ax) (f : UInt32) (a : LB) (g : Int) (o : LU) : Ax :=
bk16 (Ae g 1) o
def Ah8 (bk16 : Int → LU → Ax) : UInt32 → LB → Int → LU → Ax := Apr bk16
def Ai5 (j24 : Int → LU → Ax) (f : UInt32) (a : LB) (g : Int) (k : UInt32) (b : LU) : Ax :=
(getI b g).bind fun _ =>
(Qh b g k).bind fun o =>
j24 g o
def Ab1 (bk16 : Int → LU → Ax) (f : UInt32) (a : LB) : Int → UInt32 → LU → Ax := Ai5 (Ah8 bk16 f a) f a
def Abv (j23 : Int → UInt32 → LU → Ax) (bk21 : UInt32 → Int → Ax) (f : UInt32) (a : LB) (g : Int) (b : LU) (k : UInt32) (n : Int) : Ax :=
if (Dh n 8) then
bk21 (Zf (Db k (GI.toZ (1 : UInt64)).toNat) (Bj 3988292384 (Iu k 1))) (Ae n 1)
else
j23 g k b
def Qs (bk16 : Int → LU → Ax) (f : UInt32) (a : LB) (g : Int) (b : LU) : Nat → UInt32 → Int → Ax
| 0, _, _ => none
| q + 1, k, n => Abv (Ab1 bk16 f a) (Qs bk16 f a g b q) f a g b k n
def Ahu (bk16 : Int → LU → Ax) (f : UInt32) (a : LB) (g : Int) (b : LU) : UInt32 → Int → Ax := Qs bk16 f a g b Ba
def Abo (j21 : Int → LU → UInt32 → Int → Ax) (j26 : UInt32 → LB → LU → Ax) (f : UInt32) (a : LB) (g : Int) (b : LU) : Ax :=
if (Dh g 256) then
j21 g b (Ad g : UInt32) 0
else
j26 f a b
def Mc (f : UInt32) (a : LB) : Nat → Int → LU → Ax
| 0, _, _ => none
| q + 1, g, b => Abo (Ahu (Mc f a q) f a) Ab0 f a g b
def Ah7 (f : UInt32) (a : LB) : Int → LU → Ax := Mc f a Ba
def Aj7 (j16 : UInt32 → LB → Int → LU → Ax) (f : UInt32) (a : LB) : Ax :=
if (Hh (Ac a) 100000) then
some (0, 4)
else
j16 f a 0 (List.replicate 256 (0 : UInt32))
def Anb : UInt32 → LB → Ax := Aj7 Ah7
def Ahj (b : LB) : Option (UInt32 × Int) :=
(Anb 4294967295 b).bind fun (f, a) =>
if (Cl a 0) then
some (0, a)
else
some ((Axw f), 0)
def Alu (b f a g h : Int) : Option Bool :=
some (((((((geq b 1) || (geq b 2)) && (Hh f 0)) && (gle f 6)) && (Hh g 0)) && (gle g 1048576)) && (Hh h 0))
def Xn : Int → Int → Int → Int → Int → Option Bool := Alu
def Ad4 (j2 : Int → Int → Int → Int → Int → Option Bool) (b f a g h : Int) : Option Bool :=
if (geq a 8) then
if (geq a 8) then
j2 b f a g h
else
some false
else
if (geq a 16) then
if (geq a 16) then
j2 b f a g h
else
some false
else
if (geq a 24) then
j2 b f a g h
else
some false
def Ys : Int → Int → Int → Int → Int → Option Bool := Ad4 Xn
def Abz (a : Int) : Option (Int × Int) :=
if ((Dh a 1) || (Hh a 1048576)) then
some (0, 2)
else
some ((Aqs 1 (Bs (Bj 256 a) 245)), 0)
def Yv (g b : Int) : Option (Int × Int) :=
(Abz g).bind fun (a, f) =>
if (Cl f 0) then
some (0, f)
else
if ((Dh b 1) || (Hh b 4000)) then
some (0, 2)
else
(Qx (Cl a 0)).bind fun _ =>
if (Hh (Bs (Am (Ae b a) 1) a) 1000) then
some (0, 4)
else
some ((Bs (Am (Ae b a) 1) a), 0)
def Ae5 (k a m f b : Int) : Option Bool :=
(Qx (Cl a 0)).bind fun _ =>
if (Hh b (Bs 4000 a)) then
some false
else
(Yv f b).bind fun (g, h) =>
some ((geq h 0) && (gle g 1000))
abbrev Hi := Option (Int × Int × Int × Int × Int × Int)
def Apm (a : LI) : Hi :=
(getI a 0).bind fun _ =>
(getI a 0).bind fun h =>
(getI a 1).bind fun _ =>
(getI a 1).bind fun k =>
(getI a 2).bind fun _ =>
(getI a 2).bind fun m =>
(getI a 3).bind fun _ =>
(getI a 3).bind fun n =>
(getI a 4).bind fun _ =>
(getI a 4).bind fun o =>
(Ys h k m n o).bind fun p =>
if (!p) then
some (0, 0, 0, 0, 0, 12)
else
(Ae5 h k m n o).bind fun u =>
if (!u) then
some (0, 0, 0, 0, 0, 4)
else
some (h, k, m, n, o, 0)
def Abj : LI → Hi := Apm
def Acy (j6 : LI → Hi) (bk4 : Int → Int → LI → Hi) (b : LB) (g f : Int) (a : LI) : Hi :=
if (Dh f 5) then
(getI ([(2 : Int), (2 : Int), (2 : Int), (4 : Int), (4 : Int)] : LI) f).bind fun h =>
(Alh b g h).bind fun (v, ae) =>
(getI a f).bind fun _ =>
(Qh a f (Ad v : Int)).bind fun w =>
bk4 (Ae g h) (Ae f 1) w
else
j6 a
def Lu (b : LB) : Nat → Int → Int → LI → Hi
| 0, _, _, _ => none
| q + 1, g, f, a => Acy Abj (Lu b q) b g f a
def Abi (b : LB) : Int → Int → LI → Hi := Lu b Ba
def Aiu (j4 : LB → Int → Int → LI → Hi) (b : LB) : Hi :=
(Ce b 0 (Hf 4 (Ac b))).bind fun y =>
(Va ([84, 84, 65, 49] : LB) y).bind fun aa =>
if (!aa) then
some (0, 0, 0, 0, 0, 12)
else
if (Dh (Ac b) 22) then
some (0, 0, 0, 0, 0, 24)
else
(Alh b 18 4).bind fun (ab, af) =>
(Ce b 0 18).bind fun ac =>
(Ahj ac).bind fun (ad, ag) =>
if (Cl (Ad ad : UInt64) ab) then
some (0, 0, 0, 0, 0, 22)
else
j4 b 4 0 (List.replicate 5 (0 : Int))
def Afp : LB → Hi := Aiu Abi
def Ag9 (a b f g h : Int) : Option Int :=
(Ys a b f g h).bind fun k =>
if (!k) then
some 8
else
(Ae5 a b f g h).bind fun m =>
if (!m) then
some 8
else
some 0
def Agg (a b : UInt64) : Option (UInt64 × UInt64) :=
some ((Ae (Ae (Bj (Db a (GI.toZ (32 : UInt64)).toNat) (Db b (GI.toZ (32 : UInt64)).toNat)) (Db (Ae (Bj (Db a (GI.toZ (32 : UInt64)).toNat) (Iu b 4294967295)) (Db (Bj (Iu a 4294967295) (Iu b 4294967295)) (GI.toZ (32 : UInt64)).toNat)) (GI.toZ (32 : UInt64)).toNat)) (Db (Ae (Iu (Ae (Bj (Db a (GI.toZ (32 : UInt64)).toNat) (Iu b 4294967295)) (Db (Bj (Iu a 4294967295) (Iu b 4294967295)) (GI.toZ (32 : UInt64)).toNat)) 4294967295) (Bj (Iu a 4294967295) (Db b (GI.toZ (32 : UInt64)).toNat))) (GI.toZ (32 : UInt64)).toNat)), (Bj a b))
def Aew (a b : UInt64) : Option (UInt64 × UInt64) :=
(Agg a b).bind fun (f, g) =>
some (f, g)
def Na (a : LI) : Option (LI) :=
some a
def Ig : LI → Option (LI) := Na
def Gn (j10 : LI → Option (LI)) (bk8 : Int → LI → Option (LI)) (b : Int) (a : LI) : Option (LI) :=
if (Dh b (Ac a)) then
(
(vwI (Ac a) b (Ac a)).bind fun _ =>
(vwI (Ac a) 0 b).bind fun _ =>
bk8 (Ae b (Ais ((Ac a) - b) (Ak3 a 0 (b - (0 : Int))).length)) (Uc a b ((Ac a) - b) (Ak3 a 0 (b - (0 : Int)))))
else
j10 a
def El : Nat → Int → LI → Option (LI)
| 0, _, _ => none
| q + 1, b, a => Gn Ig (El q) b a
def Ph : Int → LI → Option (LI) := El Ba
def Pm (j8 : Int → LI → Option (LI)) (f : LI) (g : UInt64) : Option (LI) :=
(mkI (Ad g : Int) (0 : Int)).bind fun k =>
(Qx (geq (Ad g : Int) (Ad g : Int))).bind fun _ =>
j8 (Ais (Ac k) f.length) (Axm k f)
def Om : LI → UInt64 → Option (LI) := Pm Ph
def Pb (j7 : LI → UInt64 → Option (LI)) (f : LI) (h : Int) : Option (LI) :=
(Aew (Ad (Ac f) : UInt64) (Ad h : UInt64)).bind fun (m, g) =>
if ((Hh m 0) || (Hh g 9223372036854775807)) then
none
else
j7 f g
def Pd : LI → Int → Option (LI) := Pb Om
def Pj (j6 : LI → Int → Option (LI)) (f : LI) (h : Int) : Option (LI) :=
if (Dh h 0) then
none
else
j6 f h
def Mh : LI → Int → Option (LI) := Pj Pd
def Ajh (f : LI) : Option (LI) :=
some f
def Xz : LI → Option (LI) := Ajh
def Fu (j16 : LI → Option (LI)) (bk14 : Int → LI → Option (LI)) (a : List LI) (g : Int) (f : LI) : Option (LI) :=
if (Dh g (Ac a)) then
(getI a g).bind fun o =>
(Fz f o).bind fun p =>
bk14 (Ae g 1) p
else
j16 f
def Eg (a : List LI) : Nat → Int → LI → Option (LI)
| 0, _, _ => none
| q + 1, g, f => Fu Xz (Eg a q) a g f
def Nd (a : List LI) : Int → LI → Option (LI) := Eg a Ba
def Nb (j14 : (List LI) → Int → LI → Option (LI)) (a : List LI) (k : LI) : Option (LI) :=
j14 a 0 k
def Ie : (List LI) → LI → Option (LI) := Nb Nd
def Nc (j13 : (List LI) → LI → Option (LI)) (b : Int) (a : List LI) : Option (LI) :=
if (Hh (Am b (Am (0 : Int) (0 : Int))) 0) then
(vwI 0 0 0).bind fun _ =>
(mkI (Am b (Am (0 : Int) (0 : Int))) (0 : Int)).bind fun u =>
(Fz ([] : LI) u).bind fun m =>
(vwI (Ac m) 0 0).bind fun _ =>
j13 a (Ak3 m 0 ((0 : Int) - (0 : Int)))
else
j13 a ([] : LI)
def Mu : Int → (List LI) → Option (LI) := Nc Ie
def Mv (j12 : Int → (List LI) → Option (LI)) (a : List LI) (b : Int) : Option (LI) :=
if (Dh b 0) then
none
else
j12 b a
def Mw : (List LI) → Int → Option (LI) := Mv Mu
def Gk (j11 : (List LI) → Int → Option (LI)) (bk9 : Int → Int → Option (LI)) (a : List LI) (b h : Int) : Option (LI) :=
if (Dh h (Ac a)) then
(getI a h).bind fun n =>
if (Dh (Ae b (Ac n)) 0) then
none
else
bk9 (Ae b (Ac n)) (Ae h 1)
else
j11 a b
def En (a : List LI) : Nat → Int → Int → Option (LI)
| 0, _, _ => none
| q + 1, b, h => Gk Mw (En a q) a b h
def Pf (a : List LI) : Int → Int → Option (LI) := En a Ba
def Pa (j9 : (List LI) → Int → Int → Option (LI)) (a : List LI) : Option (LI) :=
j9 a 0 0
def Ms : (List LI) → Option (LI) := Pa Pf
def Ah1 (a b : LI) : Option (LI) :=
(Ms ([a, b] : List LI)).bind fun f =>
some f
def Ajp (a b : Int) : Option (LI × Int) :=
(Yv a b).bind fun (f, g) =>
if (Cl g 0) then
some (([] : LI), g)
else
(Abz a).bind fun (h, n) =>
(Mh ([h] : LI) (Am f 1)).bind fun k =>
(Ah1 k ([(Am b (Bj (Am f 1) h))] : LI)).bind fun m =>
some (m, 0)
def Oq (g h k a b : Int) : Option (LI × Int) :=
(Ag9 g h k a b).bind fun f =>
if (Cl f 0) then
some (([] : LI), f)
else
(Ajp a b).bind fun (m, n) =>
some (m, n)
def Apg (f : LB) : Option (Int × Int × Int × Int × Int × Int × Int × Int × Int × Int × LI × Int) :=
if (Hh (Ac f) 100000) then
some (0, 0, 0, 0, 0, 0, 0, 0, 0, 0, ([] : LI), 4)
else
(Xj f).bind fun (a, n) =>
if (Cl n 0) then
some (0, 0, 0, 0, 0, 0, 0, 0, 0, 0, ([] : LI), n)
else
(Ce f a (Ac f)).bind fun u =>
(Afp u).bind fun (b, g, h, k, m, o) =>
if (Cl o 0) then
some (b, g, h, k, m, 0, 0, 0, 0, 0, ([] : LI), o)
else
(Oq b g h k m).bind fun (p, v) =>
if (geq b 2) then
some (b, g, h, k, m, a, (Ae a 22), (Ae (Ae a 22) 8), 0, 0, p, 0)
else
some (b, g, h, k, m, a, (Ae a 22), (Ae a 22), 0, 0, p, 0)
abbrev Az := Option (UInt64 × Int)
def Aog (h : UInt64) : Az :=
some (h, 0)
def Ai1 : UInt64 → Az := Aog
def Aif (j30 : UInt64 → Az) (h b : UInt64) (a : LB) (f : LQ) : Az :=
j30 h
def Ahx : UInt64 → UInt64 → LB → LQ → Az := Aif Ai1
def Ab8 (j29 : UInt64 → UInt64 → LB → LQ → Az) (bk27 : UInt64 → Int → Az) (a : LB) (b : UInt64) (f : LQ) (h : UInt64) (m : Int) : Az :=
if (Dh m (Ac a)) then
(getI a m).bind fun p =>
Option.bind (getI f (GI.toZ (Zf (Ad (Db h (GI.toZ (56 : UInt64)).toNat) : UInt8) p))) fun _ =>
Option.bind (getI f (GI.toZ (Zf (Ad (Db h (GI.toZ (56 : UInt64)).toNat) : UInt8) p))) fun u =>
bk27 (Zf (Eo h (GI.toZ (8 : UInt64)).toNat) u) (Ae m 1)
else
j29 h b a f
def Ql (a : LB) (b : UInt64) (f : LQ) : Nat → UInt64 → Int → Az
| 0, _, _ => none
| q + 1, h, m => Ab8 Ahx (Ql a b f q) a b f h m
def Ai9 (a : LB) (b : UInt64) (f : LQ) : UInt64 → Int → Az := Ql a b f Ba
def Ai8 (j27 : LB → UInt64 → LQ → UInt64 → Int → Az) (b : UInt64) (a : LB) (f : LQ) : Az :=
j27 a b f b 0
def Abk : UInt64 → LB → LQ → Az := Ai8 Ai9
def Aow (bk16 : Int → LQ → Az) (b : UInt64) (a : LB) (g : Int) (o : LQ) : Az :=
bk16 (Ae g 1) o
def Ajb (bk16 : Int → LQ → Az) : UInt64 → LB → Int → LQ → Az := Aow bk16
def Aiy (j24 : Int → LQ → Az) (b : UInt64) (a : LB) (g : Int) (k : UInt64) (f : LQ) : Az :=
(getI f g).bind fun _ =>
(Qh f g k).bind fun o =>
j24 g o
def Ac2 (bk16 : Int → LQ → Az) (b : UInt64) (a : LB) : Int → UInt64 → LQ → Az := Aiy (Ajb bk16 b a) b a
def Acz (j23 : Int → UInt64 → LQ → Az) (bk21 : UInt64 → Int → Az) (b : UInt64) (a : LB) (g : Int) (f : LQ) (k : UInt64) (n : Int) : Az :=
if (Dh n 8) then
bk21 (Zf (Eo k (GI.toZ (1 : UInt64)).toNat) (Bj 4823603603198064275 (Db k (GI.toZ (63 : UInt64)).toNat))) (Ae n 1)
else
j23 g k f
def Qi (bk16 : Int → LQ → Az) (b : UInt64) (a : LB) (g : Int) (f : LQ) : Nat → UInt64 → Int → Az
| 0, _, _ => none
| q + 1, k, n => Acz (Ac2 bk16 b a) (Qi bk16 b a g f q) b a g f k n
def Ah2 (bk16 : Int → LQ → Az) (b : UInt64) (a : LB) (g : Int) (f : LQ) : UInt64 → Int → Az := Qi bk16 b a g f Ba
def Acg (j21 : Int → LQ → UInt64 → Int → Az) (j26 : UInt64 → LB → LQ → Az) (b : UInt64) (a : LB) (g : Int) (f : LQ) : Az :=
if (Dh g 256) then
j21 g f (Eo (Ad g : UInt64) (GI.toZ (56 : UInt64)).toNat) 0
else
j26 b a f
def Lp (b : UInt64) (a : LB) : Nat → Int → LQ → Az
| 0, _, _ => none
| q + 1, g, f => Acg (Ah2 (Lp b a q) b a) Abk b a g f
def Aig (b : UInt64) (a : LB) : Int → LQ → Az := Lp b a Ba
def Akr (j16 : UInt64 → LB → Int → LQ → Az) (b : UInt64) (a : LB) : Az :=
if (Hh (Ac a) 100000) then
some (0, 4)
else
j16 b a 0 (List.replicate 256 (0 : UInt64))
def Anl : UInt64 → LB → Az := Akr Aig
def Al6 (a : LB) : Option (UInt64 × Int) :=
(Anl 0 a).bind fun (b, f) =>
some (b, f)
def Auf (a : LB) : Option (UInt64 × Int) :=
if (Hh (Ac a) 64) then
some (0, 2)
else
(Al6 a).bind fun (b, f) =>
some (b, 0)
def Aha (b : LB) : Option (LB × Int) :=
(Auf b).bind fun (f, a) =>
if (Cl a 0) then
some (([] : LB), a)
else
(Aoo f 8).bind fun (g, h) =>
some (g, h)
def Xx (a f : LB) : Option (Bool × Int) :=
(Aha f).bind fun (b, g) =>
if ((Cl g 0) || (Cl (Ac a) (Ac b))) then
some (false, 2)
else
(Gx a b).bind fun h =>
some (h, 0)
def Ay7 : Option Int :=
some 0
def Aoh : Option Int := Ay7
def Aco (j6 : Option Int) (bk4 : Int → Int → Option Int) (a : LI) (f b : Int) : Option Int :=
if (Dh b (Ac a)) then
(getI a b).bind fun g =>
if ((Dh g 5) || (Hh g f)) then
some 8
else
bk4 (Am f g) (Ae b 1)
else
j6
def Rh (a : LI) : Nat → Int → Int → Option Int
| 0, _, _ => none
| q + 1, f, b => Aco Aoh (Rh a q) a f b
def Aja (a : LI) : Int → Int → Option Int := Rh a Ba
def Ahv (j4 : LI → Int → Int → Option Int) (a : LI) : Option Int :=
if ((geq (Ac a) 0) || (Hh (Ac a) 1000)) then
some 8
else
j4 a 100000 0
def Afc : LI → Option Int := Ahv Aja
abbrev Je := Option (LI × Int)
def Arj (a : LI) : Je :=
(Afc a).bind fun k =>
if (Cl k 0) then
some (([] : LI), 12)
else
some (a, 0)
def Ae0 : LI → Je := Arj
def Aet (j6 : LI → Je) (bk4 : Int → LI → Je) (b : LB) (f : LI) (g : Int) (a : LI) : Je :=
if (Dh g (Ac f)) then
(Alh b (Bj 4 g) 4).bind fun (k, u) =>
(getI a g).bind fun _ =>
(Qh a g (Ad k : Int)).bind fun m =>
bk4 (Ae g 1) m
else
j6 a
def Tv (b : LB) (f : LI) : Nat → Int → LI → Je
| 0, _, _ => none
| q + 1, g, a => Aet Ae0 (Tv b f q) b f g a
def Aks (b : LB) (f : LI) : Int → LI → Je := Tv b f Ba
def Aj9 (j4 : LB → LI → Int → LI → Je) (b : LB) (h : Int) : Je :=
if ((Dh h 1) || (Hh h 1000)) then
some (([] : LI), 2)
else
if (Dh (Ac b) (Ae (Bj 4 h) 4)) then
some (([] : LI), 24)
else
(Alh b (Bj 4 h) 4).bind fun (n, v) =>
(Ce b 0 (Bj 4 h)).bind fun o =>
(Ahj o).bind fun (p, w) =>
if (Cl (Ad p : UInt64) n) then
some (([] : LI), 22)
else
(mkI h (0 : Int)).bind fun f =>
(Qx (geq h h)).bind fun _ =>
j4 b f 0 f
def Aik : LB → Int → Je := Aj9 Aks
def Bh7 (a : LX) : Option (LX) :=
some a
def Az6 : LX → Option (LX) := Bh7
def Amc (j6 : LX → Option (LX)) (bk4 : Int → LX → Option (LX)) (f : UInt64) (b : Int) (a : LX) : Option (LX) :=
if (Dh b 8) then
(Qx (Tm (Bj 8 b) 0)).bind fun _ =>
(getI a b).bind fun _ =>
(Qh a b (Ad (Ad (Db f (GI.toZ (Bj 8 b)).toNat) : Int8) : Int32)).bind fun g =>
bk4 (Ae b 1) g
else
j6 a
def Aed (f : UInt64) : Nat → Int → LX → Option (LX)
| 0, _, _ => none
| q + 1, b, a => Amc Az6 (Aed f q) f b a
def Aw4 (f : UInt64) : Int → LX → Option (LX) := Aed f Ba
def Ayr (j4 : UInt64 → Int → LX → Option (LX)) (f : UInt64) : Option (LX) :=
j4 f 0 (List.replicate 16 (0 : Int32))
def Bc7 : UInt64 → Option (LX) := Ayr Aw4
def Alw (a : LB) : Option (LX × Int) :=
if (Hh (Ac a) 64) then
some (([(0 : Int32), (0 : Int32), (0 : Int32), (0 : Int32), (0 : Int32), (0 : Int32), (0 : Int32), (0 : Int32), (0 : Int32), (0 : Int32), (0 : Int32), (0 : Int32), (0 : Int32), (0 : Int32), (0 : Int32), (0 : Int32)] : LX), 2)
else
(Al6 a).bind fun (f, b) =>
if (Cl b 0) then
some (([(0 : Int32), (0 : Int32), (0 : Int32), (0 : Int32), (0 : Int32), (0 : Int32), (0 : Int32), (0 : Int32), (0 : Int32), (0 : Int32), (0 : Int32), (0 : Int32), (0 : Int32), (0 : Int32), (0 : Int32), (0 : Int32)] : LX), b)
else
(Bc7 f).bind fun g =>
some (g, 0)
abbrev Ze := Option (Int32 × Int32 × Int)
def Aw7 (a : Int) (b : Bool) : Ze :=
if b then
(Qx (Tm (Am a 1) 0)).bind fun _ =>
some ((Asu (Eo (1 : Int32) (GI.toZ (Am a 1)).toNat)), (Am (Eo (1 : Int32) (GI.toZ (Am a 1)).toNat) 1), 0)
else
some (0, 0, 2)
def Ape : Int → Bool → Ze := Aw7
def Ap1 (j2 : Int → Bool → Ze) (a : Int) : Ze :=
if (geq a 8) then
j2 a (geq a 8)
else
if (geq a 16) then
j2 a (geq a 16)
else
j2 a (geq a 24)
def Xf : Int → Ze := Ap1 Ape
def Oz (a b : Int) : Option Int :=
(Xf b).bind fun (g, h, f) =>
if (((Cl f 0) || (Dh a 1)) || (Hh a 6)) then
some 2
else
some 0
def Abw (a : LB) : Option (LB × Int) :=
if (Dh (Ac a) 5) then
some (([] : LB), 24)
else
if (Hh (Ac a) 41254) then
some (([] : LB), 4)
else
(Ce a 0 (Am (Ac a) 4)).bind fun f =>
(Ahj f).bind fun (g, b) =>
if (Cl b 0) then
some (([] : LB), b)
else
(Ce a (Am (Ac a) 4) (Ac a)).bind fun h =>
(Aoe h).bind fun (k, m) =>
if ((Cl m 0) || (Cl k (Ad g : UInt64))) then
some (([] : LB), 22)
else
(Ce a 0 (Am (Ac a) 4)).bind fun n =>
some (n, 0)
def Hj (a : LB) : Option (LB) :=
(
(Fz ([] : LB) a).bind fun b =>
some b)
def Bde (a : LB) : Option (LB × Int × Int) :=
if (Hh (Ac a) 41250) then
some (([] : LB), 0, 4)
else
(Hj a).bind fun b =>
some (b, (Bj 8 (Ac a)), 0)
def Azf : Option (Int × Int × UInt64 × UInt64) :=
some (10, 10, 16384, 16384)
def Sp (b : LB) (a : Int) : Option Int :=
if (((Dh a 0) || (Hh a 330000)) || (Cl (Ac b) (Bco (Ae a 7) (GI.toZ (3 : UInt64)).toNat))) then
some 8
else
if (Hh (Iu a 7) 0) then
(getI b (Am (Ac b) 1)).bind fun f =>
(Qx (Tm (Iu a 7) 0)).bind fun _ =>
if (Cl (Db f (GI.toZ (Iu a 7)).toNat) 0) then
some 8
else
some 0
else
some 0
def Bgi (g : UInt64) : Option UInt64 :=
some g
def Au9 : UInt64 → Option UInt64 := Bgi
def Aoi (j6 : UInt64 → Option UInt64) (bk4 : UInt64 → Int → Option UInt64) (b f : Int) (h : LB) (k : Int) (g : UInt64) (a : Int) : Option UInt64 :=
if (Dh a f) then
(getI h (Bco (Ae b a) (GI.toZ (3 : UInt64)).toNat)).bind fun m =>
(Qx (Tm (Iu (Ae b a) 7) 0)).bind fun _ =>
(Qx (Tm (Hf (Am f a) (Am 8 (Iu (Ae b a) 7))) 0)).bind fun _ =>
(Qx (Tm a 0)).bind fun _ =>
bk4 (gor g (Eo (Ad (Iu (Db m (GI.toZ (Iu (Ae b a) 7)).toNat) (Am (Eo (1 : UInt8) (GI.toZ (Hf (Am f a) (Am 8 (Iu (Ae b a) 7)))).toNat) 1)) : UInt64) (GI.toZ a).toNat)) (Ae a (Hf (Am f a) (Am 8 (Iu (Ae b a) 7))))
else
j6 g
def Aft (b f : Int) (h : LB) (k : Int) : Nat → UInt64 → Int → Option UInt64
| 0, _, _ => none
| q + 1, g, a => Aoi Au9 (Aft b f h k q) b f h k g a
def Avr (b f : Int) (h : LB) (k : Int) : UInt64 → Int → Option UInt64 := Aft b f h k Ba
def Ave (j4 : Int → Int → LB → Int → UInt64 → Int → Option UInt64) (h : LB) (k b f : Int) : Option UInt64 :=
j4 b f h k 0 0
def Asq : LB → Int → Int → Int → Option UInt64 := Ave Avr
abbrev Bo := Option (LB × Int × Int)
def Ati (o : Int) (p : LB) : Bo :=
some (p, o, 0)
def Amx : Int → LB → Bo := Ati
def As7 (bk27 : Int → Int → LB → Bo) (a : Int) (g : LB) (f b h : Int) (u : LB) : Bo :=
bk27 (Ae b 64) h u
def Ag4 (bk27 : Int → Int → LB → Bo) : Int → LB → Int → Int → Int → LB → Bo := As7 bk27
def Atm (bk44 : UInt64 → Int → Int → LB → Bo) (a b : Int) (g : LB) (f : Int) (k n : UInt64) (m h : Int) (w : LB) : Bo :=
(Qx (Tm (Hf m (Am 8 (Iu h 7))) 0)).bind fun _ =>
bk44 (Db n (GI.toZ (Hf m (Am 8 (Iu h 7)))).toNat) (Am m (Hf m (Am 8 (Iu h 7)))) (Ae h (Hf m (Am 8 (Iu h 7)))) w
def Amg (bk44 : UInt64 → Int → Int → LB → Bo) : Int → Int → LB → Int → UInt64 → UInt64 → Int → Int → LB → Bo := Atm bk44
def Al9 (j48 : UInt64 → Int → Int → LB → Bo) (a b : Int) (g : LB) (f : Int) (k n : UInt64) (m h : Int) (v : LB) : Bo :=
(getI v (Am (Ac v) 1)).bind fun _ =>
(Qx (Tm (Hf m (Am 8 (Iu h 7))) 0)).bind fun _ =>
(Qx (Tm (Iu h 7) 0)).bind fun _ =>
(getI v (Am (Ac v) 1)).bind fun aa =>
(getI v (Am (Ac v) 1)).bind fun _ =>
Option.bind (Qh v (Am (Ac v) 1) (gor aa (Eo (Ad (Iu n (Am (Eo (1 : UInt64) (GI.toZ (Hf m (Am 8 (Iu h 7)))).toNat) 1)) : UInt8) (GI.toZ (Iu h 7)).toNat))) fun w =>
j48 n m h w
def Ag7 (bk44 : UInt64 → Int → Int → LB → Bo) (a b : Int) (g : LB) (f : Int) (k : UInt64) : UInt64 → Int → Int → LB → Bo := Al9 (Amg bk44 a b g f k) a b g f k
def Ag6 (j47 : UInt64 → Int → Int → LB → Bo) (j50 : Int → Int → LB → Bo) (a : Int) (g : LB) (f b : Int) (k n : UInt64) (m h : Int) (u : LB) : Bo :=
if (Hh m 0) then
if (geq (Iu h 7) 0) then
(Fz u ([(0 : UInt8)] : LB)).bind fun ab =>
j47 n m h ab
else
j47 n m h u
else
j50 b h u
def Oi (bk27 : Int → Int → LB → Bo) (a : Int) (g : LB) (f b : Int) (k : UInt64) : Nat → UInt64 → Int → Int → LB → Bo
| 0, _, _, _, _ => none
| q + 1, n, m, h, u => Ag6 (Ag7 (Oi bk27 a g f b k q) a b g f k) (Ag4 bk27 a g f) a g f b k n m h u
def Amr (bk27 : Int → Int → LB → Bo) (a : Int) (g : LB) (f b : Int) (k : UInt64) : UInt64 → Int → Int → LB → Bo := Oi bk27 a g f b k Ba
def Amf (j44 : Int → UInt64 → UInt64 → Int → Int → LB → Bo) (j52 : Int → LB → Bo) (a : Int) (g : LB) (f b o : Int) (p : LB) : Bo :=
if (Dh b a) then
(Asq g f b (Hf 64 (Am a b))).bind fun k =>
j44 b k k (Hf 64 (Am a b)) o p
else
j52 o p
def Xu (a : Int) (g : LB) (f : Int) : Nat → Int → Int → LB → Bo
| 0, _, _, _ => none
| q + 1, b, o, p => Amf (Amr (Xu a g f q) a g f) Amx a g f b o p
def Ami (a : Int) (g : LB) (f : Int) : Int → Int → LB → Bo := Xu a g f Ba
def Apa (j27 : Int → LB → Int → Int → Int → LB → Bo) (g : LB) (f y a : Int) : Bo :=
(Sp g f).bind fun ac =>
if (Cl ac 0) then
some (([] : LB), 0, 8)
else
if (((Dh y 0) || (Hh y a)) || (Hh a f)) then
some (([] : LB), 0, 2)
else
j27 a g f y 0 ([] : LB)
def Aoz : LB → Int → Int → Int → Bo := Apa Ami
def Aq6 (a b : Int) (f g : UInt64) : Option Int :=
if (!((geq (Hf (Aqs a 0) 24) a) && ((geq (Hf (Aqs b 0) 24) b) && ((geq (Hf f 68719476735) f) && ((geq (Hf g 68719476735) g) && true))))) then
some 8
else
some 0
def Ak1 : Int → Int → UInt64 → UInt64 → Option Int := Aq6
def Aeq (j4 : Int → Int → UInt64 → UInt64 → Option Int) (a b : Int) (f g : UInt64) : Option Int :=
(
(
j4 a b f g))
def Akc : Int → Int → UInt64 → UInt64 → Option Int := Aeq Ak1
def Aex (j3 : Int → Int → UInt64 → UInt64 → Option Int) (a b : Int) (f g : UInt64) : Option Int :=
(
(
j3 a b f g))
def Amn : Int → Int → UInt64 → UInt64 → Option Int := Aex Akc
def Aca (g : LB) (b f a : Int) : Option (UInt64 × Int) :=
(Sp g b).bind fun h =>
if (Cl h 0) then
some (0, 8)
else
if (((Dh a 0) || (Hh a 64)) || (Dh f 0)) then
some (0, 2)
else
if (Hh f (Am b a)) then
some (0, 24)
else
(Asq g b f a).bind fun k =>
some (k, 0)
def Fv (a : UInt64) : Option Int :=
if (geq a 0) then
some 64
else
(getI ([(0 : UInt8), (1 : UInt8), (56 : UInt8), (2 : UInt8), (57 : UInt8), (49 : UInt8), (28 : UInt8), (3 : UInt8), (61 : UInt8), (58 : UInt8), (42 : UInt8), (50 : UInt8), (38 : UInt8), (29 : UInt8), (17 : UInt8), (4 : UInt8), (62 : UInt8), (47 : UInt8), (59 : UInt8), (36 : UInt8), (45 : UInt8), (43 : UInt8), (51 : UInt8), (22 : UInt8), (53 : UInt8), (39 : UInt8), (33 : UInt8), (30 : UInt8), (24 : UInt8), (18 : UInt8), (12 : UInt8), (5 : UInt8), (63 : UInt8), (55 : UInt8), (48 : UInt8), (27 : UInt8), (60 : UInt8), (41 : UInt8), (37 : UInt8), (16 : UInt8), (46 : UInt8), (35 : UInt8), (44 : UInt8), (21 : UInt8), (52 : UInt8), (32 : UInt8), (23 : UInt8), (11 : UInt8), (54 : UInt8), (26 : UInt8), (40 : UInt8), (15 : UInt8), (34 : UInt8), (20 : UInt8), (31 : UInt8), (10 : UInt8), (25 : UInt8), (14 : UInt8), (19 : UInt8), (9 : UInt8), (13 : UInt8), (8 : UInt8), (7 : UInt8), (6 : UInt8)] : LB) (GI.toZ (Db (Bj (Iu a (Asu a)) 285870213051353865) (GI.toZ (58 : UInt64)).toNat))).bind fun b =>
some (Ad b : Int)
abbrev Dm := Option (Int × Int × Int)
def Awz : Dm :=
some (0, 0, 24)
def Ao9 : Dm := Awz
def Aq9 (j10 : Dm) : Dm :=
j10
def Ara : Dm := Aq9 Ao9
def Aj5 (j9 : Dm) (f a : Int) : Dm :=
if (geq f 48) then
some (f, (Ae 0 (Ae a f)), 0)
else
j9
def Akh : Int → Int → Dm := Aj5 Ara
def Aka (j8 : Int → Int → Dm) (f b a : Int) : Dm :=
if (Dh f (Hf 48 (Am b a))) then
some (f, (Ae (Ae (0 : Int) (1 : Int)) (Ae a f)), 0)
else
j8 f a
def Aj6 : Int → Int → Int → Dm := Aka Akh
def Akw (j7 : Int → Int → Int → Dm) (h : Int) (k : UInt64) (a : Int) (g : LB) (b : Int) : Dm :=
if (Cl h 0) then
some (0, 0, h)
else
(Fv (Axw k)).bind fun f =>
j7 f b a
def Akb : Int → UInt64 → Int → LB → Int → Dm := Akw Aj6
def Za (j6 : Int → UInt64 → Int → LB → Int → Dm) (g : LB) (b a : Int) : Dm :=
(Sp g b).bind fun m =>
if (Cl m 0) then
some (0, 0, m)
else
if (Dh a 0) then
some (0, 0, 2)
else
if (Tm a b) then
some (0, 0, 24)
else
(
(
(Aca g b a (Hf 48 (Am b a))).bind fun (k, h) =>
j6 h k a g b))
def Ady : LB → Int → Int → Dm := Za Akb
def Amt (b : UInt32) (a : Int) : Option Bool :=
(Qx (Tm a 0)).bind fun _ =>
some (Tm (Db b (GI.toZ a).toNat) 48)
abbrev Afg := Option (UInt32 × Int × Int)
def Amm (a b f : Int) (g : LB) (h k : Int) : Afg :=
(Aca g h b k).bind fun (m, n) =>
if (Cl n 0) then
some (0, 0, n)
else
if (Dh f 48) then
(Qx (Tm a 0)).bind fun _ =>
some ((gor (Eo (Ad f : UInt32) (GI.toZ a).toNat) (Ad m : UInt32)), (Ae b k), 0)
else
(Amt (Ad m : UInt32) a).bind fun u =>
if (!u) then
some (0, 0, 12)
else
some ((Ad m : UInt32), (Ae b k), 0)
def Ahe : Int → Int → Int → LB → Int → Int → Afg := Amm
def Amh (j2 : Int → Int → Int → LB → Int → Int → Afg) (g : LB) (h v a : Int) : Afg :=
(Sp g h).bind fun o =>
if (Cl o 0) then
some (0, 0, o)
else
if ((Dh a 0) || (Hh a 24)) then
some (0, 0, 2)
else
(Ady g h v).bind fun (f, b, p) =>
if (Cl p 0) then
some (0, 0, p)
else
if (geq f 48) then
j2 a b f g h 32
else
j2 a b f g h a
def Aqb : LB → Int → Int → Int → Afg := Amh Ahe
def Anf (a f : Int) (g h : UInt64) (b : UInt32) : Option (Int × UInt32) :=
(Qx (Tm a 0)).bind fun _ =>
if (geq (Db b (GI.toZ a).toNat) 0) then
some (0, b)
else
(Qx (Tm a 0)).bind fun _ =>
some (1, (Am b (Eo (1 : UInt32) (GI.toZ a).toNat)))
abbrev Ee := Option (UInt32 × Int × Int × Int × UInt64 × UInt64 × Int)
def Aq8 (f : UInt32) (k w m : Int) (a n : UInt64) : Ee :=
some (f, k, w, m, (Ae a (Am (Ad f : UInt64) (Db a (GI.toZ (4 : UInt64)).toNat))), n, 0)
def Akp : UInt32 → Int → Int → Int → UInt64 → UInt64 → Ee := Aq8
def Anp (j10 : UInt32 → Int → Int → Int → UInt64 → UInt64 → Ee) (f : UInt32) (k m : Int) (a n : UInt64) (w : Int) : Ee :=
j10 f k w m a n
def Anc : UInt32 → Int → Int → UInt64 → UInt64 → Int → Ee := Anp Akp
def Amq (j9 : UInt32 → Int → Int → UInt64 → UInt64 → Int → Ee) (f : UInt32) (k b : Int) (a : UInt64) (m : Int) (n : UInt64) : Ee :=
if (Hh b 0) then
(Qx (Tm b 0)).bind fun _ =>
if (Dh (Ae a (Am (Ad f : UInt64) (Db a (GI.toZ (4 : UInt64)).toNat))) (Eo (16 : UInt64) (GI.toZ b).toNat)) then
j9 f k m a n (Am b 1)
else
if (Dh b 24) then
(Qx (Tm b 0)).bind fun _ =>
if (Hh (Ae a (Am (Ad f : UInt64) (Db a (GI.toZ (4 : UInt64)).toNat))) (Eo (32 : UInt64) (GI.toZ b).toNat)) then
j9 f k m a n (Ae b 1)
else
j9 f k m a n b
else
j9 f k m a n b
else
if (Dh b 24) then
(Qx (Tm b 0)).bind fun _ =>
if (Hh (Ae a (Am (Ad f : UInt64) (Db a (GI.toZ (4 : UInt64)).toNat))) (Eo (32 : UInt64) (GI.toZ b).toNat)) then
j9 f k m a n (Ae b 1)
else
j9 f k m a n b
else
j9 f k m a n b
def Abe : UInt32 → Int → Int → UInt64 → Int → UInt64 → Ee := Amq Anc
def Ane (j8 : UInt32 → Int → Int → UInt64 → Int → UInt64 → Ee) (b h : Int) (a g : UInt64) (f : UInt32) (k : Int) : Ee :=
(Anf b h a g f).bind fun (ad, o) =>
if (geq ad 1) then
if (Hh h 0) then
(Qx (Tm h 0)).bind fun _ =>
if (Dh (Ae g (Am (Ad o : UInt64) (Db g (GI.toZ (4 : UInt64)).toNat))) (Eo (16 : UInt64) (GI.toZ h).toNat)) then
j8 f k b a (Am h 1) (Ae g (Am (Ad o : UInt64) (Db g (GI.toZ (4 : UInt64)).toNat)))
else
if (Dh h 24) then
(Qx (Tm h 0)).bind fun _ =>
if (Hh (Ae g (Am (Ad o : UInt64) (Db g (GI.toZ (4 : UInt64)).toNat))) (Eo (32 : UInt64) (GI.toZ h).toNat)) then
j8 f k b a (Ae h 1) (Ae g (Am (Ad o : UInt64) (Db g (GI.toZ (4 : UInt64)).toNat)))
else
j8 f k b a h (Ae g (Am (Ad o : UInt64) (Db g (GI.toZ (4 : UInt64)).toNat)))
else
j8 f k b a h (Ae g (Am (Ad o : UInt64) (Db g (GI.toZ (4 : UInt64)).toNat)))
else
if (Dh h 24) then
(Qx (Tm h 0)).bind fun _ =>
if (Hh (Ae g (Am (Ad o : UInt64) (Db g (GI.toZ (4 : UInt64)).toNat))) (Eo (32 : UInt64) (GI.toZ h).toNat)) then
j8 f k b a (Ae h 1) (Ae g (Am (Ad o : UInt64) (Db g (GI.toZ (4 : UInt64)).toNat)))
else
j8 f k b a h (Ae g (Am (Ad o : UInt64) (Db g (GI.toZ (4 : UInt64)).toNat)))
else
j8 f k b a h (Ae g (Am (Ad o : UInt64) (Db g (GI.toZ (4 : UInt64)).toNat)))
else
j8 f k b a h g
def Ahg : Int → Int → UInt64 → UInt64 → UInt32 → Int → Ee := Ane Abe
def Ani (j7 : Int → Int → UInt64 → UInt64 → UInt32 → Int → Ee) (p : Int) (u : LB) (v b h : Int) (a g : UInt64) : Ee :=
(Aca u v p 1).bind fun (ae, aa) =>
if (Cl aa 0) then
some (0, 0, 0, 0, 0, 0, aa)
else
if (geq ae 0) then
(Aca u v (Ae p 1) b).bind fun (af, ab) =>
if (Cl ab 0) then
some (0, 0, 0, 0, 0, 0, ab)
else
j7 b h a g (Ad af : UInt32) (Ae (Ae p 1) b)
else
(Aqb u v (Ae p 1) h).bind fun (y, ag, ac) =>
if (Cl ac 0) then
some (0, 0, 0, 0, 0, 0, ac)
else
(Qx (Tm b 0)).bind fun _ =>
if (Dh (Ae y (Eo (1 : UInt32) (GI.toZ b).toNat)) y) then
some (0, 0, 0, 0, 0, 0, 12)
else
j7 b h a g (Ae y (Eo (1 : UInt32) (GI.toZ b).toNat)) ag
def Amb : Int → LB → Int → Int → Int → UInt64 → UInt64 → Ee := Ani Ahg
def Am9 (j6 : Int → LB → Int → Int → Int → UInt64 → UInt64 → Ee) (u : LB) (v p b h : Int) (a g : UInt64) : Ee :=
(Sp u v).bind fun ah =>
if (Cl ah 0) then
some (0, 0, 0, 0, 0, 0, 8)
else
(Amn b h a g).bind fun ai =>
if (Cl ai 0) then
some (0, 0, 0, 0, 0, 0, 8)
else
j6 p u v b h a g
def Xv : LB → Int → Int → Int → Int → UInt64 → UInt64 → Ee := Am9 Amb
abbrev As := Option (LU × Int × Int)
def Ar5 (k : Int) (m : LU) : As :=
some (m, k, 0)
def Ai2 : Int → LU → As := Ar5
def Ah3 (bk16 : Int → Int → (List (Int × Int × UInt64 × UInt64 × Unit)) → LU → As) (a f : Int) (g : LB) (b k u : Int) (v : UInt32) (h : Int) (ah : List (Int × Int × UInt64 × UInt64 × Unit)) (m : LU) : As :=
(Fz m ([v] : LU)).bind fun ai =>
bk16 (Ae k u) (Ae h 1) ah ai
def Aaf (bk16 : Int → Int → (List (Int × Int × UInt64 × UInt64 × Unit)) → LU → As) : Int → Int → LB → Int → Int → Int → UInt32 → Int → (List (Int × Int × UInt64 × UInt64 × Unit)) → LU → As := Ah3 bk16
def Sf (j22 : Int → Int → UInt32 → Int → (List (Int × Int × UInt64 × UInt64 × Unit)) → LU → As) (a f : Int) (g : LB) (b k h y : Int) (v : UInt32) (u : Int) (n : List (Int × Int × UInt64 × UInt64 × Unit)) (m : LU) (aa ab : Int) (ac ad : UInt64) : As :=
if (Cl y 0) then
some (([] : LU), 0, y)
else
(Qx (Cl a 0)).bind fun _ =>
(getI n (Jd h a)).bind fun _ =>
(Qh n (Jd h a) (aa, ab, ac, ad, ())).bind fun ah =>
j22 k u v h ah m
def Sg (bk16 : Int → Int → (List (Int × Int × UInt64 × UInt64 × Unit)) → LU → As) (a f : Int) (g : LB) (b : Int) : Int → Int → Int → UInt32 → Int → (List (Int × Int × UInt64 × UInt64 × Unit)) → LU → Int → Int → UInt64 → UInt64 → As := Sf (Aaf bk16 a f g b) a f g b
def Tg (j21 : Int → Int → Int → UInt32 → Int → (List (Int × Int × UInt64 × UInt64 × Unit)) → LU → Int → Int → UInt64 → UInt64 → As) (j24 : Int → LU → As) (a f : Int) (g : LB) (b k h : Int) (n : List (Int × Int × UInt64 × UInt64 × Unit)) (m : LU) : As :=
if (Dh h (Bj f a)) then
(Aoz g b k (Hf (Ae k 81) b)).bind fun (af, ae, ag) =>
if (Cl ag 0) then
some (([] : LU), 0, ag)
else
(Qx (Cl a 0)).bind fun _ =>
(getI n (Jd h a)).bind fun _ =>
(
(
(getI n (Jd h a)).bind fun o =>
(
(Xv af ae 0 o.1 o.2.1 o.2.2.1 o.2.2.2.1).bind fun (v, u, aa, ab, ac, ad, y) =>
j21 k h y v u n m aa ab ac ad)))
else
j24 k m
def Ln (a f : Int) (g : LB) (b : Int) : Nat → Int → Int → (List (Int × Int × UInt64 × UInt64 × Unit)) → LU → As
| 0, _, _, _, _ => none
| q + 1, k, h, n, m => Tg (Sg (Ln a f g b q) a f g b) Ai2 a f g b k h n m
def Aip (a f : Int) (g : LB) (b : Int) : Int → Int → (List (Int × Int × UInt64 × UInt64 × Unit)) → LU → As := Ln a f g b Ba
def Aiv (j16 : Int → Int → LB → Int → Int → Int → (List (Int × Int × UInt64 × UInt64 × Unit)) → LU → As) (a f : Int) (g : LB) (b : Int) (p : List (Int × Int × UInt64 × UInt64 × Unit)) : As :=
j16 a f g b 0 0 p ([] : LU)
def Zv : Int → Int → LB → Int → (List (Int × Int × UInt64 × UInt64 × Unit)) → As := Aiv Aip
def Ajc (j15 : Int → Int → LB → Int → (List (Int × Int × UInt64 × UInt64 × Unit)) → As) (bk13 : Int → (List (Int × Int × UInt64 × UInt64 × Unit)) → As) (a f : Int) (g : LB) (b w : Int) (p : List (Int × Int × UInt64 × UInt64 × Unit)) : As :=
if (Dh w 6) then
(Azf).bind fun (aj, ae, ag, ak) =>
(getI p w).bind fun _ =>
(Qh p w (aj, ae, ag, ak, ())).bind fun al =>
bk13 (Ae w 1) al
else
j15 a f g b p
def Zx (a f : Int) (g : LB) (b : Int) : Nat → Int → (List (Int × Int × UInt64 × UInt64 × Unit)) → As
| 0, _, _ => none
| q + 1, w, p => Ajc Zv (Zx a f g b q) a f g b w p
def Tf (a f : Int) (g : LB) (b : Int) : Int → (List (Int × Int × UInt64 × UInt64 × Unit)) → As := Zx a f g b Ba
def Ac4 (j13 : Int → Int → LB → Int → Int → (List (Int × Int × UInt64 × UInt64 × Unit)) → As) (a f : Int) (g : LB) (b : Int) : As :=
j13 a f g b 0 (List.replicate 6 ((0 : Int), (0 : Int), (0 : UInt64), (0 : UInt64), ()))
def Acw : Int → Int → LB → Int → As := Ac4 Tf
abbrev Ah0 := Option (Int × LX × LX × Int)
def Bg6 (a : Int) (b : LX) (f : Bool) : Ah0 :=
if f then
some (10, b, (List.replicate 16 (0 : Int32)), 0)
else
if (geq a 16) then
some (9, b, (List.replicate 16 (0 : Int32)), 0)
else
some (0, (List.replicate 16 (0 : Int32)), (List.replicate 16 (0 : Int32)), 2)
def Avp : Int → LX → Bool → Ah0 := Bg6
def Au3 (j2 : Int → LX → Bool → Ah0) (a : Int) (b : LX) : Ah0 :=
if (geq a 8) then
j2 a b (geq a 8)
else
j2 a b (geq a 24)
def Ath : Int → LX → Ah0 := Au3 Avp
def Bam (a : Int) (f : LX) : Option (Int × Int32 × Int × LX × LX × Int) :=
(Ath a f).bind fun (g, h, k, b) =>
if (Cl b 0) then
some (0, 0, 0, (List.replicate 16 (0 : Int32)), (List.replicate 16 (0 : Int32)), b)
else
some (a, 0, g, h, k, 0)
def Xr (a : UInt32) : Option Int32 :=
some (Zf (Ad (Db a (GI.toZ (1 : UInt64)).toNat) : Int32) (Asu (Ad (Iu a 1) : Int32)))
def Afr (a : Int) (k : Int32) (b : Int) (f m : LX) : Option Int :=
(Ath a f).bind fun (g, n, o, h) =>
if ((Cl h 0) || (Cl g b)) then
some 8
else
some 0
def Apd (a : Int) : Option (Int × Int) :=
if (geq a 8) then
some (4, 0)
else
if (geq a 16) then
if (geq a 16) then
some (5, 0)
else
some (0, 2)
else
if (geq a 24) then
some (5, 0)
else
some (0, 2)
def Ajv (a : Int) (b : Int32) : Option Int32 :=
(Qx (Tm a 0)).bind fun _ =>
(Qx (Tm a 0)).bind fun _ =>
some (Ad (Bco (Am (Eo (Ad b : Int) (GI.toZ a).toNat) (Ad b : Int)) (GI.toZ a).toNat) : Int32)
def Afb (b : Int) (f : Int32) : Option (Int32 × Int) :=
(Apd b).bind fun (g, a) =>
if (Cl a 0) then
some (0, a)
else
(Ajv g f).bind fun h =>
some (h, 0)
def Ad9 (a : Int) (b f : LX) : Option Int :=
if ((Cl a 9) && (Cl a 10)) then
some 8
else
some 0
abbrev Ja := Option (Int32 × Int)
def Ard (g : Int32) (a : Int) (b f : LX) : Ja :=
(Qx (Tm a 0)).bind fun _ =>
some ((Db g (GI.toZ a).toNat), 0)
def Akm : Int32 → Int → LX → LX → Ja := Ard
def Aer (j6 : Int32 → Int → LX → LX → Ja) (bk4 : Int32 → Int → Ja) (b : LX) (a : Int) (f : LX) (g : Int32) (h : Int) : Ja :=
if (Dh h 16) then
(getI b h).bind fun m =>
(getI f h).bind fun _ =>
(getI f h).bind fun n =>
bk4 (Ae g (Bj m n)) (Ae h 1)
else
j6 g a b f
def Tu (b : LX) (a : Int) (f : LX) : Nat → Int32 → Int → Ja
| 0, _, _ => none
| q + 1, g, h => Aer Akm (Tu b a f q) b a f g h
def Akf (b : LX) (a : Int) (f : LX) : Int32 → Int → Ja := Tu b a f Ba
def Aki (j4 : LX → Int → LX → Int32 → Int → Ja) (a : Int) (b f : LX) : Ja :=
(Ad9 a b f).bind fun k =>
if (Cl k 0) then
some (0, k)
else
(Qx (Tm (Am a 1) 0)).bind fun _ =>
j4 b a f (Eo (1 : Int32) (GI.toZ (Am a 1)).toNat) 0
def Amk : Int → LX → LX → Ja := Aki Akf
def Aln (a : Int) : Option Int32 :=
if (geq a 0) then
some 4
else
if (Dh a 4) then
some 2
else
some 1
abbrev Iy := Option (Int × LX × LX × Int)
def Bae (g : Int) (b f : LX) : Iy :=
some (g, b, f, 0)
def Aq2 : Int → LX → LX → Iy := Bae
def Aes (j6 : Int → LX → LX → Iy) (bk4 : Int → LX → Iy) (h : Int32) (f : LX) (g a : Int) (b : LX) : Iy :=
if (Dh a 16) then
(getI f a).bind fun m =>
if (geq m 0) then
bk4 (Ae a 1) b
else
if ((Dh m 0) == (Dh h 0)) then
(getI b a).bind fun _ =>
(getI b a).bind fun o =>
(Aln a).bind fun p =>
(getI b a).bind fun _ =>
(Qh b a (Ae o p)).bind fun u =>
bk4 (Ae a 1) u
else
(getI b a).bind fun _ =>
(getI b a).bind fun v =>
(Aln a).bind fun w =>
(getI b a).bind fun _ =>
(Qh b a (Am v w)).bind fun y =>
bk4 (Ae a 1) y
else
j6 g b f
def Tx (h : Int32) (f : LX) (g : Int) : Nat → Int → LX → Iy
| 0, _, _ => none
| q + 1, a, b => Aes Aq2 (Tx h f g q) h f g a b
def Aqz (h : Int32) (f : LX) (g : Int) : Int → LX → Iy := Tx h f g Ba
def Akn (j4 : Int32 → LX → Int → Int → LX → Iy) (g : Int) (k f : LX) (h : Int32) : Iy :=
(Ad9 g k f).bind fun n =>
if (Cl n 0) then
some (0, (List.replicate 16 (0 : Int32)), (List.replicate 16 (0 : Int32)), n)
else
if (geq h 0) then
some (g, k, f, 0)
else
j4 h f g 0 k
def Amp : Int → LX → LX → Int32 → Iy := Akn Aqz
abbrev Afu := Option (Int × LX × LX × Int)
def Asw (g : Int32) (b : Int) (f a : LX) : Afu :=
(getI (Uc a 1 ((16 : Int) - (1 : Int)) (Ak3 a 0 ((16 : Int) - (0 : Int)))) 0).bind fun _ =>
(Qh (Uc a 1 ((16 : Int) - (1 : Int)) (Ak3 a 0 ((16 : Int) - (0 : Int)))) 0 g).bind fun k =>
some (b, f, k, 0)
def Ann : Int32 → Int → LX → LX → Afu := Asw
def Ahh (j2 : Int32 → Int → LX → LX → Afu) (b : Int) (f a : LX) (g : Int32) : Afu :=
(Ad9 b f a).bind fun h =>
if (Cl h 0) then
some (0, (List.replicate 16 (0 : Int32)), (List.replicate 16 (0 : Int32)), h)
else
(
(vwI 16 1 16).bind fun _ =>
(vwI 16 0 16).bind fun _ =>
j2 g b f a)
def Aqm : Int → LX → LX → Int32 → Afu := Ahh Ann
def Aro (a : Int) (b f : LX) (g h : Int32) : Option (Int × LX × LX) :=
(Amp a b f h).bind fun (k, m, n, v) =>
(Aqm k m n g).bind fun (o, p, u, w) =>
some (o, p, u)
def Apf (b : Int) (f g : LX) (a : Int32) : Option (Int32 × Int × LX × LX × Int) :=
(Amk b f g).bind fun (h, k) =>
if (Cl k 0) then
some (0, 0, (List.replicate 16 (0 : Int32)), (List.replicate 16 (0 : Int32)), k)
else
(Aro b f g (Ae a h) a).bind fun (m, n, o) =>
some ((Ae a h), m, n, o, 0)
def Kc (a : Int) (b : Int32) (f : Int) (g h : LX) (o : Int32) : Option (Int32 × Int × Int32 × Int × LX × LX × Int) :=
(Afr a b f g h).bind fun k =>
if (Cl k 0) then
some (0, 0, 0, 0, (List.replicate 16 (0 : Int32)), (List.replicate 16 (0 : Int32)), k)
else
(Afb a b).bind fun (m, y) =>
(Apf f g h o).bind fun (n, p, u, v, w) =>
(
some ((Ae n m), a, (Ae n m), p, u, v, w))
def Aqn (a : Int) (b : LX) : Option Int :=
if ((Dh a 1) || (Hh a 6)) then
some 2
else
if (Hh (Ac b) 4000) then
some 4
else
(Qx (Cl a 0)).bind fun _ =>
if (Cl (Jd (Ac b) a) 0) then
some 2
else
some 0
def Gm (a : LX) : Option (LX) :=
(
(Fz ([] : LX) a).bind fun b =>
some b)
abbrev Cp := Option (LX × Int)
def Bcp (f : LX) : Cp :=
some (f, 0)
def Att : LX → Cp := Bcp
def Ase (bk12 : Int → LX → Cp) (b a : Int) (h : LX) : Cp :=
bk12 (Ae a b) h
def Amw (bk12 : Int → LX → Cp) : Int → Int → LX → Cp := Ase bk12
def Ahf (j20 : Int → LX → Cp) (bk18 : Int → LX → Cp) (b a g : Int) (h : LX) : Cp :=
if (Tm g 0) then
(Qx (decide (0 ≤ (Ae g 1) ∧ (Ae g 1) < ((Ae a b) - a)))).bind fun _ =>
(Qx (decide (0 ≤ g ∧ g < ((Ae a b) - a)))).bind fun _ =>
(getI h (a + (Ae g 1))).bind fun o =>
(getI h (a + g)).bind fun p =>
(Qx (decide (0 ≤ g ∧ g < ((Ae a b) - a)))).bind fun _ =>
(Qh h (a + g) (Am o p)).bind fun u =>
bk18 (Am g 1) u
else
j20 a h
def Xm (bk12 : Int → LX → Cp) (b a : Int) : Nat → Int → LX → Cp
| 0, _, _ => none
| q + 1, g, h => Ahf (Amw bk12 b) (Xm bk12 b a q) b a g h
def Anm (bk12 : Int → LX → Cp) (b a : Int) : Int → LX → Cp := Xm bk12 b a Ba
def Am4 (j18 : Int → Int → LX → Cp) (b a : Int) (k : LX) : Cp :=
j18 a (Am (Am ((Ae a b) - a) 1) 1) k
def Ag5 (bk12 : Int → LX → Cp) (b : Int) : Int → LX → Cp := Am4 (Anm bk12 b) b
def Ang (j17 : Int → LX → Cp) (j22 : LX → Cp) (b a : Int) (f : LX) : Cp :=
if (Dh a (Ac f)) then
(vwI (Ac f) a (Ae a b)).bind fun _ =>
if (Hh (Am ((Ae a b) - a) 1) 0) then
(Qx (decide (0 ≤ (Am ((Ae a b) - a) 1) ∧ (Am ((Ae a b) - a) 1) < ((Ae a b) - a)))).bind fun _ =>
Option.bind (Qx (decide (0 ≤ (Am (Am ((Ae a b) - a) 1) 1) ∧ (Am (Am ((Ae a b) - a) 1) 1) < ((Ae a b) - a)))) fun _ =>
(getI f (a + (Am ((Ae a b) - a) 1))).bind fun v =>
(getI f (a + (Am (Am ((Ae a b) - a) 1) 1))).bind fun w =>
(Qx (decide (0 ≤ (Am ((Ae a b) - a) 1) ∧ (Am ((Ae a b) - a) 1) < ((Ae a b) - a)))).bind fun _ =>
(Qh f (a + (Am ((Ae a b) - a) 1)) (Ae v (Bs w 2))).bind fun y =>
j17 a y
else
j17 a f
else
j22 f
def Tl (b : Int) : Nat → Int → LX → Cp
| 0, _, _ => none
| q + 1, a, f => Ang (Ag5 (Tl b q) b) Att b a f
def Ama (b : Int) : Int → LX → Cp := Tl b Ba
def Aph (j12 : Int → Int → LX → Cp) (b : Int) (m : LX) : Cp :=
(Aqn b m).bind fun n =>
if (Cl n 0) then
some (([] : LX), n)
else
(Gm m).bind fun aa =>
j12 b 0 aa
def Ato : Int → LX → Cp := Aph Ama
def Azi : Option Int :=
some 0
def Apo : Option Int := Azi
def Abt (j6 : Option Int) (bk4 : Int → Option Int) (b f : Int32) (a : LX) (g : Int) : Option Int :=
if (Dh g (Ac a)) then
(getI a g).bind fun h =>
if ((Dh h b) || (Hh h f)) then
some 16
else
bk4 (Ae g 1)
else
j6
def Re (b f : Int32) (a : LX) : Nat → Int → Option Int
| 0, _ => none
| q + 1, g => Abt Apo (Re b f a q) b f a g
def Aom (b f : Int32) (a : LX) : Int → Option Int := Re b f a Ba
def Aiw (j4 : Int32 → Int32 → LX → Int → Option Int) (m : Int) (a : LX) : Option Int :=
(Xf m).bind fun (b, f, k) =>
if (Cl k 0) then
some k
else
if (Hh (Ac a) 4000) then
some 4
else
j4 b f a 0
def Ae6 : Int → LX → Option Int := Aiw Aom
abbrev Bd := Option (LX × Int)
def Agu (a b : Int) (k : LX) : Bd :=
(Ato a k).bind fun (ah, af) =>
if (Cl af 0) then
some (([] : LX), af)
else
(Ae6 b ah).bind fun ae =>
if (Cl ae 0) then
some (([] : LX), ae)
else
some (ah, 0)
def Ko : Int → Int → LX → Bd := Agu
def Agw (bk13 : Int → (List (Int × Int32 × (Int × LX × LX × Unit) × Unit)) → LX → Bd) (a : Int) (f : LU) (b g : Int) (w : Int32) (u : Int) (h : List (Int × Int32 × (Int × LX × LX × Unit) × Unit)) (k : LX) (y : Int) (v : Int32) (aa : Int) (ab ac : LX) : Bd :=
if (Cl u 0) then
some (([] : LX), u)
else
(Qh h (Jd g a) (y, v, (aa, ab, ac, ()), ())).bind fun ai =>
(Fz k ([w] : LX)).bind fun aj =>
bk13 (Ae g 1) ai aj
def Yn (bk13 : Int → (List (Int × Int32 × (Int × LX × LX × Unit) × Unit)) → LX → Bd) : Int → LU → Int → Int → Int32 → Int → (List (Int × Int32 × (Int × LX × LX × Unit) × Unit)) → LX → Int → Int32 → Int → LX → LX → Bd := Agw bk13
def Kk (j16 : Int → Int32 → Int → (List (Int × Int32 × (Int × LX × LX × Unit) × Unit)) → LX → Int → Int32 → Int → LX → LX → Bd) (j18 : Int → Int → LX → Bd) (f : LU) (a b g : Int) (h : List (Int × Int32 × (Int × LX × LX × Unit) × Unit)) (k : LX) : Bd :=
if (Dh g (Ac f)) then
(getI f g).bind fun ag =>
(Qx (Cl a 0)).bind fun _ =>
(getI h (Jd g a)).bind fun _ =>
(
(getI h (Jd g a)).bind fun m =>
(
(Xr ag).bind fun ae =>
(
(Kc m.1 m.2.1 m.2.2.1.1 m.2.2.1.2.1 m.2.2.1.2.2.1 ae).bind fun (w, y, v, aa, ab, ac, u) =>
j16 g w u h k y v aa ab ac)))
else
j18 a b k
def Hw (f : LU) (a b : Int) : Nat → Int → (List (Int × Int32 × (Int × LX × LX × Unit) × Unit)) → LX → Bd
| 0, _, _, _ => none
| q + 1, g, h, k => Kk (Yn (Hw f a b q) a f b) Ko f a b g h k
def Agr (f : LU) (a b : Int) : Int → (List (Int × Int32 × (Int × LX × LX × Unit) × Unit)) → LX → Bd := Hw f a b Ba
def Agy (j13 : LU → Int → Int → Int → (List (Int × Int32 × (Int × LX × LX × Unit) × Unit)) → LX → Bd) (f : LU) (a b : Int) (n : List (Int × Int32 × (Int × LX × LX × Unit) × Unit)) : Bd :=
j13 f a b 0 n ([] : LX)
def Yp : LU → Int → Int → (List (Int × Int32 × (Int × LX × LX × Unit) × Unit)) → Bd := Agy Agr
def Ag0 (j12 : LU → Int → Int → (List (Int × Int32 × (Int × LX × LX × Unit) × Unit)) → Bd) (bk10 : Int → (List (Int × Int32 × (Int × LX × LX × Unit) × Unit)) → Bd) (f : LU) (a b : Int) (o : LX) (p : Int) (n : List (Int × Int32 × (Int × LX × LX × Unit) × Unit)) : Bd :=
if (Dh p 6) then
(Bam b o).bind fun (ak, af, ae, al, am, v) =>
(getI n p).bind fun _ =>
(Qh n p (ak, af, (ae, al, am, ()), ())).bind fun an =>
bk10 (Ae p 1) an
else
j12 f a b n
def Yc (f : LU) (a b : Int) (o : LX) : Nat → Int → (List (Int × Int32 × (Int × LX × LX × Unit) × Unit)) → Bd
| 0, _, _ => none
| q + 1, p, n => Ag0 Yp (Yc f a b o q) f a b o p n
def Pr (f : LU) (a b : Int) (o : LX) : Int → (List (Int × Int32 × (Int × LX × LX × Unit) × Unit)) → Bd := Yc f a b o Ba
def Zy (j10 : LU → Int → Int → LX → Int → (List (Int × Int32 × (Int × LX × LX × Unit) × Unit)) → Bd) (a b : Int) (o : LX) (f : LU) : Bd :=
j10 f a b o 0 (List.replicate 6 ((0 : Int), (0 : Int32), ((0 : Int), (List.replicate 16 (0 : Int32)), (List.replicate 16 (0 : Int32)), ()), ()))
def Tq : Int → Int → LX → LU → Bd := Zy Pr
def deframe_Decode (a h : Int) (u : LX) (f : Int) (v : LB) : Option (LX × Int) :=
(Oz a h).bind fun k =>
if (Cl k 0) then
some (([] : LX), k)
else
if (Dh f 1) then
some (([] : LX), 2)
else
(Qx (Cl a 0)).bind fun _ =>
if (Hh f (Bs 4000 a)) then
some (([] : LX), 2)
else
(Abw v).bind fun (w, m) =>
if (Cl m 0) then
some (([] : LX), m)
else
(Bde w).bind fun (n, b, o) =>
if (Cl o 0) then
some (([] : LX), o)
else
(Acw a f n b).bind fun (y, g, p) =>
if (Cl p 0) then
some (([] : LX), p)
else
if (Tm (Am b g) 8) then
some (([] : LX), 12)
else
(Aca n b g (Am b g)).bind fun (aa, ab) =>
if ((Cl ab 0) || (Cl aa 0)) then
some (([] : LX), 12)
else
(Tq a h u y).bind fun (ac, ad) =>
some (ac, ad)
abbrev Aiq := Option (Int × Int)
def Au2 (a : LB) : Aiq :=
(Ce a (Am (Ac a) 32) (Ac a)).bind fun g =>
(Aho g 0).bind fun (f, y, h) =>
if h then
if (Dh (Am (Ac a) 32) f) then
some (0, 24)
else
some ((Ae f 32), 0)
else
(Ce a (Am (Ac a) 32) (Ac a)).bind fun k =>
(Aho k 2147483648).bind fun (b, m, n) =>
if (!n) then
some (0, 12)
else
if (Dh (Ac a) (Ae b 64)) then
some (0, 24)
else
(Ce a (Am (Ac a) (Ae b 64)) (Ae (Am (Ac a) (Ae b 64)) 32)).bind fun o =>
(Ap5 b m 2684354560).bind fun p =>
(Gx o p).bind fun u =>
if (!u) then
some (0, 12)
else
some ((Ae b 64), 0)
def Apc : LB → Aiq := Au2
def Ao2 (j2 : LB → Aiq) (a : LB) : Aiq :=
if (Dh (Am (Ac a) 32) 0) then
some (0, 6)
else
(Ce a (Am (Ac a) 32) (Ac a)).bind fun v =>
(Ke v ([(65 : UInt8), (80 : UInt8), (69 : UInt8), (84 : UInt8), (65 : UInt8), (71 : UInt8), (69 : UInt8), (88 : UInt8)] : LB)).bind fun w =>
if (!w) then
some (0, 6)
else
j2 a
def Asj : LB → Aiq := Ao2 Apc
abbrev Bw := Option (Int × Int)
def At0 (a : Int) : Bw :=
some (a, 0)
def Ald : Int → Bw := At0
def Al0 (bk8 : Int → LB → Bw) (a : Int) (g : LB) : Bw :=
bk8 (Ae a 1) g
def Ael (bk8 : Int → LB → Bw) : Int → LB → Bw := Al0 bk8
def Aeb (j12 : Int → LB → Bw) (a f : Int) (b : LB) : Bw :=
if (geq f 0) then
some (0, 38)
else
(Ce b 0 (Am (Ac b) f)).bind fun g =>
j12 a g
def Ad0 (bk8 : Int → LB → Bw) : Int → Int → LB → Bw := Aeb (Ael bk8)
def Agd (j11 : Int → Int → LB → Bw) (j14 : Int → Bw) (a : Int) (b : LB) : Bw :=
if (Hh (Ac b) 0) then
(Asj b).bind fun (f, k) =>
j11 a f b
else
j14 a
def To : Nat → Int → LB → Bw
| 0, _, _ => none
| q + 1, a, b => Agd (Ad0 (To q)) Ald a b
def Anz : Int → LB → Bw := To Ba
def Agj (j8 : Int → LB → Bw) (h : LB) : Bw :=
if (Hh (Ac h) 4000) then
some (0, 38)
else
j8 0 h
def Ahd : LB → Bw := Agj Anz
abbrev Ay := Option (Int × Int × Int × LX × Int)
def Ap2 (a : LB) (aa b f h : Int) (ad : LX) : Ay :=
(Ce a aa (Ac a)).bind fun aq =>
(Ahd aq).bind fun (bb, ar) =>
if (Cl ar 0) then
some (0, 0, 0, ([] : LX), 38)
else
some (b, f, h, ad, 0)
def Aht : LB → Int → Int → Int → Int → LX → Ay := Ap2
def Ao3 (bk21 : Int → Int → LX → Ay) (a : LB) (w : LI) (m b f h o p n g y ab : Int) (ac : LX) (k : LI) (aa aj ak ae : Int) (am ad : LX) : Ay :=
if (Cl ak 0) then
some (0, 0, 0, ([] : LX), ak)
else
(Fz ad am).bind fun au =>
bk21 (Ae aa aj) (Ae ae 1) au
def Ah6 (bk21 : Int → Int → LX → Ay) : LB → LI → Int → Int → Int → Int → Int → Int → Int → Int → Int → Int → LX → LI → Int → Int → Int → Int → LX → LX → Ay := Ao3 bk21
def Ack (j24 : Int → Int → Int → Int → LX → LX → Ay) (j26 : LB → Int → Int → Int → Int → LX → Ay) (a : LB) (w : LI) (m b f h o p n g y ab : Int) (ac : LX) (k : LI) (aa ae : Int) (ad : LX) : Ay :=
if (Dh ae (Ac w)) then
(getI w ae).bind fun _ =>
(getI w ae).bind fun aj =>
if (Dh (Ac a) (Ae aa aj)) then
some (0, 0, 0, ([] : LX), 24)
else
(getI k ae).bind fun _ =>
(Ce a aa (Ae aa aj)).bind fun av =>
(getI k ae).bind fun aw =>
(deframe_Decode b f ac aw av).bind fun (am, ak) =>
j24 aa aj ak ae am ad
else
j26 a aa b f h ad
def Rf (a : LB) (w : LI) (m b f h o p n g y ab : Int) (ac : LX) (k : LI) : Nat → Int → Int → LX → Ay
| 0, _, _, _ => none
| q + 1, aa, ae, ad => Ack (Ah6 (Rf a w m b f h o p n g y ab ac k q) a w m b f h o p n g y ab ac k) Aht a w m b f h o p n g y ab ac k aa ae ad
def Aof (a : LB) (w : LI) (m b f h o p n g y ab : Int) (ac : LX) (k : LI) : Int → Int → LX → Ay := Rf a w m b f h o p n g y ab ac k Ba
def Ac5 (j21 : LB → LI → Int → Int → Int → Int → Int → Int → Int → Int → Int → Int → LX → LI → Int → Int → LX → Ay) (a u : LB) (m b f h o p n g : Int) (k : LI) (an y ab : Int) (w : LI) : Ay :=
if (Cl an 0) then
some (0, 0, 0, ([] : LX), an)
else
(Alw u).bind fun (ac, bc) =>
j21 a w m b f h o p n g y ab ac k y 0 ([] : LX)
def Lm : LB → LB → Int → Int → Int → Int → Int → Int → Int → Int → LI → Int → Int → Int → LI → Ay := Ac5 Aof
def Ai4 (j20 : LB → LB → Int → Int → Int → Int → Int → Int → Int → Int → LI → Int → Int → Int → LI → Ay) (a u : LB) (v : LI) (m b f h o p n g af : Int) (k : LI) : Ay :=
j20 a u m b f h o p n g k 0 (Ae (Ae g (Bj 4 (Ac v))) 4) af v
def Abs : LB → LB → LI → Int → Int → Int → Int → Int → Int → Int → Int → Int → LI → Ay := Ai4 Lm
def Acf (j19 : LB → LB → LI → Int → Int → Int → Int → Int → Int → Int → Int → Int → LI → Ay) (bk17 : Int → Int → Ay) (v : LI) (a u : LB) (m b f h o p n g : Int) (k : LI) (ag af : Int) : Ay :=
if (Dh ag (Ac v)) then
(getI v ag).bind fun _ =>
(getI v ag).bind fun ax =>
bk17 (Ae ag 1) (Ae af ax)
else
j19 a u v m b f h o p n g af k
def Qr (v : LI) (a u : LB) (m b f h o p n g : Int) (k : LI) : Nat → Int → Int → Ay
| 0, _, _ => none
| q + 1, ag, af => Acf Abs (Qr v a u m b f h o p n g k q) v a u m b f h o p n g k ag af
def Aje (v : LI) (a u : LB) (m b f h o p n g : Int) (k : LI) : Int → Int → Ay := Qr v a u m b f h o p n g k Ba
def Ab7 (j20 : LB → LB → Int → Int → Int → Int → Int → Int → Int → Int → LI → Int → Int → Int → LI → Ay) (j17 : LI → LB → LB → Int → Int → Int → Int → Int → Int → Int → Int → LI → Int → Int → Ay) (al : Int) (a u : LB) (m b f h o p n g ah ai : Int) (v k : LI) : Ay :=
if (Cl al 0) then
j20 a u m b f h o p n g k al ah ai ([] : LI)
else
j17 v a u m b f h o p n g k 0 (Ae (Ae g (Bj 4 (Ac v))) 4)
def Abl : Int → LB → LB → Int → Int → Int → Int → Int → Int → Int → Int → Int → Int → LI → LI → Ay := Ab7 Lm Aje
def Ahq (j20 : LB → LB → Int → Int → Int → Int → Int → Int → Int → Int → LI → Int → Int → Int → LI → Ay) (j16 : Int → LB → LB → Int → Int → Int → Int → Int → Int → Int → Int → Int → Int → LI → LI → Ay) (a u : LB) (m b f h o p n g ah ai : Int) (k : LI) : Ay :=
if (Dh (Ac a) g) then
j20 a u m b f h o p n g k 24 ah ai ([] : LI)
else
(Ce a g (Ac a)).bind fun ay =>
(Aik ay (Ac k)).bind fun (v, al) =>
j16 al a u m b f h o p n g ah ai v k
def Wn : LB → LB → Int → Int → Int → Int → Int → Int → Int → Int → Int → Int → LI → Ay := Ahq Lm Abl
def Acn (j15 : LB → LB → Int → Int → Int → Int → Int → Int → Int → Int → Int → Int → LI → Ay) (a u : LB) (m b f h o p n g ah ai : Int) (k : LI) (ao : Int) : Ay :=
if (Cl ao 0) then
some (0, 0, 0, ([] : LX), ao)
else
j15 a u m b f h o p n g ah ai k
def Ri : LB → LB → Int → Int → Int → Int → Int → Int → Int → Int → Int → Int → LI → Int → Ay := Acn Wn
def Zk (j14 : LB → LB → Int → Int → Int → Int → Int → Int → Int → Int → Int → Int → LI → Int → Ay) (a u : LB) : Ay :=
if (Hh (Ac u) 64) then
some (0, 0, 0, ([] : LX), 2)
else
(Apg a).bind fun (m, b, f, h, o, p, n, g, ah, ai, k, ap) =>
if (Cl ap 0) then
some (0, 0, 0, ([] : LX), ap)
else
if ((u == ([] : LB)) != (geq m 1)) then
j14 a u m b f h o p n g ah ai k 26
else
if (geq m 1) then
j14 a u m b f h o p n g ah ai k 0
else
if (Dh (Ac a) g) then
j14 a u m b f h o p n g ah ai k 24
else
(Ce a n g).bind fun az =>
(Xx az u).bind fun (ba, bd) =>
if (!ba) then
j14 a u m b f h o p n g ah ai k 26
else
j14 a u m b f h o p n g ah ai k 0
def Ki : LB → LB → Ay := Zk Ri
abbrev Zg := Option (Int × Int × Int × Int × Int × Int × LI × Int)
def Aol (a : LB) (b f g h k n : Int) : Zg :=
(Oq b f g h k).bind fun (ab, p) =>
if (Cl p 0) then
some (0, 0, 0, 0, 0, 0, ([] : LI), p)
else
(Ce a n (Ac a)).bind fun ac =>
(Aik ac (Ac ab)).bind fun (u, v) =>
if (Cl v 0) then
some (0, 0, 0, 0, 0, 0, ([] : LI), v)
else
some (b, f, g, h, k, (Ae (Ae n (Bj 4 (Ac u))) 4), u, 0)
def Qu : LB → Int → Int → Int → Int → Int → Int → Zg := Aol
def Ra (j2 : LB → Int → Int → Int → Int → Int → Int → Zg) (a o : LB) : Zg :=
if (Hh (Ac o) 64) then
some (0, 0, 0, 0, 0, 0, ([] : LI), 2)
else
if (Hh (Ac a) 100000) then
some (0, 0, 0, 0, 0, 0, ([] : LI), 4)
else
(Xj a).bind fun (m, w) =>
if (Cl w 0) then
some (0, 0, 0, 0, 0, 0, ([] : LI), w)
else
(Ce a m (Ac a)).bind fun ad =>
(Afp ad).bind fun (b, f, g, h, k, y) =>
if (Cl y 0) then
some (0, 0, 0, 0, 0, 0, ([] : LI), y)
else
if ((o == ([] : LB)) != (geq b 1)) then
some (0, 0, 0, 0, 0, 0, ([] : LI), 26)
else
if (o != ([] : LB)) then
if (Dh (Ac a) (Ae (Ae m 22) 8)) then
some (0, 0, 0, 0, 0, 0, ([] : LI), 24)
else
(Ce a (Ae m 22) (Ae (Ae m 22) 8)).bind fun ae =>
(Xx ae o).bind fun (af, aa) =>
if (Cl aa 0) then
some (0, 0, 0, 0, 0, 0, ([] : LI), aa)
else
if (!af) then
some (0, 0, 0, 0, 0, 0, ([] : LI), 26)
else
j2 a b f g h k (Ae (Ae m 22) 8)
else
j2 a b f g h k (Ae m 22)
def seekto_Open : LB → LB → Zg := Ra Qu
abbrev Da := Option (LI × Int)
def Atk (f : LI) : Da :=
some (f, 0)
def Ajt : LI → Da := Atk
def Alg (bk6 : Int → Int → LI → Da) (a : LI) (b g h : Int) (k : LI) : Da :=
bk6 (Ae b 1) (Ae g h) k
def Aei (bk6 : Int → Int → LI → Da) : LI → Int → Int → Int → LI → Da := Alg bk6
def Xt (j8 : Int → Int → Int → LI → Da) (j10 : LI → Da) (a : LI) (b g : Int) (f : LI) : Da :=
if (Dh b (Ac a)) then
(getI a b).bind fun h =>
(Fz f ([(Ae g h)] : LI)).bind fun k =>
j8 b g h k
else
j10 f
def Lj (a : LI) : Nat → Int → Int → LI → Da
| 0, _, _, _ => none
| q + 1, b, g, f => Xt (Aei (Lj a q) a) Ajt a b g f
def Alk (a : LI) : Int → Int → LI → Da := Lj a Ba
def Ad1 (j6 : LI → Int → Int → LI → Da) (a : LI) : Da :=
(Afc a).bind fun m =>
if (Cl m 0) then
some (([] : LI), m)
else
j6 a 0 0 ([(0 : Int)] : LI)
def Aey : LI → Da := Ad1 Alk
abbrev Bh := Option (LB × Int)
def Av8 (g : LB) : Bh :=
some (g, 0)
def Ans : LB → Bh := Av8
def Anq (bk16 : Int → LB → Bh) (b : Int) (a : LX) (f : Int) (h : LB) : Bh :=
bk16 (Ae f 1) h
def Agi (bk16 : Int → LB → Bh) : Int → LX → Int → LB → Bh := Anq bk16
def Zr (j28 : Int → LB → Bh) (bk26 : Int → LB → Bh) (b : Int) (a : LX) (k : Int32) (f m : Int) (h : LB) : Bh :=
if (Dh m (Bs b 8)) then
(Qx (Tm (Bj 8 m) 0)).bind fun _ =>
(Fz h ([(Ad (Db k (GI.toZ (Bj 8 m)).toNat) : UInt8)] : LB)).bind fun p =>
bk26 (Ae m 1) p
else
j28 f h
def Ib (bk16 : Int → LB → Bh) (b : Int) (a : LX) (k : Int32) (f : Int) : Nat → Int → LB → Bh
| 0, _, _ => none
| q + 1, m, h => Zr (Agi bk16 b a) (Ib bk16 b a k f q) b a k f m h
def Af9 (bk16 : Int → LB → Bh) (b : Int) (a : LX) (k : Int32) (f : Int) : Int → LB → Bh := Ib bk16 b a k f Ba
def Agp (j26 : Int32 → Int → Int → LB → Bh) (b : Int) (a : LX) (f : Int) (g : LB) (k : Int32) : Bh :=
j26 k f 0 g
def Kg (bk16 : Int → LB → Bh) (b : Int) (a : LX) : Int → LB → Int32 → Bh := Agp (Af9 bk16 b a) b a
def Zl (j25 : Int → LB → Int32 → Bh) (j30 : LB → Bh) (b : Int) (a : LX) (f : Int) (g : LB) : Bh :=
if (Dh f (Ac a)) then
(getI a f).bind fun n =>
if (geq b 8) then
j25 f g (Ae n 128)
else
j25 f g n
else
j30 g
def Fl (b : Int) (a : LX) : Nat → Int → LB → Bh
| 0, _, _ => none
| q + 1, f, g => Zl (Kg (Fl b a q) b a) Ans b a f g
def Anw (b : Int) (a : LX) : Int → LB → Bh := Fl b a Ba
def Ahp (j16 : Int → LX → Int → LB → Bh) (b : Int) (a : LX) : Bh :=
(Ae6 b a).bind fun o =>
if (Cl o 0) then
some (([] : LB), o)
else
j16 b a 0 ([] : LB)
def width_Bytes : Int → LX → Bh := Ahp Anw
abbrev Bt := Option (LB × Int)
def Av9 (a ac : Int) : Bt :=
if (Cl ac 0) then
some (([] : LB), ac)
else
if ((Dh a 0) || (Tm a 0)) then
some (([] : LB), 2)
else
none
def Anu : Int → Int → Bt := Av9
def At1 (ad : Int) (ae : LB) : Bt :=
some (ae, ad)
def Ad3 : Int → LB → Bt := At1
def Age (j10 : Int → LB → Bt) (w a h b : Int) (aa : LX) (n o p k : Int) (m : LB) (u : LX) (v f g : LI) : Bt :=
if (Cl w 0) then
j10 w ([] : LB)
else
(width_Bytes b aa).bind fun (ak, al) =>
j10 al ak
def Agk : Int → Int → Int → Int → LX → Int → Int → Int → Int → LB → LX → LI → LI → LI → Bt := Age Ad3
def Agm (j10 : Int → LB → Bt) (j9 : Int → Int → Int → Int → LX → Int → Int → Int → Int → LB → LX → LI → LI → LI → Bt) (a k ab y : Int) (m : LB) (h b : Int) (u : LX) (n o p : Int) (g v f : LI) : Bt :=
if (Hh (Ae k y) (Ac m)) then
j10 24 ([] : LB)
else
(getI g a).bind fun _ =>
(Ce m (Ae k ab) (Ae k y)).bind fun am =>
(getI g a).bind fun an =>
(deframe_Decode h b u an am).bind fun (aa, w) =>
j9 w a h b aa n o p k m u v f g
def Agb : Int → Int → Int → Int → LB → Int → Int → LX → Int → Int → Int → LI → LI → LI → Bt := Agm Ad3 Agk
def Agl (j8 : Int → Int → Int → Int → LB → Int → Int → LX → Int → Int → Int → LI → LI → LI → Bt) (a : Int) (g : LI) (n h b o p k : Int) (m : LB) (u : LX) (v f : LI) : Bt :=
if (Cl (0 : Int) (0 : Int)) then
some (([] : LB), 0)
else
if ((Dh a 0) || (Tm a (Ac g))) then
some (([] : LB), 2)
else
(getI f a).bind fun _ =>
(getI f (Ae a 1)).bind fun _ =>
(getI f a).bind fun ab =>
(getI f (Ae a 1)).bind fun y =>
j8 a k ab y m h b u n o p g v f
def Tn : Int → LI → Int → Int → Int → Int → Int → Int → LB → LX → LI → LI → Bt := Agl Agb
def Agh (j6 : Int → Int → Bt) (j7 : Int → LI → Int → Int → Int → Int → Int → Int → LB → LX → LI → LI → Bt) (m af : LB) (a : Int) : Bt :=
(seekto_Open m af).bind fun (n, h, b, o, p, k, v, ag) =>
if (Cl ag 0) then
j6 a ag
else
(Oq n h b o p).bind fun (g, ah) =>
if (Cl ah 0) then
j6 a ah
else
(Aey v).bind fun (f, ai) =>
if (Cl ai 0) then
j6 a ai
else
(Alw af).bind fun (u, aj) =>
if (Cl aj 0) then
j6 a aj
else
(getI f (Ac g)).bind fun _ =>
(getI f (Ac g)).bind fun ao =>
j7 a g n h b o p k m u v f
def Abu : LB → LB → Int → Bt := Agh Anu Tn
abbrev Bc := Option (LX × Int)
def Ass (g : LX) : Bc :=
some (g, 0)
def Ajk : LX → Bc := Ass
def Vt (bk16 : Int → LX → Bc) (a : Int) (b : LB) (f : Int) (m : LX) : Bc :=
bk16 (Ae f (Bs a 8)) m
def Hl (bk16 : Int → LX → Bc) : Int → LB → Int → LX → Bc := Vt bk16
def Vf (j28 : Int → LX → Bc) (a : Int) (b : LB) (f : Int) (h : Int32) (g : LX) : Bc :=
(Qx (Tm (Am 32 a) 0)).bind fun _ =>
(Qx (Tm (Am 32 a) 0)).bind fun _ =>
(Fz g ([(Db (Eo h (GI.toZ (Am 32 a)).toNat) (GI.toZ (Am 32 a)).toNat)] : LX)).bind fun p =>
j28 f p
def Vi (bk16 : Int → LX → Bc) (a : Int) (b : LB) : Int → Int32 → LX → Bc := Vf (Hl bk16 a b) a b
def Ex (j27 : Int → Int32 → LX → Bc) (bk25 : Int32 → Int → Bc) (a : Int) (b : LB) (f : Int) (g : LX) (h : Int32) (k : Int) : Bc :=
if (Dh k (Bs a 8)) then
(getI b (Ae f k)).bind fun n =>
(Qx (Tm (Bj 8 k) 0)).bind fun _ =>
bk25 (gor h (Eo (Ad n : Int32) (GI.toZ (Bj 8 k)).toNat)) (Ae k 1)
else
j27 f h g
def Ea (bk16 : Int → LX → Bc) (a : Int) (b : LB) (f : Int) (g : LX) : Nat → Int32 → Int → Bc
| 0, _, _ => none
| q + 1, h, k => Ex (Vi bk16 a b) (Ea bk16 a b f g q) a b f g h k
def Jv (bk16 : Int → LX → Bc) (a : Int) (b : LB) (f : Int) (g : LX) : Int32 → Int → Bc := Ea bk16 a b f g Ba
def Eu (j28 : Int → LX → Bc) (j25 : Int → LX → Int32 → Int → Bc) (j30 : LX → Bc) (a : Int) (b : LB) (f : Int) (g : LX) : Bc :=
if (Dh f (Ac b)) then
if (geq a 8) then
(getI b f).bind fun n =>
(Fz g ([(Am (Ad n : Int32) 128)] : LX)).bind fun u =>
j28 f u
else
j25 f g 0 0
else
j30 g
def Di (a : Int) (b : LB) : Nat → Int → LX → Bc
| 0, _, _ => none
| q + 1, f, g => Eu (Hl (Di a b q) a b) (Jv (Di a b q) a b) Ajk a b f g
def Abq (a : Int) (b : LB) : Int → LX → Bc := Di a b Ba
def Ad8 (j16 : Int → LB → Int → LX → Bc) (a : Int) (b : LB) : Bc :=
(Xf a).bind fun (v, w, o) =>
if (Cl o 0) then
some (([] : LX), o)
else
(Qx (Cl (Bs a 8) 0)).bind fun _ =>
if (Cl (Jd (Ac b) (Bs a 8)) 0) then
some (([] : LX), 12)
else
(Qx (Cl (Bs a 8) 0)).bind fun _ =>
if (Hh (Bs (Ac b) (Bs a 8)) 4000) then
some (([] : LX), 4)
else
j16 a b 0 ([] : LX)
def Zi : Int → LB → Bc := Ad8 Abq
def Akv (a g b : Int) : Option Int :=
(Oz a g).bind fun f =>
if (Cl f 0) then
some f
else
if (Dh b 1) then
some 2
else
(Qx (Cl a 0)).bind fun _ =>
if (Hh b (Bs 4000 a)) then
some 2
else
some 0
def Zm (a g b : Int) : Option (LX × Int) :=
(Akv a g b).bind fun f =>
if (Cl f 0) then
some (([] : LX), f)
else
(mkI (Bj b a) (0 : Int32)).bind fun h =>
(Qx (geq (Bj b a) (Bj b a))).bind fun _ =>
some (h, 0)
abbrev Ak := Option (Int × Int × Int × LX × LI × Int)
def Vm (a b h ak : Int) (an : LI) (ah : LX) : Ak :=
if (Cl ak 0) then
some (0, 0, 0, ([] : LX), ([] : LI), ak)
else
if (geq (Ac ah) 0) then
some (0, 0, 0, ([] : LX), ([] : LI), 6)
else
(
(
some (a, b, h, ah, an, 0)))
def Fx : Int → Int → Int → Int → LI → LX → Ak := Vm
def Ajx (j40 : Int → Int → Int → Int → LI → LX → Ak) (f g : LB) (n p u o v w y m a b h : Int) (aa ad : LI) (ac : LX) : Ak :=
j40 a b h 0 ad ac
def Aj0 : LB → LB → Int → Int → Int → Int → Int → Int → Int → Int → Int → Int → Int → LI → LI → LX → Ak := Ajx Fx
def Ajn (bk21 : Int → LI → LX → Ak) (f g : LB) (k : LI) (n m a b h p u o v w y : Int) (aa : LI) (ab : Int) (ai : LI) (aj : LX) : Ak :=
bk21 (Ae ab 1) ai aj
def Abr (bk21 : Int → LI → LX → Ak) : LB → LB → LI → Int → Int → Int → Int → Int → Int → Int → Int → Int → Int → Int → LI → Int → LI → LX → Ak := Ajn bk21
def Aby (j40 : Int → Int → Int → Int → LI → LX → Ak) (j37 : Int → LI → LX → Ak) (f g : LB) (k : LI) (n m a b h p u o v w y : Int) (aa : LI) (ab ao : Int) (ai : LI) (aj : LX) : Ak :=
if (Cl ao 0) then
j40 a b h ao ai aj
else
j37 ab ai aj
def Jn (bk21 : Int → LI → LX → Ak) (f g : LB) (k : LI) (n m a b h p u o v w y : Int) (aa : LI) : Int → Int → LI → LX → Ak := Aby Fx (Abr bk21 f g k n m a b h p u o v w y aa) f g k n m a b h p u o v w y aa
def Acx (j36 : Int → Int → LI → LX → Ak) (f g : LB) (k : LI) (n a b h m p u o v w y : Int) (aa : LI) (ab af ae : Int) (al ag ac : LX) (am : LI) : Ak :=
(Fz ac al).bind fun aw =>
j36 ab 0 am aw
def Ach (bk21 : Int → LI → LX → Ak) (f g : LB) (k : LI) (n a b h m p u o v w y : Int) (aa : LI) : Int → Int → Int → LX → LX → LX → LI → Ak := Acx (Jn bk21 f g k n m a b h p u o v w y aa) f g k n a b h m p u o v w y aa
def Vl (j36 : Int → Int → LI → LX → Ak) (f g : LB) (k : LI) (n a b h m p u o v w y : Int) (aa : LI) (ab af ae : Int) (ag ac : LX) (ap : LI) : Ak :=
(Fz ac ag).bind fun al =>
j36 ab 0 ap al
def Vr (bk21 : Int → LI → LX → Ak) (f g : LB) (k : LI) (n a b h m p u o v w y : Int) (aa : LI) : Int → Int → Int → LX → LX → LI → Ak := Vl (Jn bk21 f g k n m a b h p u o v w y aa) f g k n a b h m p u o v w y aa
def Vu (j36 : Int → Int → LI → LX → Ak) (j34 : Int → Int → Int → LX → LX → LX → LI → Ak) (j35 : Int → Int → Int → LX → LX → LI → Ak) (f g : LB) (k : LI) (n m a b h p u o v w y : Int) (aa : LI) (ab af ae : Int) (ad : LI) (ac ag : LX) : Ak :=
if (!(geq ae 0)) then
(Fz ad ([ab] : LI)).bind fun am =>
if (geq m 2) then
(Zm a b af).bind fun (al, aq) =>
if (Cl aq 0) then
j36 ab aq am ac
else
j34 ab af ae al ag ac am
else
j35 ab af ae ag ac am
else
j35 ab af ae ag ac ad
def Vv (bk21 : Int → LI → LX → Ak) (f g : LB) (k : LI) (n m a b h p u o v w y : Int) (aa : LI) : Int → Int → Int → LI → LX → LX → Ak := Vu (Jn bk21 f g k n m a b h p u o v w y aa) (Ach bk21 f g k n a b h m p u o v w y aa) (Vr bk21 f g k n a b h m p u o v w y aa) f g k n m a b h p u o v w y aa
def Ve (j40 : Int → Int → Int → Int → LI → LX → Ak) (j33 : Int → Int → Int → LI → LX → LX → Ak) (j39 : LB → LB → Int → Int → Int → Int → Int → Int → Int → Int → Int → Int → Int → LI → LI → LX → Ak) (f g : LB) (k : LI) (n m a b h p u o v w y : Int) (aa : LI) (ab : Int) (ad : LI) (ac : LX) : Ak :=
if (Dh ab (Ac k)) then
(getI k ab).bind fun _ =>
(getI k ab).bind fun af =>
(Abu f g ab).bind fun (ax, ae) =>
if (geq ae 0) then
(Zi o ax).bind fun (ay, ar) =>
if (Cl ar 0) then
j40 a b h ar ad ac
else
j33 ab af ae ad ac ay
else
j33 ab af ae ad ac ([] : LX)
else
j39 f g n p u o v w y m a b h aa ad ac
def Ho (f g : LB) (k : LI) (n m a b h p u o v w y : Int) (aa : LI) : Nat → Int → LI → LX → Ak
| 0, _, _, _ => none
| q + 1, ab, ad, ac => Ve Fx (Vv (Ho f g k n m a b h p u o v w y aa q) f g k n m a b h p u o v w y aa) Aj0 f g k n m a b h p u o v w y aa ab ad ac
def Abd (f g : LB) (k : LI) (n m a b h p u o v w y : Int) (aa : LI) : Int → LI → LX → Ak := Ho f g k n m a b h p u o v w y aa Ba
def Em (j40 : Int → Int → Int → Int → LI → LX → Ak) (j21 : LB → LB → LI → Int → Int → Int → Int → Int → Int → Int → Int → Int → Int → Int → LI → Int → LI → LX → Ak) (f g : LB) (m : Int) : Ak :=
if ((Dh m 0) || (Hh m 2)) then
some (0, 0, 0, ([] : LX), ([] : LI), 2)
else
if (geq m 0) then
(Ki f g).bind fun (az, ba, bb, bc, bd) =>
some (az, ba, bb, bc, ([] : LI), bd)
else
(seekto_Open f g).bind fun (be, a, b, h, bf, bg, bh, n) =>
if (Cl n 0) then
some (0, 0, 0, ([] : LX), ([] : LI), n)
else
(seekto_Open f g).bind fun (p, u, o, v, w, y, aa, au) =>
if (Cl au 0) then
j40 a b h au ([] : LI) ([] : LX)
else
(Oq p u o v w).bind fun (k, av) =>
if (Cl av 0) then
j40 a b h av ([] : LI) ([] : LX)
else
j21 f g k n m a b h p u o v w y aa 0 ([] : LI) ([] : LX)
def Ec : LB → LB → Int → Ak := Em Fx Abd
abbrev Cx := Option (Int × Int)
def An8 (a : Int) : Cx :=
some (a, 0)
def Adi : Int → Cx := An8
def Me (j6 : Int → Cx) (bk4 : Int → Int → Cx) (b : LB) (a f : Int) : Cx :=
if (Dh f 4) then
(getI b f).bind fun g =>
if (Tm g 128) then
some (0, 12)
else
(getI b f).bind fun h =>
bk4 (Ae (Bj 128 a) (Ad h : Int)) (Ae f 1)
else
j6 a
def Gi (b : LB) : Nat → Int → Int → Cx
| 0, _, _ => none
| q + 1, a, f => Me Adi (Gi b q) b a f
def Ut (b : LB) : Int → Int → Cx := Gi b Ba
def Uz (j4 : LB → Int → Int → Cx) (b : LB) : Cx :=
if (Cl (Ac b) 4) then
some (0, 2)
else
j4 b 0 0
def Rp : LB → Cx := Uz Ut
abbrev Ct := Option (Int × Int)
def Ae8 (a : LB) (g : Int) : Ct :=
if (Hh g 4000) then
some (0, 4)
else
if (Dh (Ac a) g) then
some (0, 24)
else
(getI a 5).bind fun h =>
if (geq h 16) then
(Ce a (Am g 10) g).bind fun k =>
(Ce a 3 10).bind fun m =>
(Fz ([51, 68, 73] : LB) m).bind fun n =>
if (k != n) then
some (0, 12)
else
some (g, 0)
else
some (g, 0)
def Oe : LB → Int → Ct := Ae8
def Ws (j6 : LB → Int → Ct) (a : LB) (b : Int) : Ct :=
(getI a 5).bind fun o =>
if (geq o 16) then
j6 a (Ae (Ae 10 b) 10)
else
j6 a (Ae 10 b)
def Ns : LB → Int → Ct := Ws Oe
def Wu (j5 : LB → Int → Ct) (a : LB) : Ct :=
if (Dh (Ac a) 10) then
some (0, 24)
else
(Ce a 6 10).bind fun p =>
(Rp p).bind fun (b, f) =>
(getI a 3).bind fun u =>
if (Dh u 2) then
if true then
if true then
if (true || (Cl f 0)) then
some (0, 12)
else
j5 a b
else
(getI a 5).bind fun v =>
if (Cl v 0) then
(getI a 5).bind fun w =>
if (Cl w 16) then
if (true || (Cl f 0)) then
some (0, 12)
else
j5 a b
else
(getI a 3).bind fun y =>
if ((Cl y 4) || (Cl f 0)) then
some (0, 12)
else
j5 a b
else
if (false || (Cl f 0)) then
some (0, 12)
else
j5 a b
else
(getI a 4).bind fun aa =>
if (Cl aa 0) then
if (true || (Cl f 0)) then
some (0, 12)
else
j5 a b
else
(getI a 5).bind fun ab =>
if (Cl ab 0) then
(getI a 5).bind fun ac =>
if (Cl ac 16) then
if (true || (Cl f 0)) then
some (0, 12)
else
j5 a b
else
(getI a 3).bind fun ad =>
if ((Cl ad 4) || (Cl f 0)) then
some (0, 12)
else
j5 a b
else
if (false || (Cl f 0)) then
some (0, 12)
else
j5 a b
else
(getI a 3).bind fun ae =>
if (Hh ae 4) then
if true then
if (true || (Cl f 0)) then
some (0, 12)
else
j5 a b
else
(getI a 5).bind fun af =>
if (Cl af 0) then
(getI a 5).bind fun ag =>
if (Cl ag 16) then
if (true || (Cl f 0)) then
some (0, 12)
else
j5 a b
else
(getI a 3).bind fun ah =>
if ((Cl ah 4) || (Cl f 0)) then
some (0, 12)
else
j5 a b
else
if (false || (Cl f 0)) then
some (0, 12)
else
j5 a b
else
(getI a 4).bind fun ai =>
if (Cl ai 0) then
if (true || (Cl f 0)) then
some (0, 12)
else
j5 a b
else
(getI a 5).bind fun aj =>
if (Cl aj 0) then
(getI a 5).bind fun ak =>
if (Cl ak 16) then
if (true || (Cl f 0)) then
some (0, 12)
else
j5 a b
else
(getI a 3).bind fun al =>
if ((Cl al 4) || (Cl f 0)) then
some (0, 12)
else
j5 a b
else
if (false || (Cl f 0)) then
some (0, 12)
else
j5 a b
def Xi : LB → Ct := Wu Ns
def Wo (j4 : LB → Ct) (a : LB) : Ct :=
if (Dh (Ac a) 3) then
some (0, 6)
else
(Ce a 0 3).bind fun am =>
if (am != ([73, 68, 51] : LB)) then
some (0, 6)
else
j4 a
def Vc : LB → Ct := Wo Xi
def Ahr (a : UInt64) : Option UInt64 :=
some a
def Zt : UInt64 → Option UInt64 := Ahr
def Rr (j6 : UInt64 → Option UInt64) (bk4 : UInt64 → Int → Option UInt64) (b : LB) (a : UInt64) (f : Int) : Option UInt64 :=
if (Tm f 0) then
(getI b f).bind fun g =>
bk4 (Ae (Bj 256 a) (Ad g : UInt64)) (Am f 1)
else
j6 a
def It (b : LB) : Nat → UInt64 → Int → Option UInt64
| 0, _, _ => none
| q + 1, a, f => Rr Zt (It b q) b a f
def Zw (b : LB) : UInt64 → Int → Option UInt64 := It b Ba
def Aah (j4 : LB → UInt64 → Int → Option UInt64) (b : LB) : Option UInt64 :=
j4 b 0 (Am (Ac b) 1)
def Ao : LB → Option UInt64 := Aah Zw
def Jp (b : LB) : Option (Int × Int × Bool) :=
(Ce b 12 16).bind fun g =>
(Ao g).bind fun a =>
(Ce b 16 20).bind fun h =>
(Ao h).bind fun f =>
if (((Dh a 32) || (Hh a 3032)) || (Hh f 1000)) then
some (0, 0, false)
else
some ((Am (Ad a : Int) 32), (Ad f : Int), true)
def Aan (a : LB) : Option (LB) :=
some a
def Rc : LB → Option (LB) := Aan
def Jm (j6 : LB → Option (LB)) (bk4 : UInt64 → Int → LB → Option (LB)) (b : Int) (f : UInt64) (g : Int) (a : LB) : Option (LB) :=
if (Dh g b) then
(Fz a ([(Ad (Abb f 256) : UInt8)] : LB)).bind fun h =>
bk4 (Bs f 256) (Ae g 1) h
else
j6 a
def Fb (b : Int) : Nat → UInt64 → Int → LB → Option (LB)
| 0, _, _, _ => none
| q + 1, f, g, a => Jm Rc (Fb b q) b f g a
def Rg (b : Int) : UInt64 → Int → LB → Option (LB) := Fb b Ba
def Qq (j4 : Int → UInt64 → Int → LB → Option (LB)) (k : UInt64) (b : Int) : Option (LB) :=
j4 b k 0 ([] : LB)
def Dl : UInt64 → Int → Option (LB) := Qq Rg
def Lh (a b : Int) (f : UInt64) : Option (LB) :=
(Dl 2000 4).bind fun g =>
(Fz ([(65 : UInt8), (80 : UInt8), (69 : UInt8), (84 : UInt8), (65 : UInt8), (71 : UInt8), (69 : UInt8), (88 : UInt8)] : LB) g).bind fun h =>
(Dl (Ad (Ae a 32) : UInt64) 4).bind fun k =>
(Fz h k).bind fun m =>
(Dl (Ad b : UInt64) 4).bind fun n =>
(Fz m n).bind fun o =>
(Dl f 4).bind fun p =>
(Fz o p).bind fun u =>
(mkI (8 : Int) (0 : UInt8)).bind fun v =>
(Fz u v).bind fun w =>
some w
def Oj (a b : Int) : Option (LB) :=
(Lh a b 2684354560).bind fun f =>
some f
def Eb (a b : Int) (f : Bool) : Option (LB) :=
if f then
(Lh a b 2147483648).bind fun g =>
some g
else
(Lh a b 0).bind fun h =>
some h
abbrev Ed := Option (Int × Int)
def Adw (a : LB) (b f : Int) : Ed :=
if (Dh (Ac a) (Ae 64 b)) then
some (0, 24)
else
(Ce a (Am (Ae 64 b) 32) (Ae 64 b)).bind fun g =>
(Eb b f true).bind fun h =>
if (g != h) then
some (0, 12)
else
some ((Ae 64 b), 0)
def Ur : LB → Int → Int → Ed := Adw
def Ue (j4 : LB → Int → Int → Ed) (a : LB) : Ed :=
if (Dh (Ac a) 32) then
some (0, 24)
else
(Ce a 0 32).bind fun k =>
(Jp k).bind fun (b, f, m) =>
if (!m) then
some (0, 12)
else
(Ce a 0 32).bind fun n =>
(Oj b f).bind fun o =>
if (n != o) then
some (0, 12)
else
j4 a b f
def Ud : LB → Ed := Ue Ur
def Uo (j3 : LB → Ed) (a : LB) : Ed :=
if (Dh (Ac a) 8) then
some (0, 6)
else
(Ce a 0 8).bind fun p =>
if (p != ([65, 80, 69, 84, 65, 71, 69, 88] : LB)) then
some (0, 6)
else
j3 a
def Rt : LB → Ed := Uo Ud
abbrev Cg := Option (LI × Int)
def Ac8 (bk6 : Int → LI → Cg) (a : LB) (b : Int) (f : LI) (g h : Int) : Cg :=
if (geq h 6) then
some (f, 0)
else
if (Cl h 0) then
some (([] : LI), h)
else
if (Hh (Ae b g) 4000) then
some (([] : LI), 4)
else
(Fz f ([g] : LI)).bind fun m =>
bk6 (Ae b g) m
def Ih (bk6 : Int → LI → Cg) : LB → Int → LI → Int → Int → Cg := Ac8 bk6
def Mp (j9 : Int → LI → Int → Int → Cg) (a : LB) (b : Int) (f : LI) : Cg :=
(Ce a b (Ac a)).bind fun n =>
(Vc n).bind fun (o, k) =>
if (geq k 6) then
(Ce a b (Ac a)).bind fun p =>
(Rt p).bind fun (u, v) =>
j9 b f u v
else
j9 b f o k
def Ik (a : LB) : Nat → Int → LI → Cg
| 0, _, _ => none
| q + 1, b, f => Mp (Ih (Ik a q) a) a b f
def Adn (a : LB) : Int → LI → Cg := Ik a Ba
def Adm (j6 : LB → Int → LI → Cg) (a : LB) : Cg :=
j6 a 0 ([] : LI)
def Aal : LB → Cg := Adm Adn
abbrev Cv := Option (Int × Int)
def Adu (a b : Int) : Cv :=
some (b, a)
def Tz : Int → Int → Cv := Adu
def Mm (j6 : Int → Int → Cv) (bk4 : Int → Int → Cv) (a : Int) (f : LI) (b g : Int) : Cv :=
if (Dh g (Ac f)) then
(getI f g).bind fun _ =>
(getI f g).bind fun h =>
bk4 (Ae b h) (Ae g 1)
else
j6 a b
def Gc (a : Int) (f : LI) : Nat → Int → Int → Cv
| 0, _, _ => none
| q + 1, b, g => Mm Tz (Gc a f q) a f b g
def Mf (a : Int) (f : LI) : Int → Int → Cv := Gc a f Ba
def Uh (j4 : Int → LI → Int → Int → Cv) (k : LB) : Cv :=
(Aal k).bind fun (f, a) =>
j4 a f 0 0
def Lo : LB → Cv := Uh Mf
def Afv (a : UInt32) (b : Bool) : Option UInt32 :=
if b then
some (Zf (Bs a 2) 3988292384)
else
some (Bs a 2)
def Wd : UInt32 → Bool → Option UInt32 := Afv
def Xb (j2 : UInt32 → Bool → Option UInt32) (a : UInt32) (f : Int) : Option UInt32 :=
if (geq f 1) then
j2 a (!(geq (Abb a 2) 1))
else
j2 a (geq (Abb a 2) 1)
def Vd : UInt32 → Int → Option UInt32 := Xb Wd
def Af3 (a : UInt32) : Option UInt32 :=
some a
def Vw : UInt32 → Option UInt32 := Af3
def Ok (j6 : UInt32 → Option UInt32) (bk4 : UInt32 → UInt8 → Int → Option UInt32) (a : UInt32) (b : UInt8) (f : Int) : Option UInt32 :=
if (Dh f 8) then
(Vd a (Ad (Abb b 2) : Int)).bind fun g =>
bk4 g (Bs b 2) (Ae f 1)
else
j6 a
def Ha : Nat → UInt32 → UInt8 → Int → Option UInt32
| 0, _, _, _ => none
| q + 1, a, b, f => Ok Vw (Ha q) a b f
def Afh : UInt32 → UInt8 → Int → Option UInt32 := Ha Ba
def Afd (j4 : UInt32 → UInt8 → Int → Option UInt32) (h : UInt32) (k : UInt8) : Option UInt32 :=
j4 h k 0
def Abg : UInt32 → UInt8 → Option UInt32 := Afd Afh
def Ac1 (a : UInt32) : Option UInt32 :=
some a
def Ru : UInt32 → Option UInt32 := Ac1
def Kx (j6 : UInt32 → Option UInt32) (bk4 : UInt32 → Int → Option UInt32) (b : LB) (a : UInt32) (f : Int) : Option UInt32 :=
if (Dh f (Ac b)) then
(getI b f).bind fun g =>
(Abg a g).bind fun h =>
bk4 h (Ae f 1)
else
j6 a
def Ft (b : LB) : Nat → UInt32 → Int → Option UInt32
| 0, _, _ => none
| q + 1, a, f => Kx Ru (Ft b q) b a f
def Se (b : LB) : UInt32 → Int → Option UInt32 := Ft b Ba
def Td (j4 : LB → UInt32 → Int → Option UInt32) (k : UInt32) (b : LB) : Option UInt32 :=
j4 b k 0
def Yb : UInt32 → LB → Option UInt32 := Td Se
def Nf (a : LB) : Option UInt32 :=
(Yb 4294967295 a).bind fun b =>
some (Am 4294967295 b)
def Pw (f g b a h : Int) : Option Bool :=
if ((((geq f 1) || (geq f 2)) && (Tm g 1)) && (gle g 6)) then
some ((((((geq b 8) || (geq b 16)) || (geq b 24)) && (Tm a 1)) && (gle a 1048576)) && (Tm h 1))
else
some (((false && (Tm a 1)) && (gle a 1048576)) && (Tm h 1))
def Nn (a : Int) : Option Int :=
some (Aqs 1 (Bs (Bj 256 a) 245))
def Mi (a : LI) : Option (LI) :=
some a
def Il : LI → Option (LI) := Mi
def Gg (j6 : LI → Option (LI)) (bk4 : Int → LI → Option (LI)) (b f : Int) (a : LI) : Option (LI) :=
if (Hh f 0) then
(Nn b).bind fun g =>
(Fz a ([(Hf f g)] : LI)).bind fun h =>
(Nn b).bind fun k =>
bk4 (Am f k) h
else
j6 a
def Dw (b : Int) : Nat → Int → LI → Option (LI)
| 0, _, _ => none
| q + 1, f, a => Gg Il (Dw b q) b f a
def Uk (b : Int) : Int → LI → Option (LI) := Dw b Ba
def Uf (j4 : Int → Int → LI → Option (LI)) (b m : Int) : Option (LI) :=
j4 b m ([] : LI)
def Cn : Int → Int → Option (LI) := Uf Uk
def Jz (h a k f b : Int) : Option Bool :=
(
(Qx (Cl a 0)).bind fun _ =>
(
if (Hh b (Bs 4000 a)) then
some true
else
(Cn f b).bind fun g =>
some (Hh (Ac g) 1000)))
abbrev Cs := Option (Int × Int × Int × Int × Int × Int)
def Afw (k h g f b : UInt64) : Cs :=
(Pw (Ad k : Int) (Ad h : Int) (Ad g : Int) (Ad f : Int) (Ad b : Int)).bind fun v =>
if (!v) then
some (0, 0, 0, 0, 0, 12)
else
(Jz (Ad k : Int) (Ad h : Int) (Ad g : Int) (Ad f : Int) (Ad b : Int)).bind fun w =>
if w then
some (0, 0, 0, 0, 0, 4)
else
some ((Ad k : Int), (Ad h : Int), (Ad g : Int), (Ad f : Int), (Ad b : Int), 0)
def Xk : UInt64 → UInt64 → UInt64 → UInt64 → UInt64 → Cs := Afw
def Od (j6 : UInt64 → UInt64 → UInt64 → UInt64 → UInt64 → Cs) (a : LB) : Cs :=
(Ce a 4 6).bind fun u =>
(Ce a 6 8).bind fun p =>
(Ce a 8 10).bind fun o =>
(Ce a 10 14).bind fun n =>
(Ce a 14 18).bind fun m =>
(
(Ao u).bind fun k =>
(
(Ao p).bind fun h =>
(
(Ao o).bind fun g =>
(
(Ao n).bind fun f =>
(
(Ao m).bind fun b =>
(
j6 k h g f b))))))
def Wq : LB → Cs := Od Xk
def Wc (j5 : LB → Cs) (a : LB) : Cs :=
if (Dh (Ac a) 22) then
some (0, 0, 0, 0, 0, 24)
else
(Ce a 18 22).bind fun y =>
(Ce a 0 18).bind fun aa =>
(Ao y).bind fun ab =>
(Nf aa).bind fun ac =>
if (Cl ab (Ad ac : UInt64)) then
some (0, 0, 0, 0, 0, 22)
else
j5 a
def Wm : LB → Cs := Wc Wq
def Wz (j4 : LB → Cs) (a : LB) : Cs :=
(Ce a 0 (Hf 4 (Ac a))).bind fun ad =>
(Ce ([84, 84, 65, 49] : LB) 0 (Hf 4 (Ac a))).bind fun ae =>
if (ad != ae) then
some (0, 0, 0, 0, 0, 12)
else
j4 a
def Nj : LB → Cs := Wz Wm
def Aaa (a : LB) : Option (Int × Int × Int × Int × Int × Int × Int) :=
if (Hh (Ac a) 100000) then
some (0, 0, 0, 0, 0, 0, 4)
else
(Lo a).bind fun (b, f) =>
if (Cl f 0) then
some (0, 0, 0, 0, 0, 0, f)
else
(Ce a b (Ac a)).bind fun g =>
(Nj g).bind fun (h, k, m, n, o, p) =>
some (b, h, k, m, n, o, p)
def Afi (a : UInt64) (b : Bool) : Option UInt64 :=
if b then
some (Zf (Bj a 2) 4823603603198064275)
else
some (Bj a 2)
def Nk : UInt64 → Bool → Option UInt64 := Afi
def Xg (j2 : UInt64 → Bool → Option UInt64) (a : UInt64) (f : Int) : Option UInt64 :=
if (geq f 1) then
j2 a (!(Tm a 9223372036854775808))
else
j2 a (Tm a 9223372036854775808)
def Vs : UInt64 → Int → Option UInt64 := Xg Nk
def Ae3 (a : UInt64) : Option UInt64 :=
some a
def Vy : UInt64 → Option UInt64 := Ae3
def Np (j6 : UInt64 → Option UInt64) (bk4 : UInt64 → Int → Option UInt64) (b : UInt8) (a : UInt64) (f : Int) : Option UInt64 :=
if (Hh f 0) then
(Qx (Cl f 0)).bind fun _ =>
(Vs a (Jd (Bs (Ad b : Int) f) 2)).bind fun g =>
bk4 g (Bs f 2)
else
j6 a
def Hc (b : UInt8) : Nat → UInt64 → Int → Option UInt64
| 0, _, _ => none
| q + 1, a, f => Np Vy (Hc b q) b a f
def Afq (b : UInt8) : UInt64 → Int → Option UInt64 := Hc b Ba
def Afy (j4 : UInt8 → UInt64 → Int → Option UInt64) (h : UInt64) (b : UInt8) : Option UInt64 :=
j4 b h 128
def Acp : UInt64 → UInt8 → Option UInt64 := Afy Afq
def Abc (a : UInt64) : Option UInt64 :=
some a
def Rs : UInt64 → Option UInt64 := Abc
def Ks (j6 : UInt64 → Option UInt64) (bk4 : UInt64 → Int → Option UInt64) (b : LB) (a : UInt64) (f : Int) : Option UInt64 :=
if (Dh f (Ac b)) then
(getI b f).bind fun g =>
(Acp a g).bind fun h =>
bk4 h (Ae f 1)
else
j6 a
def Fp (b : LB) : Nat → UInt64 → Int → Option UInt64
| 0, _, _ => none
| q + 1, a, f => Ks Rs (Fp b q) b a f
def Ab3 (b : LB) : UInt64 → Int → Option UInt64 := Fp b Ba
def Abn (j4 : LB → UInt64 → Int → Option UInt64) (k : UInt64) (b : LB) : Option UInt64 :=
j4 b k 0
def Qc : UInt64 → LB → Option UInt64 := Abn Ab3
def Abm (a : LB) : Option UInt64 :=
(Qc 0 a).bind fun b =>
some b
def Jh (a : LB) : Option (LB) :=
(Abm a).bind fun b =>
(Dl b 8).bind fun f =>
some f
def Ym (f : LB) (a g m n o p : Int) (b : LB) : Option (Int × Int) :=
if ((b == ([] : LB)) != (geq g 1)) then
some (0, 26)
else
if (b == ([] : LB)) then
some (a, 0)
else
if (Dh (Ac f) (Ae a 8)) then
some (0, 24)
else
(Ce f a (Ae a 8)).bind fun h =>
(Jh b).bind fun k =>
if (h != k) then
some (0, 26)
else
some ((Ae a 8), 0)
def Acj (b : Int) : Option Int :=
if (Hh b 100000) then
some 8
else
some 0
def Sr : Int → Option Int := Acj
def Ac9 (bk6 : Int → Int → Option Int) (a : LI) (b f : Int) : Option Int :=
(getI a f).bind fun g =>
bk6 (Ae b g) (Ae f 1)
def Uq (bk6 : Int → Int → Option Int) : LI → Int → Int → Option Int := Ac9 bk6
def Mj (j8 : Int → Int → Option Int) (j10 : Int → Option Int) (a : LI) (b f : Int) : Option Int :=
if (Dh f (Ac a)) then
(getI a f).bind fun h =>
if (Dh h 5) then
some 8
else
(getI a f).bind fun k =>
if (Hh k 100000) then
some 8
else
j8 b f
else
j10 b
def Gh (a : LI) : Nat → Int → Int → Option Int
| 0, _, _ => none
| q + 1, b, f => Mj (Uq (Gh a q) a) Sr a b f
def Uy (a : LI) : Int → Int → Option Int := Gh a Ba
def Um (j6 : LI → Int → Int → Option Int) (a : LI) : Option Int :=
if ((Dh (Ac a) 1) || (Hh (Ac a) 1000)) then
some 8
else
j6 a 0 0
def Rl : LI → Option Int := Um Uy
abbrev Bp := Option (LI × Int)
def Afm (f : LI) : Bp :=
(Rl f).bind fun h =>
if (Cl h 0) then
some (([] : LI), 12)
else
some (f, 0)
def Nm : LI → Bp := Afm
def Og (j8 : LI → Bp) (bk6 : Int → LI → Bp) (b : LB) (a g : Int) (f : LI) : Bp :=
if (Dh g a) then
(Ce b (Bj 4 g) (Ae (Bj 4 g) 4)).bind fun k =>
(Ao k).bind fun m =>
(Fz f ([(Ad m : Int)] : LI)).bind fun n =>
bk6 (Ae g 1) n
else
j8 f
def Gz (b : LB) (a : Int) : Nat → Int → LI → Bp
| 0, _, _ => none
| q + 1, g, f => Og Nm (Gz b a q) b a g f
def Wt (b : LB) (a : Int) : Int → LI → Bp := Gz b a Ba
def Wa (j6 : LB → Int → Int → LI → Bp) (b : LB) (a : Int) : Bp :=
j6 b a 0 ([] : LI)
def Xa : LB → Int → Bp := Wa Wt
def Wr (j5 : LB → Int → Bp) (b : LB) (a : Int) : Bp :=
if ((Dh a 1) || (Hh a 1000)) then
some (([] : LI), 2)
else
if (Dh (Ac b) (Ae (Bj 4 a) 4)) then
some (([] : LI), 24)
else
(Ce b (Bj 4 a) (Ae (Bj 4 a) 4)).bind fun o =>
(Ce b 0 (Bj 4 a)).bind fun p =>
(Ao o).bind fun u =>
(Nf p).bind fun v =>
if (Cl u (Ad v : UInt64)) then
some (([] : LI), 22)
else
j5 b a
def Oa : LB → Int → Bp := Wr Xa
def Tj (a : LB) (b o p u f g : Int) : Option (LI × Int) :=
(Ce a b (Ac a)).bind fun h =>
(Cn f g).bind fun k =>
(Oa h (Ac k)).bind fun (m, n) =>
some (m, n)
def Acm (b : UInt64) (a : LB) : Option (UInt64 × Int) :=
if (Hh (Ac a) 100000) then
some (0, 4)
else
(Qc b a).bind fun f =>
some (f, 0)
def Aef (a : LB) : Option (UInt64 × Int) :=
(Acm 0 a).bind fun (b, f) =>
some (b, f)
def Aqw (a : LX) : Option (LX) :=
some a
def Agv : LX → Option (LX) := Aqw
def Ain (bk6 : UInt64 → Int → LX → Option (LX)) (b : UInt64) (f : Int) (a : LX) (g : Int32) : Option (LX) :=
(getI a f).bind fun _ =>
(Qh a f g).bind fun h =>
bk6 (Bs b 256) (Ae f 1) h
def Rw (bk6 : UInt64 → Int → LX → Option (LX)) : UInt64 → Int → LX → Int32 → Option (LX) := Ain bk6
def Sj (j8 : UInt64 → Int → LX → Int32 → Option (LX)) (j10 : LX → Option (LX)) (b : UInt64) (f : Int) (a : LX) : Option (LX) :=
if (Dh f 8) then
if (Hh (Ad (Abb b 256) : Int32) 127) then
j8 b f a (Am (Ad (Abb b 256) : Int32) 256)
else
j8 b f a (Ad (Abb b 256) : Int32)
else
j10 a
def Gq : Nat → UInt64 → Int → LX → Option (LX)
| 0, _, _, _ => none
| q + 1, b, f, a => Sj (Rw (Gq q)) Agv b f a
def Aie : UInt64 → Int → LX → Option (LX) := Gq Ba
def Ajd (j6 : UInt64 → Int → LX → Option (LX)) (k : UInt64) : Option (LX) :=
j6 k 0 (List.replicate 16 (0 : Int32))
def Aga : UInt64 → Option (LX) := Ajd Aie
def Hq (a : LB) : Option (LX × Int) :=
if (Hh (Ac a) 64) then
some (([(0 : Int32), (0 : Int32), (0 : Int32), (0 : Int32), (0 : Int32), (0 : Int32), (0 : Int32), (0 : Int32), (0 : Int32), (0 : Int32), (0 : Int32), (0 : Int32), (0 : Int32), (0 : Int32), (0 : Int32), (0 : Int32)] : LX), 2)
else
(Aef a).bind fun (b, g) =>
(Aga b).bind fun f =>
some (f, 0)
def Jo (a : Int) : Option Int :=
if (geq a 8) then
some 128
else
if (geq a 16) then
some 32768
else
if (geq a 24) then
some 8388608
else
some 0
def Zz (a b : Int) : Option Int :=
if ((Dh a 1) || (Hh a 6)) then
some 2
else
(Jo b).bind fun f =>
if (geq f 0) then
some 2
else
some 0
def Ro (a f b : Int) : Option Int :=
(Zz a f).bind fun g =>
if ((Cl g 0) || (Dh b 1)) then
some 2
else
(Qx (Cl a 0)).bind fun _ =>
if (Hh b (Bs 4000 a)) then
some 2
else
some 0
def Py (b : LB) : Option (LB) :=
(Nf b).bind fun a =>
(Fz ([] : LB) b).bind fun f =>
(Fz f ([(Ad a : UInt8), (Ad (Db a (GI.toZ (8 : UInt64)).toNat) : UInt8), (Ad (Db a (GI.toZ (16 : UInt64)).toNat) : UInt8), (Ad (Db a (GI.toZ (24 : UInt64)).toNat) : UInt8)] : LB)).bind fun g =>
some g
def Kj (a : LB) : Option Int :=
if (Dh (Ac a) 5) then
some 24
else
if (Hh (Ac a) 41254) then
some 4
else
(Ce a 0 (Am (Ac a) 4)).bind fun b =>
(Py b).bind fun f =>
if (f != a) then
some 22
else
some 0
def Ip : Option (Int × Int × UInt64 × UInt64) :=
some (10, 10, 16384, 16384)
def Aoa (a : UInt64) : Option UInt64 :=
some a
def Ads : UInt64 → Option UInt64 := Aoa
def Ml (j6 : UInt64 → Option UInt64) (bk4 : UInt64 → Int → Option UInt64) (b : Int) (a : UInt64) (f : Int) : Option UInt64 :=
if (Dh f b) then
bk4 (Bj a 2) (Ae f 1)
else
j6 a
def Gb (b : Int) : Nat → UInt64 → Int → Option UInt64
| 0, _, _ => none
| q + 1, a, f => Ml Ads (Gb b q) b a f
def Adc (b : Int) : UInt64 → Int → Option UInt64 := Gb b Ba
def Adl (j4 : Int → UInt64 → Int → Option UInt64) (b : Int) : Option UInt64 :=
j4 b 1 0
def Ei : Int → Option UInt64 := Adl Adc
def Rb (a g : Int) (h k : UInt64) (b : UInt32) : Option Bool :=
(Ei a).bind fun f =>
some (Dh (Ad b : UInt64) f)
def Dj (a g : Int) (h k : UInt64) (b : UInt32) : Option UInt32 :=
(Ei a).bind fun f =>
some (Ad (Am (Ad b : UInt64) f) : UInt32)
abbrev Kq := Option (Int × UInt64)
def Ae9 (b : Int) (a f : UInt64) : Kq :=
if (Dh b 24) then
(Ei (Ae b 5)).bind fun g =>
if (Hh (Am (Ae a f) (Bs a 16)) g) then
some ((Ae b 1), (Am (Ae a f) (Bs a 16)))
else
some (b, (Am (Ae a f) (Bs a 16)))
else
some (b, (Am (Ae a f) (Bs a 16)))
def Nt : Int → UInt64 → UInt64 → Kq := Ae9
def Wx (j2 : Int → UInt64 → UInt64 → Kq) (b : Int) (a f : UInt64) : Kq :=
if (Hh b 0) then
(Ei (Ae b 4)).bind fun h =>
if (Dh (Am (Ae a f) (Bs a 16)) h) then
some ((Am b 1), (Am (Ae a f) (Bs a 16)))
else
j2 b a f
else
j2 b a f
def Cz : Int → UInt64 → UInt64 → Kq := Wx Nt
abbrev Im := Option (Int × Int × UInt64 × UInt64)
def Abx (h : UInt32) (f a : Int) (g b : UInt64) (o : Int) (p : UInt64) : Im :=
(Cz f g (Ad h : UInt64)).bind fun (v, w) =>
some (v, o, w, p)
def Lc : UInt32 → Int → Int → UInt64 → UInt64 → Int → UInt64 → Im := Abx
def Ku (j2 : UInt32 → Int → Int → UInt64 → UInt64 → Int → UInt64 → Im) (f a : Int) (g b : UInt64) (h : UInt32) : Im :=
(Rb f a g b h).bind fun u =>
if (!u) then
(
(
(Dj f a g b h).bind fun k =>
(Cz a b (Ad k : UInt64)).bind fun (m, n) =>
j2 h f a g b m n))
else
j2 h f a g b a b
def Px : Int → Int → UInt64 → UInt64 → UInt32 → Im := Ku Lc
abbrev Ck := Option (Int × Int × UInt64 × UInt64)
def Am5 (a b : Int) (f g : UInt64) : Ck :=
some (a, b, f, g)
def Aci : Int → Int → UInt64 → UInt64 → Ck := Am5
def Sn (j6 : Int → Int → UInt64 → UInt64 → Ck) (bk4 : Int → Int → Int → UInt64 → UInt64 → Ck) (h : Int) (k : LU) (m a b : Int) (f g : UInt64) : Ck :=
if (Dh m (Ac k)) then
(getI k m).bind fun n =>
(Px a b f g n).bind fun (o, p, u, v) =>
bk4 (Ae m h) o p u v
else
j6 a b f g
def Hm (h : Int) (k : LU) : Nat → Int → Int → Int → UInt64 → UInt64 → Ck
| 0, _, _, _, _, _ => none
| q + 1, m, a, b, f, g => Sn Aci (Hm h k q) h k m a b f g
def Ab9 (h : Int) (k : LU) : Int → Int → Int → UInt64 → UInt64 → Ck := Hm h k Ba
def Rn (j4 : Int → LU → Int → Int → Int → UInt64 → UInt64 → Ck) (h : Int) (k : LU) : Ck :=
(Ip).bind fun (w, y, aa, ab) =>
(Qx (Cl h 0)).bind fun _ =>
j4 h k (Jd (Ac k) h) w y aa ab
def Kl : Int → LU → Ck := Rn Ab9
def Aia (a : Int) : Option Int :=
some (Jd a 2)
def Aad : Int → Option Int := Aia
def Rv (j6 : Int → Option Int) (bk4 : Int → Int → Option Int) (b a f : Int) : Option Int :=
if (Dh f (Jd b 8)) then
bk4 (Bs a 2) (Ae f 1)
else
j6 a
def Ir (b : Int) : Nat → Int → Int → Option Int
| 0, _, _ => none
| q + 1, a, f => Rv Aad (Ir b q) b a f
def Aab (b : Int) : Int → Int → Option Int := Ir b Ba
def Zu (j4 : Int → Int → Int → Option Int) (g : LB) (k b : Int) : Option Int :=
(getI g (Bs b 8)).bind fun h =>
j4 b (Ad h : Int) 0
def Hz : LB → Int → Int → Option Int := Zu Aab
abbrev Bz := Option (LB × Int)
def Ag1 (b g a : Int) (f : LB) : Bz :=
(getI f (Bs a 8)).bind fun _ =>
(getI f (Bs a 8)).bind fun m =>
(getI f (Bs a 8)).bind fun _ =>
(Qh f (Bs a 8) (Ae m (Ad (Bj b g) : UInt8))).bind fun n =>
some (n, (Ae a 1))
def Ps : Int → Int → Int → LB → Bz := Ag1
def Pp (j8 : Int → Int → Int → LB → Bz) (bk6 : Int → Int → Bz) (b a : Int) (f : LB) (g h : Int) : Bz :=
if (Dh h (Jd a 8)) then
bk6 (Bj g 2) (Ae h 1)
else
j8 b g a f
def Hx (b a : Int) (f : LB) : Nat → Int → Int → Bz
| 0, _, _ => none
| q + 1, g, h => Pp Ps (Hx b a f q) b a f g h
def Yh (b a : Int) (f : LB) : Int → Int → Bz := Hx b a f Ba
def Yq (j6 : Int → Int → LB → Int → Int → Bz) (b a : Int) (f : LB) : Bz :=
j6 b a f 1 0
def Po : Int → Int → LB → Bz := Yq Yh
def Yj (j5 : Int → Int → LB → Bz) (k : LB) (a b : Int) : Bz :=
if (geq (Jd a 8) 0) then
(Fz k ([(0 : UInt8)] : LB)).bind fun o =>
j5 b a o
else
j5 b a k
def Qt : LB → Int → Int → Bz := Yj Po
abbrev Ca := Option (LB × Int)
def Ala (a : Int) (b : LB) : Ca :=
some (b, a)
def Aap : Int → LB → Ca := Ala
def Ka (j6 : Int → LB → Ca) (bk4 : Int → Int → LB → Ca) (f : Int) (g : LB) (h k a : Int) (b : LB) : Ca :=
if (Dh k f) then
(Hz g h k).bind fun m =>
(Qt b a m).bind fun (n, o) =>
bk4 (Ae k 1) o n
else
j6 a b
def Fg (f : Int) (g : LB) (h : Int) : Nat → Int → Int → LB → Ca
| 0, _, _, _ => none
| q + 1, k, a, b => Ka Aap (Fg f g h q) f g h k a b
def Aaq (f : Int) (g : LB) (h : Int) : Int → Int → LB → Ca := Fg f g h Ba
def Aa5 (j4 : Int → LB → Int → Int → Int → LB → Ca) (g : LB) (h p f : Int) : Ca :=
j4 f g h p 0 ([] : LB)
def Wj : LB → Int → Int → Int → Ca := Aa5 Aaq
def An9 (a : UInt64) : Option UInt64 :=
some a
def Adk : UInt64 → Option UInt64 := An9
def Md (j6 : UInt64 → Option UInt64) (bk4 : UInt64 → Int → Option UInt64) (b : Int) (f : LB) (g : Int) (a : UInt64) (h : Int) : Option UInt64 :=
if (Tm h 0) then
(Hz f g (Ae b h)).bind fun k =>
bk4 (Ae (Bj 2 a) (Ad k : UInt64)) (Am h 1)
else
j6 a
def Ge (b : Int) (f : LB) (g : Int) : Nat → UInt64 → Int → Option UInt64
| 0, _, _ => none
| q + 1, a, h => Md Adk (Ge b f g q) b f g a h
def Ua (b : Int) (f : LB) (g : Int) : UInt64 → Int → Option UInt64 := Ge b f g Ba
def Ul (j4 : Int → LB → Int → UInt64 → Int → Option UInt64) (f : LB) (g b m : Int) : Option UInt64 :=
j4 b f g 0 (Am m 1)
def Lq : LB → Int → Int → Int → Option UInt64 := Ul Ua
abbrev Dr := Option (Int × Int)
def Ag3 (b a : Int) (g : LB) (f : Int) : Dr :=
if (geq a 48) then
some (a, (Ae b a))
else
if (Tm (Ae b a) f) then
some ((-1 : Int), 0)
else
some (a, (Ae (Ae b a) 1))
def Qe : Int → Int → LB → Int → Dr := Ag3
def Qa (j6 : Int → Int → LB → Int → Dr) (bk4 : Int → Dr) (b : Int) (g : LB) (f a : Int) : Dr :=
if ((Dh (Ae b a) f) && (Dh a 48)) then
(Hz g f (Ae b a)).bind fun h =>
if (geq h 1) then
bk4 (Ae a 1)
else
j6 b a g f
else
j6 b a g f
def Hu (b : Int) (g : LB) (f : Int) : Nat → Int → Dr
| 0, _ => none
| q + 1, a => Qa Qe (Hu b g f q) b g f a
def Agt (b : Int) (g : LB) (f : Int) : Int → Dr := Hu b g f Ba
def Agz (j4 : Int → LB → Int → Int → Dr) (g : LB) (f b : Int) : Dr :=
j4 b g f 0
def Aek : LB → Int → Int → Dr := Agz Agt
def Vp (b : UInt32) (f : Int) : Option Int :=
(Ei f).bind fun a =>
(Qx (Cl a 0)).bind fun _ =>
some (Ad (Hf 48 (Bs (Ad b : UInt64) a)) : Int)
abbrev Mb := Option (UInt32 × Int × Int)
def Ye (g a b : Int) (h : LB) (f k : Int) : Mb :=
if ((Dh a 0) || (Dh (Am f b) k)) then
some (0, 0, 24)
else
(Lq h f b k).bind fun m =>
if (Dh a 48) then
(Ei g).bind fun o =>
some ((Ad (Ae (Bj (Ad a : UInt64) o) m) : UInt32), (Ae b k), 0)
else
(Vp (Ad m : UInt32) g).bind fun p =>
if (Dh p a) then
some (0, 0, 12)
else
some ((Ad m : UInt32), (Ae b k), 0)
def Pq : Int → Int → Int → LB → Int → Int → Mb := Ye
def Yg (j2 : Int → Int → Int → LB → Int → Int → Mb) (h : LB) (f n g : Int) : Mb :=
if (Tm n f) then
some (0, 0, 24)
else
(Aek h f n).bind fun (a, b) =>
if (geq a 48) then
j2 g a b h f 32
else
j2 g a b h f g
def Xp : LB → Int → Int → Int → Mb := Yg Pq
def Xw (g : LB) (b a f n : Int) (v w : UInt64) : Option (UInt32 × Int × Int) :=
if (Tm a b) then
some (0, 0, 24)
else
(Hz g b a).bind fun o =>
if (geq o 0) then
if (Dh (Am (Am b a) 1) f) then
some (0, 0, 24)
else
(Lq g b (Ae a 1) f).bind fun p =>
some ((Ad p : UInt32), (Ae (Ae a 1) f), 0)
else
(Xp g b (Ae a 1) n).bind fun (h, u, k) =>
if (Cl k 0) then
some (0, 0, k)
else
(Ei f).bind fun m =>
if (Hh (Ae (Ad h : UInt64) m) 4294967295) then
some (0, 0, 12)
else
some ((Ad (Ae (Ad h : UInt64) m) : UInt32), u, 0)
abbrev Ar := Option (LU × Int)
def An4 (b : LU) : Ar :=
some (b, 0)
def Adj : LU → Ar := An4
def Mt (j18 : LU → Ar) (bk16 : Int → Ar) (a : LB) (b : LU) (m : Int) : Ar :=
if (Dh m (Bj 8 (Ac a))) then
(Hz a (Bj 8 (Ac a)) m).bind fun n =>
if (Cl n 0) then
some (b, 12)
else
bk16 (Ae m 1)
else
j18 b
def Gj (a : LB) (b : LU) : Nat → Int → Ar
| 0, _ => none
| q + 1, m => Mt Adj (Gj a b q) a b m
def Ui (a : LB) (b : LU) : Int → Ar := Gj a b Ba
def Ux (j16 : LB → LU → Int → Ar) (f : Int) (a : LB) (b : LU) : Ar :=
if (Hh (Am (Bj 8 (Ac a)) f) 7) then
some (b, 12)
else
j16 a b f
def Mq : Int → LB → LU → Ar := Ux Ui
def Adv (bk10 : Int → Int → LU → Ar) (g h : Int) (a : LB) (f k : Int) (b : LU) (o p : Int) (u v : UInt64) : Ar :=
(Wj a (Bj 8 (Ac a)) f (Hf (Ae f 81) (Bj 8 (Ac a)))).bind fun (y, aa) =>
(Xw y aa 0 o p u v).bind fun (ab, ac, w) =>
if (Cl w 0) then
some (b, w)
else
(Fz b ([ab] : LU)).bind fun ad =>
bk10 (Ae f ac) (Ae k 1) ad
def Gf (bk10 : Int → Int → LU → Ar) : Int → Int → LB → Int → Int → LU → Int → Int → UInt64 → UInt64 → Ar := Adv bk10
def Ug (j13 : Int → Int → LU → Int → Int → UInt64 → UInt64 → Ar) (j15 : Int → LB → LU → Ar) (g h : Int) (a : LB) (f k : Int) (b : LU) : Ar :=
if (Dh k (Bj h g)) then
(Ip).bind fun (n, ae, af, ag) =>
if (Tm k g) then
(Kl g b).bind fun (ah, ai, aj, ak) =>
j13 f k b ah ai aj ak
else
j13 f k b n ae af ag
else
j15 f a b
def Du (g h : Int) (a : LB) : Nat → Int → Int → LU → Ar
| 0, _, _, _ => none
| q + 1, f, k, b => Ug (Gf (Du g h a q) g h a) Mq g h a f k b
def Ade (g h : Int) (a : LB) : Int → Int → LU → Ar := Du g h a Ba
def Vz (j10 : Int → Int → LB → Int → Int → LU → Ar) (g h : Int) (a : LB) : Ar :=
j10 g h a 0 0 ([] : LU)
def Vh : Int → Int → LB → Ar := Vz Ade
def Ai0 (a : Int) : Option (Int × Int) :=
if (geq a 8) then
some (4, 0)
else
if ((geq a 16) || (geq a 24)) then
some (5, 0)
else
some (0, 2)
def All (a : Int) (b : LX) : Option (Int × LX × LX × Int) :=
(Ai0 a).bind fun (g, f) =>
if (Cl f 0) then
some (0, (List.replicate 16 (0 : Int32)), (List.replicate 16 (0 : Int32)), 2)
else
if (geq a 16) then
some (9, b, (List.replicate 16 (0 : Int32)), 0)
else
some (10, b, (List.replicate 16 (0 : Int32)), 0)
def Ad5 (a : Int) (b : LX) : Option (Int × Int32 × Int × LX × LX × Int) :=
(All a b).bind fun (f, g, h, k) =>
if (Cl k 0) then
some (0, 0, 0, (List.replicate 16 (0 : Int32)), (List.replicate 16 (0 : Int32)), 2)
else
some (a, 0, f, g, h, 0)
def Jy (a : UInt32) : Option Int32 :=
if (geq (Abb a 2) 0) then
some (Ad (Bs a 2) : Int32)
else
some (Ad (Bs (Asu (Ae (Ad a : Int) 1)) 2) : Int32)
def By (a : Int) : Option Int32 :=
some (Ad (Ad (Ad a : UInt64) : UInt32) : Int32)
def Ags (a : Int) : Option Int32 :=
some (Ad a : Int32)
def Yo : Int → Option Int32 := Ags
def Pz (j6 : Int → Option Int32) (bk4 : Int → Int → Option Int32) (h : Int) (f g : LX) (a b : Int) : Option Int32 :=
if (Dh b 16) then
(getI f b).bind fun _ =>
(getI g b).bind fun _ =>
(getI f b).bind fun k =>
(getI g b).bind fun m =>
(By (Bj (Ad k : Int) (Ad m : Int))).bind fun n =>
(By (Ae a (Ad n : Int))).bind fun o =>
bk4 (Ad o : Int) (Ae b 1)
else
j6 a
def Hv (h : Int) (f g : LX) : Nat → Int → Int → Option Int32
| 0, _, _ => none
| q + 1, a, b => Pz Yo (Hv h f g q) h f g a b
def Ag2 (h : Int) (f g : LX) : Int → Int → Option Int32 := Hv h f g Ba
def Agx (j4 : Int → LX → LX → Int → Int → Option Int32) (h : Int) (f g : LX) : Option Int32 :=
j4 h f g 0 0
def Aem : Int → LX → LX → Option Int32 := Agx Ag2
def Ae7 (b : Int) (f g : LX) (a : Int) : Option Int32 :=
(Aem b f g).bind fun k =>
(By (Ae (Ad k : Int) (Bs a 2))).bind fun h =>
(Qx (Cl a 0)).bind fun _ =>
(Qx (Cl a 0)).bind fun _ =>
if (Dh (Jd (Ad h : Int) a) 0) then
some (Ad (Am (Bs (Ad h : Int) a) 1) : Int32)
else
some (Ad (Bs (Ad h : Int) a) : Int32)
def Nu : Int → LX → LX → Int → Option Int32 := Ae7
def Wi (j2 : Int → LX → LX → Int → Option Int32) (b : Int) (f g : LX) : Option Int32 :=
if (geq b 9) then
j2 b f g 512
else
j2 b f g 1024
def Vg : Int → LX → LX → Option Int32 := Wi Nu
def Vn (a : Int) : Option Int32 :=
if (geq a 0) then
some 4
else
if (gle a 3) then
some 2
else
some 1
def Ny (a : Int32) : Option Int32 :=
if (Dh a 0) then
some (-1 : Int32)
else
if (Hh a 0) then
some 1
else
some 0
abbrev Cc := Option (Int × LX × LX)
def Al2 (g : Int) (b a : LX) : Cc :=
some (g, b, a)
def Aa9 : Int → LX → LX → Cc := Al2
def Jt (j6 : Int → LX → LX → Cc) (bk4 : Int → LX → Cc) (h : Int32) (g : Int) (a : LX) (f : Int) (b : LX) : Cc :=
if (Dh f 16) then
(getI b f).bind fun _ =>
(getI a f).bind fun _ =>
(getI b f).bind fun k =>
(getI a f).bind fun m =>
(Vn f).bind fun n =>
(Ny m).bind fun o =>
(Ny h).bind fun p =>
(getI b f).bind fun _ =>
(Qh b f (Ae k (Bj (Bj n o) p))).bind fun u =>
bk4 (Ae f 1) u
else
j6 g b a
def Fa (h : Int32) (g : Int) (a : LX) : Nat → Int → LX → Cc
| 0, _, _ => none
| q + 1, f, b => Jt Aa9 (Fa h g a q) h g a f b
def Aa7 (h : Int32) (g : Int) (a : LX) : Int → LX → Cc := Fa h g a Ba
def Aat (j4 : Int32 → Int → LX → Int → LX → Cc) (g : Int) (v a : LX) (h : Int32) : Cc :=
j4 h g a 0 v
def Xe : Int → LX → LX → Int32 → Cc := Aat Aa7
abbrev Cj := Option (Int × LX × LX)
def Acl (b : Int32) (f : Int) (g a : LX) : Cj :=
(getI a 0).bind fun _ =>
(Qh a 0 b).bind fun k =>
some (f, g, k)
def Tb : Int32 → Int → LX → LX → Cj := Acl
def Kw (j6 : Int32 → Int → LX → LX → Cj) (bk4 : Int → LX → Cj) (b : Int32) (f : Int) (g : LX) (h : Int) (a : LX) : Cj :=
if (Hh h 0) then
(getI a (Am h 1)).bind fun _ =>
(getI a (Am h 1)).bind fun m =>
(getI a h).bind fun _ =>
(Qh a h m).bind fun n =>
bk4 (Am h 1) n
else
j6 b f g a
def Fm (b : Int32) (f : Int) (g : LX) : Nat → Int → LX → Cj
| 0, _, _ => none
| q + 1, h, a => Kw Tb (Fm b f g q) b f g h a
def Acu (b : Int32) (f : Int) (g : LX) : Int → LX → Cj := Fm b f g Ba
def Ab4 (j4 : Int32 → Int → LX → Int → LX → Cj) (f : Int) (g o : LX) (b : Int32) : Cj :=
j4 b f g 15 o
def Yk : Int → LX → LX → Int32 → Cj := Ab4 Acu
def Of (a : Int) (b f : LX) (g : Int32) : Option (Int32 × Int × LX × LX) :=
(Vg a b f).bind fun k =>
(By (Ae (Ad g : Int) (Ad k : Int))).bind fun h =>
(Xe a b f g).bind fun (m, n, o) =>
(Yk m n o h).bind fun (p, u, v) =>
some (h, p, u, v)
def Ac0 (b : Int32) (a : Int) : Option Int32 :=
(Qx (Cl a 0)).bind fun _ =>
(Qx (Cl a 0)).bind fun _ =>
if (Dh (Jd (Bj (Am a 1) (Ad b : Int)) a) 0) then
some (Ad (Am (Bs (Bj (Am a 1) (Ad b : Int)) a) 1) : Int32)
else
some (Ad (Bs (Bj (Am a 1) (Ad b : Int)) a) : Int32)
def Lb : Int32 → Int → Option Int32 := Ac0
def Sk (j2 : Int32 → Int → Option Int32) (f : Int) (b : Int32) : Option Int32 :=
if (geq f 5) then
j2 b 32
else
j2 b 16
def Kn : Int → Int32 → Option Int32 := Sk Lb
def Qb (b : Int) (a : Int32) (h : Int) (k m : LX) : Option Int :=
if (geq b 8) then
(Kn 4 a).bind fun f =>
some (Ad f : Int)
else
(Kn 5 a).bind fun g =>
some (Ad g : Int)
def He (a : Int) (k : Int32) (b : Int) (f g : LX) (m : Int32) : Option (Int32 × Int × Int32 × Int × LX × LX) :=
(Of b f g m).bind fun (n, o, p, u) =>
(Qb a k b f g).bind fun v =>
(By (Ae (Ad n : Int) v)).bind fun h =>
some (h, a, h, o, p, u)
def Ma (a : Int) (b : LX) : Option Int :=
if ((Dh a 1) || (Hh a 6)) then
some 2
else
if (Hh (Ac b) 4000) then
some 4
else
(Qx (Cl a 0)).bind fun _ =>
if (Hh (Jd (Ac b) a) 0) then
some 2
else
some 0
def Al5 (b : LX) : Option (LX) :=
some b
def Aa6 : LX → Option (LX) := Al5
def Jq (j8 : LX → Option (LX)) (bk6 : Int → LX → Option (LX)) (a : LX) (f : Int) (b : LX) : Option (LX) :=
if (Tm f 0) then
(getI b (Ae f 1)).bind fun _ =>
(getI a f).bind fun m =>
(getI b (Ae f 1)).bind fun n =>
(By (Am (Ad n : Int) (Ad m : Int))).bind fun o =>
(getI b f).bind fun _ =>
(Qh b f o).bind fun p =>
bk6 (Am f 1) p
else
j8 b
def Ey (a : LX) : Nat → Int → LX → Option (LX)
| 0, _, _ => none
| q + 1, f, b => Jq Aa6 (Ey a q) a f b
def Aax (a : LX) : Int → LX → Option (LX) := Ey a Ba
def Qv (j6 : LX → Int → LX → Option (LX)) (a g : LX) : Option (LX) :=
j6 a (Am (Ac a) 2) g
def Js : LX → LX → Option (LX) := Qv Aax
def Qn (j5 : LX → LX → Option (LX)) (a : LX) : Option (LX) :=
(mkI (Ac a) (0 : Int32)).bind fun k =>
(Qx (geq (Ac a) (Ac a))).bind fun _ =>
(getI a (Am (Ac a) 1)).bind fun u =>
(getI k (Am (Ac a) 1)).bind fun _ =>
(Qh k (Am (Ac a) 1) u).bind fun h =>
if (Hh (Ac a) 1) then
(getI a (Am (Ac a) 1)).bind fun v =>
(getI a (Am (Ac a) 2)).bind fun w =>
(By (Ae (Ad v : Int) (Bs (Ad w : Int) 2))).bind fun y =>
(getI h (Am (Ac a) 1)).bind fun _ =>
(Qh h (Am (Ac a) 1) y).bind fun aa =>
j5 a aa
else
j5 a h
def Nz : LX → Option (LX) := Qn Js
abbrev Df := Option (LX × Int)
def Aou (f : LX) : Df :=
some (f, 0)
def Afa : LX → Df := Aou
def Wf (j6 : LX → Df) (bk4 : Int → LX → Df) (a : Int) (b : LX) (g : Int) (f : LX) : Df :=
if (Dh g (Ac b)) then
(Ce b g (Ae g a)).bind fun h =>
(Nz h).bind fun k =>
(Fz f k).bind fun m =>
bk4 (Ae g a) m
else
j6 f
def Ji (a : Int) (b : LX) : Nat → Int → LX → Df
| 0, _, _ => none
| q + 1, g, f => Wf Afa (Ji a b q) a b g f
def Afz (a : Int) (b : LX) : Int → LX → Df := Ji a b Ba
def Wk (j4 : Int → LX → Int → LX → Df) (a : Int) (b : LX) : Df :=
(Ma a b).bind fun n =>
if (Cl n 0) then
(Ma a b).bind fun o =>
some (([] : LX), o)
else
j4 a b 0 ([] : LX)
def Vk : Int → LX → Df := Wk Afz
def Aa1 (a f : Int) (w : LX) : Option (LX) :=
(Vk a w).bind fun (aj, ai) =>
some aj
def Jr : Int → Int → LX → Option (LX) := Aa1
def Aau (bk18 : Int → LX → Option (LX)) (b : LU) (a f : Int) (g : LX) (h : Int) (m : LX) : Option (LX) :=
bk18 (Ae h 1) m
def Qj (bk18 : Int → LX → Option (LX)) : LU → Int → Int → LX → Int → LX → Option (LX) := Aau bk18
def Aa4 (bk26 : Int → LX → Int → Int32 → Int → LX → LX → Option (LX)) (b : LU) (h a f : Int) (g : LX) (k : Int) (af : LX) (y : Int) (aa : Int32) (ab : Int) (ac ad : LX) : Option (LX) :=
bk26 (Ae k a) af y aa ab ac ad
def Qo (bk26 : Int → LX → Int → Int32 → Int → LX → LX → Option (LX)) : LU → Int → Int → Int → LX → Int → LX → Int → Int32 → Int → LX → LX → Option (LX) := Aa4 bk26
def Qw (j30 : Int → LX → Int → Int32 → Int → LX → LX → Option (LX)) (b : LU) (h a f : Int) (g : LX) (k : Int) (ae : Int32) (m : LX) (n : Int) (o : Int32) (p : Int) (u v : LX) (y : Int) (aa : Int32) (ab : Int) (ac ad : LX) : Option (LX) :=
(getI m k).bind fun _ =>
(Qh m k ae).bind fun af =>
j30 k af y aa ab ac ad
def Qy (bk26 : Int → LX → Int → Int32 → Int → LX → LX → Option (LX)) (b : LU) (h a f : Int) (g : LX) : Int → Int32 → LX → Int → Int32 → Int → LX → LX → Int → Int32 → Int → LX → LX → Option (LX) := Qw (Qo bk26 b h a f g) b h a f g
def Jk (j29 : Int → Int32 → LX → Int → Int32 → Int → LX → LX → Int → Int32 → Int → LX → LX → Option (LX)) (j32 : Int → LX → Option (LX)) (b : LU) (a f : Int) (g : LX) (h k : Int) (m : LX) (n : Int) (o : Int32) (p : Int) (u v : LX) : Option (LX) :=
if (Dh k (Ac b)) then
(getI b k).bind fun ah =>
(
(Jy ah).bind fun ag =>
(
(He n o p u v ag).bind fun (ae, y, aa, ab, ac, ad) =>
j29 k ae m n o p u v y aa ab ac ad))
else
j32 h m
def Gv (bk18 : Int → LX → Option (LX)) (b : LU) (a f : Int) (g : LX) (h : Int) : Nat → Int → LX → Int → Int32 → Int → LX → LX → Option (LX)
| 0, _, _, _, _, _, _, _ => none
| q + 1, k, m, n, o, p, u, v => Jk (Qy (Gv bk18 b a f g h q) b h a f g) (Qj bk18 b a f g) b a f g h k m n o p u v
def Qm (bk18 : Int → LX → Option (LX)) (b : LU) (a f : Int) (g : LX) (h : Int) : Int → LX → Int → Int32 → Int → LX → LX → Option (LX) := Gv bk18 b a f g h Ba
def Jl (j26 : Int → Int → LX → Int → Int32 → Int → LX → LX → Option (LX)) (j34 : Int → Int → LX → Option (LX)) (b : LU) (a f : Int) (g : LX) (h : Int) (w : LX) : Option (LX) :=
if (Dh h a) then
(Ad5 f g).bind fun (ak, ai, al, am, an, ap) =>
j26 h h w ak ai al am an
else
j34 a f w
def Dy (b : LU) (a f : Int) (g : LX) : Nat → Int → LX → Option (LX)
| 0, _, _ => none
| q + 1, h, w => Jl (Qm (Dy b a f g q) b a f g) Jr b a f g h w
def Rj (b : LU) (a f : Int) (g : LX) : Int → LX → Option (LX) := Dy b a f g Ba
def Tc (j18 : LU → Int → Int → LX → Int → LX → Option (LX)) (a f : Int) (g : LX) (b : LU) : Option (LX) :=
(mkI (Ac b) (0 : Int32)).bind fun ao =>
(Qx (geq (Ac b) (Ac b))).bind fun _ =>
j18 b a f g 0 ao
def Dd : Int → Int → LX → LU → Option (LX) := Tc Rj
def An5 : Option Int :=
some 0
def Adb : Option Int := An5
def Et (j6 : Option Int) (bk4 : Int → Option Int) (a : LX) (b f : Int) : Option Int :=
if (Dh f (Ac a)) then
(getI a f).bind fun g =>
if (Dh (Ad g : Int) (Asu b)) then
some 16
else
(getI a f).bind fun h =>
if (Tm (Ad h : Int) b) then
some 16
else
bk4 (Ae f 1)
else
j6
def Bv (a : LX) (b : Int) : Nat → Int → Option Int
| 0, _ => none
| q + 1, f => Et Adb (Bv a b q) a b f
def Ada (a : LX) (b : Int) : Int → Option Int := Bv a b Ba
def Ii (j4 : LX → Int → Int → Option Int) (k : Int) (a : LX) : Option Int :=
(Jo k).bind fun b =>
if (geq b 0) then
some 2
else
if (Hh (Ac a) 4000) then
some 4
else
j4 a b 0
def cadenzaref18_Check : Int → LX → Option Int := Ii Ada
def Dx (g f : Int) (a : LX) : Option (LX × Int) :=
(cadenzaref18_Check f a).bind fun b =>
if (Cl b 0) then
some (([] : LX), b)
else
some (a, 0)
abbrev Ij := Option (LX × Int)
def Hn (n a b : Int) (f : LX) (g : LU) : Ij :=
if (Cl n 0) then
some (([] : LX), n)
else
(
(
(Dd a b f g).bind fun h =>
(Dx a b h).bind fun (k, m) =>
some (k, m)))
def La : Int → Int → Int → LX → LU → Ij := Hn
def Rz (j2 : Int → Int → Int → LX → LU → Ij) (a b : Int) (f : LX) (p : Int) (o : LB) : Ij :=
(Ro a b p).bind fun u =>
if (Cl u 0) then
some (([] : LX), 2)
else
(Kj o).bind fun v =>
if (Cl v 0) then
(Kj o).bind fun w =>
some (([] : LX), w)
else
(Ce o 0 (Am (Ac o) 4)).bind fun y =>
(Vh a p y).bind fun (g, n) =>
j2 n a b f g
def cadenzaref21_Decode : Int → Int → LX → Int → LB → Ij := Rz La
abbrev Cu := Option (Int × Int)
def Xc (a : LB) (f g : Int) (b h : LB) (k : Int) : Cu :=
if (Dh (Ac a) k) then
some (0, 24)
else
if (b == h) then
(Ce a (Am (Ac a) k) (Ae (Am (Ac a) k) 32)).bind fun o =>
(Oj f g).bind fun p =>
if (o != p) then
some (0, 12)
else
some (k, 0)
else
some (k, 0)
def Oc : LB → Int → Int → LB → LB → Int → Cu := Xc
def Nw (j6 : LB → Int → Int → LB → LB → Int → Cu) (a : LB) (f g : Int) (b h : LB) : Cu :=
if (b == h) then
j6 a f g b h (Ae (Ae 32 f) 32)
else
j6 a f g b h (Ae 32 f)
def Ni : LB → Int → Int → LB → LB → Cu := Nw Oc
def Oh (j5 : LB → Int → Int → LB → LB → Cu) (a : LB) : Cu :=
(Ce a (Am (Ac a) 32) (Ac a)).bind fun b =>
(Jp b).bind fun (f, g, n) =>
if (!n) then
some (0, 12)
else
(Eb f g true).bind fun h =>
(
if (!(b == h)) then
(Eb f g false).bind fun m =>
if (b != m) then
some (0, 12)
else
j5 a f g b h
else
j5 a f g b h)
def Wv : LB → Cu := Oh Ni
def Ww (j4 : LB → Cu) (a : LB) : Cu :=
if (Dh (Ac a) 32) then
some (0, 6)
else
(Ce a (Am (Ac a) 32) (Ae (Am (Ac a) 32) 8)).bind fun u =>
if (u != ([65, 80, 69, 84, 65, 71, 69, 88] : LB)) then
some (0, 6)
else
j4 a
def Vo : LB → Cu := Ww Wv
abbrev Ci := Option (Int × Int)
def Am6 (a : Int) : Ci :=
some (a, 0)
def Ab2 : Int → Ci := Am6
def Rm (j6 : Int → Ci) (bk4 : LB → Int → Ci) (b : LB) (a : Int) : Ci :=
if (Hh (Ac b) 0) then
(Vo b).bind fun (g, h) =>
if (Cl h 0) then
some (0, 38)
else
(Ce b 0 (Am (Ac b) g)).bind fun k =>
bk4 k (Ae a 1)
else
j6 a
def Hp : Nat → LB → Int → Ci
| 0, _, _ => none
| q + 1, b, a => Rm Ab2 (Hp q) b a
def Ace : LB → Int → Ci := Hp Ba
def Th (j4 : LB → Int → Ci) (f : LB) : Ci :=
if (Hh (Ac f) 4000) then
some (0, 38)
else
j4 f 0
def Qd : LB → Ci := Th Ace
abbrev Bm := Option (Int × Int × Int × LX × Int)
def Adq (a : LB) (n b f g : Int) (v : LX) : Bm :=
(Ce a n (Ac a)).bind fun af =>
(Qd af).bind fun (ao, ag) =>
if (Cl ag 0) then
some (0, 0, 0, ([] : LX), 38)
else
some (b, f, g, v, 0)
def Uw : LB → Int → Int → Int → Int → LX → Bm := Adq
def Adf (bk7 : Int → Int → LX → Bm) (a : LB) (o b f g k : Int) (h p : LI) (u : LX) (n m : Int) (y : LX) (w : Int) (v : LX) : Bm :=
if (Cl w 0) then
some (0, 0, 0, ([] : LX), w)
else
(Fz v y).bind fun ah =>
(getI h m).bind fun _ =>
(getI h m).bind fun ai =>
bk7 (Ae n ai) (Ae m 1) ah
def Ub (bk7 : Int → Int → LX → Bm) : LB → Int → Int → Int → Int → Int → LI → LI → LX → Int → Int → LX → Int → LX → Bm := Adf bk7
def Nx (j10 : Int → Int → LX → Int → LX → Bm) (j12 : LB → Int → Int → Int → Int → LX → Bm) (a : LB) (o b f g k : Int) (h p : LI) (u : LX) (n m : Int) (v : LX) : Bm :=
if (Dh m (Ac h)) then
(getI h m).bind fun _ =>
(getI h m).bind fun aj =>
if (Dh (Am (Ac a) n) aj) then
some (0, 0, 0, ([] : LX), 24)
else
(getI p m).bind fun _ =>
(getI h m).bind fun _ =>
(getI p m).bind fun ak =>
(getI h m).bind fun al =>
(Ce a n (Ae n al)).bind fun am =>
(cadenzaref21_Decode b f u ak am).bind fun (y, w) =>
j10 n m y w v
else
j12 a n b f g v
def Hb (a : LB) (o b f g k : Int) (h p : LI) (u : LX) : Nat → Int → Int → LX → Bm
| 0, _, _, _ => none
| q + 1, n, m, v => Nx (Ub (Hb a o b f g k h p u q) a o b f g k h p u) Uw a o b f g k h p u n m v
def Wy (a : LB) (o b f g k : Int) (h p : LI) (u : LX) : Int → Int → LX → Bm := Hb a o b f g k h p u Ba
def Nl (j7 : LB → Int → Int → Int → Int → Int → LI → LI → LX → Int → Int → LX → Bm) (a aa : LB) : Bm :=
if (Hh (Ac aa) 64) then
some (0, 0, 0, ([] : LX), 2)
else
(Aaa a).bind fun (an, o, b, f, g, k, ab) =>
if (Cl ab 0) then
some (0, 0, 0, ([] : LX), ab)
else
(Ym a (Ae an 22) o b f g k aa).bind fun (ac, ad) =>
if (Cl ad 0) then
some (0, 0, 0, ([] : LX), ad)
else
(Tj a ac o b f g k).bind fun (h, ae) =>
if (Cl ae 0) then
some (0, 0, 0, ([] : LX), ae)
else
(Cn g k).bind fun p =>
(Hq aa).bind fun (u, ap) =>
j7 a o b f g k h p u (Ae ac (Ae (Bj 4 (Ac h)) 4)) 0 ([] : LX)
def Dp : LB → LB → Bm := Nl Wy
abbrev Dv := Option (Int × Int × Int × Int × Int × Int × LI × Int)
def Abf (m n b h k f g : Int) (o : LI) : Dv :=
if (Cl n 0) then
some (0, 0, 0, 0, 0, 0, ([] : LI), n)
else
some (b, h, k, f, g, (Ae (Ae m (Bj 4 (Ac o))) 4), o, 0)
def Sm : Int → Int → Int → Int → Int → Int → Int → LI → Dv := Abf
def Sa (j4 : Int → Int → Int → Int → Int → Int → Int → LI → Dv) (a : LB) (b h k f g m : Int) : Dv :=
(Ce a m (Ac a)).bind fun y =>
(Cn f g).bind fun aa =>
(Oa y (Ac aa)).bind fun (o, n) =>
j4 m n b h k f g o
def Hr : LB → Int → Int → Int → Int → Int → Int → Dv := Sa Sm
def Kz (j3 : LB → Int → Int → Int → Int → Int → Int → Dv) (a u : LB) : Dv :=
if (Hh (Ac a) 100000) then
some (0, 0, 0, 0, 0, 0, ([] : LI), 4)
else
(Lo a).bind fun (p, v) =>
if (Cl v 0) then
some (0, 0, 0, 0, 0, 0, ([] : LI), v)
else
(Ce a p (Ac a)).bind fun ab =>
(Nj ab).bind fun (b, h, k, f, g, w) =>
if (Cl w 0) then
some (0, 0, 0, 0, 0, 0, ([] : LI), w)
else
if ((u == ([] : LB)) != (geq b 1)) then
some (0, 0, 0, 0, 0, 0, ([] : LI), 26)
else
if (geq b 2) then
if (Dh (Am (Ac a) (Ae p 22)) 8) then
some (0, 0, 0, 0, 0, 0, ([] : LI), 24)
else
(Ce a (Ae p 22) (Ae (Ae p 22) 8)).bind fun ac =>
(Jh u).bind fun ad =>
if (ac != ad) then
some (0, 0, 0, 0, 0, 0, ([] : LI), 26)
else
j3 a b h k f g (Ae (Ae p 22) 8)
else
j3 a b h k f g (Ae p 22)
def cadenzaref40_Opened : LB → LB → Dv := Kz Hr
def Hk (b a : LB) : Option (Int × Int × Int × Int × Int × Int × LI × Int) :=
if (Hh (Ac a) 64) then
some (0, 0, 0, 0, 0, 0, ([] : LI), 2)
else
(cadenzaref40_Opened b a).bind fun (f, g, h, k, m, n, o, p) =>
some (f, g, h, k, m, n, o, p)
def An7 (a : Int) : Option Int :=
some a
def Ado : Int → Option Int := An7
def Mo (j6 : Int → Option Int) (bk4 : Int → Int → Option Int) (b h k m n o f : Int) (g : LI) (a p : Int) : Option Int :=
if (Dh p b) then
(getI g p).bind fun u =>
bk4 (Ae a u) (Ae p 1)
else
j6 a
def Ga (b h k m n o f : Int) (g : LI) : Nat → Int → Int → Option Int
| 0, _, _ => none
| q + 1, a, p => Mo Ado (Ga b h k m n o f g q) b h k m n o f g a p
def Adr (b h k m n o f : Int) (g : LI) : Int → Int → Option Int := Ga b h k m n o f g Ba
def Adt (j4 : Int → Int → Int → Int → Int → Int → Int → LI → Int → Int → Option Int) (h k m n o f : Int) (g : LI) (b : Int) : Option Int :=
j4 b h k m n o f g f 0
def Ti : Int → Int → Int → Int → Int → Int → LI → Int → Option Int := Adt Adr
def Yf (a b : Int) : Option (LB) :=
if (geq a 24) then
(Fz ([(Ad (Jd b 256) : UInt8), (Ad (Jd (Bs b 256) 256) : UInt8)] : LB) ([(Ad (Bs b 65536) : UInt8)] : LB)).bind fun g =>
some g
else
some ([(Ad (Jd b 256) : UInt8), (Ad (Jd (Bs b 256) 256) : UInt8)] : LB)
def Ht : Int → Int → Option (LB) := Yf
def Yd (j2 : Int → Int → Option (LB)) (a : Int) (f : Int32) : Option (LB) :=
if (geq a 8) then
some ([(Ad (Ae (Ad f : Int) 128) : UInt8)] : LB)
else
if (Dh (Ad f : Int) 0) then
(Jo a).bind fun h =>
j2 a (Ae (Ad f : Int) (Bj 2 h))
else
j2 a (Ad f : Int)
def Xq : Int → Int32 → Option (LB) := Yd Ht
abbrev Cw := Option (LB × Int)
def Aob (b : LB) : Cw :=
some (b, 0)
def Adg : LB → Cw := Aob
def Mn (j6 : LB → Cw) (bk4 : Int → LB → Cw) (f : Int) (a : LX) (g : Int) (b : LB) : Cw :=
if (Dh g (Ac a)) then
(getI a g).bind fun h =>
(Xq f h).bind fun k =>
(Fz b k).bind fun m =>
bk4 (Ae g 1) m
else
j6 b
def Gd (f : Int) (a : LX) : Nat → Int → LB → Cw
| 0, _, _ => none
| q + 1, g, b => Mn Adg (Gd f a q) f a g b
def Adh (f : Int) (a : LX) : Int → LB → Cw := Gd f a Ba
def Us (j4 : Int → LX → Int → LB → Cw) (f : Int) (a : LX) : Cw :=
(cadenzaref18_Check f a).bind fun n =>
if (Cl n 0) then
(cadenzaref18_Check f a).bind fun o =>
some (([] : LB), o)
else
j4 f a 0 ([] : LB)
def So : Int → LX → Cw := Us Adh
abbrev Ly := Option (LB × Int)
def Yl (p : LX) (m n g b h k o : Int) (a : LI) : Ly :=
if (Cl m 0) then
some (([] : LB), m)
else
(So b p).bind fun (af, ah) =>
some (af, 0)
def Pu : LX → Int → Int → Int → Int → Int → Int → Int → LI → Ly := Yl
def Km (j2 : LX → Int → Int → Int → Int → Int → Int → Int → LI → Ly) (v y : LB) (n g b h k o : Int) (a : LI) (f : Int) : Ly :=
(Ti n g b h k o a f).bind fun u =>
(getI a f).bind fun aa =>
if (Dh (Am (Ac v) u) aa) then
some (([] : LB), 24)
else
(Hq y).bind fun (ab, ag) =>
(getI a f).bind fun ac =>
(Ce v u (Ae u ac)).bind fun ad =>
(
(Cn h k).bind fun w =>
(getI w f).bind fun _ =>
(getI w f).bind fun ae =>
(cadenzaref21_Decode g b ab ae ad).bind fun (p, m) =>
j2 p m n g b h k o a)
def cadenzaref40_Got : LB → LB → Int → Int → Int → Int → Int → Int → LI → Int → Ly := Km Pu
abbrev Aj := Option (LX × Int)
def Aku (h : LX) : Aj :=
some (h, 0)
def Yu : LX → Aj := Aku
def Zj (bk16 : Int → LX → Aj) (a : Int) (b : LB) (f g : Int) (n : LX) : Aj :=
bk16 (Ae g (Bs a 8)) n
def Iw (bk16 : Int → LX → Aj) : Int → LB → Int → Int → LX → Aj := Zj bk16
def Pg (j28 : Int → LX → Aj) (a : Int) (b : LB) (f g k : Int) (h : LX) : Aj :=
if (geq a 8) then
(Fz h ([(Ad (Am k 128) : Int32)] : LX)).bind fun o =>
j28 g o
else
if (Tm k f) then
(Fz h ([(Ad (Am k (Bj 2 f)) : Int32)] : LX)).bind fun p =>
j28 g p
else
(Fz h ([(Ad k : Int32)] : LX)).bind fun u =>
j28 g u
def Gl (bk16 : Int → LX → Aj) (a : Int) (b : LB) (f : Int) : Int → Int → LX → Aj := Pg (Iw bk16 a b f) a b f
def Iz (j27 : Int → Int → LX → Aj) (bk25 : Int → Int → Aj) (a : Int) (b : LB) (f g : Int) (h : LX) (k m : Int) : Aj :=
if (Tm m 0) then
(getI b (Ae g m)).bind fun v =>
bk25 (Ae (Bj 256 k) (Ad v : Int)) (Am m 1)
else
j27 g k h
def Cy (bk16 : Int → LX → Aj) (a : Int) (b : LB) (f g : Int) (h : LX) : Nat → Int → Int → Aj
| 0, _, _ => none
| q + 1, k, m => Iz (Gl bk16 a b f) (Cy bk16 a b f g h q) a b f g h k m
def Pk (bk16 : Int → LX → Aj) (a : Int) (b : LB) (f g : Int) (h : LX) : Int → Int → Aj := Cy bk16 a b f g h Ba
def Ix (j25 : Int → LX → Int → Int → Aj) (j30 : LX → Aj) (a : Int) (b : LB) (f g : Int) (h : LX) : Aj :=
if (Dh g (Ac b)) then
j25 g h 0 (Am (Bs a 8) 1)
else
j30 h
def Cb (a : Int) (b : LB) (f : Int) : Nat → Int → LX → Aj
| 0, _, _ => none
| q + 1, g, h => Ix (Pk (Cb a b f q) a b f) Yu a b f g h
def Oo (a : Int) (b : LB) (f : Int) : Int → LX → Aj := Cb a b f Ba
def Qk (j16 : Int → LB → Int → Int → LX → Aj) (a : Int) (b : LB) : Aj :=
(Jo a).bind fun f =>
if (geq f 0) then
some (([] : LX), 2)
else
(Qx (Cl (Bs a 8) 0)).bind fun _ =>
if (Hh (Jd (Ac b) (Bs a 8)) 0) then
some (([] : LX), 12)
else
(Qx (Cl (Bs a 8) 0)).bind fun _ =>
if (Hh (Bs (Ac b) (Bs a 8)) 4000) then
some (([] : LX), 4)
else
j16 a b f 0 ([] : LX)
def Jg : Int → LB → Aj := Qk Oo
abbrev Cm := Option ((List LX) × LI)
def Amd (a : List LX) (b : LI) : Cm :=
some (a, b)
def Abp : (List LX) → LI → Cm := Amd
def Kv (j6 : (List LX) → LI → Cm) (bk4 : Int → (List LX) → LI → Cm) (k m : LB) (n o f p u v : Int) (g : LI) (h : Int) (a : List LX) (b : LI) : Cm :=
if (Dh h (Ac g)) then
(cadenzaref40_Got k m n o f p u v g h).bind fun (w, y) =>
if (Cl y 0) then
(Fz a ([([] : LX)] : List LX)).bind fun aa =>
(Fz b ([h] : LI)).bind fun ab =>
bk4 (Ae h 1) aa ab
else
(Jg f w).bind fun (ac, ae) =>
(Fz a ([ac] : List LX)).bind fun ad =>
bk4 (Ae h 1) ad b
else
j6 a b
def Fs (k m : LB) (n o f p u v : Int) (g : LI) : Nat → Int → (List LX) → LI → Cm
| 0, _, _, _ => none
| q + 1, h, a, b => Kv Abp (Fs k m n o f p u v g q) k m n o f p u v g h a b
def Acb (k m : LB) (n o f p u v : Int) (g : LI) : Int → (List LX) → LI → Cm := Fs k m n o f p u v g Ba
def Acq (j4 : LB → LB → Int → Int → Int → Int → Int → Int → LI → Int → (List LX) → LI → Cm) (k m : LB) (n o f p u v : Int) (g : LI) : Cm :=
j4 k m n o f p u v g 0 ([] : List LX) ([] : LI)
def Yi : LB → LB → Int → Int → Int → Int → Int → Int → LI → Cm := Acq Acb
abbrev Bi := Option (Int × Int × Int × LX × LI × Int)
def Alp (g : LI) (a f b : Int) (v : LX) : Bi :=
some (a, f, b, v, g, 0)
def Aaw : LI → Int → Int → Int → LX → Bi := Alp
def Aao (bk7 : Int → (List LX) → LX → Bi) (h o a f b m p : Int) (u g n : LI) (k : Int) (v : LX) (y : List LX) : Bi :=
(getI y k).bind fun _ =>
(getI y k).bind fun af =>
(Fz v af).bind fun ag =>
bk7 (Ae k 1) y ag
def Ju (bk7 : Int → (List LX) → LX → Bi) : Int → Int → Int → Int → Int → Int → Int → LI → LI → LI → Int → LX → (List LX) → Bi := Aao bk7
def Kr (j10 : Int → LX → (List LX) → Bi) (j12 : LI → Int → Int → Int → LX → Bi) (h o a f b m p : Int) (u g n : LI) (k : Int) (w : List LX) (v : LX) : Bi :=
if (Dh k (Ac w)) then
(getI w k).bind fun _ =>
(getI w k).bind fun ah =>
if ((geq (Ac ah) 0) && (geq h 2)) then
(getI n k).bind fun _ =>
(getI n k).bind fun aa =>
(mkI (Bj aa a) (0 : Int32)).bind fun ai =>
(Qx (geq (Bj aa a) (Bj aa a))).bind fun _ =>
(getI w k).bind fun _ =>
(Qh w k ai).bind fun aj =>
j10 k v aj
else
j10 k v w
else
j12 g a f b v
def Eh (h o a f b m p : Int) (u g n : LI) : Nat → Int → (List LX) → LX → Bi
| 0, _, _, _ => none
| q + 1, k, w, v => Kr (Ju (Eh h o a f b m p u g n q) h o a f b m p u g n) Aaw h o a f b m p u g n k w v
def Ab6 (h o a f b m p : Int) (u g n : LI) : Int → (List LX) → LX → Bi := Eh h o a f b m p u g n Ba
def Fq (j7 : Int → Int → Int → Int → Int → Int → Int → LI → LI → LI → Int → (List LX) → LX → Bi) (ab ac : LB) (h : Int) : Bi :=
if ((Dh h 0) || (Hh h 2)) then
some (0, 0, 0, ([] : LX), ([] : LI), 2)
else
if (geq h 0) then
(Dp ab ac).bind fun (ak, al, am, an, ao) =>
some (ak, al, am, an, ([] : LI), ao)
else
(Hk ab ac).bind fun (o, a, f, b, m, p, u, ad) =>
if (Cl ad 0) then
some (0, 0, 0, ([] : LX), ([] : LI), ad)
else
(Yi ab ac o a f b m p u).bind fun (ae, g) =>
if ((geq h 1) && (geq (Ac g) (Ac ae))) then
some (0, 0, 0, ([] : LX), ([] : LI), 6)
else
(Cn b m).bind fun n =>
j7 h o a f b m p u g n 0 ae ([] : LX)
def De : LB → LB → Int → Bi := Fq Ab6
def Ao0 : Option Bool :=
some true
def Af2 : Option Bool := Ao0
def Nv (j6 : Option Bool) (bk4 : Int → Option Bool) (a b : LX) (f : Int) : Option Bool :=
if (Dh f (Ac a)) then
(getI a f).bind fun g =>
(getI b f).bind fun h =>
if (Cl g h) then
some false
else
bk4 (Ae f 1)
else
j6
def Gy (a b : LX) : Nat → Int → Option Bool
| 0, _ => none
| q + 1, f => Nv Af2 (Gy a b q) a b f
def Afk (a b : LX) : Int → Option Bool := Gy a b Ba
def Wg (j4 : LX → LX → Int → Option Bool) (a b : LX) : Option Bool :=
if (Cl (Ac a) (Ac b)) then
some false
else
j4 a b 0
def Vq : LX → LX → Option Bool := Wg Afk
def Vb (a b f : Int) (g : LX) (h k m : Int) (n : LX) : Option Bool :=
if (((geq a h) && (geq b k)) && (geq f m)) then
(Vq g n).bind fun o =>
some o
else
some false
def Akl : Option Bool :=
some true
def Zd : Option Bool := Akl
def Jc (j6 : Option Bool) (bk4 : Int → Option Bool) (a b : LI) (f : Int) : Option Bool :=
if (Dh f (Ac a)) then
(getI a f).bind fun g =>
(getI b f).bind fun h =>
if (Cl g h) then
some false
else
bk4 (Ae f 1)
else
j6
def Ep (a b : LI) : Nat → Int → Option Bool
| 0, _ => none
| q + 1, f => Jc Zd (Ep a b q) a b f
def Yr (a b : LI) : Int → Option Bool := Ep a b Ba
def Oy (j4 : LI → LI → Int → Option Bool) (a b : LI) : Option Bool :=
if (Cl (Ac a) (Ac b)) then
some false
else
j4 a b 0
def Mk : LI → LI → Option Bool := Oy Yr
def Lt (a b : LB) (f : Int) : Option Bool :=
(Acv a).bind fun k =>
if (k || (Hh (Ac b) 100)) then
some true
else
(Ec a b f).bind fun (m, n, o, p, u, g) =>
(De a b f).bind fun (v, w, y, aa, ab, h) =>
(Vb m n o p v w y aa).bind fun ac =>
if ac then
(Mk u ab).bind fun ad =>
some (ad && (geq g h))
else
some (false && (geq g h))
end Go.Pl
