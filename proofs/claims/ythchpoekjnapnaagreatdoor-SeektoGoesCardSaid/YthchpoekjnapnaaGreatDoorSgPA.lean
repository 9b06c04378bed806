/- A part of the proof of a statement of this seat (see the text that ends in Proof): SgPure. No conditions of its own. -/
import Derived.Test.YthchpoekjnapnaaGreatDoorSgBA
set_option linter.unusedVariables false
namespace Go.Pl
open Go Go.Lv
abbrev LB := List UInt8
abbrev LI := List Int
abbrev LX := List Int32
abbrev LU := List UInt32
abbrev LQ := List UInt64
def Aaa (a : LB) : Option Bool :=
some (((Hp (Ac a) 5000) && (Df (Ac a) 12000)) || (Hp (Ac a) 12100))
def Gw (a b : LB) : Option Bool :=
some (a == b)
def Iu (b a : LB) : Option Bool :=
if (Pr (Ac b) (Ac a)) then
(Ca b 0 (Ac a)).bind fun f =>
(Gw f a).bind fun g =>
some g
else
some false
abbrev Ep := Option (Int × Int)
def Aq4 (b : Int) : Ep :=
some (b, 0)
def Ai3 : Int → Ep := Aq4
def Vk (j6 : Int → Ep) (bk4 : Int → Int → Ep) (a : LB) (b f : Int) : Ep :=
if (Df f (Ac a)) then
(getI a f).bind fun g =>
if (Hp g 127) then
some (0, 12)
else
bk4 (gor (Fa b (GI.toZ (7 : UInt64)).toNat) (Ad g : Int)) (Ae f 1)
else
j6 b
def Jt (a : LB) : Nat → Int → Int → Ep
| 0, _, _ => none
| q + 1, b, f => Vk Ai3 (Jt a q) a b f
def Abe (a : LB) : Int → Int → Ep := Jt a Ba
def Abp (j4 : LB → Int → Int → Ep) (a : LB) : Ep :=
if (Ct (Ac a) 4) then
some (0, 2)
else
j4 a 0 0
def Ab6 : LB → Ep := Abp Abe
abbrev Cw := Option (Int × Int)
def Ak2 (a : LB) (b : UInt8) (h : Int) : Cw :=
if (Hp h 4000) then
some (0, 4)
else
if (Df (Ac a) h) then
some (0, 24)
else
if (geq b 16) then
(Ca a (Ak h 10) h).bind fun k =>
(Ca k 0 3).bind fun o =>
if (o != ([51, 68, 73] : LB)) then
some (0, 12)
else
(Ca k 3 (Ac k)).bind fun p =>
(Ca a 3 10).bind fun u =>
(Gw p u).bind fun v =>
if (!v) then
some (0, 12)
else
some (h, 0)
else
some (h, 0)
def Wy : LB → UInt8 → Int → Cw := Ak2
def Adx (j8 : LB → UInt8 → Int → Cw) (a : LB) (g : Int) (b : UInt8) : Cw :=
if (geq b 16) then
j8 a b (Ae (Ae g 10) 10)
else
j8 a b (Ae g 10)
def Wz : LB → Int → UInt8 → Cw := Adx Wy
def Ad2 (j7 : LB → Int → UInt8 → Cw) (a : LB) (g : Int) (b : UInt8) (m : Bool) : Cw :=
if m then
some (0, 12)
else
j7 a g b
def Adm : LB → Int → UInt8 → Bool → Cw := Ad2 Wz
def Adn (j6 : LB → Int → UInt8 → Bool → Cw) (a : LB) (f b : UInt8) : Cw :=
(Ca a 6 10).bind fun w =>
(Ab6 w).bind fun (g, y) =>
if (Ct y 0) then
if true then
j6 a g b true
else
if (geq b 0) then
j6 a g b (!((Pr f 2) && (gle f 4)))
else
if (geq b 16) then
j6 a g b (!(geq f 4))
else
j6 a g b (!false)
else
(getI a 4).bind fun aa =>
if (Ct aa 0) then
j6 a g b true
else
if (geq b 0) then
j6 a g b (!((Pr f 2) && (gle f 4)))
else
if (geq b 16) then
j6 a g b (!(geq f 4))
else
j6 a g b (!false)
def Adt : LB → UInt8 → UInt8 → Cw := Adn Adm
def Ww (j5 : LB → UInt8 → UInt8 → Cw) (a : LB) : Cw :=
(Iu a ([(73 : UInt8), (68 : UInt8), (51 : UInt8)] : LB)).bind fun n =>
if (!n) then
some (0, 6)
else
if (Df (Ac a) 10) then
some (0, 24)
else
(getI a 3).bind fun f =>
(getI a 5).bind fun b =>
(
(
(
j5 a f b)))
def Aer : LB → Cw := Ww Adt
abbrev Mz := Option (UInt64 × Int)
def Bb1 (b : UInt64) : Mz :=
some (b, 0)
def Arz : UInt64 → Mz := Bb1
def Ag2 (j6 : UInt64 → Mz) (bk4 : UInt64 → Int → Mz) (a : LB) (b : UInt64) (f : Int) : Mz :=
if (Df f (Ac a)) then
(getI a f).bind fun g =>
(Re (Pr (Bj 8 f) 0)).bind fun _ =>
bk4 (gor b (Fa (Ad g : UInt64) (GI.toZ (Bj 8 f)).toNat)) (Ae f 1)
else
j6 b
def Yg (a : LB) : Nat → UInt64 → Int → Mz
| 0, _, _ => none
| q + 1, b, f => Ag2 Arz (Yg a q) a b f
def Amb (a : LB) : UInt64 → Int → Mz := Yg a Ba
def Am0 (j4 : LB → UInt64 → Int → Mz) (a : LB) : Mz :=
if ((Df (Ac a) 1) || (Hp (Ac a) 8)) then
some (0, 2)
else
j4 a 0 0
def Amp : LB → Mz := Am0 Amb
def Ai1 (f : LB) (a b : Int) : Option (UInt64 × Int) :=
if (((Df b 1) || (Hp b 8)) || (Df a 0)) then
some (0, 2)
else
if (Hp a (Ak (Ac f) b)) then
some (0, 24)
else
(Ca f a (Ae a b)).bind fun g =>
(Amp g).bind fun (h, k) =>
some (h, k)
def As9 (b : UInt64) (a : Int) : Option Bool :=
if (geq a 8) then
some true
else
(Re (Pr (Bj 8 a) 0)).bind fun _ =>
some (geq (Cn b (GI.toZ (Bj 8 a)).toNat) 0)
abbrev Mu := Option (LB × Int)
def Asp (a : LB) : Mu :=
some (a, 0)
def Amx : LB → Mu := Asp
def Ag0 (j6 : LB → Mu) (bk4 : Int → LB → Mu) (f : UInt64) (g : LB) (b : Int) (a : LB) : Mu :=
if (Df b (Ac g)) then
(Re (Pr (Bj 8 b) 0)).bind fun _ =>
(getI a b).bind fun _ =>
(Pd a b (Ad (Cn f (GI.toZ (Bj 8 b)).toNat) : UInt8)).bind fun k =>
bk4 (Ae b 1) k
else
j6 a
def Xu (f : UInt64) (g : LB) : Nat → Int → LB → Mu
| 0, _, _ => none
| q + 1, b, a => Ag0 Amx (Xu f g q) f g b a
def Al6 (f : UInt64) (g : LB) : Int → LB → Mu := Xu f g Ba
def Amc (j4 : UInt64 → LB → Int → LB → Mu) (f : UInt64) (h : Int) : Mu :=
if ((Df h 1) || (Hp h 8)) then
some (([] : LB), 2)
else
(As9 f h).bind fun m =>
if (!m) then
some (([] : LB), 16)
else
(mkI h (0 : UInt8)).bind fun g =>
(Re (geq h h)).bind fun _ =>
j4 f g 0 g
def Al5 : UInt64 → Int → Mu := Amc Al6
def Ave (g : LB) : Option (LB) :=
some g
def Aoy : LB → Option (LB) := Ave
def Akd (j6 : LB → Option (LB)) (bk4 : Int → LB → Option (LB)) (a b : Int) (f : UInt64) (h : Int) (g : LB) : Option (LB) :=
if (Df h (Ac ([(2000 : UInt64), (Ad (Ae a 32) : UInt64), (Ad b : UInt64), f, (0 : UInt64), (0 : UInt64)] : LQ))) then
(getI ([(2000 : UInt64), (Ad (Ae a 32) : UInt64), (Ad b : UInt64), f, (0 : UInt64), (0 : UInt64)] : LQ) h).bind fun _ =>
(getI ([(2000 : UInt64), (Ad (Ae a 32) : UInt64), (Ad b : UInt64), f, (0 : UInt64), (0 : UInt64)] : LQ) h).bind fun k =>
(Al5 k 4).bind fun (m, o) =>
(Hz g m).bind fun n =>
bk4 (Ae h 1) n
else
j6 g
def Xg (a b : Int) (f : UInt64) : Nat → Int → LB → Option (LB)
| 0, _, _ => none
| q + 1, h, g => Akd Aoy (Xg a b f q) a b f h g
def Aos (a b : Int) (f : UInt64) : Int → LB → Option (LB) := Xg a b f Ba
def Aow (j4 : Int → Int → UInt64 → Int → LB → Option (LB)) (a b : Int) (f : UInt64) : Option (LB) :=
j4 a b f 0 ([(65 : UInt8), (80 : UInt8), (69 : UInt8), (84 : UInt8), (65 : UInt8), (71 : UInt8), (69 : UInt8), (88 : UInt8)] : LB)
def Ana : Int → Int → UInt64 → Option (LB) := Aow Aos
def Ae7 (b : LB) (g : UInt64) : Option (Int × Int × Bool) :=
(Ai1 b 12 4).bind fun (a, m) =>
(Ai1 b 16 4).bind fun (f, n) =>
if (((Df a 32) || (Hp a 3032)) || (Hp f 1000)) then
some (0, 0, false)
else
(Ana (Ak (Ad a : Int) 32) (Ad f : Int) g).bind fun h =>
(Gw b h).bind fun k =>
some ((Ak (Ad a : Int) 32), (Ad f : Int), k)
def Am6 (a : LB) : Option (Int × Int) :=
(Iu a ([(65 : UInt8), (80 : UInt8), (69 : UInt8), (84 : UInt8), (65 : UInt8), (71 : UInt8), (69 : UInt8), (88 : UInt8)] : LB)).bind fun f =>
if (!f) then
some (0, 6)
else
if (Df (Ac a) 32) then
some (0, 24)
else
(Ca a 0 32).bind fun g =>
(Ae7 g 2684354560).bind fun (b, h, k) =>
if (!k) then
some (0, 12)
else
if (Df (Ac a) (Ae b 64)) then
some (0, 24)
else
(Ca a (Ak (Ae b 64) 32) (Ae b 64)).bind fun m =>
(Ana b h 2147483648).bind fun n =>
(Gw m n).bind fun o =>
if (!o) then
some (0, 12)
else
some ((Ae b 64), 0)
def Up (a : LB) : Option (Int × Int) :=
(Aer a).bind fun (f, b) =>
if (Ct b 6) then
some (f, b)
else
(Am6 a).bind fun (g, h) =>
some (g, h)
def Ra (b : List UInt8) : Nat → Int → Option (Int × Int)
  | 0, _ => none
  | q + 1, x => Option.bind (Ca b x (Ac b)) fun s => Option.bind (Up s) fun r =>
    if geq r.2 (6 : Int) = true then some (x, 0)
    else if (geq r.2 (0 : Int) && Hp (Ae x r.1) (4000 : Int)) = true then some (0, 4)
    else if Ct r.2 (0 : Int) = true then some (0, r.2)
    else Ra b q (Ae x r.1)
def Xy (b : List UInt8) : Option (Int × Int) := Ra b Ba 0
def Ho (b a : LB) : Option Bool :=
if (Pr (Ac b) (Ac a)) then
(Ca b 0 (Ac a)).bind fun f =>
some (f == a)
else
some false
def Te (a b : LB) : Option Bool :=
(Ho a b).bind fun f =>
some f
abbrev As := Option (UInt32 × Int)
def Al0 (h : UInt32) : As :=
some (h, 0)
def Afm : UInt32 → As := Al0
def Zg (j30 : UInt32 → As) (bk28 : UInt32 → Int → As) (a : LB) (b : LU) (h : UInt32) (m : Int) : As :=
if (Df m (Ac a)) then
(getI a m).bind fun p =>
(getI b (GI.toZ (Wh (Ad h : UInt8) p))).bind fun _ =>
(getI b (GI.toZ (Wh (Ad h : UInt8) p))).bind fun u =>
bk28 (Wh (Cn h (GI.toZ (8 : UInt64)).toNat) u) (Ae m 1)
else
j30 h
def Oj (a : LB) (b : LU) : Nat → UInt32 → Int → As
| 0, _, _ => none
| q + 1, h, m => Zg Afm (Oj a b q) a b h m
def Afh (a : LB) (b : LU) : UInt32 → Int → As := Oj a b Ba
def Agt (j28 : LB → LU → UInt32 → Int → As) (f : UInt32) (a : LB) (b : LU) : As :=
j28 a b f 0
def Afj : UInt32 → LB → LU → As := Agt Afh
def Agh (j27 : UInt32 → LB → LU → As) (f : UInt32) (a : LB) (b : LU) : As :=
j27 f a b
def Za : UInt32 → LB → LU → As := Agh Afj
def Amz (bk16 : Int → LU → As) (f : UInt32) (a : LB) (g : Int) (o : LU) : As :=
bk16 (Ae g 1) o
def Agm (bk16 : Int → LU → As) : UInt32 → LB → Int → LU → As := Amz bk16
def Afo (j24 : Int → LU → As) (f : UInt32) (a : LB) (g : Int) (k : UInt32) (b : LU) : As :=
(getI b g).bind fun _ =>
(Pd b g k).bind fun o =>
j24 g o
def Zb (bk16 : Int → LU → As) (f : UInt32) (a : LB) : Int → UInt32 → LU → As := Afo (Agm bk16 f a) f a
def Zs (j23 : Int → UInt32 → LU → As) (bk21 : UInt32 → Int → As) (f : UInt32) (a : LB) (g : Int) (b : LU) (k : UInt32) (n : Int) : As :=
if (Df n 8) then
bk21 (Wh (Cn k (GI.toZ (1 : UInt64)).toNat) (Bj 3988292384 (Hm k 1))) (Ae n 1)
else
j23 g k b
def Oi (bk16 : Int → LU → As) (f : UInt32) (a : LB) (g : Int) (b : LU) : Nat → UInt32 → Int → As
| 0, _, _ => none
| q + 1, k, n => Zs (Zb bk16 f a) (Oi bk16 f a g b q) f a g b k n
def Agj (bk16 : Int → LU → As) (f : UInt32) (a : LB) (g : Int) (b : LU) : UInt32 → Int → As := Oi bk16 f a g b Ba
def Zr (j21 : Int → LU → UInt32 → Int → As) (j26 : UInt32 → LB → LU → As) (f : UInt32) (a : LB) (g : Int) (b : LU) : As :=
if (Df g 256) then
j21 g b (Ad g : UInt32) 0
else
j26 f a b
def Kf (f : UInt32) (a : LB) : Nat → Int → LU → As
| 0, _, _ => none
| q + 1, g, b => Zr (Agj (Kf f a q) f a) Za f a g b
def Afv (f : UInt32) (a : LB) : Int → LU → As := Kf f a Ba
def Aia (j16 : UInt32 → LB → Int → LU → As) (f : UInt32) (a : LB) : As :=
if (Hp (Ac a) 100000) then
some (0, 4)
else
j16 f a 0 (List.replicate 256 (0 : UInt32))
def Akj : UInt32 → LB → As := Aia Afv
def Ae8 (b : LB) : Option (UInt32 × Int) :=
(Akj 4294967295 b).bind fun (f, a) =>
if (Ct a 0) then
some (0, a)
else
some ((Atr f), 0)
def Aio (b f a g h : Int) : Option Bool :=
some (((((((geq b 1) || (geq b 2)) && (Hp f 0)) && (gle f 6)) && (Hp g 0)) && (gle g 1048576)) && (Hp h 0))
def Vb : Int → Int → Int → Int → Int → Option Bool := Aio
def Abo (j2 : Int → Int → Int → Int → Int → Option Bool) (b f a g h : Int) : Option Bool :=
if (geq a 8) then
if (geq a 8) then
j2 b f a g h
else
some false
else
if (geq a 16) then
if (geq a 16) then
j2 b f a g h
else
some false
else
if (geq a 24) then
j2 b f a g h
else
some false
def Wr : Int → Int → Int → Int → Int → Option Bool := Abo Vb
def Vf (a : Int) : Option (Int × Int) :=
if ((Df a 1) || (Hp a 1048576)) then
some (0, 2)
else
some ((Ans 1 (Cu (Bj 256 a) 245)), 0)
def Qz (g b : Int) : Option (Int × Int) :=
(Vf g).bind fun (a, f) =>
if (Ct f 0) then
some (0, f)
else
if ((Df b 1) || (Hp b 4000)) then
some (0, 2)
else
(Re (Ct a 0)).bind fun _ =>
if (Hp (Cu (Ak (Ae b a) 1) a) 1000) then
some (0, 4)
else
some ((Cu (Ak (Ae b a) 1) a), 0)
def Acn (k a m f b : Int) : Option Bool :=
(Re (Ct a 0)).bind fun _ =>
if (Hp b (Cu 4000 a)) then
some false
else
(Qz f b).bind fun (g, h) =>
some ((geq h 0) && (gle g 1000))
abbrev Ge := Option (Int × Int × Int × Int × Int × Int)
def Aln (a : LI) : Ge :=
(getI a 0).bind fun _ =>
(getI a 0).bind fun h =>
(getI a 1).bind fun _ =>
(getI a 1).bind fun k =>
(getI a 2).bind fun _ =>
(getI a 2).bind fun m =>
(getI a 3).bind fun _ =>
(getI a 3).bind fun n =>
(getI a 4).bind fun _ =>
(getI a 4).bind fun o =>
(Wr h k m n o).bind fun p =>
if (!p) then
some (0, 0, 0, 0, 0, 12)
else
(Acn h k m n o).bind fun u =>
if (!u) then
some (0, 0, 0, 0, 0, 4)
else
some (h, k, m, n, o, 0)
def Zc : LI → Ge := Aln
def Aam (j6 : LI → Ge) (bk4 : Int → Int → LI → Ge) (b : LB) (g f : Int) (a : LI) : Ge :=
if (Df f 5) then
(getI ([(2 : Int), (2 : Int), (2 : Int), (4 : Int), (4 : Int)] : LI) f).bind fun h =>
(Ai1 b g h).bind fun (v, ae) =>
(getI a f).bind fun _ =>
(Pd a f (Ad v : Int)).bind fun w =>
bk4 (Ae g h) (Ae f 1) w
else
j6 a
def Ke (b : LB) : Nat → Int → Int → LI → Ge
| 0, _, _, _ => none
| q + 1, g, f, a => Aam Zc (Ke b q) b g f a
def Zx (b : LB) : Int → Int → LI → Ge := Ke b Ba
def Afz (j4 : LB → Int → Int → LI → Ge) (b : LB) : Ge :=
(Ca b 0 (Gd 4 (Ac b))).bind fun y =>
(Te ([84, 84, 65, 49] : LB) y).bind fun aa =>
if (!aa) then
some (0, 0, 0, 0, 0, 12)
else
if (Df (Ac b) 22) then
some (0, 0, 0, 0, 0, 24)
else
(Ai1 b 18 4).bind fun (ab, af) =>
(Ca b 0 18).bind fun ac =>
(Ae8 ac).bind fun (ad, ag) =>
if (Ct (Ad ad : UInt64) ab) then
some (0, 0, 0, 0, 0, 22)
else
j4 b 4 0 (List.replicate 5 (0 : Int))
def Agz : LB → Ge := Afz Zx
abbrev Ar := Option (UInt64 × Int)
def Ami (h : UInt64) : Ar :=
some (h, 0)
def Agp : UInt64 → Ar := Ami
def Ago (j30 : UInt64 → Ar) (h b : UInt64) (a : LB) (f : LQ) : Ar :=
j30 h
def Afi : UInt64 → UInt64 → LB → LQ → Ar := Ago Agp
def Zy (j29 : UInt64 → UInt64 → LB → LQ → Ar) (bk27 : UInt64 → Int → Ar) (a : LB) (b : UInt64) (f : LQ) (h : UInt64) (m : Int) : Ar :=
if (Df m (Ac a)) then
(getI a m).bind fun p =>
Option.bind (getI f (GI.toZ (Wh (Ad (Cn h (GI.toZ (56 : UInt64)).toNat) : UInt8) p))) fun _ =>
Option.bind (getI f (GI.toZ (Wh (Ad (Cn h (GI.toZ (56 : UInt64)).toNat) : UInt8) p))) fun u =>
bk27 (Wh (Fa h (GI.toZ (8 : UInt64)).toNat) u) (Ae m 1)
else
j29 h b a f
def Oe (a : LB) (b : UInt64) (f : LQ) : Nat → UInt64 → Int → Ar
| 0, _, _ => none
| q + 1, h, m => Zy Afi (Oe a b f q) a b f h m
def Af2 (a : LB) (b : UInt64) (f : LQ) : UInt64 → Int → Ar := Oe a b f Ba
def Afa (j27 : LB → UInt64 → LQ → UInt64 → Int → Ar) (b : UInt64) (a : LB) (f : LQ) : Ar :=
j27 a b f b 0
def Zn : UInt64 → LB → LQ → Ar := Afa Af2
def Al8 (bk16 : Int → LQ → Ar) (b : UInt64) (a : LB) (g : Int) (o : LQ) : Ar :=
bk16 (Ae g 1) o
def Agc (bk16 : Int → LQ → Ar) : UInt64 → LB → Int → LQ → Ar := Al8 bk16
def Afp (j24 : Int → LQ → Ar) (b : UInt64) (a : LB) (g : Int) (k : UInt64) (f : LQ) : Ar :=
(getI f g).bind fun _ =>
(Pd f g k).bind fun o =>
j24 g o
def Zi (bk16 : Int → LQ → Ar) (b : UInt64) (a : LB) : Int → UInt64 → LQ → Ar := Afp (Agc bk16 b a) b a
def Aaf (j23 : Int → UInt64 → LQ → Ar) (bk21 : UInt64 → Int → Ar) (b : UInt64) (a : LB) (g : Int) (f : LQ) (k : UInt64) (n : Int) : Ar :=
if (Df n 8) then
bk21 (Wh (Fa k (GI.toZ (1 : UInt64)).toNat) (Bj 4823603603198064275 (Cn k (GI.toZ (63 : UInt64)).toNat))) (Ae n 1)
else
j23 g k f
def Oq (bk16 : Int → LQ → Ar) (b : UInt64) (a : LB) (g : Int) (f : LQ) : Nat → UInt64 → Int → Ar
| 0, _, _ => none
| q + 1, k, n => Aaf (Zi bk16 b a) (Oq bk16 b a g f q) b a g f k n
def Aff (bk16 : Int → LQ → Ar) (b : UInt64) (a : LB) (g : Int) (f : LQ) : UInt64 → Int → Ar := Oq bk16 b a g f Ba
def Aae (j21 : Int → LQ → UInt64 → Int → Ar) (j26 : UInt64 → LB → LQ → Ar) (b : UInt64) (a : LB) (g : Int) (f : LQ) : Ar :=
if (Df g 256) then
j21 g f (Fa (Ad g : UInt64) (GI.toZ (56 : UInt64)).toNat) 0
else
j26 b a f
def Kg (b : UInt64) (a : LB) : Nat → Int → LQ → Ar
| 0, _, _ => none
| q + 1, g, f => Aae (Aff (Kg b a q) b a) Zn b a g f
def Agb (b : UInt64) (a : LB) : Int → LQ → Ar := Kg b a Ba
def Ah1 (j16 : UInt64 → LB → Int → LQ → Ar) (b : UInt64) (a : LB) : Ar :=
if (Hp (Ac a) 100000) then
some (0, 4)
else
j16 b a 0 (List.replicate 256 (0 : UInt64))
def Akm : UInt64 → LB → Ar := Ah1 Agb
def Aim (a : LB) : Option (UInt64 × Int) :=
(Akm 0 a).bind fun (b, f) =>
some (b, f)
def Arf (a : LB) : Option (UInt64 × Int) :=
if (Hp (Ac a) 64) then
some (0, 2)
else
(Aim a).bind fun (b, f) =>
some (b, 0)
def Aeu (b : LB) : Option (LB × Int) :=
(Arf b).bind fun (f, a) =>
if (Ct a 0) then
some (([] : LB), a)
else
(Al5 f 8).bind fun (g, h) =>
some (g, h)
def Akn (a f : LB) : Option (Bool × Int) :=
(Aeu f).bind fun (b, g) =>
if ((Ct g 0) || (Ct (Ac a) (Ac b))) then
some (false, 2)
else
(Gw a b).bind fun h =>
some (h, 0)
def Ae0 (a b f g h : Int) : Option Int :=
(Wr a b f g h).bind fun k =>
if (!k) then
some 8
else
(Acn a b f g h).bind fun m =>
if (!m) then
some 8
else
some 0
def Ads (a b : UInt64) : Option (UInt64 × UInt64) :=
some ((Ae (Ae (Bj (Cn a (GI.toZ (32 : UInt64)).toNat) (Cn b (GI.toZ (32 : UInt64)).toNat)) (Cn (Ae (Bj (Cn a (GI.toZ (32 : UInt64)).toNat) (Hm b 4294967295)) (Cn (Bj (Hm a 4294967295) (Hm b 4294967295)) (GI.toZ (32 : UInt64)).toNat)) (GI.toZ (32 : UInt64)).toNat)) (Cn (Ae (Hm (Ae (Bj (Cn a (GI.toZ (32 : UInt64)).toNat) (Hm b 4294967295)) (Cn (Bj (Hm a 4294967295) (Hm b 4294967295)) (GI.toZ (32 : UInt64)).toNat)) 4294967295) (Bj (Hm a 4294967295) (Cn b (GI.toZ (32 : UInt64)).toNat))) (GI.toZ (32 : UInt64)).toNat)), (Bj a b))
def Ab8 (a b : UInt64) : Option (UInt64 × UInt64) :=
(Ads a b).bind fun (f, g) =>
some (f, g)
def Lf (a : LI) : Option (LI) :=
some a
def Hc : LI → Option (LI) := Lf
def Fp (j10 : LI → Option (LI)) (bk8 : Int → LI → Option (LI)) (b : Int) (a : LI) : Option (LI) :=
if (Df b (Ac a)) then
(
(vwI (Ac a) b (Ac a)).bind fun _ =>
(vwI (Ac a) 0 b).bind fun _ =>
bk8 (Ae b (Afn ((Ac a) - b) (Aix a 0 (b - (0 : Int))).length)) (Sk a b ((Ac a) - b) (Aix a 0 (b - (0 : Int)))))
else
j10 a
def Dw : Nat → Int → LI → Option (LI)
| 0, _, _ => none
| q + 1, b, a => Fp Hc (Dw q) b a
def Nb : Int → LI → Option (LI) := Dw Ba
def Mv (j8 : Int → LI → Option (LI)) (f : LI) (g : UInt64) : Option (LI) :=
(mkI (Ad g : Int) (0 : Int)).bind fun k =>
(Re (geq (Ad g : Int) (Ad g : Int))).bind fun _ =>
j8 (Afn (Ac k) f.length) (Av2 k f)
def Mt : LI → UInt64 → Option (LI) := Mv Nb
def Mw (j7 : LI → UInt64 → Option (LI)) (f : LI) (h : Int) : Option (LI) :=
(Ab8 (Ad (Ac f) : UInt64) (Ad h : UInt64)).bind fun (m, g) =>
if ((Hp m 0) || (Hp g 9223372036854775807)) then
none
else
j7 f g
def Na : LI → Int → Option (LI) := Mw Mt
def Nf (j6 : LI → Int → Option (LI)) (f : LI) (h : Int) : Option (LI) :=
if (Df h 0) then
none
else
j6 f h
def Km : LI → Int → Option (LI) := Nf Na
def Agw (f : LI) : Option (LI) :=
some f
def Vm : LI → Option (LI) := Agw
def Ey (j16 : LI → Option (LI)) (bk14 : Int → LI → Option (LI)) (a : List LI) (g : Int) (f : LI) : Option (LI) :=
if (Df g (Ac a)) then
(getI a g).bind fun o =>
(Hz f o).bind fun p =>
bk14 (Ae g 1) p
else
j16 f
def Dq (a : List LI) : Nat → Int → LI → Option (LI)
| 0, _, _ => none
| q + 1, g, f => Ey Vm (Dq a q) a g f
def Lg (a : List LI) : Int → LI → Option (LI) := Dq a Ba
def Li (j14 : (List LI) → Int → LI → Option (LI)) (a : List LI) (k : LI) : Option (LI) :=
j14 a 0 k
def Ha : (List LI) → LI → Option (LI) := Li Lg
def Lj (j13 : (List LI) → LI → Option (LI)) (b : Int) (a : List LI) : Option (LI) :=
if (Hp (Ak b (Ak (0 : Int) (0 : Int))) 0) then
(vwI 0 0 0).bind fun _ =>
(mkI (Ak b (Ak (0 : Int) (0 : Int))) (0 : Int)).bind fun u =>
(Hz ([] : LI) u).bind fun m =>
(vwI (Ac m) 0 0).bind fun _ =>
j13 a (Aix m 0 ((0 : Int) - (0 : Int)))
else
j13 a ([] : LI)
def Lh : Int → (List LI) → Option (LI) := Lj Ha
def Ld (j12 : Int → (List LI) → Option (LI)) (a : List LI) (b : Int) : Option (LI) :=
if (Df b 0) then
none
else
j12 b a
def Le : (List LI) → Int → Option (LI) := Ld Lh
def Fm (j11 : (List LI) → Int → Option (LI)) (bk9 : Int → Int → Option (LI)) (a : List LI) (b h : Int) : Option (LI) :=
if (Df h (Ac a)) then
(getI a h).bind fun n =>
if (Df (Ae b (Ac n)) 0) then
none
else
bk9 (Ae b (Ac n)) (Ae h 1)
else
j11 a b
def Dv (a : List LI) : Nat → Int → Int → Option (LI)
| 0, _, _ => none
| q + 1, b, h => Fm Le (Dv a q) a b h
def Mx (a : List LI) : Int → Int → Option (LI) := Dv a Ba
def Nc (j9 : (List LI) → Int → Int → Option (LI)) (a : List LI) : Option (LI) :=
j9 a 0 0
def Kj : (List LI) → Option (LI) := Nc Mx
def Afw (a b : LI) : Option (LI) :=
(Kj ([a, b] : List LI)).bind fun f =>
some f
def Ahe (a b : Int) : Option (LI × Int) :=
(Qz a b).bind fun (f, g) =>
if (Ct g 0) then
some (([] : LI), g)
else
(Vf a).bind fun (h, n) =>
(Km ([h] : LI) (Ak f 1)).bind fun k =>
(Afw k ([(Ak b (Bj (Ak f 1) h))] : LI)).bind fun m =>
some (m, 0)
def Wk (g h k a b : Int) : Option (LI × Int) :=
(Ae0 g h k a b).bind fun f =>
if (Ct f 0) then
some (([] : LI), f)
else
(Ahe a b).bind fun (m, n) =>
some (m, n)
def At7 : Option Int :=
some 0
def Alv : Option Int := At7
def Yx (j6 : Option Int) (bk4 : Int → Int → Option Int) (a : LI) (f b : Int) : Option Int :=
if (Df b (Ac a)) then
(getI a b).bind fun g =>
if ((Df g 5) || (Hp g f)) then
some 8
else
bk4 (Ak f g) (Ae b 1)
else
j6
def Pb (a : LI) : Nat → Int → Int → Option Int
| 0, _, _ => none
| q + 1, f, b => Yx Alv (Pb a q) a f b
def Agg (a : LI) : Int → Int → Option Int := Pb a Ba
def Afk (j4 : LI → Int → Int → Option Int) (a : LI) : Option Int :=
if ((geq (Ac a) 0) || (Hp (Ac a) 1000)) then
some 8
else
j4 a 100000 0
def Aco : LI → Option Int := Afk Agg
abbrev Hw := Option (LI × Int)
def An2 (a : LI) : Hw :=
(Aco a).bind fun k =>
if (Ct k 0) then
some (([] : LI), 12)
else
some (a, 0)
def Aca : LI → Hw := An2
def Ab9 (j6 : LI → Hw) (bk4 : Int → LI → Hw) (b : LB) (f : LI) (g : Int) (a : LI) : Hw :=
if (Df g (Ac f)) then
(Ai1 b (Bj 4 g) 4).bind fun (k, u) =>
(getI a g).bind fun _ =>
(Pd a g (Ad k : Int)).bind fun m =>
bk4 (Ae g 1) m
else
j6 a
def Rb (b : LB) (f : LI) : Nat → Int → LI → Hw
| 0, _, _ => none
| q + 1, g, a => Ab9 Aca (Rb b f q) b f g a
def Ahj (b : LB) (f : LI) : Int → LI → Hw := Rb b f Ba
def Ah9 (j4 : LB → LI → Int → LI → Hw) (b : LB) (h : Int) : Hw :=
if ((Df h 1) || (Hp h 1000)) then
some (([] : LI), 2)
else
if (Df (Ac b) (Ae (Bj 4 h) 4)) then
some (([] : LI), 24)
else
(Ai1 b (Bj 4 h) 4).bind fun (n, v) =>
(Ca b 0 (Bj 4 h)).bind fun o =>
(Ae8 o).bind fun (p, w) =>
if (Ct (Ad p : UInt64) n) then
some (([] : LI), 22)
else
(mkI h (0 : Int)).bind fun f =>
(Re (geq h h)).bind fun _ =>
j4 b f 0 f
def Ajm : LB → Int → Hw := Ah9 Ahj
abbrev Wm := Option (Int × Int × Int × Int × Int × Int × LI × Int)
def Ame (a : LB) (b f g h k n : Int) : Wm :=
(Wk b f g h k).bind fun (ab, p) =>
if (Ct p 0) then
some (0, 0, 0, 0, 0, 0, ([] : LI), p)
else
(Ca a n (Ac a)).bind fun ac =>
(Ajm ac (Ac ab)).bind fun (u, v) =>
if (Ct v 0) then
some (0, 0, 0, 0, 0, 0, ([] : LI), v)
else
some (b, f, g, h, k, (Ae (Ae n (Bj 4 (Ac u))) 4), u, 0)
def Uk : LB → Int → Int → Int → Int → Int → Int → Wm := Ame
def Tn (j2 : LB → Int → Int → Int → Int → Int → Int → Wm) (a o : LB) : Wm :=
if (Hp (Ac o) 64) then
some (0, 0, 0, 0, 0, 0, ([] : LI), 2)
else
if (Hp (Ac a) 100000) then
some (0, 0, 0, 0, 0, 0, ([] : LI), 4)
else
(Xy a).bind fun (m, w) =>
if (Ct w 0) then
some (0, 0, 0, 0, 0, 0, ([] : LI), w)
else
(Ca a m (Ac a)).bind fun ad =>
(Agz ad).bind fun (b, f, g, h, k, y) =>
if (Ct y 0) then
some (0, 0, 0, 0, 0, 0, ([] : LI), y)
else
if ((o == ([] : LB)) != (geq b 1)) then
some (0, 0, 0, 0, 0, 0, ([] : LI), 26)
else
if (o != ([] : LB)) then
if (Df (Ac a) (Ae (Ae m 22) 8)) then
some (0, 0, 0, 0, 0, 0, ([] : LI), 24)
else
(Ca a (Ae m 22) (Ae (Ae m 22) 8)).bind fun ae =>
(Akn ae o).bind fun (af, aa) =>
if (Ct aa 0) then
some (0, 0, 0, 0, 0, 0, ([] : LI), aa)
else
if (!af) then
some (0, 0, 0, 0, 0, 0, ([] : LI), 26)
else
j2 a b f g h k (Ae (Ae m 22) 8)
else
j2 a b f g h k (Ae m 22)
def seekto_Open : LB → LB → Wm := Tn Uk
abbrev Cl := Option (LI × Int)
def Apy (f : LI) : Cl :=
some (f, 0)
def Ag8 : LI → Cl := Apy
def Aii (bk6 : Int → Int → LI → Cl) (a : LI) (b g h : Int) (k : LI) : Cl :=
bk6 (Ae b 1) (Ae g h) k
def Abd (bk6 : Int → Int → LI → Cl) : LI → Int → Int → Int → LI → Cl := Aii bk6
def Vh (j8 : Int → Int → Int → LI → Cl) (j10 : LI → Cl) (a : LI) (b g : Int) (f : LI) : Cl :=
if (Df b (Ac a)) then
(getI a b).bind fun h =>
(Hz f ([(Ae g h)] : LI)).bind fun k =>
j8 b g h k
else
j10 f
def Jr (a : LI) : Nat → Int → Int → LI → Cl
| 0, _, _, _ => none
| q + 1, b, g, f => Vh (Abd (Jr a q) a) Ag8 a b g f
def Air (a : LI) : Int → Int → LI → Cl := Jr a Ba
def Abn (j6 : LI → Int → Int → LI → Cl) (a : LI) : Cl :=
(Aco a).bind fun m =>
if (Ct m 0) then
some (([] : LI), m)
else
j6 a 0 0 ([(0 : Int)] : LI)
def Acb : LI → Cl := Abn Air
def Bei (a : LX) : Option (LX) :=
some a
def Avn : LX → Option (LX) := Bei
def Ajo (j6 : LX → Option (LX)) (bk4 : Int → LX → Option (LX)) (f : UInt64) (b : Int) (a : LX) : Option (LX) :=
if (Df b 8) then
(Re (Pr (Bj 8 b) 0)).bind fun _ =>
(getI a b).bind fun _ =>
(Pd a b (Ad (Ad (Cn f (GI.toZ (Bj 8 b)).toNat) : Int8) : Int32)).bind fun g =>
bk4 (Ae b 1) g
else
j6 a
def Abg (f : UInt64) : Nat → Int → LX → Option (LX)
| 0, _, _ => none
| q + 1, b, a => Ajo Avn (Abg f q) f b a
def Ava (f : UInt64) : Int → LX → Option (LX) := Abg f Ba
def Avg (j4 : UInt64 → Int → LX → Option (LX)) (f : UInt64) : Option (LX) :=
j4 f 0 (List.replicate 16 (0 : Int32))
def Ayy : UInt64 → Option (LX) := Avg Ava
def Ani (a : LB) : Option (LX × Int) :=
if (Hp (Ac a) 64) then
some (([(0 : Int32), (0 : Int32), (0 : Int32), (0 : Int32), (0 : Int32), (0 : Int32), (0 : Int32), (0 : Int32), (0 : Int32), (0 : Int32), (0 : Int32), (0 : Int32), (0 : Int32), (0 : Int32), (0 : Int32), (0 : Int32)] : LX), 2)
else
(Aim a).bind fun (f, b) =>
if (Ct b 0) then
some (([(0 : Int32), (0 : Int32), (0 : Int32), (0 : Int32), (0 : Int32), (0 : Int32), (0 : Int32), (0 : Int32), (0 : Int32), (0 : Int32), (0 : Int32), (0 : Int32), (0 : Int32), (0 : Int32), (0 : Int32), (0 : Int32)] : LX), b)
else
(Ayy f).bind fun g =>
some (g, 0)
abbrev Afd := Option (Int × Int)
def Ass (a : LB) : Afd :=
(Ca a (Ak (Ac a) 32) (Ac a)).bind fun g =>
(Ae7 g 0).bind fun (f, y, h) =>
if h then
if (Df (Ak (Ac a) 32) f) then
some (0, 24)
else
some ((Ae f 32), 0)
else
(Ca a (Ak (Ac a) 32) (Ac a)).bind fun k =>
(Ae7 k 2147483648).bind fun (b, m, n) =>
if (!n) then
some (0, 12)
else
if (Df (Ac a) (Ae b 64)) then
some (0, 24)
else
(Ca a (Ak (Ac a) (Ae b 64)) (Ae (Ak (Ac a) (Ae b 64)) 32)).bind fun o =>
(Ana b m 2684354560).bind fun p =>
(Gw o p).bind fun u =>
if (!u) then
some (0, 12)
else
some ((Ae b 64), 0)
def Amu : LB → Afd := Ass
def Amq (j2 : LB → Afd) (a : LB) : Afd :=
if (Df (Ak (Ac a) 32) 0) then
some (0, 6)
else
(Ca a (Ak (Ac a) 32) (Ac a)).bind fun v =>
(Iu v ([(65 : UInt8), (80 : UInt8), (69 : UInt8), (84 : UInt8), (65 : UInt8), (71 : UInt8), (69 : UInt8), (88 : UInt8)] : LB)).bind fun w =>
if (!w) then
some (0, 6)
else
j2 a
def Ap5 : LB → Afd := Amq Amu
abbrev Bl := Option (Int × Int)
def Aq0 (a : Int) : Bl :=
some (a, 0)
def Aie : Int → Bl := Aq0
def Ain (bk8 : Int → LB → Bl) (a : Int) (g : LB) : Bl :=
bk8 (Ae a 1) g
def Abu (bk8 : Int → LB → Bl) : Int → LB → Bl := Ain bk8
def Abf (j12 : Int → LB → Bl) (a f : Int) (b : LB) : Bl :=
if (geq f 0) then
some (0, 38)
else
(Ca b 0 (Ak (Ac b) f)).bind fun g =>
j12 a g
def Abv (bk8 : Int → LB → Bl) : Int → Int → LB → Bl := Abf (Abu bk8)
def Adv (j11 : Int → Int → LB → Bl) (j14 : Int → Bl) (a : Int) (b : LB) : Bl :=
if (Hp (Ac b) 0) then
(Ap5 b).bind fun (f, k) =>
j11 a f b
else
j14 a
def Qy : Nat → Int → LB → Bl
| 0, _, _ => none
| q + 1, a, b => Adv (Abv (Qy q)) Aie a b
def Akv : Int → LB → Bl := Qy Ba
def Ad8 (j8 : Int → LB → Bl) (h : LB) : Bl :=
if (Hp (Ac h) 4000) then
some (0, 38)
else
j8 0 h
def Yw : LB → Bl := Ad8 Akv
abbrev Wo := Option (Int32 × Int32 × Int)
def Ats (a : Int) (b : Bool) : Wo :=
if b then
(Re (Pr (Ak a 1) 0)).bind fun _ =>
some ((Aqk (Fa (1 : Int32) (GI.toZ (Ak a 1)).toNat)), (Ak (Fa (1 : Int32) (GI.toZ (Ak a 1)).toNat) 1), 0)
else
some (0, 0, 2)
def Als : Int → Bool → Wo := Ats
def Ama (j2 : Int → Bool → Wo) (a : Int) : Wo :=
if (geq a 8) then
j2 a (geq a 8)
else
if (geq a 16) then
j2 a (geq a 16)
else
j2 a (geq a 24)
def Adf : Int → Wo := Ama Als
def Ab7 (a b : Int) : Option Int :=
(Adf b).bind fun (g, h, f) =>
if (((Ct f 0) || (Df a 1)) || (Hp a 6)) then
some 2
else
some 0
def Zh (a : LB) : Option (LB × Int) :=
if (Df (Ac a) 5) then
some (([] : LB), 24)
else
if (Hp (Ac a) 41254) then
some (([] : LB), 4)
else
(Ca a 0 (Ak (Ac a) 4)).bind fun f =>
(Ae8 f).bind fun (g, b) =>
if (Ct b 0) then
some (([] : LB), b)
else
(Ca a (Ak (Ac a) 4) (Ac a)).bind fun h =>
(Amp h).bind fun (k, m) =>
if ((Ct m 0) || (Ct k (Ad g : UInt64))) then
some (([] : LB), 22)
else
(Ca a 0 (Ak (Ac a) 4)).bind fun n =>
some (n, 0)
def Gk (a : LB) : Option (LB) :=
(
(Hz ([] : LB) a).bind fun b =>
some b)
def Ay9 (a : LB) : Option (LB × Int × Int) :=
if (Hp (Ac a) 41250) then
some (([] : LB), 0, 4)
else
(Gk a).bind fun b =>
some (b, (Bj 8 (Ac a)), 0)
def Awq : Option (Int × Int × UInt64 × UInt64) :=
some (10, 10, 16384, 16384)
def Pn (b : LB) (a : Int) : Option Int :=
if (((Df a 0) || (Hp a 330000)) || (Ct (Ac b) (Azr (Ae a 7) (GI.toZ (3 : UInt64)).toNat))) then
some 8
else
if (Hp (Hm a 7) 0) then
(getI b (Ak (Ac b) 1)).bind fun f =>
(Re (Pr (Hm a 7) 0)).bind fun _ =>
if (Ct (Cn f (GI.toZ (Hm a 7)).toNat) 0) then
some 8
else
some 0
else
some 0
def Bb2 (g : UInt64) : Option UInt64 :=
some g
def Ar7 : UInt64 → Option UInt64 := Bb2
def Al4 (j6 : UInt64 → Option UInt64) (bk4 : UInt64 → Int → Option UInt64) (b f : Int) (h : LB) (k : Int) (g : UInt64) (a : Int) : Option UInt64 :=
if (Df a f) then
(getI h (Azr (Ae b a) (GI.toZ (3 : UInt64)).toNat)).bind fun m =>
(Re (Pr (Hm (Ae b a) 7) 0)).bind fun _ =>
(Re (Pr (Gd (Ak f a) (Ak 8 (Hm (Ae b a) 7))) 0)).bind fun _ =>
(Re (Pr a 0)).bind fun _ =>
bk4 (gor g (Fa (Ad (Hm (Cn m (GI.toZ (Hm (Ae b a) 7)).toNat) (Ak (Fa (1 : UInt8) (GI.toZ (Gd (Ak f a) (Ak 8 (Hm (Ae b a) 7)))).toNat) 1)) : UInt64) (GI.toZ a).toNat)) (Ae a (Gd (Ak f a) (Ak 8 (Hm (Ae b a) 7))))
else
j6 g
def Ada (b f : Int) (h : LB) (k : Int) : Nat → UInt64 → Int → Option UInt64
| 0, _, _ => none
| q + 1, g, a => Al4 Ar7 (Ada b f h k q) b f h k g a
def Arx (b f : Int) (h : LB) (k : Int) : UInt64 → Int → Option UInt64 := Ada b f h k Ba
def Art (j4 : Int → Int → LB → Int → UInt64 → Int → Option UInt64) (h : LB) (k b f : Int) : Option UInt64 :=
j4 b f h k 0 0
def Apn : LB → Int → Int → Int → Option UInt64 := Art Arx
abbrev Bf := Option (LB × Int × Int)
def Ap0 (o : Int) (p : LB) : Bf :=
some (p, o, 0)
def Aj1 : Int → LB → Bf := Ap0
def Aqi (bk27 : Int → Int → LB → Bf) (a : Int) (g : LB) (f b h : Int) (u : LB) : Bf :=
bk27 (Ae b 64) h u
def Aep (bk27 : Int → Int → LB → Bf) : Int → LB → Int → Int → Int → LB → Bf := Aqi bk27
def Aph (bk44 : UInt64 → Int → Int → LB → Bf) (a b : Int) (g : LB) (f : Int) (k n : UInt64) (m h : Int) (w : LB) : Bf :=
(Re (Pr (Gd m (Ak 8 (Hm h 7))) 0)).bind fun _ =>
bk44 (Cn n (GI.toZ (Gd m (Ak 8 (Hm h 7)))).toNat) (Ak m (Gd m (Ak 8 (Hm h 7)))) (Ae h (Gd m (Ak 8 (Hm h 7)))) w
def Akq (bk44 : UInt64 → Int → Int → LB → Bf) : Int → Int → LB → Int → UInt64 → UInt64 → Int → Int → LB → Bf := Aph bk44
def Aj7 (j48 : UInt64 → Int → Int → LB → Bf) (a b : Int) (g : LB) (f : Int) (k n : UInt64) (m h : Int) (v : LB) : Bf :=
(getI v (Ak (Ac v) 1)).bind fun _ =>
(Re (Pr (Gd m (Ak 8 (Hm h 7))) 0)).bind fun _ =>
(Re (Pr (Hm h 7) 0)).bind fun _ =>
(getI v (Ak (Ac v) 1)).bind fun aa =>
(getI v (Ak (Ac v) 1)).bind fun _ =>
Option.bind (Pd v (Ak (Ac v) 1) (gor aa (Fa (Ad (Hm n (Ak (Fa (1 : UInt64) (GI.toZ (Gd m (Ak 8 (Hm h 7)))).toNat) 1)) : UInt8) (GI.toZ (Hm h 7)).toNat))) fun w =>
j48 n m h w
def Aev (bk44 : UInt64 → Int → Int → LB → Bf) (a b : Int) (g : LB) (f : Int) (k : UInt64) : UInt64 → Int → Int → LB → Bf := Aj7 (Akq bk44 a b g f k) a b g f k
def Aey (j47 : UInt64 → Int → Int → LB → Bf) (j50 : Int → Int → LB → Bf) (a : Int) (g : LB) (f b : Int) (k n : UInt64) (m h : Int) (u : LB) : Bf :=
if (Hp m 0) then
if (geq (Hm h 7) 0) then
(Hz u ([(0 : UInt8)] : LB)).bind fun ab =>
j47 n m h ab
else
j47 n m h u
else
j50 b h u
def Mo (bk27 : Int → Int → LB → Bf) (a : Int) (g : LB) (f b : Int) (k : UInt64) : Nat → UInt64 → Int → Int → LB → Bf
| 0, _, _, _, _ => none
| q + 1, n, m, h, u => Aey (Aev (Mo bk27 a g f b k q) a b g f k) (Aep bk27 a g f) a g f b k n m h u
def Akb (bk27 : Int → Int → LB → Bf) (a : Int) (g : LB) (f b : Int) (k : UInt64) : UInt64 → Int → Int → LB → Bf := Mo bk27 a g f b k Ba
def Aje (j44 : Int → UInt64 → UInt64 → Int → Int → LB → Bf) (j52 : Int → LB → Bf) (a : Int) (g : LB) (f b o : Int) (p : LB) : Bf :=
if (Df b a) then
(Apn g f b (Gd 64 (Ak a b))).bind fun k =>
j44 b k k (Gd 64 (Ak a b)) o p
else
j52 o p
def Vj (a : Int) (g : LB) (f : Int) : Nat → Int → Int → LB → Bf
| 0, _, _, _ => none
| q + 1, b, o, p => Aje (Akb (Vj a g f q) a g f) Aj1 a g f b o p
def Aj5 (a : Int) (g : LB) (f : Int) : Int → Int → LB → Bf := Vj a g f Ba
def Alq (j27 : Int → LB → Int → Int → Int → LB → Bf) (g : LB) (f y a : Int) : Bf :=
(Pn g f).bind fun ac =>
if (Ct ac 0) then
some (([] : LB), 0, 8)
else
if (((Df y 0) || (Hp y a)) || (Hp a f)) then
some (([] : LB), 0, 2)
else
j27 a g f y 0 ([] : LB)
def Al7 : LB → Int → Int → Int → Bf := Alq Aj5
def Aoa (a b : Int) (f g : UInt64) : Option Int :=
if (!((geq (Gd (Ans a 0) 24) a) && ((geq (Gd (Ans b 0) 24) b) && ((geq (Gd f 68719476735) f) && ((geq (Gd g 68719476735) g) && true))))) then
some 8
else
some 0
def Ahg : Int → Int → UInt64 → UInt64 → Option Int := Aoa
def Ab4 (j4 : Int → Int → UInt64 → UInt64 → Option Int) (a b : Int) (f g : UInt64) : Option Int :=
(
(
j4 a b f g))
def Ahx : Int → Int → UInt64 → UInt64 → Option Int := Ab4 Ahg
def Ace (j3 : Int → Int → UInt64 → UInt64 → Option Int) (a b : Int) (f g : UInt64) : Option Int :=
(
(
j3 a b f g))
def Ajj : Int → Int → UInt64 → UInt64 → Option Int := Ace Ahx
def Yu (g : LB) (b f a : Int) : Option (UInt64 × Int) :=
(Pn g b).bind fun h =>
if (Ct h 0) then
some (0, 8)
else
if (((Df a 0) || (Hp a 64)) || (Df f 0)) then
some (0, 2)
else
if (Hp f (Ak b a)) then
some (0, 24)
else
(Apn g b f a).bind fun k =>
some (k, 0)
def Ex (a : UInt64) : Option Int :=
if (geq a 0) then
some 64
else
(getI ([(0 : UInt8), (1 : UInt8), (56 : UInt8), (2 : UInt8), (57 : UInt8), (49 : UInt8), (28 : UInt8), (3 : UInt8), (61 : UInt8), (58 : UInt8), (42 : UInt8), (50 : UInt8), (38 : UInt8), (29 : UInt8), (17 : UInt8), (4 : UInt8), (62 : UInt8), (47 : UInt8), (59 : UInt8), (36 : UInt8), (45 : UInt8), (43 : UInt8), (51 : UInt8), (22 : UInt8), (53 : UInt8), (39 : UInt8), (33 : UInt8), (30 : UInt8), (24 : UInt8), (18 : UInt8), (12 : UInt8), (5 : UInt8), (63 : UInt8), (55 : UInt8), (48 : UInt8), (27 : UInt8), (60 : UInt8), (41 : UInt8), (37 : UInt8), (16 : UInt8), (46 : UInt8), (35 : UInt8), (44 : UInt8), (21 : UInt8), (52 : UInt8), (32 : UInt8), (23 : UInt8), (11 : UInt8), (54 : UInt8), (26 : UInt8), (40 : UInt8), (15 : UInt8), (34 : UInt8), (20 : UInt8), (31 : UInt8), (10 : UInt8), (25 : UInt8), (14 : UInt8), (19 : UInt8), (9 : UInt8), (13 : UInt8), (8 : UInt8), (7 : UInt8), (6 : UInt8)] : LB) (GI.toZ (Cn (Bj (Hm a (Aqk a)) 285870213051353865) (GI.toZ (58 : UInt64)).toNat))).bind fun b =>
some (Ad b : Int)
abbrev Cy := Option (Int × Int × Int)
def Atn : Cy :=
some (0, 0, 24)
def Amo : Cy := Atn
def An6 (j10 : Cy) : Cy :=
j10
def An8 : Cy := An6 Amo
def Ah8 (j9 : Cy) (f a : Int) : Cy :=
if (geq f 48) then
some (f, (Ae 0 (Ae a f)), 0)
else
j9
def Ahr : Int → Int → Cy := Ah8 An8
def Ah5 (j8 : Int → Int → Cy) (f b a : Int) : Cy :=
if (Df f (Gd 48 (Ak b a))) then
some (f, (Ae (Ae (0 : Int) (1 : Int)) (Ae a f)), 0)
else
j8 f a
def Aht : Int → Int → Int → Cy := Ah5 Ahr
def Ahq (j7 : Int → Int → Int → Cy) (h : Int) (k : UInt64) (a : Int) (g : LB) (b : Int) : Cy :=
if (Ct h 0) then
some (0, 0, h)
else
(Ex (Atr k)).bind fun f =>
j7 f b a
def Ahm : Int → UInt64 → Int → LB → Int → Cy := Ahq Aht
def Wf (j6 : Int → UInt64 → Int → LB → Int → Cy) (g : LB) (b a : Int) : Cy :=
(Pn g b).bind fun m =>
if (Ct m 0) then
some (0, 0, m)
else
if (Df a 0) then
some (0, 0, 2)
else
if (Pr a b) then
some (0, 0, 24)
else
(
(
(Yu g b a (Gd 48 (Ak b a))).bind fun (k, h) =>
j6 h k a g b))
def Abi : LB → Int → Int → Cy := Wf Ahm
def Akr (b : UInt32) (a : Int) : Option Bool :=
(Re (Pr a 0)).bind fun _ =>
some (Pr (Cn b (GI.toZ a).toNat) 48)
abbrev Acx := Option (UInt32 × Int × Int)
def Ajv (a b f : Int) (g : LB) (h k : Int) : Acx :=
(Yu g h b k).bind fun (m, n) =>
if (Ct n 0) then
some (0, 0, n)
else
if (Df f 48) then
(Re (Pr a 0)).bind fun _ =>
some ((gor (Fa (Ad f : UInt32) (GI.toZ a).toNat) (Ad m : UInt32)), (Ae b k), 0)
else
(Akr (Ad m : UInt32) a).bind fun u =>
if (!u) then
some (0, 0, 12)
else
some ((Ad m : UInt32), (Ae b k), 0)
def Ae1 : Int → Int → Int → LB → Int → Int → Acx := Ajv
def Ajr (j2 : Int → Int → Int → LB → Int → Int → Acx) (g : LB) (h v a : Int) : Acx :=
(Pn g h).bind fun o =>
if (Ct o 0) then
some (0, 0, o)
else
if ((Df a 0) || (Hp a 24)) then
some (0, 0, 2)
else
(Abi g h v).bind fun (f, b, p) =>
if (Ct p 0) then
some (0, 0, p)
else
if (geq f 48) then
j2 a b f g h 32
else
j2 a b f g h a
def Am9 : LB → Int → Int → Int → Acx := Ajr Ae1
def Akp (a f : Int) (g h : UInt64) (b : UInt32) : Option (Int × UInt32) :=
(Re (Pr a 0)).bind fun _ =>
if (geq (Cn b (GI.toZ a).toNat) 0) then
some (0, b)
else
(Re (Pr a 0)).bind fun _ =>
some (1, (Ak b (Fa (1 : UInt32) (GI.toZ a).toNat)))
abbrev Dn := Option (UInt32 × Int × Int × Int × UInt64 × UInt64 × Int)
def Aob (f : UInt32) (k w m : Int) (a n : UInt64) : Dn :=
some (f, k, w, m, (Ae a (Ak (Ad f : UInt64) (Cn a (GI.toZ (4 : UInt64)).toNat))), n, 0)
def Ah2 : UInt32 → Int → Int → Int → UInt64 → UInt64 → Dn := Aob
def Ajl (j10 : UInt32 → Int → Int → Int → UInt64 → UInt64 → Dn) (f : UInt32) (k m : Int) (a n : UInt64) (w : Int) : Dn :=
j10 f k w m a n
def Akt : UInt32 → Int → Int → UInt64 → UInt64 → Int → Dn := Ajl Ah2
def Aji (j9 : UInt32 → Int → Int → UInt64 → UInt64 → Int → Dn) (f : UInt32) (k b : Int) (a : UInt64) (m : Int) (n : UInt64) : Dn :=
if (Hp b 0) then
(Re (Pr b 0)).bind fun _ =>
if (Df (Ae a (Ak (Ad f : UInt64) (Cn a (GI.toZ (4 : UInt64)).toNat))) (Fa (16 : UInt64) (GI.toZ b).toNat)) then
j9 f k m a n (Ak b 1)
else
if (Df b 24) then
(Re (Pr b 0)).bind fun _ =>
if (Hp (Ae a (Ak (Ad f : UInt64) (Cn a (GI.toZ (4 : UInt64)).toNat))) (Fa (32 : UInt64) (GI.toZ b).toNat)) then
j9 f k m a n (Ae b 1)
else
j9 f k m a n b
else
j9 f k m a n b
else
if (Df b 24) then
(Re (Pr b 0)).bind fun _ =>
if (Hp (Ae a (Ak (Ad f : UInt64) (Cn a (GI.toZ (4 : UInt64)).toNat))) (Fa (32 : UInt64) (GI.toZ b).toNat)) then
j9 f k m a n (Ae b 1)
else
j9 f k m a n b
else
j9 f k m a n b
def Aab : UInt32 → Int → Int → UInt64 → Int → UInt64 → Dn := Aji Akt
def Akl (j8 : UInt32 → Int → Int → UInt64 → Int → UInt64 → Dn) (b h : Int) (a g : UInt64) (f : UInt32) (k : Int) : Dn :=
(Akp b h a g f).bind fun (ad, o) =>
if (geq ad 1) then
if (Hp h 0) then
(Re (Pr h 0)).bind fun _ =>
if (Df (Ae g (Ak (Ad o : UInt64) (Cn g (GI.toZ (4 : UInt64)).toNat))) (Fa (16 : UInt64) (GI.toZ h).toNat)) then
j8 f k b a (Ak h 1) (Ae g (Ak (Ad o : UInt64) (Cn g (GI.toZ (4 : UInt64)).toNat)))
else
if (Df h 24) then
(Re (Pr h 0)).bind fun _ =>
if (Hp (Ae g (Ak (Ad o : UInt64) (Cn g (GI.toZ (4 : UInt64)).toNat))) (Fa (32 : UInt64) (GI.toZ h).toNat)) then
j8 f k b a (Ae h 1) (Ae g (Ak (Ad o : UInt64) (Cn g (GI.toZ (4 : UInt64)).toNat)))
else
j8 f k b a h (Ae g (Ak (Ad o : UInt64) (Cn g (GI.toZ (4 : UInt64)).toNat)))
else
j8 f k b a h (Ae g (Ak (Ad o : UInt64) (Cn g (GI.toZ (4 : UInt64)).toNat)))
else
if (Df h 24) then
(Re (Pr h 0)).bind fun _ =>
if (Hp (Ae g (Ak (Ad o : UInt64) (Cn g (GI.toZ (4 : UInt64)).toNat))) (Fa (32 : UInt64) (GI.toZ h).toNat)) then
j8 f k b a (Ae h 1) (Ae g (Ak (Ad o : UInt64) (Cn g (GI.toZ (4 : UInt64)).toNat)))
else
j8 f k b a h (Ae g (Ak (Ad o : UInt64) (Cn g (GI.toZ (4 : UInt64)).toNat)))
else
j8 f k b a h (Ae g (Ak (Ad o : UInt64) (Cn g (GI.toZ (4 : UInt64)).toNat)))
else
j8 f k b a h g
def Aew : Int → Int → UInt64 → UInt64 → UInt32 → Int → Dn := Akl Aab
def Ajx (j7 : Int → Int → UInt64 → UInt64 → UInt32 → Int → Dn) (p : Int) (u : LB) (v b h : Int) (a g : UInt64) : Dn :=
(Yu u v p 1).bind fun (ae, aa) =>
if (Ct aa 0) then
some (0, 0, 0, 0, 0, 0, aa)
else
if (geq ae 0) then
(Yu u v (Ae p 1) b).bind fun (af, ab) =>
if (Ct ab 0) then
some (0, 0, 0, 0, 0, 0, ab)
else
j7 b h a g (Ad af : UInt32) (Ae (Ae p 1) b)
else
(Am9 u v (Ae p 1) h).bind fun (y, ag, ac) =>
if (Ct ac 0) then
some (0, 0, 0, 0, 0, 0, ac)
else
(Re (Pr b 0)).bind fun _ =>
if (Df (Ae y (Fa (1 : UInt32) (GI.toZ b).toNat)) y) then
some (0, 0, 0, 0, 0, 0, 12)
else
j7 b h a g (Ae y (Fa (1 : UInt32) (GI.toZ b).toNat)) ag
def Aka : Int → LB → Int → Int → Int → UInt64 → UInt64 → Dn := Ajx Aew
def Akc (j6 : Int → LB → Int → Int → Int → UInt64 → UInt64 → Dn) (u : LB) (v p b h : Int) (a g : UInt64) : Dn :=
(Pn u v).bind fun ah =>
if (Ct ah 0) then
some (0, 0, 0, 0, 0, 0, 8)
else
(Ajj b h a g).bind fun ai =>
if (Ct ai 0) then
some (0, 0, 0, 0, 0, 0, 8)
else
j6 p u v b h a g
def Ve : LB → Int → Int → Int → Int → UInt64 → UInt64 → Dn := Akc Aka
abbrev Aq := Option (LU × Int × Int)
def Apa (k : Int) (m : LU) : Aq :=
some (m, k, 0)
def Af1 : Int → LU → Aq := Apa
def Agd (bk16 : Int → Int → (List (Int × Int × UInt64 × UInt64 × Unit)) → LU → Aq) (a f : Int) (g : LB) (b k u : Int) (v : UInt32) (h : Int) (ah : List (Int × Int × UInt64 × UInt64 × Unit)) (m : LU) : Aq :=
(Hz m ([v] : LU)).bind fun ai =>
bk16 (Ae k u) (Ae h 1) ah ai
def Xs (bk16 : Int → Int → (List (Int × Int × UInt64 × UInt64 × Unit)) → LU → Aq) : Int → Int → LB → Int → Int → Int → UInt32 → Int → (List (Int × Int × UInt64 × UInt64 × Unit)) → LU → Aq := Agd bk16
def Px (j22 : Int → Int → UInt32 → Int → (List (Int × Int × UInt64 × UInt64 × Unit)) → LU → Aq) (a f : Int) (g : LB) (b k h y : Int) (v : UInt32) (u : Int) (n : List (Int × Int × UInt64 × UInt64 × Unit)) (m : LU) (aa ab : Int) (ac ad : UInt64) : Aq :=
if (Ct y 0) then
some (([] : LU), 0, y)
else
(Re (Ct a 0)).bind fun _ =>
(getI n (It h a)).bind fun _ =>
(Pd n (It h a) (aa, ab, ac, ad, ())).bind fun ah =>
j22 k u v h ah m
def Qd (bk16 : Int → Int → (List (Int × Int × UInt64 × UInt64 × Unit)) → LU → Aq) (a f : Int) (g : LB) (b : Int) : Int → Int → Int → UInt32 → Int → (List (Int × Int × UInt64 × UInt64 × Unit)) → LU → Int → Int → UInt64 → UInt64 → Aq := Px (Xs bk16 a f g b) a f g b
def Qa (j21 : Int → Int → Int → UInt32 → Int → (List (Int × Int × UInt64 × UInt64 × Unit)) → LU → Int → Int → UInt64 → UInt64 → Aq) (j24 : Int → LU → Aq) (a f : Int) (g : LB) (b k h : Int) (n : List (Int × Int × UInt64 × UInt64 × Unit)) (m : LU) : Aq :=
if (Df h (Bj f a)) then
(Al7 g b k (Gd (Ae k 81) b)).bind fun (af, ae, ag) =>
if (Ct ag 0) then
some (([] : LU), 0, ag)
else
(Re (Ct a 0)).bind fun _ =>
(getI n (It h a)).bind fun _ =>
(
(
(getI n (It h a)).bind fun o =>
(
(Ve af ae 0 o.1 o.2.1 o.2.2.1 o.2.2.2.1).bind fun (v, u, aa, ab, ac, ad, y) =>
j21 k h y v u n m aa ab ac ad)))
else
j24 k m
def Ki (a f : Int) (g : LB) (b : Int) : Nat → Int → Int → (List (Int × Int × UInt64 × UInt64 × Unit)) → LU → Aq
| 0, _, _, _, _ => none
| q + 1, k, h, n, m => Qa (Qd (Ki a f g b q) a f g b) Af1 a f g b k h n m
def Agk (a f : Int) (g : LB) (b : Int) : Int → Int → (List (Int × Int × UInt64 × UInt64 × Unit)) → LU → Aq := Ki a f g b Ba
def Afe (j16 : Int → Int → LB → Int → Int → Int → (List (Int × Int × UInt64 × UInt64 × Unit)) → LU → Aq) (a f : Int) (g : LB) (b : Int) (p : List (Int × Int × UInt64 × UInt64 × Unit)) : Aq :=
j16 a f g b 0 0 p ([] : LU)
def Xb : Int → Int → LB → Int → (List (Int × Int × UInt64 × UInt64 × Unit)) → Aq := Afe Agk
def Age (j15 : Int → Int → LB → Int → (List (Int × Int × UInt64 × UInt64 × Unit)) → Aq) (bk13 : Int → (List (Int × Int × UInt64 × UInt64 × Unit)) → Aq) (a f : Int) (g : LB) (b w : Int) (p : List (Int × Int × UInt64 × UInt64 × Unit)) : Aq :=
if (Df w 6) then
(Awq).bind fun (aj, ae, ag, ak) =>
(getI p w).bind fun _ =>
(Pd p w (aj, ae, ag, ak, ())).bind fun al =>
bk13 (Ae w 1) al
else
j15 a f g b p
def Xn (a f : Int) (g : LB) (b : Int) : Nat → Int → (List (Int × Int × UInt64 × UInt64 × Unit)) → Aq
| 0, _, _ => none
| q + 1, w, p => Age Xb (Xn a f g b q) a f g b w p
def Pk (a f : Int) (g : LB) (b : Int) : Int → (List (Int × Int × UInt64 × UInt64 × Unit)) → Aq := Xn a f g b Ba
def Zj (j13 : Int → Int → LB → Int → Int → (List (Int × Int × UInt64 × UInt64 × Unit)) → Aq) (a f : Int) (g : LB) (b : Int) : Aq :=
j13 a f g b 0 (List.replicate 6 ((0 : Int), (0 : Int), (0 : UInt64), (0 : UInt64), ()))
def Zt : Int → Int → LB → Int → Aq := Zj Pk
abbrev Afq := Option (Int × LX × LX × Int)
def Bbq (a : Int) (b : LX) (f : Bool) : Afq :=
if f then
some (10, b, (List.replicate 16 (0 : Int32)), 0)
else
if (geq a 16) then
some (9, b, (List.replicate 16 (0 : Int32)), 0)
else
some (0, (List.replicate 16 (0 : Int32)), (List.replicate 16 (0 : Int32)), 2)
def Ar0 : Int → LX → Bool → Afq := Bbq
def Ar3 (j2 : Int → LX → Bool → Afq) (a : Int) (b : LX) : Afq :=
if (geq a 8) then
j2 a b (geq a 8)
else
j2 a b (geq a 24)
def Ap4 : Int → LX → Afq := Ar3 Ar0
def Ax2 (a : Int) (f : LX) : Option (Int × Int32 × Int × LX × LX × Int) :=
(Ap4 a f).bind fun (g, h, k, b) =>
if (Ct b 0) then
some (0, 0, 0, (List.replicate 16 (0 : Int32)), (List.replicate 16 (0 : Int32)), b)
else
some (a, 0, g, h, k, 0)
def Va (a : UInt32) : Option Int32 :=
some (Wh (Ad (Cn a (GI.toZ (1 : UInt64)).toNat) : Int32) (Aqk (Ad (Hm a 1) : Int32)))
def Acz (a : Int) (k : Int32) (b : Int) (f m : LX) : Option Int :=
(Ap4 a f).bind fun (g, n, o, h) =>
if ((Ct h 0) || (Ct g b)) then
some 8
else
some 0
def All (a : Int) : Option (Int × Int) :=
if (geq a 8) then
some (4, 0)
else
if (geq a 16) then
if (geq a 16) then
some (5, 0)
else
some (0, 2)
else
if (geq a 24) then
some (5, 0)
else
some (0, 2)
def Ahb (a : Int) (b : Int32) : Option Int32 :=
(Re (Pr a 0)).bind fun _ =>
(Re (Pr a 0)).bind fun _ =>
some (Ad (Azr (Ak (Fa (Ad b : Int) (GI.toZ a).toNat) (Ad b : Int)) (GI.toZ a).toNat) : Int32)
def Acr (b : Int) (f : Int32) : Option (Int32 × Int) :=
(All b).bind fun (g, a) =>
if (Ct a 0) then
some (0, a)
else
(Ahb g f).bind fun h =>
some (h, 0)
def Abj (a : Int) (b f : LX) : Option Int :=
if ((Ct a 9) && (Ct a 10)) then
some 8
else
some 0
abbrev Hu := Option (Int32 × Int)
def Aoe (g : Int32) (a : Int) (b f : LX) : Hu :=
(Re (Pr a 0)).bind fun _ =>
some ((Cn g (GI.toZ a).toNat), 0)
def Ahi : Int32 → Int → LX → LX → Hu := Aoe
def Acf (j6 : Int32 → Int → LX → LX → Hu) (bk4 : Int32 → Int → Hu) (b : LX) (a : Int) (f : LX) (g : Int32) (h : Int) : Hu :=
if (Df h 16) then
(getI b h).bind fun m =>
(getI f h).bind fun _ =>
(getI f h).bind fun n =>
bk4 (Ae g (Bj m n)) (Ae h 1)
else
j6 g a b f
def Rc (b : LX) (a : Int) (f : LX) : Nat → Int32 → Int → Hu
| 0, _, _ => none
| q + 1, g, h => Acf Ahi (Rc b a f q) b a f g h
def Ahv (b : LX) (a : Int) (f : LX) : Int32 → Int → Hu := Rc b a f Ba
def Ahs (j4 : LX → Int → LX → Int32 → Int → Hu) (a : Int) (b f : LX) : Hu :=
(Abj a b f).bind fun k =>
if (Ct k 0) then
some (0, k)
else
(Re (Pr (Ak a 1) 0)).bind fun _ =>
j4 b a f (Fa (1 : Int32) (GI.toZ (Ak a 1)).toNat) 0
def Aj3 : Int → LX → LX → Hu := Ahs Ahv
def Ai8 (a : Int) : Option Int32 :=
if (geq a 0) then
some 4
else
if (Df a 4) then
some 2
else
some 1
abbrev Ht := Option (Int × LX × LX × Int)
def Aw4 (g : Int) (b f : LX) : Ht :=
some (g, b, f, 0)
def An5 : Int → LX → LX → Ht := Aw4
def Ab2 (j6 : Int → LX → LX → Ht) (bk4 : Int → LX → Ht) (h : Int32) (f : LX) (g a : Int) (b : LX) : Ht :=
if (Df a 16) then
(getI f a).bind fun m =>
if (geq m 0) then
bk4 (Ae a 1) b
else
if ((Df m 0) == (Df h 0)) then
(getI b a).bind fun _ =>
(getI b a).bind fun o =>
(Ai8 a).bind fun p =>
(getI b a).bind fun _ =>
(Pd b a (Ae o p)).bind fun u =>
bk4 (Ae a 1) u
else
(getI b a).bind fun _ =>
(getI b a).bind fun v =>
(Ai8 a).bind fun w =>
(getI b a).bind fun _ =>
(Pd b a (Ak v w)).bind fun y =>
bk4 (Ae a 1) y
else
j6 g b f
def Rg (h : Int32) (f : LX) (g : Int) : Nat → Int → LX → Ht
| 0, _, _ => none
| q + 1, a, b => Ab2 An5 (Rg h f g q) h f g a b
def An0 (h : Int32) (f : LX) (g : Int) : Int → LX → Ht := Rg h f g Ba
def Ahy (j4 : Int32 → LX → Int → Int → LX → Ht) (g : Int) (k f : LX) (h : Int32) : Ht :=
(Abj g k f).bind fun n =>
if (Ct n 0) then
some (0, (List.replicate 16 (0 : Int32)), (List.replicate 16 (0 : Int32)), n)
else
if (geq h 0) then
some (g, k, f, 0)
else
j4 h f g 0 k
def Aj4 : Int → LX → LX → Int32 → Ht := Ahy An0
abbrev Aci := Option (Int × LX × LX × Int)
def Aqj (g : Int32) (b : Int) (f a : LX) : Aci :=
(getI (Sk a 1 ((16 : Int) - (1 : Int)) (Aix a 0 ((16 : Int) - (0 : Int)))) 0).bind fun _ =>
(Pd (Sk a 1 ((16 : Int) - (1 : Int)) (Aix a 0 ((16 : Int) - (0 : Int)))) 0 g).bind fun k =>
some (b, f, k, 0)
def Ajw : Int32 → Int → LX → LX → Aci := Aqj
def Aex (j2 : Int32 → Int → LX → LX → Aci) (b : Int) (f a : LX) (g : Int32) : Aci :=
(Abj b f a).bind fun h =>
if (Ct h 0) then
some (0, (List.replicate 16 (0 : Int32)), (List.replicate 16 (0 : Int32)), h)
else
(
(vwI 16 1 16).bind fun _ =>
(vwI 16 0 16).bind fun _ =>
j2 g b f a)
def Anh : Int → LX → LX → Int32 → Aci := Aex Ajw
def Aox (a : Int) (b f : LX) (g h : Int32) : Option (Int × LX × LX) :=
(Aj4 a b f h).bind fun (k, m, n, v) =>
(Anh k m n g).bind fun (o, p, u, w) =>
some (o, p, u)
def Alo (b : Int) (f g : LX) (a : Int32) : Option (Int32 × Int × LX × LX × Int) :=
(Aj3 b f g).bind fun (h, k) =>
if (Ct k 0) then
some (0, 0, (List.replicate 16 (0 : Int32)), (List.replicate 16 (0 : Int32)), k)
else
(Aox b f g (Ae a h) a).bind fun (m, n, o) =>
some ((Ae a h), m, n, o, 0)
def Ix (a : Int) (b : Int32) (f : Int) (g h : LX) (o : Int32) : Option (Int32 × Int × Int32 × Int × LX × LX × Int) :=
(Acz a b f g h).bind fun k =>
if (Ct k 0) then
some (0, 0, 0, 0, (List.replicate 16 (0 : Int32)), (List.replicate 16 (0 : Int32)), k)
else
(Acr a b).bind fun (m, y) =>
(Alo f g h o).bind fun (n, p, u, v, w) =>
(
some ((Ae n m), a, (Ae n m), p, u, v, w))
def Anq (a : Int) (b : LX) : Option Int :=
if ((Df a 1) || (Hp a 6)) then
some 2
else
if (Hp (Ac b) 4000) then
some 4
else
(Re (Ct a 0)).bind fun _ =>
if (Ct (It (Ac b) a) 0) then
some 2
else
some 0
def Fo (a : LX) : Option (LX) :=
(
(Hz ([] : LX) a).bind fun b =>
some b)
abbrev Cb := Option (LX × Int)
def Azx (f : LX) : Cb :=
some (f, 0)
def Apx : LX → Cb := Azx
def Ap3 (bk12 : Int → LX → Cb) (b a : Int) (h : LX) : Cb :=
bk12 (Ae a b) h
def Ajy (bk12 : Int → LX → Cb) : Int → Int → LX → Cb := Ap3 bk12
def Aet (j20 : Int → LX → Cb) (bk18 : Int → LX → Cb) (b a g : Int) (h : LX) : Cb :=
if (Pr g 0) then
(Re (decide (0 ≤ (Ae g 1) ∧ (Ae g 1) < ((Ae a b) - a)))).bind fun _ =>
(Re (decide (0 ≤ g ∧ g < ((Ae a b) - a)))).bind fun _ =>
(getI h (a + (Ae g 1))).bind fun o =>
(getI h (a + g)).bind fun p =>
(Re (decide (0 ≤ g ∧ g < ((Ae a b) - a)))).bind fun _ =>
(Pd h (a + g) (Ak o p)).bind fun u =>
bk18 (Ak g 1) u
else
j20 a h
def Vg (bk12 : Int → LX → Cb) (b a : Int) : Nat → Int → LX → Cb
| 0, _, _ => none
| q + 1, g, h => Aet (Ajy bk12 b) (Vg bk12 b a q) b a g h
def Ajh (bk12 : Int → LX → Cb) (b a : Int) : Int → LX → Cb := Vg bk12 b a Ba
def Ajk (j18 : Int → Int → LX → Cb) (b a : Int) (k : LX) : Cb :=
j18 a (Ak (Ak ((Ae a b) - a) 1) 1) k
def Aez (bk12 : Int → LX → Cb) (b : Int) : Int → LX → Cb := Ajk (Ajh bk12 b) b
def Aj0 (j17 : Int → LX → Cb) (j22 : LX → Cb) (b a : Int) (f : LX) : Cb :=
if (Df a (Ac f)) then
(vwI (Ac f) a (Ae a b)).bind fun _ =>
if (Hp (Ak ((Ae a b) - a) 1) 0) then
(Re (decide (0 ≤ (Ak ((Ae a b) - a) 1) ∧ (Ak ((Ae a b) - a) 1) < ((Ae a b) - a)))).bind fun _ =>
Option.bind (Re (decide (0 ≤ (Ak (Ak ((Ae a b) - a) 1) 1) ∧ (Ak (Ak ((Ae a b) - a) 1) 1) < ((Ae a b) - a)))) fun _ =>
(getI f (a + (Ak ((Ae a b) - a) 1))).bind fun v =>
(getI f (a + (Ak (Ak ((Ae a b) - a) 1) 1))).bind fun w =>
(Re (decide (0 ≤ (Ak ((Ae a b) - a) 1) ∧ (Ak ((Ae a b) - a) 1) < ((Ae a b) - a)))).bind fun _ =>
(Pd f (a + (Ak ((Ae a b) - a) 1)) (Ae v (Cu w 2))).bind fun y =>
j17 a y
else
j17 a f
else
j22 f
def Pj (b : Int) : Nat → Int → LX → Cb
| 0, _, _ => none
| q + 1, a, f => Aj0 (Aez (Pj b q) b) Apx b a f
def Ajg (b : Int) : Int → LX → Cb := Pj b Ba
def Aly (j12 : Int → Int → LX → Cb) (b : Int) (m : LX) : Cb :=
(Anq b m).bind fun n =>
if (Ct n 0) then
some (([] : LX), n)
else
(Fo m).bind fun aa =>
j12 b 0 aa
def Ap2 : Int → LX → Cb := Aly Ajg
def Atv : Option Int :=
some 0
def Amr : Option Int := Atv
def Yt (j6 : Option Int) (bk4 : Int → Option Int) (b f : Int32) (a : LX) (g : Int) : Option Int :=
if (Df g (Ac a)) then
(getI a g).bind fun h =>
if ((Df h b) || (Hp h f)) then
some 16
else
bk4 (Ae g 1)
else
j6
def Of (b f : Int32) (a : LX) : Nat → Int → Option Int
| 0, _ => none
| q + 1, g => Yt Amr (Of b f a q) b f a g
def Amg (b f : Int32) (a : LX) : Int → Option Int := Of b f a Ba
def Afc (j4 : Int32 → Int32 → LX → Int → Option Int) (m : Int) (a : LX) : Option Int :=
(Adf m).bind fun (b, f, k) =>
if (Ct k 0) then
some k
else
if (Hp (Ac a) 4000) then
some 4
else
j4 b f a 0
def Adl : Int → LX → Option Int := Afc Amg
abbrev Ay := Option (LX × Int)
def Ael (a b : Int) (k : LX) : Ay :=
(Ap2 a k).bind fun (ah, af) =>
if (Ct af 0) then
some (([] : LX), af)
else
(Adl b ah).bind fun ae =>
if (Ct ae 0) then
some (([] : LX), ae)
else
some (ah, 0)
def Je : Int → Int → LX → Ay := Ael
def Aed (bk13 : Int → (List (Int × Int32 × (Int × LX × LX × Unit) × Unit)) → LX → Ay) (a : Int) (f : LU) (b g : Int) (w : Int32) (u : Int) (h : List (Int × Int32 × (Int × LX × LX × Unit) × Unit)) (k : LX) (y : Int) (v : Int32) (aa : Int) (ab ac : LX) : Ay :=
if (Ct u 0) then
some (([] : LX), u)
else
(Pd h (It g a) (y, v, (aa, ab, ac, ()), ())).bind fun ai =>
(Hz k ([w] : LX)).bind fun aj =>
bk13 (Ae g 1) ai aj
def Vs (bk13 : Int → (List (Int × Int32 × (Int × LX × LX × Unit) × Unit)) → LX → Ay) : Int → LU → Int → Int → Int32 → Int → (List (Int × Int32 × (Int × LX × LX × Unit) × Unit)) → LX → Int → Int32 → Int → LX → LX → Ay := Aed bk13
def Jb (j16 : Int → Int32 → Int → (List (Int × Int32 × (Int × LX × LX × Unit) × Unit)) → LX → Int → Int32 → Int → LX → LX → Ay) (j18 : Int → Int → LX → Ay) (f : LU) (a b g : Int) (h : List (Int × Int32 × (Int × LX × LX × Unit) × Unit)) (k : LX) : Ay :=
if (Df g (Ac f)) then
(getI f g).bind fun ag =>
(Re (Ct a 0)).bind fun _ =>
(getI h (It g a)).bind fun _ =>
(
(getI h (It g a)).bind fun m =>
(
(Va ag).bind fun ae =>
(
(Ix m.1 m.2.1 m.2.2.1.1 m.2.2.1.2.1 m.2.2.1.2.2.1 ae).bind fun (w, y, v, aa, ab, ac, u) =>
j16 g w u h k y v aa ab ac)))
else
j18 a b k
def Gs (f : LU) (a b : Int) : Nat → Int → (List (Int × Int32 × (Int × LX × LX × Unit) × Unit)) → LX → Ay
| 0, _, _, _ => none
| q + 1, g, h, k => Jb (Vs (Gs f a b q) a f b) Je f a b g h k
def Aem (f : LU) (a b : Int) : Int → (List (Int × Int32 × (Int × LX × LX × Unit) × Unit)) → LX → Ay := Gs f a b Ba
def Aec (j13 : LU → Int → Int → Int → (List (Int × Int32 × (Int × LX × LX × Unit) × Unit)) → LX → Ay) (f : LU) (a b : Int) (n : List (Int × Int32 × (Int × LX × LX × Unit) × Unit)) : Ay :=
j13 f a b 0 n ([] : LX)
def Vv : LU → Int → Int → (List (Int × Int32 × (Int × LX × LX × Unit) × Unit)) → Ay := Aec Aem
def Aee (j12 : LU → Int → Int → (List (Int × Int32 × (Int × LX × LX × Unit) × Unit)) → Ay) (bk10 : Int → (List (Int × Int32 × (Int × LX × LX × Unit) × Unit)) → Ay) (f : LU) (a b : Int) (o : LX) (p : Int) (n : List (Int × Int32 × (Int × LX × LX × Unit) × Unit)) : Ay :=
if (Df p 6) then
(Ax2 b o).bind fun (ak, af, ae, al, am, v) =>
(getI n p).bind fun _ =>
(Pd n p (ak, af, (ae, al, am, ()), ())).bind fun an =>
bk10 (Ae p 1) an
else
j12 f a b n
def Vw (f : LU) (a b : Int) (o : LX) : Nat → Int → (List (Int × Int32 × (Int × LX × LX × Unit) × Unit)) → Ay
| 0, _, _ => none
| q + 1, p, n => Aee Vv (Vw f a b o q) f a b o p n
def Nt (f : LU) (a b : Int) (o : LX) : Int → (List (Int × Int32 × (Int × LX × LX × Unit) × Unit)) → Ay := Vw f a b o Ba
def Xr (j10 : LU → Int → Int → LX → Int → (List (Int × Int32 × (Int × LX × LX × Unit) × Unit)) → Ay) (a b : Int) (o : LX) (f : LU) : Ay :=
j10 f a b o 0 (List.replicate 6 ((0 : Int), (0 : Int32), ((0 : Int), (List.replicate 16 (0 : Int32)), (List.replicate 16 (0 : Int32)), ()), ()))
def Qx : Int → Int → LX → LU → Ay := Xr Nt
def deframe_Decode (a h : Int) (u : LX) (f : Int) (v : LB) : Option (LX × Int) :=
(Ab7 a h).bind fun k =>
if (Ct k 0) then
some (([] : LX), k)
else
if (Df f 1) then
some (([] : LX), 2)
else
(Re (Ct a 0)).bind fun _ =>
if (Hp f (Cu 4000 a)) then
some (([] : LX), 2)
else
(Zh v).bind fun (w, m) =>
if (Ct m 0) then
some (([] : LX), m)
else
(Ay9 w).bind fun (n, b, o) =>
if (Ct o 0) then
some (([] : LX), o)
else
(Zt a f n b).bind fun (y, g, p) =>
if (Ct p 0) then
some (([] : LX), p)
else
if (Pr (Ak b g) 8) then
some (([] : LX), 12)
else
(Yu n b g (Ak b g)).bind fun (aa, ab) =>
if ((Ct ab 0) || (Ct aa 0)) then
some (([] : LX), 12)
else
(Qx a h u y).bind fun (ac, ad) =>
some (ac, ad)
abbrev Bd := Option (LB × Int)
def Ast (g : LB) : Bd :=
some (g, 0)
def Aky : LB → Bd := Ast
def Ala (bk16 : Int → LB → Bd) (b : Int) (a : LX) (f : Int) (h : LB) : Bd :=
bk16 (Ae f 1) h
def Adw (bk16 : Int → LB → Bd) : Int → LX → Int → LB → Bd := Ala bk16
def Wx (j28 : Int → LB → Bd) (bk26 : Int → LB → Bd) (b : Int) (a : LX) (k : Int32) (f m : Int) (h : LB) : Bd :=
if (Df m (Cu b 8)) then
(Re (Pr (Bj 8 m) 0)).bind fun _ =>
(Hz h ([(Ad (Cn k (GI.toZ (Bj 8 m)).toNat) : UInt8)] : LB)).bind fun p =>
bk26 (Ae m 1) p
else
j28 f h
def Gx (bk16 : Int → LB → Bd) (b : Int) (a : LX) (k : Int32) (f : Int) : Nat → Int → LB → Bd
| 0, _, _ => none
| q + 1, m, h => Wx (Adw bk16 b a) (Gx bk16 b a k f q) b a k f m h
def Aea (bk16 : Int → LB → Bd) (b : Int) (a : LX) (k : Int32) (f : Int) : Int → LB → Bd := Gx bk16 b a k f Ba
def Ad7 (j26 : Int32 → Int → Int → LB → Bd) (b : Int) (a : LX) (f : Int) (g : LB) (k : Int32) : Bd :=
j26 k f 0 g
def Iy (bk16 : Int → LB → Bd) (b : Int) (a : LX) : Int → LB → Int32 → Bd := Ad7 (Aea bk16 b a) b a
def Ws (j25 : Int → LB → Int32 → Bd) (j30 : LB → Bd) (b : Int) (a : LX) (f : Int) (g : LB) : Bd :=
if (Df f (Ac a)) then
(getI a f).bind fun n =>
if (geq b 8) then
j25 f g (Ae n 128)
else
j25 f g n
else
j30 g
def Er (b : Int) (a : LX) : Nat → Int → LB → Bd
| 0, _, _ => none
| q + 1, f, g => Ws (Iy (Er b a q) b a) Aky b a f g
def Akw (b : Int) (a : LX) : Int → LB → Bd := Er b a Ba
def Af7 (j16 : Int → LX → Int → LB → Bd) (b : Int) (a : LX) : Bd :=
(Adl b a).bind fun o =>
if (Ct o 0) then
some (([] : LB), o)
else
j16 b a 0 ([] : LB)
def width_Bytes : Int → LX → Bd := Af7 Akw
abbrev Ah := Option (LB × Int)
def Asy (a : LB) : Ah :=
(Ca a 0 (Ac a)).bind fun ap =>
(Yw ap).bind fun (ay, aj) =>
if (Ct aj 0) then
some (([] : LB), 38)
else
some (([] : LB), 0)
def Ak5 : LB → Ah := Asy
def Ak0 (j21 : LB → Ah) (a : LB) (aa : Int) : Ah :=
if (Df aa 0) then
none
else
j21 a
def Alb (a : LB) (aa : Int) : Nat → Ah
| 0 => none
| q + 1 => Ak0 Ak5 a aa
def Ak3 (a : LB) (aa : Int) : Ah := Alb a aa Ba
def Adq (j19 : LB → Int → Ah) (a : LB) (aa ag : Int) : Ah :=
if (Ct ag 0) then
some (([] : LB), ag)
else
if ((Df aa 0) || (Pr aa 0)) then
some (([] : LB), 2)
else
j19 a aa
def Adz : LB → Int → Int → Ah := Adq Ak3
def Ak9 (a : LB) (b m : Int) (y : LB) : Ah :=
(Ca a (Ae b m) (Ac a)).bind fun aq =>
(Yw aq).bind fun (aj, ar) =>
if (Ct ar 0) then
some (([] : LB), 38)
else
some (y, 0)
def Ad5 : LB → Int → Int → LB → Ah := Ak9
def Ak7 (bk22 : Int → LB → Ah) (a : LB) (f : LI) (b m n h g o p : Int) (u : LX) (v k : LI) (w : Int) (ad : LB) : Ah :=
bk22 (Ae w 1) ad
def Ad3 (bk22 : Int → LB → Ah) : LB → LI → Int → Int → Int → Int → Int → Int → Int → LX → LI → LI → Int → LB → Ah := Ak7 bk22
def Ad0 (j30 : Int → LB → Ah) (a : LB) (f : LI) (b m n h g o p : Int) (u : LX) (v k : LI) (w : Int) (y : LB) (ah : Int) (ai : LB) : Ah :=
if (Ct ah 0) then
some (([] : LB), ah)
else
(Hz y ai).bind fun ad =>
j30 w ad
def Qw (bk22 : Int → LB → Ah) (a : LB) (f : LI) (b m n h g o p : Int) (u : LX) (v k : LI) : Int → LB → Int → LB → Ah := Ad0 (Ad3 bk22 a f b m n h g o p u v k) a f b m n h g o p u v k
def Ado (j29 : Int → LB → Int → LB → Ah) (a : LB) (f : LI) (b m h g n o p : Int) (u : LX) (v k : LI) (ab w : Int) (ae : LX) (y : LB) : Ah :=
if (Ct ab 0) then
j29 w y ab ([] : LB)
else
(width_Bytes g ae).bind fun (au, av) =>
j29 w y av au
def Adr (bk22 : Int → LB → Ah) (a : LB) (f : LI) (b m h g n o p : Int) (u : LX) (v k : LI) : Int → Int → LX → LB → Ah := Ado (Qw bk22 a f b m n h g o p u v k) a f b m h g n o p u v k
def Ad9 (j29 : Int → LB → Int → LB → Ah) (j28 : Int → Int → LX → LB → Ah) (b : Int) (a : LB) (f : LI) (m h g : Int) (u : LX) (n o p : Int) (v k : LI) (w af ac : Int) (y : LB) : Ah :=
if (Hp (Ae b ac) (Ac a)) then
j29 w y 24 ([] : LB)
else
(getI f w).bind fun _ =>
(Ca a (Ae b af) (Ae b ac)).bind fun aw =>
(getI f w).bind fun ax =>
(deframe_Decode h g u ax aw).bind fun (ae, ab) =>
j28 ab w ae y
def Wv (bk22 : Int → LB → Ah) (b : Int) (a : LB) (f : LI) (m h g : Int) (u : LX) (n o p : Int) (v k : LI) : Int → Int → Int → LB → Ah := Ad9 (Qw bk22 a f b m n h g o p u v k) (Adr bk22 a f b m h g n o p u v k) b a f m h g u n o p v k
def Wu (j27 : Int → Int → Int → LB → Ah) (j32 : LB → Int → Int → LB → Ah) (a : LB) (f : LI) (b m n h g o p : Int) (u : LX) (v k : LI) (w : Int) (y : LB) : Ah :=
if (Df w (Ac f)) then
(getI k w).bind fun _ =>
(getI k (Ae w 1)).bind fun _ =>
(getI k w).bind fun af =>
(getI k (Ae w 1)).bind fun ac =>
j27 w af ac y
else
j32 a b m y
def Lm (a : LB) (f : LI) (b m n h g o p : Int) (u : LX) (v k : LI) : Nat → Int → LB → Ah
| 0, _, _ => none
| q + 1, w, y => Wu (Wv (Lm a f b m n h g o p u v k q) b a f m h g u n o p v k) Ad5 a f b m n h g o p u v k w y
def Aku (a : LB) (f : LI) (b m n h g o p : Int) (u : LX) (v k : LI) : Int → LB → Ah := Lm a f b m n h g o p u v k Ba
def Ady (j22 : LB → LI → Int → Int → Int → Int → Int → Int → Int → LX → LI → LI → Int → LB → Ah) (a : LB) (aa : Int) (f : LI) (b m n h g o p : Int) (u : LX) (v k : LI) : Ah :=
if (Ct (0 : Int) (0 : Int)) then
some (([] : LB), 0)
else
if ((Df aa 0) || (Pr aa (Ac f))) then
some (([] : LB), 2)
else
j22 a f b m n h g o p u v k aa ([] : LB)
def Ad6 : LB → Int → LI → Int → Int → Int → Int → Int → Int → Int → LX → LI → LI → Ah := Ady Aku
def Aai (j17 : LB → Int → Int → Ah) (j18 : LB → Int → LI → Int → Int → Int → Int → Int → Int → Int → LX → LI → LI → Ah) (a ak : LB) (aa : Int) : Ah :=
(seekto_Open a ak).bind fun (n, h, g, o, p, b, v, al) =>
if (Ct al 0) then
j17 a aa al
else
(Wk n h g o p).bind fun (f, am) =>
if (Ct am 0) then
j17 a aa am
else
(Acb v).bind fun (k, an) =>
if (Ct an 0) then
j17 a aa an
else
(Ani ak).bind fun (u, ao) =>
if (Ct ao 0) then
j17 a aa ao
else
(getI k (Ac f)).bind fun _ =>
(getI k (Ac f)).bind fun m =>
j18 a aa f b m n h g o p u v k
def Pf : LB → LB → Int → Ah := Aai Adz Ad6
abbrev Ci := Option (Int × Int)
def Alh (a : Int) : Ci :=
some (a, 0)
def Abb : Int → Ci := Alh
def Kk (j6 : Int → Ci) (bk4 : Int → Int → Ci) (b : LB) (a f : Int) : Ci :=
if (Df f 4) then
(getI b f).bind fun g =>
if (Pr g 128) then
some (0, 12)
else
(getI b f).bind fun h =>
bk4 (Ae (Bj 128 a) (Ad h : Int)) (Ae f 1)
else
j6 a
def Fk (b : LB) : Nat → Int → Int → Ci
| 0, _, _ => none
| q + 1, a, f => Kk Abb (Fk b q) b a f
def Sd (b : LB) : Int → Int → Ci := Fk b Ba
def Sa (j4 : LB → Int → Int → Ci) (b : LB) : Ci :=
if (Ct (Ac b) 4) then
some (0, 2)
else
j4 b 0 0
def Qc : LB → Ci := Sa Sd
abbrev Cf := Option (Int × Int)
def Ac2 (a : LB) (g : Int) : Cf :=
if (Hp g 4000) then
some (0, 4)
else
if (Df (Ac a) g) then
some (0, 24)
else
(getI a 5).bind fun h =>
if (geq h 16) then
(Ca a (Ak g 10) g).bind fun k =>
(Ca a 3 10).bind fun m =>
(Hz ([51, 68, 73] : LB) m).bind fun n =>
if (k != n) then
some (0, 12)
else
some (g, 0)
else
some (g, 0)
def Lq : LB → Int → Cf := Ac2
def Ui (j6 : LB → Int → Cf) (a : LB) (b : Int) : Cf :=
(getI a 5).bind fun o =>
if (geq o 16) then
j6 a (Ae (Ae 10 b) 10)
else
j6 a (Ae 10 b)
def Ml : LB → Int → Cf := Ui Lq
def Tu (j5 : LB → Int → Cf) (a : LB) : Cf :=
if (Df (Ac a) 10) then
some (0, 24)
else
(Ca a 6 10).bind fun p =>
(Qc p).bind fun (b, f) =>
(getI a 3).bind fun u =>
if (Df u 2) then
if true then
if true then
if (true || (Ct f 0)) then
some (0, 12)
else
j5 a b
else
(getI a 5).bind fun v =>
if (Ct v 0) then
(getI a 5).bind fun w =>
if (Ct w 16) then
if (true || (Ct f 0)) then
some (0, 12)
else
j5 a b
else
(getI a 3).bind fun y =>
if ((Ct y 4) || (Ct f 0)) then
some (0, 12)
else
j5 a b
else
if (false || (Ct f 0)) then
some (0, 12)
else
j5 a b
else
(getI a 4).bind fun aa =>
if (Ct aa 0) then
if (true || (Ct f 0)) then
some (0, 12)
else
j5 a b
else
(getI a 5).bind fun ab =>
if (Ct ab 0) then
(getI a 5).bind fun ac =>
if (Ct ac 16) then
if (true || (Ct f 0)) then
some (0, 12)
else
j5 a b
else
(getI a 3).bind fun ad =>
if ((Ct ad 4) || (Ct f 0)) then
some (0, 12)
else
j5 a b
else
if (false || (Ct f 0)) then
some (0, 12)
else
j5 a b
else
(getI a 3).bind fun ae =>
if (Hp ae 4) then
if true then
if (true || (Ct f 0)) then
some (0, 12)
else
j5 a b
else
(getI a 5).bind fun af =>
if (Ct af 0) then
(getI a 5).bind fun ag =>
if (Ct ag 16) then
if (true || (Ct f 0)) then
some (0, 12)
else
j5 a b
else
(getI a 3).bind fun ah =>
if ((Ct ah 4) || (Ct f 0)) then
some (0, 12)
else
j5 a b
else
if (false || (Ct f 0)) then
some (0, 12)
else
j5 a b
else
(getI a 4).bind fun ai =>
if (Ct ai 0) then
if (true || (Ct f 0)) then
some (0, 12)
else
j5 a b
else
(getI a 5).bind fun aj =>
if (Ct aj 0) then
(getI a 5).bind fun ak =>
if (Ct ak 16) then
if (true || (Ct f 0)) then
some (0, 12)
else
j5 a b
else
(getI a 3).bind fun al =>
if ((Ct al 4) || (Ct f 0)) then
some (0, 12)
else
j5 a b
else
if (false || (Ct f 0)) then
some (0, 12)
else
j5 a b
def Tw : LB → Cf := Tu Ml
def Us (j4 : LB → Cf) (a : LB) : Cf :=
if (Df (Ac a) 3) then
some (0, 6)
else
(Ca a 0 3).bind fun am =>
if (am != ([73, 68, 51] : LB)) then
some (0, 6)
else
j4 a
def Ta : LB → Cf := Us Tw
def Afr (a : UInt64) : Option UInt64 :=
some a
def Xf : UInt64 → Option UInt64 := Afr
def Pg (j6 : UInt64 → Option UInt64) (bk4 : UInt64 → Int → Option UInt64) (b : LB) (a : UInt64) (f : Int) : Option UInt64 :=
if (Pr f 0) then
(getI b f).bind fun g =>
bk4 (Ae (Bj 256 a) (Ad g : UInt64)) (Ak f 1)
else
j6 a
def Hq (b : LB) : Nat → UInt64 → Int → Option UInt64
| 0, _, _ => none
| q + 1, a, f => Pg Xf (Hq b q) b a f
def Xi (b : LB) : UInt64 → Int → Option UInt64 := Hq b Ba
def Xl (j4 : LB → UInt64 → Int → Option UInt64) (b : LB) : Option UInt64 :=
j4 b 0 (Ak (Ac b) 1)
def Aj : LB → Option UInt64 := Xl Xi
def Ij (b : LB) : Option (Int × Int × Bool) :=
(Ca b 12 16).bind fun g =>
(Aj g).bind fun a =>
(Ca b 16 20).bind fun h =>
(Aj h).bind fun f =>
if (((Df a 32) || (Hp a 3032)) || (Hp f 1000)) then
some (0, 0, false)
else
some ((Ak (Ad a : Int) 32), (Ad f : Int), true)
def Yc (a : LB) : Option (LB) :=
some a
def Oa : LB → Option (LB) := Yc
def Ie (j6 : LB → Option (LB)) (bk4 : UInt64 → Int → LB → Option (LB)) (b : Int) (f : UInt64) (g : Int) (a : LB) : Option (LB) :=
if (Df g b) then
(Hz a ([(Ad (Yq f 256) : UInt8)] : LB)).bind fun h =>
bk4 (Cu f 256) (Ae g 1) h
else
j6 a
def Ei (b : Int) : Nat → UInt64 → Int → LB → Option (LB)
| 0, _, _, _ => none
| q + 1, f, g, a => Ie Oa (Ei b q) b f g a
def Oh (b : Int) : UInt64 → Int → LB → Option (LB) := Ei b Ba
def Pa (j4 : Int → UInt64 → Int → LB → Option (LB)) (k : UInt64) (b : Int) : Option (LB) :=
j4 b k 0 ([] : LB)
def Cx : UInt64 → Int → Option (LB) := Pa Oh
def Ju (a b : Int) (f : UInt64) : Option (LB) :=
(Cx 2000 4).bind fun g =>
(Hz ([(65 : UInt8), (80 : UInt8), (69 : UInt8), (84 : UInt8), (65 : UInt8), (71 : UInt8), (69 : UInt8), (88 : UInt8)] : LB) g).bind fun h =>
(Cx (Ad (Ae a 32) : UInt64) 4).bind fun k =>
(Hz h k).bind fun m =>
(Cx (Ad b : UInt64) 4).bind fun n =>
(Hz m n).bind fun o =>
(Cx f 4).bind fun p =>
(Hz o p).bind fun u =>
(mkI (8 : Int) (0 : UInt8)).bind fun v =>
(Hz u v).bind fun w =>
some w
def Lz (a b : Int) : Option (LB) :=
(Ju a b 2684354560).bind fun f =>
some f
def Dk (a b : Int) (f : Bool) : Option (LB) :=
if f then
(Ju a b 2147483648).bind fun g =>
some g
else
(Ju a b 0).bind fun h =>
some h
abbrev Dm := Option (Int × Int)
def Aa3 (a : LB) (b f : Int) : Dm :=
if (Df (Ac a) (Ae 64 b)) then
some (0, 24)
else
(Ca a (Ak (Ae 64 b) 32) (Ae 64 b)).bind fun g =>
(Dk b f true).bind fun h =>
if (g != h) then
some (0, 12)
else
some ((Ae 64 b), 0)
def Rw : LB → Int → Int → Dm := Aa3
def Sm (j4 : LB → Int → Int → Dm) (a : LB) : Dm :=
if (Df (Ac a) 32) then
some (0, 24)
else
(Ca a 0 32).bind fun k =>
(Ij k).bind fun (b, f, m) =>
if (!m) then
some (0, 12)
else
(Ca a 0 32).bind fun n =>
(Lz b f).bind fun o =>
if (n != o) then
some (0, 12)
else
j4 a b f
def Rk : LB → Dm := Sm Rw
def Rr (j3 : LB → Dm) (a : LB) : Dm :=
if (Df (Ac a) 8) then
some (0, 6)
else
(Ca a 0 8).bind fun p =>
if (p != ([65, 80, 69, 84, 65, 71, 69, 88] : LB)) then
some (0, 6)
else
j3 a
def Pz : LB → Dm := Rr Rk
abbrev Bu := Option (LI × Int)
def Aas (bk6 : Int → LI → Bu) (a : LB) (b : Int) (f : LI) (g h : Int) : Bu :=
if (geq h 6) then
some (f, 0)
else
if (Ct h 0) then
some (([] : LI), h)
else
if (Hp (Ae b g) 4000) then
some (([] : LI), 4)
else
(Hz f ([g] : LI)).bind fun m =>
bk6 (Ae b g) m
def Hf (bk6 : Int → LI → Bu) : LB → Int → LI → Int → Int → Bu := Aas bk6
def Ku (j9 : Int → LI → Int → Int → Bu) (a : LB) (b : Int) (f : LI) : Bu :=
(Ca a b (Ac a)).bind fun n =>
(Ta n).bind fun (o, k) =>
if (geq k 6) then
(Ca a b (Ac a)).bind fun p =>
(Pz p).bind fun (u, v) =>
j9 b f u v
else
j9 b f o k
def He (a : LB) : Nat → Int → LI → Bu
| 0, _, _ => none
| q + 1, b, f => Ku (Hf (He a q) a) a b f
def Aa9 (a : LB) : Int → LI → Bu := He a Ba
def Abc (j6 : LB → Int → LI → Bu) (a : LB) : Bu :=
j6 a 0 ([] : LI)
def Xj : LB → Bu := Abc Aa9
abbrev Cj := Option (Int × Int)
def Aa2 (a b : Int) : Cj :=
some (b, a)
def Ro : Int → Int → Cj := Aa2
def Ks (j6 : Int → Int → Cj) (bk4 : Int → Int → Cj) (a : Int) (f : LI) (b g : Int) : Cj :=
if (Df g (Ac f)) then
(getI f g).bind fun _ =>
(getI f g).bind fun h =>
bk4 (Ae b h) (Ae g 1)
else
j6 a b
def Fe (a : Int) (f : LI) : Nat → Int → Int → Cj
| 0, _, _ => none
| q + 1, b, g => Ks Ro (Fe a f q) a f b g
def Kt (a : Int) (f : LI) : Int → Int → Cj := Fe a f Ba
def Sg (j4 : Int → LI → Int → Int → Cj) (k : LB) : Cj :=
(Xj k).bind fun (f, a) =>
j4 a f 0 0
def Qk : LB → Cj := Sg Kt
def Ach (a : UInt32) (b : Bool) : Option UInt32 :=
if b then
some (Wh (Cu a 2) 3988292384)
else
some (Cu a 2)
def Uq : UInt32 → Bool → Option UInt32 := Ach
def Tz (j2 : UInt32 → Bool → Option UInt32) (a : UInt32) (f : Int) : Option UInt32 :=
if (geq f 1) then
j2 a (!(geq (Yq a 2) 1))
else
j2 a (geq (Yq a 2) 1)
def Tj : UInt32 → Int → Option UInt32 := Tz Uq
def Adk (a : UInt32) : Option UInt32 :=
some a
def Uv : UInt32 → Option UInt32 := Adk
def Mk (j6 : UInt32 → Option UInt32) (bk4 : UInt32 → UInt8 → Int → Option UInt32) (a : UInt32) (b : UInt8) (f : Int) : Option UInt32 :=
if (Df f 8) then
(Tj a (Ad (Yq b 2) : Int)).bind fun g =>
bk4 g (Cu b 2) (Ae f 1)
else
j6 a
def Fw : Nat → UInt32 → UInt8 → Int → Option UInt32
| 0, _, _, _ => none
| q + 1, a, b, f => Mk Uv (Fw q) a b f
def Acw : UInt32 → UInt8 → Int → Option UInt32 := Fw Ba
def Ac5 (j4 : UInt32 → UInt8 → Int → Option UInt32) (h : UInt32) (k : UInt8) : Option UInt32 :=
j4 h k 0
def Aal : UInt32 → UInt8 → Option UInt32 := Ac5 Acw
def Ze (a : UInt32) : Option UInt32 :=
some a
def Qv : UInt32 → Option UInt32 := Ze
def Jk (j6 : UInt32 → Option UInt32) (bk4 : UInt32 → Int → Option UInt32) (b : LB) (a : UInt32) (f : Int) : Option UInt32 :=
if (Df f (Ac b)) then
(getI b f).bind fun g =>
(Aal a g).bind fun h =>
bk4 h (Ae f 1)
else
j6 a
def Ev (b : LB) : Nat → UInt32 → Int → Option UInt32
| 0, _, _ => none
| q + 1, a, f => Jk Qv (Ev b q) b a f
def Qt (b : LB) : UInt32 → Int → Option UInt32 := Ev b Ba
def Pu (j4 : LB → UInt32 → Int → Option UInt32) (k : UInt32) (b : LB) : Option UInt32 :=
j4 b k 0
def Vp : UInt32 → LB → Option UInt32 := Pu Qt
def Ll (a : LB) : Option UInt32 :=
(Vp 4294967295 a).bind fun b =>
some (Ak 4294967295 b)
def Nq (f g b a h : Int) : Option Bool :=
if ((((geq f 1) || (geq f 2)) && (Pr g 1)) && (gle g 6)) then
some ((((((geq b 8) || (geq b 16)) || (geq b 24)) && (Pr a 1)) && (gle a 1048576)) && (Pr h 1))
else
some (((false && (Pr a 1)) && (gle a 1048576)) && (Pr h 1))
def Me (a : Int) : Option Int :=
some (Ans 1 (Cu (Bj 256 a) 245))
def Kn (a : LI) : Option (LI) :=
some a
def Hi : LI → Option (LI) := Kn
def Fi (j6 : LI → Option (LI)) (bk4 : Int → LI → Option (LI)) (b f : Int) (a : LI) : Option (LI) :=
if (Hp f 0) then
(Me b).bind fun g =>
(Hz a ([(Gd f g)] : LI)).bind fun h =>
(Me b).bind fun k =>
bk4 (Ak f k) h
else
j6 a
def De (b : Int) : Nat → Int → LI → Option (LI)
| 0, _, _ => none
| q + 1, f, a => Fi Hi (De b q) b f a
def Rp (b : Int) : Int → LI → Option (LI) := De b Ba
def Rv (j4 : Int → Int → LI → Option (LI)) (b m : Int) : Option (LI) :=
j4 b m ([] : LI)
def Dt : Int → Int → Option (LI) := Rv Rp
def Ib (h a k f b : Int) : Option Bool :=
(
(Re (Ct a 0)).bind fun _ =>
(
if (Hp b (Cu 4000 a)) then
some true
else
(Dt f b).bind fun g =>
some (Hp (Ac g) 1000)))
abbrev Ce := Option (Int × Int × Int × Int × Int × Int)
def Acs (k h g f b : UInt64) : Ce :=
(Nq (Ad k : Int) (Ad h : Int) (Ad g : Int) (Ad f : Int) (Ad b : Int)).bind fun v =>
if (!v) then
some (0, 0, 0, 0, 0, 12)
else
(Ib (Ad k : Int) (Ad h : Int) (Ad g : Int) (Ad f : Int) (Ad b : Int)).bind fun w =>
if w then
some (0, 0, 0, 0, 0, 4)
else
some ((Ad k : Int), (Ad h : Int), (Ad g : Int), (Ad f : Int), (Ad b : Int), 0)
def Tt : UInt64 → UInt64 → UInt64 → UInt64 → UInt64 → Ce := Acs
def Ln (j6 : UInt64 → UInt64 → UInt64 → UInt64 → UInt64 → Ce) (a : LB) : Ce :=
(Ca a 4 6).bind fun u =>
(Ca a 6 8).bind fun p =>
(Ca a 8 10).bind fun o =>
(Ca a 10 14).bind fun n =>
(Ca a 14 18).bind fun m =>
(
(Aj u).bind fun k =>
(
(Aj p).bind fun h =>
(
(Aj o).bind fun g =>
(
(Aj n).bind fun f =>
(
(Aj m).bind fun b =>
(
j6 k h g f b))))))
def Ty : LB → Ce := Ln Tt
def Tp (j5 : LB → Ce) (a : LB) : Ce :=
if (Df (Ac a) 22) then
some (0, 0, 0, 0, 0, 24)
else
(Ca a 18 22).bind fun y =>
(Ca a 0 18).bind fun aa =>
(Aj y).bind fun ab =>
(Ll aa).bind fun ac =>
if (Ct ab (Ad ac : UInt64)) then
some (0, 0, 0, 0, 0, 22)
else
j5 a
def Ub : LB → Ce := Tp Ty
def Uy (j4 : LB → Ce) (a : LB) : Ce :=
(Ca a 0 (Gd 4 (Ac a))).bind fun ad =>
(Ca ([84, 84, 65, 49] : LB) 0 (Gd 4 (Ac a))).bind fun ae =>
if (ad != ae) then
some (0, 0, 0, 0, 0, 12)
else
j4 a
def Td : LB → Ce := Uy Ub
def Adc (a : UInt64) (b : Bool) : Option UInt64 :=
if b then
some (Wh (Bj a 2) 4823603603198064275)
else
some (Bj a 2)
def Mj : UInt64 → Bool → Option UInt64 := Adc
def Ts (j2 : UInt64 → Bool → Option UInt64) (a : UInt64) (f : Int) : Option UInt64 :=
if (geq f 1) then
j2 a (!(Pr a 9223372036854775808))
else
j2 a (Pr a 9223372036854775808)
def Tg : UInt64 → Int → Option UInt64 := Ts Mj
def Ac0 (a : UInt64) : Option UInt64 :=
some a
def Tr : UInt64 → Option UInt64 := Ac0
def Mq (j6 : UInt64 → Option UInt64) (bk4 : UInt64 → Int → Option UInt64) (b : UInt8) (a : UInt64) (f : Int) : Option UInt64 :=
if (Hp f 0) then
(Re (Ct f 0)).bind fun _ =>
(Tg a (It (Cu (Ad b : Int) f) 2)).bind fun g =>
bk4 g (Cu f 2)
else
j6 a
def Fy (b : UInt8) : Nat → UInt64 → Int → Option UInt64
| 0, _, _ => none
| q + 1, a, f => Mq Tr (Fy b q) b a f
def Ac7 (b : UInt8) : UInt64 → Int → Option UInt64 := Fy b Ba
def Ac3 (j4 : UInt8 → UInt64 → Int → Option UInt64) (h : UInt64) (b : UInt8) : Option UInt64 :=
j4 b h 128
def Zw : UInt64 → UInt8 → Option UInt64 := Ac3 Ac7
def Zu (a : UInt64) : Option UInt64 :=
some a
def Qe : UInt64 → Option UInt64 := Zu
def Ji (j6 : UInt64 → Option UInt64) (bk4 : UInt64 → Int → Option UInt64) (b : LB) (a : UInt64) (f : Int) : Option UInt64 :=
if (Df f (Ac b)) then
(getI b f).bind fun g =>
(Zw a g).bind fun h =>
bk4 h (Ae f 1)
else
j6 a
def Ew (b : LB) : Nat → UInt64 → Int → Option UInt64
| 0, _, _ => none
| q + 1, a, f => Ji Qe (Ew b q) b a f
def Yv (b : LB) : UInt64 → Int → Option UInt64 := Ew b Ba
def Yz (j4 : LB → UInt64 → Int → Option UInt64) (k : UInt64) (b : LB) : Option UInt64 :=
j4 b k 0
def Ny : UInt64 → LB → Option UInt64 := Yz Yv
def Aah (a : LB) : Option UInt64 :=
(Ny 0 a).bind fun b =>
some b
def Lo (a : LB) : Option (LB) :=
(Aah a).bind fun b =>
(Cx b 8).bind fun f =>
some f
def Zf (b : Int) : Option Int :=
if (Hp b 100000) then
some 8
else
some 0
def Pm : Int → Option Int := Zf
def Aa5 (bk6 : Int → Int → Option Int) (a : LI) (b f : Int) : Option Int :=
(getI a f).bind fun g =>
bk6 (Ae b g) (Ae f 1)
def Rt (bk6 : Int → Int → Option Int) : LI → Int → Int → Option Int := Aa5 bk6
def Kr (j8 : Int → Int → Option Int) (j10 : Int → Option Int) (a : LI) (b f : Int) : Option Int :=
if (Df f (Ac a)) then
(getI a f).bind fun h =>
if (Df h 5) then
some 8
else
(getI a f).bind fun k =>
if (Hp k 100000) then
some 8
else
j8 b f
else
j10 b
def Fh (a : LI) : Nat → Int → Int → Option Int
| 0, _, _ => none
| q + 1, b, f => Kr (Rt (Fh a q) a) Pm a b f
def Rl (a : LI) : Int → Int → Option Int := Fh a Ba
def Sj (j6 : LI → Int → Int → Option Int) (a : LI) : Option Int :=
if ((Df (Ac a) 1) || (Hp (Ac a) 1000)) then
some 8
else
j6 a 0 0
def Qb : LI → Option Int := Sj Rl
abbrev Bi := Option (LI × Int)
def Ade (f : LI) : Bi :=
(Qb f).bind fun h =>
if (Ct h 0) then
some (([] : LI), 12)
else
some (f, 0)
def Lp : LI → Bi := Ade
def Lr (j8 : LI → Bi) (bk6 : Int → LI → Bi) (b : LB) (a g : Int) (f : LI) : Bi :=
if (Df g a) then
(Ca b (Bj 4 g) (Ae (Bj 4 g) 4)).bind fun k =>
(Aj k).bind fun m =>
(Hz f ([(Ad m : Int)] : LI)).bind fun n =>
bk6 (Ae g 1) n
else
j8 f
def Fu (b : LB) (a : Int) : Nat → Int → LI → Bi
| 0, _, _ => none
| q + 1, g, f => Lr Lp (Fu b a q) b a g f
def Ur (b : LB) (a : Int) : Int → LI → Bi := Fu b a Ba
def Tx (j6 : LB → Int → Int → LI → Bi) (b : LB) (a : Int) : Bi :=
j6 b a 0 ([] : LI)
def Ul : LB → Int → Bi := Tx Ur
def Un (j5 : LB → Int → Bi) (b : LB) (a : Int) : Bi :=
if ((Df a 1) || (Hp a 1000)) then
some (([] : LI), 2)
else
if (Df (Ac b) (Ae (Bj 4 a) 4)) then
some (([] : LI), 24)
else
(Ca b (Bj 4 a) (Ae (Bj 4 a) 4)).bind fun o =>
(Ca b 0 (Bj 4 a)).bind fun p =>
(Aj o).bind fun u =>
(Ll p).bind fun v =>
if (Ct u (Ad v : UInt64)) then
some (([] : LI), 22)
else
j5 b a
def Tl : LB → Int → Bi := Un Ul
abbrev Dh := Option (Int × Int × Int × Int × Int × Int × LI × Int)
def Aap (m n b h k f g : Int) (o : LI) : Dh :=
if (Ct n 0) then
some (0, 0, 0, 0, 0, 0, ([] : LI), n)
else
some (b, h, k, f, g, (Ae (Ae m (Bj 4 (Ac o))) 4), o, 0)
def Qr : Int → Int → Int → Int → Int → Int → Int → LI → Dh := Aap
def Pq (j4 : Int → Int → Int → Int → Int → Int → Int → LI → Dh) (a : LB) (b h k f g m : Int) : Dh :=
(Ca a m (Ac a)).bind fun y =>
(Dt f g).bind fun aa =>
(Tl y (Ac aa)).bind fun (o, n) =>
j4 m n b h k f g o
def Gi : LB → Int → Int → Int → Int → Int → Int → Dh := Pq Qr
def Jn (j3 : LB → Int → Int → Int → Int → Int → Int → Dh) (a u : LB) : Dh :=
if (Hp (Ac a) 100000) then
some (0, 0, 0, 0, 0, 0, ([] : LI), 4)
else
(Qk a).bind fun (p, v) =>
if (Ct v 0) then
some (0, 0, 0, 0, 0, 0, ([] : LI), v)
else
(Ca a p (Ac a)).bind fun ab =>
(Td ab).bind fun (b, h, k, f, g, w) =>
if (Ct w 0) then
some (0, 0, 0, 0, 0, 0, ([] : LI), w)
else
if ((u == ([] : LB)) != (geq b 1)) then
some (0, 0, 0, 0, 0, 0, ([] : LI), 26)
else
if (geq b 2) then
if (Df (Ak (Ac a) (Ae p 22)) 8) then
some (0, 0, 0, 0, 0, 0, ([] : LI), 24)
else
(Ca a (Ae p 22) (Ae (Ae p 22) 8)).bind fun ac =>
(Lo u).bind fun ad =>
if (ac != ad) then
some (0, 0, 0, 0, 0, 0, ([] : LI), 26)
else
j3 a b h k f g (Ae (Ae p 22) 8)
else
j3 a b h k f g (Ae p 22)
def cadenzaref40_Opened : LB → LB → Dh := Jn Gi
def Ea (b a : LB) : Option (Int × Int × Int × Int × Int × Int × LI × Int) :=
if (Hp (Ac a) 64) then
some (0, 0, 0, 0, 0, 0, ([] : LI), 2)
else
(cadenzaref40_Opened b a).bind fun (f, g, h, k, m, n, o, p) =>
some (f, g, h, k, m, n, o, p)
def Alf (a : Int) : Option Int :=
some a
def Aaw : Int → Option Int := Alf
def Ko (j6 : Int → Option Int) (bk4 : Int → Int → Option Int) (b h k m n o f : Int) (g : LI) (a p : Int) : Option Int :=
if (Df p b) then
(getI g p).bind fun u =>
bk4 (Ae a u) (Ae p 1)
else
j6 a
def Fg (b h k m n o f : Int) (g : LI) : Nat → Int → Int → Option Int
| 0, _, _ => none
| q + 1, a, p => Ko Aaw (Fg b h k m n o f g q) b h k m n o f g a p
def Aa6 (b h k m n o f : Int) (g : LI) : Int → Int → Option Int := Fg b h k m n o f g Ba
def Aa7 (j4 : Int → Int → Int → Int → Int → Int → Int → LI → Int → Int → Option Int) (h k m n o f : Int) (g : LI) (b : Int) : Option Int :=
j4 b h k m n o f g f 0
def Kh : Int → Int → Int → Int → Int → Int → LI → Int → Option Int := Aa7 Aa6
def Zp (b : UInt64) (a : LB) : Option (UInt64 × Int) :=
if (Hp (Ac a) 100000) then
some (0, 4)
else
(Ny b a).bind fun f =>
some (f, 0)
def Abw (a : LB) : Option (UInt64 × Int) :=
(Zp 0 a).bind fun (b, f) =>
some (b, f)
def Anu (a : LX) : Option (LX) :=
some a
def Aei : LX → Option (LX) := Anu
def Agi (bk6 : UInt64 → Int → LX → Option (LX)) (b : UInt64) (f : Int) (a : LX) (g : Int32) : Option (LX) :=
(getI a f).bind fun _ =>
(Pd a f g).bind fun h =>
bk6 (Cu b 256) (Ae f 1) h
def Qu (bk6 : UInt64 → Int → LX → Option (LX)) : UInt64 → Int → LX → Int32 → Option (LX) := Agi bk6
def Qs (j8 : UInt64 → Int → LX → Int32 → Option (LX)) (j10 : LX → Option (LX)) (b : UInt64) (f : Int) (a : LX) : Option (LX) :=
if (Df f 8) then
if (Hp (Ad (Yq b 256) : Int32) 127) then
j8 b f a (Ak (Ad (Yq b 256) : Int32) 256)
else
j8 b f a (Ad (Yq b 256) : Int32)
else
j10 a
def Ft : Nat → UInt64 → Int → LX → Option (LX)
| 0, _, _, _ => none
| q + 1, b, f, a => Qs (Qu (Ft q)) Aei b f a
def Af3 : UInt64 → Int → LX → Option (LX) := Ft Ba
def Afl (j6 : UInt64 → Int → LX → Option (LX)) (k : UInt64) : Option (LX) :=
j6 k 0 (List.replicate 16 (0 : Int32))
def Adp : UInt64 → Option (LX) := Afl Af3
def Mb (a : LB) : Option (LX × Int) :=
if (Hp (Ac a) 64) then
some (([(0 : Int32), (0 : Int32), (0 : Int32), (0 : Int32), (0 : Int32), (0 : Int32), (0 : Int32), (0 : Int32), (0 : Int32), (0 : Int32), (0 : Int32), (0 : Int32), (0 : Int32), (0 : Int32), (0 : Int32), (0 : Int32)] : LX), 2)
else
(Abw a).bind fun (b, g) =>
(Adp b).bind fun f =>
some (f, 0)
def Mh (a : Int) : Option Int :=
if (geq a 8) then
some 128
else
if (geq a 16) then
some 32768
else
if (geq a 24) then
some 8388608
else
some 0
def Xk (a b : Int) : Option Int :=
if ((Df a 1) || (Hp a 6)) then
some 2
else
(Mh b).bind fun f =>
if (geq f 0) then
some 2
else
some 0
def Qf (a f b : Int) : Option Int :=
(Xk a f).bind fun g =>
if ((Ct g 0) || (Df b 1)) then
some 2
else
(Re (Ct a 0)).bind fun _ =>
if (Hp b (Cu 4000 a)) then
some 2
else
some 0
def Nu (b : LB) : Option (LB) :=
(Ll b).bind fun a =>
(Hz ([] : LB) b).bind fun f =>
(Hz f ([(Ad a : UInt8), (Ad (Cn a (GI.toZ (8 : UInt64)).toNat) : UInt8), (Ad (Cn a (GI.toZ (16 : UInt64)).toNat) : UInt8), (Ad (Cn a (GI.toZ (24 : UInt64)).toNat) : UInt8)] : LB)).bind fun g =>
some g
def Ja (a : LB) : Option Int :=
if (Df (Ac a) 5) then
some 24
else
if (Hp (Ac a) 41254) then
some 4
else
(Ca a 0 (Ak (Ac a) 4)).bind fun b =>
(Nu b).bind fun f =>
if (f != a) then
some 22
else
some 0
def Hn : Option (Int × Int × UInt64 × UInt64) :=
some (10, 10, 16384, 16384)
def Ale (a : UInt64) : Option UInt64 :=
some a
def Aar : UInt64 → Option UInt64 := Ale
def Kq (j6 : UInt64 → Option UInt64) (bk4 : UInt64 → Int → Option UInt64) (b : Int) (a : UInt64) (f : Int) : Option UInt64 :=
if (Df f b) then
bk4 (Bj a 2) (Ae f 1)
else
j6 a
def Ff (b : Int) : Nat → UInt64 → Int → Option UInt64
| 0, _, _ => none
| q + 1, a, f => Kq Aar (Ff b q) b a f
def Aax (b : Int) : UInt64 → Int → Option UInt64 := Ff b Ba
def Aat (j4 : Int → UInt64 → Int → Option UInt64) (b : Int) : Option UInt64 :=
j4 b 1 0
def Dr : Int → Option UInt64 := Aat Aax
def Oo (a g : Int) (h k : UInt64) (b : UInt32) : Option Bool :=
(Dr a).bind fun f =>
some (Df (Ad b : UInt64) f)
def Cv (a g : Int) (h k : UInt64) (b : UInt32) : Option UInt32 :=
(Dr a).bind fun f =>
some (Ad (Ak (Ad b : UInt64) f) : UInt32)
abbrev Iz := Option (Int × UInt64)
def Adh (b : Int) (a f : UInt64) : Iz :=
if (Df b 24) then
(Dr (Ae b 5)).bind fun g =>
if (Hp (Ak (Ae a f) (Cu a 16)) g) then
some ((Ae b 1), (Ak (Ae a f) (Cu a 16)))
else
some (b, (Ak (Ae a f) (Cu a 16)))
else
some (b, (Ak (Ae a f) (Cu a 16)))
def Lu : Int → UInt64 → UInt64 → Iz := Adh
def Uc (j2 : Int → UInt64 → UInt64 → Iz) (b : Int) (a f : UInt64) : Iz :=
if (Hp b 0) then
(Dr (Ae b 4)).bind fun h =>
if (Df (Ak (Ae a f) (Cu a 16)) h) then
some ((Ak b 1), (Ak (Ae a f) (Cu a 16)))
else
j2 b a f
else
j2 b a f
def Ck : Int → UInt64 → UInt64 → Iz := Uc Lu
abbrev Hh := Option (Int × Int × UInt64 × UInt64)
def Aag (h : UInt32) (f a : Int) (g b : UInt64) (o : Int) (p : UInt64) : Hh :=
(Ck f g (Ad h : UInt64)).bind fun (v, w) =>
some (v, o, w, p)
def Jo : UInt32 → Int → Int → UInt64 → UInt64 → Int → UInt64 → Hh := Aag
def Jg (j2 : UInt32 → Int → Int → UInt64 → UInt64 → Int → UInt64 → Hh) (f a : Int) (g b : UInt64) (h : UInt32) : Hh :=
(Oo f a g b h).bind fun u =>
if (!u) then
(
(
(Cv f a g b h).bind fun k =>
(Ck a b (Ad k : UInt64)).bind fun (m, n) =>
j2 h f a g b m n))
else
j2 h f a g b a b
def Ns : Int → Int → UInt64 → UInt64 → UInt32 → Hh := Jg Jo
abbrev Bz := Option (Int × Int × UInt64 × UInt64)
def Akg (a b : Int) (f g : UInt64) : Bz :=
some (a, b, f, g)
def Zm : Int → Int → UInt64 → UInt64 → Bz := Akg
def Qp (j6 : Int → Int → UInt64 → UInt64 → Bz) (bk4 : Int → Int → Int → UInt64 → UInt64 → Bz) (h : Int) (k : LU) (m a b : Int) (f g : UInt64) : Bz :=
if (Df m (Ac k)) then
(getI k m).bind fun n =>
(Ns a b f g n).bind fun (o, p, u, v) =>
bk4 (Ae m h) o p u v
else
j6 a b f g
def Gf (h : Int) (k : LU) : Nat → Int → Int → Int → UInt64 → UInt64 → Bz
| 0, _, _, _, _, _ => none
| q + 1, m, a, b, f, g => Qp Zm (Gf h k q) h k m a b f g
def Ys (h : Int) (k : LU) : Int → Int → Int → UInt64 → UInt64 → Bz := Gf h k Ba
def Qi (j4 : Int → LU → Int → Int → Int → UInt64 → UInt64 → Bz) (h : Int) (k : LU) : Bz :=
(Hn).bind fun (w, y, aa, ab) =>
(Re (Ct h 0)).bind fun _ =>
j4 h k (It (Ac k) h) w y aa ab
def Jc : Int → LU → Bz := Qi Ys
def Aga (a : Int) : Option Int :=
some (It a 2)
def Xh : Int → Option Int := Aga
def Pw (j6 : Int → Option Int) (bk4 : Int → Int → Option Int) (b a f : Int) : Option Int :=
if (Df f (It b 8)) then
bk4 (Cu a 2) (Ae f 1)
else
j6 a
def Hr (b : Int) : Nat → Int → Int → Option Int
| 0, _, _ => none
| q + 1, a, f => Pw Xh (Hr b q) b a f
def Xp (b : Int) : Int → Int → Option Int := Hr b Ba
def Xq (j4 : Int → Int → Int → Option Int) (g : LB) (k b : Int) : Option Int :=
(getI g (Cu b 8)).bind fun h =>
j4 b (Ad h : Int) 0
def Gy : LB → Int → Int → Option Int := Xq Xp
abbrev Bo := Option (LB × Int)
def Aef (b g a : Int) (f : LB) : Bo :=
(getI f (Cu a 8)).bind fun _ =>
(getI f (Cu a 8)).bind fun m =>
(getI f (Cu a 8)).bind fun _ =>
(Pd f (Cu a 8) (Ae m (Ad (Bj b g) : UInt8))).bind fun n =>
some (n, (Ae a 1))
def Nv : Int → Int → Int → LB → Bo := Aef
def Ni (j8 : Int → Int → Int → LB → Bo) (bk6 : Int → Int → Bo) (b a : Int) (f : LB) (g h : Int) : Bo :=
if (Df h (It a 8)) then
bk6 (Bj g 2) (Ae h 1)
else
j8 b g a f
def Gp (b a : Int) (f : LB) : Nat → Int → Int → Bo
| 0, _, _ => none
| q + 1, g, h => Ni Nv (Gp b a f q) b a f g h
def Vt (b a : Int) (f : LB) : Int → Int → Bo := Gp b a f Ba
def We (j6 : Int → Int → LB → Int → Int → Bo) (b a : Int) (f : LB) : Bo :=
j6 b a f 1 0
def Nl : Int → Int → LB → Bo := We Vt
def Vq (j5 : Int → Int → LB → Bo) (k : LB) (a b : Int) : Bo :=
if (geq (It a 8) 0) then
(Hz k ([(0 : UInt8)] : LB)).bind fun o =>
j5 b a o
else
j5 b a k
def Oz : LB → Int → Int → Bo := Vq Nl
abbrev Br := Option (LB × Int)
def Ai0 (a : Int) (b : LB) : Br :=
some (b, a)
def Yh : Int → LB → Br := Ai0
def Ih (j6 : Int → LB → Br) (bk4 : Int → Int → LB → Br) (f : Int) (g : LB) (h k a : Int) (b : LB) : Br :=
if (Df k f) then
(Gy g h k).bind fun m =>
(Oz b a m).bind fun (n, o) =>
bk4 (Ae k 1) o n
else
j6 a b
def El (f : Int) (g : LB) (h : Int) : Nat → Int → Int → LB → Br
| 0, _, _, _ => none
| q + 1, k, a, b => Ih Yh (El f g h q) f g h k a b
def Ya (f : Int) (g : LB) (h : Int) : Int → Int → LB → Br := El f g h Ba
def Yl (j4 : Int → LB → Int → Int → Int → LB → Br) (g : LB) (h p f : Int) : Br :=
j4 f g h p 0 ([] : LB)
def Ux : LB → Int → Int → Int → Br := Yl Ya
def Ald (a : UInt64) : Option UInt64 :=
some a
def Aaz : UInt64 → Option UInt64 := Ald
def Kz (j6 : UInt64 → Option UInt64) (bk4 : UInt64 → Int → Option UInt64) (b : Int) (f : LB) (g : Int) (a : UInt64) (h : Int) : Option UInt64 :=
if (Pr h 0) then
(Gy f g (Ae b h)).bind fun k =>
bk4 (Ae (Bj 2 a) (Ad k : UInt64)) (Ak h 1)
else
j6 a
def Fl (b : Int) (f : LB) (g : Int) : Nat → UInt64 → Int → Option UInt64
| 0, _, _ => none
| q + 1, a, h => Kz Aaz (Fl b f g q) b f g a h
def Rq (b : Int) (f : LB) (g : Int) : UInt64 → Int → Option UInt64 := Fl b f g Ba
def Rm (j4 : Int → LB → Int → UInt64 → Int → Option UInt64) (f : LB) (g b m : Int) : Option UInt64 :=
j4 b f g 0 (Ak m 1)
def Jv : LB → Int → Int → Int → Option UInt64 := Rm Rq
abbrev Db := Option (Int × Int)
def Aeh (b a : Int) (g : LB) (f : Int) : Db :=
if (geq a 48) then
some (a, (Ae b a))
else
if (Pr (Ae b a) f) then
some ((-1 : Int), 0)
else
some (a, (Ae (Ae b a) 1))
def Nh : Int → Int → LB → Int → Db := Aeh
def Nj (j6 : Int → Int → LB → Int → Db) (bk4 : Int → Db) (b : Int) (g : LB) (f a : Int) : Db :=
if ((Df (Ae b a) f) && (Df a 48)) then
(Gy g f (Ae b a)).bind fun h =>
if (geq h 1) then
bk4 (Ae a 1)
else
j6 b a g f
else
j6 b a g f
def Gq (b : Int) (g : LB) (f : Int) : Nat → Int → Db
| 0, _ => none
| q + 1, a => Nj Nh (Gq b g f q) b g f a
def Aeo (b : Int) (g : LB) (f : Int) : Int → Db := Gq b g f Ba
def Aeg (j4 : Int → LB → Int → Int → Db) (g : LB) (f b : Int) : Db :=
j4 b g f 0
def Abx : LB → Int → Int → Db := Aeg Aeo
def Sy (b : UInt32) (f : Int) : Option Int :=
(Dr f).bind fun a =>
(Re (Ct a 0)).bind fun _ =>
some (Ad (Gd 48 (Cu (Ad b : UInt64) a)) : Int)
abbrev Jy := Option (UInt32 × Int × Int)
def Wc (g a b : Int) (h : LB) (f k : Int) : Jy :=
if ((Df a 0) || (Df (Ak f b) k)) then
some (0, 0, 24)
else
(Jv h f b k).bind fun m =>
if (Df a 48) then
(Dr g).bind fun o =>
some ((Ad (Ae (Bj (Ad a : UInt64) o) m) : UInt32), (Ae b k), 0)
else
(Sy (Ad m : UInt32) g).bind fun p =>
if (Df p a) then
some (0, 0, 12)
else
some ((Ad m : UInt32), (Ae b k), 0)
def Nm : Int → Int → Int → LB → Int → Int → Jy := Wc
def Vx (j2 : Int → Int → Int → LB → Int → Int → Jy) (h : LB) (f n g : Int) : Jy :=
if (Pr n f) then
some (0, 0, 24)
else
(Abx h f n).bind fun (a, b) =>
if (geq a 48) then
j2 g a b h f 32
else
j2 g a b h f g
def Vc : LB → Int → Int → Int → Jy := Vx Nm
def Vi (g : LB) (b a f n : Int) (v w : UInt64) : Option (UInt32 × Int × Int) :=
if (Pr a b) then
some (0, 0, 24)
else
(Gy g b a).bind fun o =>
if (geq o 0) then
if (Df (Ak (Ak b a) 1) f) then
some (0, 0, 24)
else
(Jv g b (Ae a 1) f).bind fun p =>
some ((Ad p : UInt32), (Ae (Ae a 1) f), 0)
else
(Vc g b (Ae a 1) n).bind fun (h, u, k) =>
if (Ct k 0) then
some (0, 0, k)
else
(Dr f).bind fun m =>
if (Hp (Ae (Ad h : UInt64) m) 4294967295) then
some (0, 0, 12)
else
some ((Ad (Ae (Ad h : UInt64) m) : UInt32), u, 0)
abbrev Ap := Option (LU × Int)
def Ali (b : LU) : Ap :=
some (b, 0)
def Aba : LU → Ap := Ali
def Kx (j18 : LU → Ap) (bk16 : Int → Ap) (a : LB) (b : LU) (m : Int) : Ap :=
if (Df m (Bj 8 (Ac a))) then
(Gy a (Bj 8 (Ac a)) m).bind fun n =>
if (Ct n 0) then
some (b, 12)
else
bk16 (Ae m 1)
else
j18 b
def Fj (a : LB) (b : LU) : Nat → Int → Ap
| 0, _ => none
| q + 1, m => Kx Aba (Fj a b q) a b m
def Ry (a : LB) (b : LU) : Int → Ap := Fj a b Ba
def Rj (j16 : LB → LU → Int → Ap) (f : Int) (a : LB) (b : LU) : Ap :=
if (Hp (Ak (Bj 8 (Ac a)) f) 7) then
some (b, 12)
else
j16 a b f
def Ky : Int → LB → LU → Ap := Rj Ry
def Aa1 (bk10 : Int → Int → LU → Ap) (g h : Int) (a : LB) (f k : Int) (b : LU) (o p : Int) (u v : UInt64) : Ap :=
(Ux a (Bj 8 (Ac a)) f (Gd (Ae f 81) (Bj 8 (Ac a)))).bind fun (y, aa) =>
(Vi y aa 0 o p u v).bind fun (ab, ac, w) =>
if (Ct w 0) then
some (b, w)
else
(Hz b ([ab] : LU)).bind fun ad =>
bk10 (Ae f ac) (Ae k 1) ad
def Fc (bk10 : Int → Int → LU → Ap) : Int → Int → LB → Int → Int → LU → Int → Int → UInt64 → UInt64 → Ap := Aa1 bk10
def Rs (j13 : Int → Int → LU → Int → Int → UInt64 → UInt64 → Ap) (j15 : Int → LB → LU → Ap) (g h : Int) (a : LB) (f k : Int) (b : LU) : Ap :=
if (Df k (Bj h g)) then
(Hn).bind fun (n, ae, af, ag) =>
if (Pr k g) then
(Jc g b).bind fun (ah, ai, aj, ak) =>
j13 f k b ah ai aj ak
else
j13 f k b n ae af ag
else
j15 f a b
def Dg (g h : Int) (a : LB) : Nat → Int → Int → LU → Ap
| 0, _, _, _ => none
| q + 1, f, k, b => Rs (Fc (Dg g h a q) g h a) Ky g h a f k b
def Aav (g h : Int) (a : LB) : Int → Int → LU → Ap := Dg g h a Ba
def Ut (j10 : Int → Int → LB → Int → Int → LU → Ap) (g h : Int) (a : LB) : Ap :=
j10 g h a 0 0 ([] : LU)
def Sp : Int → Int → LB → Ap := Ut Aav
def Afs (a : Int) : Option (Int × Int) :=
if (geq a 8) then
some (4, 0)
else
if ((geq a 16) || (geq a 24)) then
some (5, 0)
else
some (0, 2)
def Aij (a : Int) (b : LX) : Option (Int × LX × LX × Int) :=
(Afs a).bind fun (g, f) =>
if (Ct f 0) then
some (0, (List.replicate 16 (0 : Int32)), (List.replicate 16 (0 : Int32)), 2)
else
if (geq a 16) then
some (9, b, (List.replicate 16 (0 : Int32)), 0)
else
some (10, b, (List.replicate 16 (0 : Int32)), 0)
def Abr (a : Int) (b : LX) : Option (Int × Int32 × Int × LX × LX × Int) :=
(Aij a b).bind fun (f, g, h, k) =>
if (Ct k 0) then
some (0, 0, 0, (List.replicate 16 (0 : Int32)), (List.replicate 16 (0 : Int32)), 2)
else
some (a, 0, f, g, h, 0)
def Il (a : UInt32) : Option Int32 :=
if (geq (Yq a 2) 0) then
some (Ad (Cu a 2) : Int32)
else
some (Ad (Cu (Aqk (Ae (Ad a : Int) 1)) 2) : Int32)
def Bn (a : Int) : Option Int32 :=
some (Ad (Ad (Ad a : UInt64) : UInt32) : Int32)
def Aek (a : Int) : Option Int32 :=
some (Ad a : Int32)
def Vr : Int → Option Int32 := Aek
def Np (j6 : Int → Option Int32) (bk4 : Int → Int → Option Int32) (h : Int) (f g : LX) (a b : Int) : Option Int32 :=
if (Df b 16) then
(getI f b).bind fun _ =>
(getI g b).bind fun _ =>
(getI f b).bind fun k =>
(getI g b).bind fun m =>
(Bn (Bj (Ad k : Int) (Ad m : Int))).bind fun n =>
(Bn (Ae a (Ad n : Int))).bind fun o =>
bk4 (Ad o : Int) (Ae b 1)
else
j6 a
def Gn (h : Int) (f g : LX) : Nat → Int → Int → Option Int32
| 0, _, _ => none
| q + 1, a, b => Np Vr (Gn h f g q) h f g a b
def Aej (h : Int) (f g : LX) : Int → Int → Option Int32 := Gn h f g Ba
def Aeb (j4 : Int → LX → LX → Int → Int → Option Int32) (h : Int) (f g : LX) : Option Int32 :=
j4 h f g 0 0
def Abh : Int → LX → LX → Option Int32 := Aeb Aej
def Acm (b : Int) (f g : LX) (a : Int) : Option Int32 :=
(Abh b f g).bind fun k =>
(Bn (Ae (Ad k : Int) (Cu a 2))).bind fun h =>
(Re (Ct a 0)).bind fun _ =>
(Re (Ct a 0)).bind fun _ =>
if (Df (It (Ad h : Int) a) 0) then
some (Ad (Ak (Cu (Ad h : Int) a) 1) : Int32)
else
some (Ad (Cu (Ad h : Int) a) : Int32)
def Mn : Int → LX → LX → Int → Option Int32 := Acm
def Uo (j2 : Int → LX → LX → Int → Option Int32) (b : Int) (f g : LX) : Option Int32 :=
if (geq b 9) then
j2 b f g 512
else
j2 b f g 1024
def Sr : Int → LX → LX → Option Int32 := Uo Mn
def Tm (a : Int) : Option Int32 :=
if (geq a 0) then
some 4
else
if (gle a 3) then
some 2
else
some 1
def Mr (a : Int32) : Option Int32 :=
if (Df a 0) then
some (-1 : Int32)
else
if (Hp a 0) then
some 1
else
some 0
abbrev Bq := Option (Int × LX × LX)
def Ai5 (g : Int) (b a : LX) : Bq :=
some (g, b, a)
def Xx : Int → LX → LX → Bq := Ai5
def Ik (j6 : Int → LX → LX → Bq) (bk4 : Int → LX → Bq) (h : Int32) (g : Int) (a : LX) (f : Int) (b : LX) : Bq :=
if (Df f 16) then
(getI b f).bind fun _ =>
(getI a f).bind fun _ =>
(getI b f).bind fun k =>
(getI a f).bind fun m =>
(Tm f).bind fun n =>
(Mr m).bind fun o =>
(Mr h).bind fun p =>
(getI b f).bind fun _ =>
(Pd b f (Ae k (Bj (Bj n o) p))).bind fun u =>
bk4 (Ae f 1) u
else
j6 g b a
def Eh (h : Int32) (g : Int) (a : LX) : Nat → Int → LX → Bq
| 0, _, _ => none
| q + 1, f, b => Ik Xx (Eh h g a q) h g a f b
def Xw (h : Int32) (g : Int) (a : LX) : Int → LX → Bq := Eh h g a Ba
def Yd (j4 : Int32 → Int → LX → Int → LX → Bq) (g : Int) (v a : LX) (h : Int32) : Bq :=
j4 h g a 0 v
def Uh : Int → LX → LX → Int32 → Bq := Yd Xw
abbrev By := Option (Int × LX × LX)
def Aad (b : Int32) (f : Int) (g a : LX) : By :=
(getI a 0).bind fun _ =>
(Pd a 0 b).bind fun k =>
some (f, g, k)
def Py : Int32 → Int → LX → LX → By := Aad
def Jh (j6 : Int32 → Int → LX → LX → By) (bk4 : Int → LX → By) (b : Int32) (f : Int) (g : LX) (h : Int) (a : LX) : By :=
if (Hp h 0) then
(getI a (Ak h 1)).bind fun _ =>
(getI a (Ak h 1)).bind fun m =>
(getI a h).bind fun _ =>
(Pd a h m).bind fun n =>
bk4 (Ak h 1) n
else
j6 b f g a
def Et (b : Int32) (f : Int) (g : LX) : Nat → Int → LX → By
| 0, _, _ => none
| q + 1, h, a => Jh Py (Et b f g q) b f g h a
def Zl (b : Int32) (f : Int) (g : LX) : Int → LX → By := Et b f g Ba
def Zo (j4 : Int32 → Int → LX → Int → LX → By) (f : Int) (g o : LX) (b : Int32) : By :=
j4 b f g 15 o
def Vo : Int → LX → LX → Int32 → By := Zo Zl
def Lt (a : Int) (b f : LX) (g : Int32) : Option (Int32 × Int × LX × LX) :=
(Sr a b f).bind fun k =>
(Bn (Ae (Ad g : Int) (Ad k : Int))).bind fun h =>
(Uh a b f g).bind fun (m, n, o) =>
(Vo m n o h).bind fun (p, u, v) =>
some (h, p, u, v)
def Zz (b : Int32) (a : Int) : Option Int32 :=
(Re (Ct a 0)).bind fun _ =>
(Re (Ct a 0)).bind fun _ =>
if (Df (It (Bj (Ak a 1) (Ad b : Int)) a) 0) then
some (Ad (Ak (Cu (Bj (Ak a 1) (Ad b : Int)) a) 1) : Int32)
else
some (Ad (Cu (Bj (Ak a 1) (Ad b : Int)) a) : Int32)
def Jp : Int32 → Int → Option Int32 := Zz
def Po (j2 : Int32 → Int → Option Int32) (f : Int) (b : Int32) : Option Int32 :=
if (geq f 5) then
j2 b 32
else
j2 b 16
def Jd : Int → Int32 → Option Int32 := Po Jp
def Nn (b : Int) (a : Int32) (h : Int) (k m : LX) : Option Int :=
if (geq b 8) then
(Jd 4 a).bind fun f =>
some (Ad f : Int)
else
(Jd 5 a).bind fun g =>
some (Ad g : Int)
def Fx (a : Int) (k : Int32) (b : Int) (f g : LX) (m : Int32) : Option (Int32 × Int × Int32 × Int × LX × LX) :=
(Lt b f g m).bind fun (n, o, p, u) =>
(Nn a k b f g).bind fun v =>
(Bn (Ae (Ad n : Int) v)).bind fun h =>
some (h, a, h, o, p, u)
def Ka (a : Int) (b : LX) : Option Int :=
if ((Df a 1) || (Hp a 6)) then
some 2
else
if (Hp (Ac b) 4000) then
some 4
else
(Re (Ct a 0)).bind fun _ =>
if (Hp (It (Ac b) a) 0) then
some 2
else
some 0
def Aiv (b : LX) : Option (LX) :=
some b
def Yp : LX → Option (LX) := Aiv
def Im (j8 : LX → Option (LX)) (bk6 : Int → LX → Option (LX)) (a : LX) (f : Int) (b : LX) : Option (LX) :=
if (Pr f 0) then
(getI b (Ae f 1)).bind fun _ =>
(getI a f).bind fun m =>
(getI b (Ae f 1)).bind fun n =>
(Bn (Ak (Ad n : Int) (Ad m : Int))).bind fun o =>
(getI b f).bind fun _ =>
(Pd b f o).bind fun p =>
bk6 (Ak f 1) p
else
j8 b
def Ej (a : LX) : Nat → Int → LX → Option (LX)
| 0, _, _ => none
| q + 1, f, b => Im Yp (Ej a q) a f b
def Ym (a : LX) : Int → LX → Option (LX) := Ej a Ba
def Ox (j6 : LX → Int → LX → Option (LX)) (a g : LX) : Option (LX) :=
j6 a (Ak (Ac a) 2) g
def Ir : LX → LX → Option (LX) := Ox Ym
def Ok (j5 : LX → LX → Option (LX)) (a : LX) : Option (LX) :=
(mkI (Ac a) (0 : Int32)).bind fun k =>
(Re (geq (Ac a) (Ac a))).bind fun _ =>
(getI a (Ak (Ac a) 1)).bind fun u =>
(getI k (Ak (Ac a) 1)).bind fun _ =>
(Pd k (Ak (Ac a) 1) u).bind fun h =>
if (Hp (Ac a) 1) then
(getI a (Ak (Ac a) 1)).bind fun v =>
(getI a (Ak (Ac a) 2)).bind fun w =>
(Bn (Ae (Ad v : Int) (Cu (Ad w : Int) 2))).bind fun y =>
(getI h (Ak (Ac a) 1)).bind fun _ =>
(Pd h (Ak (Ac a) 1) y).bind fun aa =>
j5 a aa
else
j5 a h
def Ma : LX → Option (LX) := Ok Ir
abbrev Cr := Option (LX × Int)
def Amw (f : LX) : Cr :=
some (f, 0)
def Ac1 : LX → Cr := Amw
def Ue (j6 : LX → Cr) (bk4 : Int → LX → Cr) (a : Int) (b : LX) (g : Int) (f : LX) : Cr :=
if (Df g (Ac b)) then
(Ca b g (Ae g a)).bind fun h =>
(Ma h).bind fun k =>
(Hz f k).bind fun m =>
bk4 (Ae g a) m
else
j6 f
def Ia (a : Int) (b : LX) : Nat → Int → LX → Cr
| 0, _, _ => none
| q + 1, g, f => Ue Ac1 (Ia a b q) a b g f
def Adb (a : Int) (b : LX) : Int → LX → Cr := Ia a b Ba
def Uw (j4 : Int → LX → Int → LX → Cr) (a : Int) (b : LX) : Cr :=
(Ka a b).bind fun n =>
if (Ct n 0) then
(Ka a b).bind fun o =>
some (([] : LX), o)
else
j4 a b 0 ([] : LX)
def Th : Int → LX → Cr := Uw Adb
def Yn (a f : Int) (w : LX) : Option (LX) :=
(Th a w).bind fun (aj, ai) =>
some aj
def Ii : Int → Int → LX → Option (LX) := Yn
def Ye (bk18 : Int → LX → Option (LX)) (b : LU) (a f : Int) (g : LX) (h : Int) (m : LX) : Option (LX) :=
bk18 (Ae h 1) m
def Ou (bk18 : Int → LX → Option (LX)) : LU → Int → Int → LX → Int → LX → Option (LX) := Ye bk18
def Xv (bk26 : Int → LX → Int → Int32 → Int → LX → LX → Option (LX)) (b : LU) (h a f : Int) (g : LX) (k : Int) (af : LX) (y : Int) (aa : Int32) (ab : Int) (ac ad : LX) : Option (LX) :=
bk26 (Ae k a) af y aa ab ac ad
def Og (bk26 : Int → LX → Int → Int32 → Int → LX → LX → Option (LX)) : LU → Int → Int → Int → LX → Int → LX → Int → Int32 → Int → LX → LX → Option (LX) := Xv bk26
def Od (j30 : Int → LX → Int → Int32 → Int → LX → LX → Option (LX)) (b : LU) (h a f : Int) (g : LX) (k : Int) (ae : Int32) (m : LX) (n : Int) (o : Int32) (p : Int) (u v : LX) (y : Int) (aa : Int32) (ab : Int) (ac ad : LX) : Option (LX) :=
(getI m k).bind fun _ =>
(Pd m k ae).bind fun af =>
j30 k af y aa ab ac ad
def Pc (bk26 : Int → LX → Int → Int32 → Int → LX → LX → Option (LX)) (b : LU) (h a f : Int) (g : LX) : Int → Int32 → LX → Int → Int32 → Int → LX → LX → Int → Int32 → Int → LX → LX → Option (LX) := Od (Og bk26 b h a f g) b h a f g
def Ig (j29 : Int → Int32 → LX → Int → Int32 → Int → LX → LX → Int → Int32 → Int → LX → LX → Option (LX)) (j32 : Int → LX → Option (LX)) (b : LU) (a f : Int) (g : LX) (h k : Int) (m : LX) (n : Int) (o : Int32) (p : Int) (u v : LX) : Option (LX) :=
if (Df k (Ac b)) then
(getI b k).bind fun ah =>
(
(Il ah).bind fun ag =>
(
(Fx n o p u v ag).bind fun (ae, y, aa, ab, ac, ad) =>
j29 k ae m n o p u v y aa ab ac ad))
else
j32 h m
def Fz (bk18 : Int → LX → Option (LX)) (b : LU) (a f : Int) (g : LX) (h : Int) : Nat → Int → LX → Int → Int32 → Int → LX → LX → Option (LX)
| 0, _, _, _, _, _, _, _ => none
| q + 1, k, m, n, o, p, u, v => Ig (Pc (Fz bk18 b a f g h q) b h a f g) (Ou bk18 b a f g) b a f g h k m n o p u v
def On (bk18 : Int → LX → Option (LX)) (b : LU) (a f : Int) (g : LX) (h : Int) : Int → LX → Int → Int32 → Int → LX → LX → Option (LX) := Fz bk18 b a f g h Ba
def Iq (j26 : Int → Int → LX → Int → Int32 → Int → LX → LX → Option (LX)) (j34 : Int → Int → LX → Option (LX)) (b : LU) (a f : Int) (g : LX) (h : Int) (w : LX) : Option (LX) :=
if (Df h a) then
(Abr f g).bind fun (ak, ai, al, am, an, ap) =>
j26 h h w ak ai al am an
else
j34 a f w
def Dj (b : LU) (a f : Int) (g : LX) : Nat → Int → LX → Option (LX)
| 0, _, _ => none
| q + 1, h, w => Iq (On (Dj b a f g q) b a f g) Ii b a f g h w
def Oy (b : LU) (a f : Int) (g : LX) : Int → LX → Option (LX) := Dj b a f g Ba
def Qn (j18 : LU → Int → Int → LX → Int → LX → Option (LX)) (a f : Int) (g : LX) (b : LU) : Option (LX) :=
(mkI (Ac b) (0 : Int32)).bind fun ao =>
(Re (geq (Ac b) (Ac b))).bind fun _ =>
j18 b a f g 0 ao
def Cp : Int → Int → LX → LU → Option (LX) := Qn Oy
def Alj : Option Int :=
some 0
def Aay : Option Int := Alj
def Dz (j6 : Option Int) (bk4 : Int → Option Int) (a : LX) (b f : Int) : Option Int :=
if (Df f (Ac a)) then
(getI a f).bind fun g =>
if (Df (Ad g : Int) (Aqk b)) then
some 16
else
(getI a f).bind fun h =>
if (Pr (Ad h : Int) b) then
some 16
else
bk4 (Ae f 1)
else
j6
def Bm (a : LX) (b : Int) : Nat → Int → Option Int
| 0, _ => none
| q + 1, f => Dz Aay (Bm a b q) a b f
def Aau (a : LX) (b : Int) : Int → Option Int := Bm a b Ba
def Hj (j4 : LX → Int → Int → Option Int) (k : Int) (a : LX) : Option Int :=
(Mh k).bind fun b =>
if (geq b 0) then
some 2
else
if (Hp (Ac a) 4000) then
some 4
else
j4 a b 0
def cadenzaref18_Check : Int → LX → Option Int := Hj Aau
def Di (g f : Int) (a : LX) : Option (LX × Int) :=
(cadenzaref18_Check f a).bind fun b =>
if (Ct b 0) then
some (([] : LX), b)
else
some (a, 0)
abbrev Hg := Option (LX × Int)
def Gm (n a b : Int) (f : LX) (g : LU) : Hg :=
if (Ct n 0) then
some (([] : LX), n)
else
(
(
(Cp a b f g).bind fun h =>
(Di a b h).bind fun (k, m) =>
some (k, m)))
def Jj : Int → Int → Int → LX → LU → Hg := Gm
def Qg (j2 : Int → Int → Int → LX → LU → Hg) (a b : Int) (f : LX) (p : Int) (o : LB) : Hg :=
(Qf a b p).bind fun u =>
if (Ct u 0) then
some (([] : LX), 2)
else
(Ja o).bind fun v =>
if (Ct v 0) then
(Ja o).bind fun w =>
some (([] : LX), w)
else
(Ca o 0 (Ak (Ac o) 4)).bind fun y =>
(Sp a p y).bind fun (g, n) =>
j2 n a b f g
def cadenzaref21_Decode : Int → Int → LX → Int → LB → Hg := Qg Jj
def Wb (a b : Int) : Option (LB) :=
if (geq a 24) then
(Hz ([(Ad (It b 256) : UInt8), (Ad (It (Cu b 256) 256) : UInt8)] : LB) ([(Ad (Cu b 65536) : UInt8)] : LB)).bind fun g =>
some g
else
some ([(Ad (It b 256) : UInt8), (Ad (It (Cu b 256) 256) : UInt8)] : LB)
def Gt : Int → Int → Option (LB) := Wb
def Wa (j2 : Int → Int → Option (LB)) (a : Int) (f : Int32) : Option (LB) :=
if (geq a 8) then
some ([(Ad (Ae (Ad f : Int) 128) : UInt8)] : LB)
else
if (Df (Ad f : Int) 0) then
(Mh a).bind fun h =>
j2 a (Ae (Ad f : Int) (Bj 2 h))
else
j2 a (Ad f : Int)
def Vd : Int → Int32 → Option (LB) := Wa Gt
abbrev Ch := Option (LB × Int)
def Alc (b : LB) : Ch :=
some (b, 0)
def Aa0 : LB → Ch := Alc
def Kl (j6 : LB → Ch) (bk4 : Int → LB → Ch) (f : Int) (a : LX) (g : Int) (b : LB) : Ch :=
if (Df g (Ac a)) then
(getI a g).bind fun h =>
(Vd f h).bind fun k =>
(Hz b k).bind fun m =>
bk4 (Ae g 1) m
else
j6 b
def Fb (f : Int) (a : LX) : Nat → Int → LB → Ch
| 0, _, _ => none
| q + 1, g, b => Kl Aa0 (Fb f a q) f a g b
def Aa4 (f : Int) (a : LX) : Int → LB → Ch := Fb f a Ba
def Ru (j4 : Int → LX → Int → LB → Ch) (f : Int) (a : LX) : Ch :=
(cadenzaref18_Check f a).bind fun n =>
if (Ct n 0) then
(cadenzaref18_Check f a).bind fun o =>
some (([] : LB), o)
else
j4 f a 0 ([] : LB)
def Qj : Int → LX → Ch := Ru Aa4
abbrev Kc := Option (LB × Int)
def Aen (p : LX) (m n g b h k o : Int) (a : LI) : Kc :=
if (Ct m 0) then
some (([] : LB), m)
else
(Qj b p).bind fun (af, ah) =>
some (af, 0)
def Wd : LX → Int → Int → Int → Int → Int → Int → Int → LI → Kc := Aen
def Nx (j2 : LX → Int → Int → Int → Int → Int → Int → Int → LI → Kc) (v y : LB) (n g b h k o : Int) (a : LI) (f : Int) : Kc :=
(Kh n g b h k o a f).bind fun u =>
(getI a f).bind fun aa =>
if (Df (Ak (Ac v) u) aa) then
some (([] : LB), 24)
else
(Mb y).bind fun (ab, ag) =>
(getI a f).bind fun ac =>
(Ca v u (Ae u ac)).bind fun ad =>
(
(Dt h k).bind fun w =>
(getI w f).bind fun _ =>
(getI w f).bind fun ae =>
(cadenzaref21_Decode g b ab ae ad).bind fun (p, m) =>
j2 p m n g b h k o a)
def cadenzaref40_Got : LB → LB → Int → Int → Int → Int → Int → Int → LI → Int → Kc := Nx Wd
abbrev Cd := Option (Int × Int)
def Uu (a : LB) (f g : Int) (b h : LB) (k : Int) : Cd :=
if (Df (Ac a) k) then
some (0, 24)
else
if (b == h) then
(Ca a (Ak (Ac a) k) (Ae (Ak (Ac a) k) 32)).bind fun o =>
(Lz f g).bind fun p =>
if (o != p) then
some (0, 12)
else
some (k, 0)
else
some (k, 0)
def Lw : LB → Int → Int → LB → LB → Int → Cd := Uu
def Mf (j6 : LB → Int → Int → LB → LB → Int → Cd) (a : LB) (f g : Int) (b h : LB) : Cd :=
if (b == h) then
j6 a f g b h (Ae (Ae 32 f) 32)
else
j6 a f g b h (Ae 32 f)
def Mm : LB → Int → Int → LB → LB → Cd := Mf Lw
def Md (j5 : LB → Int → Int → LB → LB → Cd) (a : LB) : Cd :=
(Ca a (Ak (Ac a) 32) (Ac a)).bind fun b =>
(Ij b).bind fun (f, g, n) =>
if (!n) then
some (0, 12)
else
(Dk f g true).bind fun h =>
(
if (!(b == h)) then
(Dk f g false).bind fun m =>
if (b != m) then
some (0, 12)
else
j5 a f g b h
else
j5 a f g b h)
def Ua : LB → Cd := Md Mm
def Tq (j4 : LB → Cd) (a : LB) : Cd :=
if (Df (Ac a) 32) then
some (0, 6)
else
(Ca a (Ak (Ac a) 32) (Ae (Ak (Ac a) 32) 8)).bind fun u =>
if (u != ([65, 80, 69, 84, 65, 71, 69, 88] : LB)) then
some (0, 6)
else
j4 a
def Tb : LB → Cd := Tq Ua
abbrev Bw := Option (Int × Int)
def Akh (a : Int) : Bw :=
some (a, 0)
def Yy : Int → Bw := Akh
def Ps (j6 : Int → Bw) (bk4 : LB → Int → Bw) (b : LB) (a : Int) : Bw :=
if (Hp (Ac b) 0) then
(Tb b).bind fun (g, h) =>
if (Ct h 0) then
some (0, 38)
else
(Ca b 0 (Ak (Ac b) g)).bind fun k =>
bk4 k (Ae a 1)
else
j6 a
def Gh : Nat → LB → Int → Bw
| 0, _, _ => none
| q + 1, b, a => Ps Yy (Gh q) b a
def Zd : LB → Int → Bw := Gh Ba
def Qo (j4 : LB → Int → Bw) (f : LB) : Bw :=
if (Hp (Ac f) 4000) then
some (0, 38)
else
j4 f 0
def Nr : LB → Bw := Qo Zd
abbrev Cq := Option (LB × Int)
def Acj (b : LB) (f g h k m n : Int) (a : LI) (o : LB) : Cq :=
(Kh f g h k m n a (Ac a)).bind fun w =>
(Ca b w (Ac b)).bind fun y =>
(Nr y).bind fun (ae, aa) =>
if (Ct aa 0) then
some (([] : LB), 38)
else
some (o, 0)
def Ug : LB → Int → Int → Int → Int → Int → Int → LI → LB → Cq := Acj
def Mp (j6 : LB → Int → Int → Int → Int → Int → Int → LI → LB → Cq) (bk4 : Int → LB → Cq) (b p : LB) (f g h k m n : Int) (a : LI) (u : Int) (o : LB) : Cq :=
if (Df u (Ac a)) then
(cadenzaref40_Got b p f g h k m n a u).bind fun (ab, v) =>
if (Ct v 0) then
some (([] : LB), v)
else
(Hz o ab).bind fun ac =>
bk4 (Ae u 1) ac
else
j6 b f g h k m n a o
def Fv (b p : LB) (f g h k m n : Int) (a : LI) : Nat → Int → LB → Cq
| 0, _, _ => none
| q + 1, u, o => Mp Ug (Fv b p f g h k m n a q) b p f g h k m n a u o
def Adi (b p : LB) (f g h k m n : Int) (a : LI) : Int → LB → Cq := Fv b p f g h k m n a Ba
def Ac4 (j4 : LB → LB → Int → Int → Int → Int → Int → Int → LI → Int → LB → Cq) (b p : LB) (f g h k m n : Int) (a : LI) (ad : Int) : Cq :=
j4 b p f g h k m n a ad ([] : LB)
def Tf : LB → LB → Int → Int → Int → Int → Int → Int → LI → Int → Cq := Ac4 Adi
def Gj (b f : LB) (a : Int) : Option (LB × Int) :=
(Ea b f).bind fun (k, m, n, o, p, u, g, h) =>
if (Ct h 0) then
some (([] : LB), h)
else
if ((Df a 0) || (Pr a (Ac g))) then
some (([] : LB), 2)
else
(Tf b f k m n o p u g a).bind fun (v, w) =>
some (v, w)
def Ahk (f g a : Int) : Option (Int × Int × Int) :=
(Qz f g).bind fun (k, h) =>
if (Ct h 0) then
some (0, 0, h)
else
if ((Df a 0) || (Pr a g)) then
some (0, 0, 2)
else
(Vf f).bind fun (b, m) =>
(Re (Ct b 0)).bind fun _ =>
(Re (Ct b 0)).bind fun _ =>
some ((Cu a b), (It a b), 0)
def Abt (f g : LB) (b : Int) : Option (LB × Int) :=
(seekto_Open f g).bind fun (aa, o, p, u, h, ab, ac, k) =>
if (Ct k 0) then
some (([] : LB), k)
else
if ((Df b 0) || (Pr b h)) then
some (([] : LB), 2)
else
(Ahk u h b).bind fun (v, w, m) =>
if (Ct m 0) then
some (([] : LB), m)
else
(Pf f g v).bind fun (a, n) =>
if (Ct n 0) then
some (([] : LB), n)
else
(Re (decide ((Ac a) ≤ (Ac a) ∧ (Ac a) ≤ Ac a))).bind fun _ =>
(Ca a (Cu (Bj (Bj w o) p) 8) (Ac a)).bind fun y =>
some (y, 0)
def Vu (a b : Int) : Option Int :=
some (Cu (Bj a b) 8)
abbrev Dl := Option (LB × Int)
def Af5 (f g : LB) (u a n h k m b o : Int) (p : LI) : Dl :=
(Tf f g n h k m b o p a).bind fun (y, aa) =>
if (Ct aa 0) then
some (([] : LB), aa)
else
(Vu h k).bind fun ac =>
(Ca y (Bj u ac) (Ac y)).bind fun ad =>
some (ad, 0)
def Ph : LB → LB → Int → Int → Int → Int → Int → Int → Int → Int → LI → Dl := Af5
def Qq (j6 : LB → LB → Int → Int → Int → Int → Int → Int → Int → Int → LI → Dl) (bk4 : Int → Int → Dl) (f g : LB) (n h k m b o : Int) (v p : LI) (u a : Int) : Dl :=
(getI v a).bind fun _ =>
(getI v a).bind fun ae =>
if (Pr u ae) then
(getI v a).bind fun _ =>
(getI v a).bind fun af =>
bk4 (Ak u af) (Ae a 1)
else
j6 f g u a n h k m b o p
def Hk (f g : LB) (n h k m b o : Int) (v p : LI) : Nat → Int → Int → Dl
| 0, _, _ => none
| q + 1, u, a => Qq Ph (Hk f g n h k m b o v p q) f g n h k m b o v p u a
def Xd (f g : LB) (n h k m b o : Int) (v p : LI) : Int → Int → Dl := Hk f g n h k m b o v p Ba
def Qm (j4 : LB → LB → Int → Int → Int → Int → Int → Int → LI → LI → Int → Int → Dl) (f g : LB) (w : Int) : Dl :=
(Ea f g).bind fun (n, h, k, m, b, o, p, ab) =>
if (Ct ab 0) then
some (([] : LB), ab)
else
if ((Df w 0) || (Pr w b)) then
some (([] : LB), 2)
else
(Dt m b).bind fun v =>
j4 f g n h k m b o v p w 0
def Is : LB → LB → Int → Dl := Qm Xd
def Om (a b : LB) (f g : Int) : Option Bool :=
(Aaa a).bind fun h =>
if (h || (Hp (Ac b) 100)) then
some true
else
(Pf a b f).bind fun (k, m) =>
(Gj a b f).bind fun (n, o) =>
(Abt a b g).bind fun (p, u) =>
(Is a b g).bind fun (v, w) =>
some ((((k == n) && (geq m o)) && (p == v)) && (geq u w))
end Go.Pl
