/- A part of the proof of a statement of this seat (see the text that ends in Proof): PbPure. No conditions of its own. -/
import Derived.Test.YthchpoekjnapnaaGreatDoorPbBA
set_option linter.unusedVariables false
namespace Go.Pl
open Go Go.Lv
abbrev LB := List UInt8
abbrev LI := List Int
abbrev LX := List Int32
abbrev LU := List UInt32
abbrev LQ := List UInt64
def Zp (a : LB) : Option Bool :=
some (((Hw (Ac a) 5000) && (Dm (Ac a) 12000)) || (Hw (Ac a) 12100))
def Jy (a b : LB) : Option Bool :=
some (a == b)
def Lu (b a : LB) : Option Bool :=
if (Qy (Ac b) (Ac a)) then
(Db b 0 (Ac a)).bind fun f =>
(Jy f a).bind fun g =>
some g
else
some false
abbrev Ev := Option (Int × Int)
def Ara (b : Int) : Ev :=
some (b, 0)
def Ai7 : Int → Ev := Ara
def Ux (j6 : Int → Ev) (bk4 : Int → Int → Ev) (a : LB) (b f : Int) : Ev :=
if (Dm f (Ac a)) then
(getI a f).bind fun g =>
if (Hw g 127) then
some (0, 12)
else
bk4 (gor (Dx b (GI.toZ (7 : UInt64)).toNat) (Ad g : Int)) (Ae f 1)
else
j6 b
def Ke (a : LB) : Nat → Int → Int → Ev
| 0, _, _ => none
| q + 1, b, f => Ux Ai7 (Ke a q) a b f
def Abn (a : LB) : Int → Int → Ev := Ke a Ba
def Abu (j4 : LB → Int → Int → Ev) (a : LB) : Ev :=
if (Cu (Ac a) 4) then
some (0, 2)
else
j4 a 0 0
def Aca : LB → Ev := Abu Abn
abbrev Cz := Option (Int × Int)
def Aku (a : LB) (b : UInt8) (h : Int) : Cz :=
if (Hw h 4000) then
some (0, 4)
else
if (Dm (Ac a) h) then
some (0, 24)
else
if (geq b 16) then
(Db a (Al h 10) h).bind fun k =>
(Db k 0 3).bind fun o =>
if (o != ([51, 68, 73] : LB)) then
some (0, 12)
else
(Db k 3 (Ac k)).bind fun p =>
(Db a 3 10).bind fun u =>
(Jy p u).bind fun v =>
if (!v) then
some (0, 12)
else
some (h, 0)
else
some (h, 0)
def Ww : LB → UInt8 → Int → Cz := Aku
def Ad3 (j8 : LB → UInt8 → Int → Cz) (a : LB) (g : Int) (b : UInt8) : Cz :=
if (geq b 16) then
j8 a b (Ae (Ae g 10) 10)
else
j8 a b (Ae g 10)
def Wu : LB → Int → UInt8 → Cz := Ad3 Ww
def Adn (j7 : LB → Int → UInt8 → Cz) (a : LB) (g : Int) (b : UInt8) (m : Bool) : Cz :=
if m then
some (0, 12)
else
j7 a g b
def Ado : LB → Int → UInt8 → Bool → Cz := Adn Wu
def Ad2 (j6 : LB → Int → UInt8 → Bool → Cz) (a : LB) (f b : UInt8) : Cz :=
(Db a 6 10).bind fun w =>
(Aca w).bind fun (g, y) =>
if (Cu y 0) then
if true then
j6 a g b true
else
if (geq b 0) then
j6 a g b (!((Qy f 2) && (gle f 4)))
else
if (geq b 16) then
j6 a g b (!(geq f 4))
else
j6 a g b (!false)
else
(getI a 4).bind fun aa =>
if (Cu aa 0) then
j6 a g b true
else
if (geq b 0) then
j6 a g b (!((Qy f 2) && (gle f 4)))
else
if (geq b 16) then
j6 a g b (!(geq f 4))
else
j6 a g b (!false)
def Adq : LB → UInt8 → UInt8 → Cz := Ad2 Ado
def Wz (j5 : LB → UInt8 → UInt8 → Cz) (a : LB) : Cz :=
(Lu a ([(73 : UInt8), (68 : UInt8), (51 : UInt8)] : LB)).bind fun n =>
if (!n) then
some (0, 6)
else
if (Dm (Ac a) 10) then
some (0, 24)
else
(getI a 3).bind fun f =>
(getI a 5).bind fun b =>
(
(
(
j5 a f b)))
def Ael : LB → Cz := Wz Adq
abbrev Nf := Option (UInt64 × Int)
def Ba8 (b : UInt64) : Nf :=
some (b, 0)
def Asc : UInt64 → Nf := Ba8
def Ag1 (j6 : UInt64 → Nf) (bk4 : UInt64 → Int → Nf) (a : LB) (b : UInt64) (f : Int) : Nf :=
if (Dm f (Ac a)) then
(getI a f).bind fun g =>
(Pn (Qy (Bi 8 f) 0)).bind fun _ =>
bk4 (gor b (Dx (Ad g : UInt64) (GI.toZ (Bi 8 f)).toNat)) (Ae f 1)
else
j6 b
def Yc (a : LB) : Nat → UInt64 → Int → Nf
| 0, _, _ => none
| q + 1, b, f => Ag1 Asc (Yc a q) a b f
def Amb (a : LB) : UInt64 → Int → Nf := Yc a Ba
def Al4 (j4 : LB → UInt64 → Int → Nf) (a : LB) : Nf :=
if ((Dm (Ac a) 1) || (Hw (Ac a) 8)) then
some (0, 2)
else
j4 a 0 0
def Al8 : LB → Nf := Al4 Amb
def Aif (f : LB) (a b : Int) : Option (UInt64 × Int) :=
if (((Dm b 1) || (Hw b 8)) || (Dm a 0)) then
some (0, 2)
else
if (Hw a (Al (Ac f) b)) then
some (0, 24)
else
(Db f a (Ae a b)).bind fun g =>
(Al8 g).bind fun (h, k) =>
some (h, k)
def As4 (b : UInt64) (a : Int) : Option Bool :=
if (geq a 8) then
some true
else
(Pn (Qy (Bi 8 a) 0)).bind fun _ =>
some (geq (Cq b (GI.toZ (Bi 8 a)).toNat) 0)
abbrev Ms := Option (LB × Int)
def Ar8 (a : LB) : Ms :=
some (a, 0)
def Alr : LB → Ms := Ar8
def Ag8 (j6 : LB → Ms) (bk4 : Int → LB → Ms) (f : UInt64) (g : LB) (b : Int) (a : LB) : Ms :=
if (Dm b (Ac g)) then
(Pn (Qy (Bi 8 b) 0)).bind fun _ =>
(getI a b).bind fun _ =>
(Pm a b (Ad (Cq f (GI.toZ (Bi 8 b)).toNat) : UInt8)).bind fun k =>
bk4 (Ae b 1) k
else
j6 a
def Xs (f : UInt64) (g : LB) : Nat → Int → LB → Ms
| 0, _, _ => none
| q + 1, b, a => Ag8 Alr (Xs f g q) f g b a
def Al7 (f : UInt64) (g : LB) : Int → LB → Ms := Xs f g Ba
def Ama (j4 : UInt64 → LB → Int → LB → Ms) (f : UInt64) (h : Int) : Ms :=
if ((Dm h 1) || (Hw h 8)) then
some (([] : LB), 2)
else
(As4 f h).bind fun m =>
if (!m) then
some (([] : LB), 16)
else
(mkI h (0 : UInt8)).bind fun g =>
(Pn (geq h h)).bind fun _ =>
j4 f g 0 g
def Alb : UInt64 → Int → Ms := Ama Al7
def Au2 (g : LB) : Option (LB) :=
some g
def Aoo : LB → Option (LB) := Au2
def Ajb (j6 : LB → Option (LB)) (bk4 : Int → LB → Option (LB)) (a b : Int) (f : UInt64) (h : Int) (g : LB) : Option (LB) :=
if (Dm h (Ac ([(2000 : UInt64), (Ad (Ae a 32) : UInt64), (Ad b : UInt64), f, (0 : UInt64), (0 : UInt64)] : LQ))) then
(getI ([(2000 : UInt64), (Ad (Ae a 32) : UInt64), (Ad b : UInt64), f, (0 : UInt64), (0 : UInt64)] : LQ) h).bind fun _ =>
(getI ([(2000 : UInt64), (Ad (Ae a 32) : UInt64), (Ad b : UInt64), f, (0 : UInt64), (0 : UInt64)] : LQ) h).bind fun k =>
(Alb k 4).bind fun (m, o) =>
(Gk g m).bind fun n =>
bk4 (Ae h 1) n
else
j6 g
def Xj (a b : Int) (f : UInt64) : Nat → Int → LB → Option (LB)
| 0, _, _ => none
| q + 1, h, g => Ajb Aoo (Xj a b f q) a b f h g
def Aon (a b : Int) (f : UInt64) : Int → LB → Option (LB) := Xj a b f Ba
def Aoj (j4 : Int → Int → UInt64 → Int → LB → Option (LB)) (a b : Int) (f : UInt64) : Option (LB) :=
j4 a b f 0 ([(65 : UInt8), (80 : UInt8), (69 : UInt8), (84 : UInt8), (65 : UInt8), (71 : UInt8), (69 : UInt8), (88 : UInt8)] : LB)
def Ap7 : Int → Int → UInt64 → Option (LB) := Aoj Aon
def Anf (b : LB) (g : UInt64) : Option (Int × Int × Bool) :=
(Aif b 12 4).bind fun (a, m) =>
(Aif b 16 4).bind fun (f, n) =>
if (((Dm a 32) || (Hw a 3032)) || (Hw f 1000)) then
some (0, 0, false)
else
(Ap7 (Al (Ad a : Int) 32) (Ad f : Int) g).bind fun h =>
(Jy b h).bind fun k =>
some ((Al (Ad a : Int) 32), (Ad f : Int), k)
def Amw (a : LB) : Option (Int × Int) :=
(Lu a ([(65 : UInt8), (80 : UInt8), (69 : UInt8), (84 : UInt8), (65 : UInt8), (71 : UInt8), (69 : UInt8), (88 : UInt8)] : LB)).bind fun f =>
if (!f) then
some (0, 6)
else
if (Dm (Ac a) 32) then
some (0, 24)
else
(Db a 0 32).bind fun g =>
(Anf g 2684354560).bind fun (b, h, k) =>
if (!k) then
some (0, 12)
else
if (Dm (Ac a) (Ae b 64)) then
some (0, 24)
else
(Db a (Al (Ae b 64) 32) (Ae b 64)).bind fun m =>
(Ap7 b h 2147483648).bind fun n =>
(Jy m n).bind fun o =>
if (!o) then
some (0, 12)
else
some ((Ae b 64), 0)
def Tn (a : LB) : Option (Int × Int) :=
(Ael a).bind fun (f, b) =>
if (Cu b 6) then
some (f, b)
else
(Amw a).bind fun (g, h) =>
some (g, h)
def Rc (b : List UInt8) : Nat → Int → Option (Int × Int)
  | 0, _ => none
  | q + 1, x => Option.bind (Db b x (Ac b)) fun s => Option.bind (Tn s) fun r =>
    if geq r.2 (6 : Int) = true then some (x, 0)
    else if (geq r.2 (0 : Int) && Hw (Ae x r.1) (4000 : Int)) = true then some (0, 4)
    else if Cu r.2 (0 : Int) = true then some (0, r.2)
    else Rc b q (Ae x r.1)
def Yo (b : List UInt8) : Option (Int × Int) := Rc b Ba 0
def Hq (b a : LB) : Option Bool :=
if (Qy (Ac b) (Ac a)) then
(Db b 0 (Ac a)).bind fun f =>
some (f == a)
else
some false
def Tj (a b : LB) : Option Bool :=
(Hq a b).bind fun f =>
some f
abbrev Au := Option (UInt32 × Int)
def Ale (h : UInt32) : Au :=
some (h, 0)
def Af4 : UInt32 → Au := Ale
def Aat (j30 : UInt32 → Au) (bk28 : UInt32 → Int → Au) (a : LB) (b : LU) (h : UInt32) (m : Int) : Au :=
if (Dm m (Ac a)) then
(getI a m).bind fun p =>
(getI b (GI.toZ (Wg (Ad h : UInt8) p))).bind fun _ =>
(getI b (GI.toZ (Wg (Ad h : UInt8) p))).bind fun u =>
bk28 (Wg (Cq h (GI.toZ (8 : UInt64)).toNat) u) (Ae m 1)
else
j30 h
def Oh (a : LB) (b : LU) : Nat → UInt32 → Int → Au
| 0, _, _ => none
| q + 1, h, m => Aat Af4 (Oh a b q) a b h m
def Agj (a : LB) (b : LU) : UInt32 → Int → Au := Oh a b Ba
def Af8 (j28 : LB → LU → UInt32 → Int → Au) (f : UInt32) (a : LB) (b : LU) : Au :=
j28 a b f 0
def Age : UInt32 → LB → LU → Au := Af8 Agj
def Af5 (j27 : UInt32 → LB → LU → Au) (f : UInt32) (a : LB) (b : LU) : Au :=
j27 f a b
def Zy : UInt32 → LB → LU → Au := Af5 Age
def Alu (bk16 : Int → LU → Au) (f : UInt32) (a : LB) (g : Int) (o : LU) : Au :=
bk16 (Ae g 1) o
def Afb (bk16 : Int → LU → Au) : UInt32 → LB → Int → LU → Au := Alu bk16
def Agc (j24 : Int → LU → Au) (f : UInt32) (a : LB) (g : Int) (k : UInt32) (b : LU) : Au :=
(getI b g).bind fun _ =>
(Pm b g k).bind fun o =>
j24 g o
def Zk (bk16 : Int → LU → Au) (f : UInt32) (a : LB) : Int → UInt32 → LU → Au := Agc (Afb bk16 f a) f a
def Aaq (j23 : Int → UInt32 → LU → Au) (bk21 : UInt32 → Int → Au) (f : UInt32) (a : LB) (g : Int) (b : LU) (k : UInt32) (n : Int) : Au :=
if (Dm n 8) then
bk21 (Wg (Cq k (GI.toZ (1 : UInt64)).toNat) (Bi 3988292384 (Hr k 1))) (Ae n 1)
else
j23 g k b
def Oy (bk16 : Int → LU → Au) (f : UInt32) (a : LB) (g : Int) (b : LU) : Nat → UInt32 → Int → Au
| 0, _, _ => none
| q + 1, k, n => Aaq (Zk bk16 f a) (Oy bk16 f a g b q) f a g b k n
def Agd (bk16 : Int → LU → Au) (f : UInt32) (a : LB) (g : Int) (b : LU) : UInt32 → Int → Au := Oy bk16 f a g b Ba
def Aab (j21 : Int → LU → UInt32 → Int → Au) (j26 : UInt32 → LB → LU → Au) (f : UInt32) (a : LB) (g : Int) (b : LU) : Au :=
if (Dm g 256) then
j21 g b (Ad g : UInt32) 0
else
j26 f a b
def Kh (f : UInt32) (a : LB) : Nat → Int → LU → Au
| 0, _, _ => none
| q + 1, g, b => Aab (Agd (Kh f a q) f a) Zy f a g b
def Afp (f : UInt32) (a : LB) : Int → LU → Au := Kh f a Ba
def Ah2 (j16 : UInt32 → LB → Int → LU → Au) (f : UInt32) (a : LB) : Au :=
if (Hw (Ac a) 100000) then
some (0, 4)
else
j16 f a 0 (List.replicate 256 (0 : UInt32))
def Akh : UInt32 → LB → Au := Ah2 Afp
def Ae0 (b : LB) : Option (UInt32 × Int) :=
(Akh 4294967295 b).bind fun (f, a) =>
if (Cu a 0) then
some (0, a)
else
some ((Avq f), 0)
def Aie (b f a g h : Int) : Option Bool :=
some (((((((geq b 1) || (geq b 2)) && (Hw f 0)) && (gle f 6)) && (Hw g 0)) && (gle g 1048576)) && (Hw h 0))
def Uy : Int → Int → Int → Int → Int → Option Bool := Aie
def Abm (j2 : Int → Int → Int → Int → Int → Option Bool) (b f a g h : Int) : Option Bool :=
if (geq a 8) then
if (geq a 8) then
j2 b f a g h
else
some false
else
if (geq a 16) then
if (geq a 16) then
j2 b f a g h
else
some false
else
if (geq a 24) then
j2 b f a g h
else
some false
def We : Int → Int → Int → Int → Int → Option Bool := Abm Uy
def Aai (a : Int) : Option (Int × Int) :=
if ((Dm a 1) || (Hw a 1048576)) then
some (0, 2)
else
some ((Ank 1 (Bo (Bi 256 a) 245)), 0)
def Wo (g b : Int) : Option (Int × Int) :=
(Aai g).bind fun (a, f) =>
if (Cu f 0) then
some (0, f)
else
if ((Dm b 1) || (Hw b 4000)) then
some (0, 2)
else
(Pn (Cu a 0)).bind fun _ =>
if (Hw (Bo (Al (Ae b a) 1) a) 1000) then
some (0, 4)
else
some ((Bo (Al (Ae b a) 1) a), 0)
def Ac0 (k a m f b : Int) : Option Bool :=
(Pn (Cu a 0)).bind fun _ =>
if (Hw b (Bo 4000 a)) then
some false
else
(Wo f b).bind fun (g, h) =>
some ((geq h 0) && (gle g 1000))
abbrev Gi := Option (Int × Int × Int × Int × Int × Int)
def Ala (a : LI) : Gi :=
(getI a 0).bind fun _ =>
(getI a 0).bind fun h =>
(getI a 1).bind fun _ =>
(getI a 1).bind fun k =>
(getI a 2).bind fun _ =>
(getI a 2).bind fun m =>
(getI a 3).bind fun _ =>
(getI a 3).bind fun n =>
(getI a 4).bind fun _ =>
(getI a 4).bind fun o =>
(We h k m n o).bind fun p =>
if (!p) then
some (0, 0, 0, 0, 0, 12)
else
(Ac0 h k m n o).bind fun u =>
if (!u) then
some (0, 0, 0, 0, 0, 4)
else
some (h, k, m, n, o, 0)
def Yx : LI → Gi := Ala
def Zv (j6 : LI → Gi) (bk4 : Int → Int → LI → Gi) (b : LB) (g f : Int) (a : LI) : Gi :=
if (Dm f 5) then
(getI ([(2 : Int), (2 : Int), (2 : Int), (4 : Int), (4 : Int)] : LI) f).bind fun h =>
(Aif b g h).bind fun (v, ae) =>
(getI a f).bind fun _ =>
(Pm a f (Ad v : Int)).bind fun w =>
bk4 (Ae g h) (Ae f 1) w
else
j6 a
def Km (b : LB) : Nat → Int → Int → LI → Gi
| 0, _, _, _ => none
| q + 1, g, f, a => Zv Yx (Km b q) b g f a
def Aah (b : LB) : Int → Int → LI → Gi := Km b Ba
def Afo (j4 : LB → Int → Int → LI → Gi) (b : LB) : Gi :=
(Db b 0 (Gg 4 (Ac b))).bind fun y =>
(Tj ([84, 84, 65, 49] : LB) y).bind fun aa =>
if (!aa) then
some (0, 0, 0, 0, 0, 12)
else
if (Dm (Ac b) 22) then
some (0, 0, 0, 0, 0, 24)
else
(Aif b 18 4).bind fun (ab, af) =>
(Db b 0 18).bind fun ac =>
(Ae0 ac).bind fun (ad, ag) =>
if (Cu (Ad ad : UInt64) ab) then
some (0, 0, 0, 0, 0, 22)
else
j4 b 4 0 (List.replicate 5 (0 : Int))
def Ag9 : LB → Gi := Afo Aah
abbrev As := Option (UInt64 × Int)
def Amp (h : UInt64) : As :=
some (h, 0)
def Agl : UInt64 → As := Amp
def Af6 (j30 : UInt64 → As) (h b : UInt64) (a : LB) (f : LQ) : As :=
j30 h
def Ae7 : UInt64 → UInt64 → LB → LQ → As := Af6 Agl
def Zu (j29 : UInt64 → UInt64 → LB → LQ → As) (bk27 : UInt64 → Int → As) (a : LB) (b : UInt64) (f : LQ) (h : UInt64) (m : Int) : As :=
if (Dm m (Ac a)) then
(getI a m).bind fun p =>
Option.bind (getI f (GI.toZ (Wg (Ad (Cq h (GI.toZ (56 : UInt64)).toNat) : UInt8) p))) fun _ =>
Option.bind (getI f (GI.toZ (Wg (Ad (Cq h (GI.toZ (56 : UInt64)).toNat) : UInt8) p))) fun u =>
bk27 (Wg (Dx h (GI.toZ (8 : UInt64)).toNat) u) (Ae m 1)
else
j29 h b a f
def Pg (a : LB) (b : UInt64) (f : LQ) : Nat → UInt64 → Int → As
| 0, _, _ => none
| q + 1, h, m => Zu Ae7 (Pg a b f q) a b f h m
def Ae8 (a : LB) (b : UInt64) (f : LQ) : UInt64 → Int → As := Pg a b f Ba
def Afd (j27 : LB → UInt64 → LQ → UInt64 → Int → As) (b : UInt64) (a : LB) (f : LQ) : As :=
j27 a b f b 0
def Zb : UInt64 → LB → LQ → As := Afd Ae8
def Al1 (bk16 : Int → LQ → As) (b : UInt64) (a : LB) (g : Int) (o : LQ) : As :=
bk16 (Ae g 1) o
def Afj (bk16 : Int → LQ → As) : UInt64 → LB → Int → LQ → As := Al1 bk16
def Af1 (j24 : Int → LQ → As) (b : UInt64) (a : LB) (g : Int) (k : UInt64) (f : LQ) : As :=
(getI f g).bind fun _ =>
(Pm f g k).bind fun o =>
j24 g o
def Zx (bk16 : Int → LQ → As) (b : UInt64) (a : LB) : Int → UInt64 → LQ → As := Af1 (Afj bk16 b a) b a
def Aap (j23 : Int → UInt64 → LQ → As) (bk21 : UInt64 → Int → As) (b : UInt64) (a : LB) (g : Int) (f : LQ) (k : UInt64) (n : Int) : As :=
if (Dm n 8) then
bk21 (Wg (Dx k (GI.toZ (1 : UInt64)).toNat) (Bi 4823603603198064275 (Cq k (GI.toZ (63 : UInt64)).toNat))) (Ae n 1)
else
j23 g k f
def Oo (bk16 : Int → LQ → As) (b : UInt64) (a : LB) (g : Int) (f : LQ) : Nat → UInt64 → Int → As
| 0, _, _ => none
| q + 1, k, n => Aap (Zx bk16 b a) (Oo bk16 b a g f q) b a g f k n
def Aga (bk16 : Int → LQ → As) (b : UInt64) (a : LB) (g : Int) (f : LQ) : UInt64 → Int → As := Oo bk16 b a g f Ba
def Zh (j21 : Int → LQ → UInt64 → Int → As) (j26 : UInt64 → LB → LQ → As) (b : UInt64) (a : LB) (g : Int) (f : LQ) : As :=
if (Dm g 256) then
j21 g f (Dx (Ad g : UInt64) (GI.toZ (56 : UInt64)).toNat) 0
else
j26 b a f
def Kk (b : UInt64) (a : LB) : Nat → Int → LQ → As
| 0, _, _ => none
| q + 1, g, f => Zh (Aga (Kk b a q) b a) Zb b a g f
def Agp (b : UInt64) (a : LB) : Int → LQ → As := Kk b a Ba
def Ahx (j16 : UInt64 → LB → Int → LQ → As) (b : UInt64) (a : LB) : As :=
if (Hw (Ac a) 100000) then
some (0, 4)
else
j16 b a 0 (List.replicate 256 (0 : UInt64))
def Aj5 : UInt64 → LB → As := Ahx Agp
def Ai2 (a : LB) : Option (UInt64 × Int) :=
(Aj5 0 a).bind fun (b, f) =>
some (b, f)
def Aqt (a : LB) : Option (UInt64 × Int) :=
if (Hw (Ac a) 64) then
some (0, 2)
else
(Ai2 a).bind fun (b, f) =>
some (b, 0)
def Aen (b : LB) : Option (LB × Int) :=
(Aqt b).bind fun (f, a) =>
if (Cu a 0) then
some (([] : LB), a)
else
(Alb f 8).bind fun (g, h) =>
some (g, h)
def Ajx (a f : LB) : Option (Bool × Int) :=
(Aen f).bind fun (b, g) =>
if ((Cu g 0) || (Cu (Ac a) (Ac b))) then
some (false, 2)
else
(Jy a b).bind fun h =>
some (h, 0)
def Aet (a b f g h : Int) : Option Int :=
(We a b f g h).bind fun k =>
if (!k) then
some 8
else
(Ac0 a b f g h).bind fun m =>
if (!m) then
some 8
else
some 0
def Adx (a b : UInt64) : Option (UInt64 × UInt64) :=
some ((Ae (Ae (Bi (Cq a (GI.toZ (32 : UInt64)).toNat) (Cq b (GI.toZ (32 : UInt64)).toNat)) (Cq (Ae (Bi (Cq a (GI.toZ (32 : UInt64)).toNat) (Hr b 4294967295)) (Cq (Bi (Hr a 4294967295) (Hr b 4294967295)) (GI.toZ (32 : UInt64)).toNat)) (GI.toZ (32 : UInt64)).toNat)) (Cq (Ae (Hr (Ae (Bi (Cq a (GI.toZ (32 : UInt64)).toNat) (Hr b 4294967295)) (Cq (Bi (Hr a 4294967295) (Hr b 4294967295)) (GI.toZ (32 : UInt64)).toNat)) 4294967295) (Bi (Hr a 4294967295) (Cq b (GI.toZ (32 : UInt64)).toNat))) (GI.toZ (32 : UInt64)).toNat)), (Bi a b))
def Acf (a b : UInt64) : Option (UInt64 × UInt64) :=
(Adx a b).bind fun (f, g) =>
some (f, g)
def Lt (a : LI) : Option (LI) :=
some a
def He : LI → Option (LI) := Lt
def Ft (j10 : LI → Option (LI)) (bk8 : Int → LI → Option (LI)) (b : Int) (a : LI) : Option (LI) :=
if (Dm b (Ac a)) then
(
(vwI (Ac a) b (Ac a)).bind fun _ =>
(vwI (Ac a) 0 b).bind fun _ =>
bk8 (Ae b (Afn ((Ac a) - b) (Aiq a 0 (b - (0 : Int))).length)) (Sg a b ((Ac a) - b) (Aiq a 0 (b - (0 : Int)))))
else
j10 a
def Dz : Nat → Int → LI → Option (LI)
| 0, _, _ => none
| q + 1, b, a => Ft He (Dz q) b a
def Ng : Int → LI → Option (LI) := Dz Ba
def My (j8 : Int → LI → Option (LI)) (f : LI) (g : UInt64) : Option (LI) :=
(mkI (Ad g : Int) (0 : Int)).bind fun k =>
(Pn (geq (Ad g : Int) (Ad g : Int))).bind fun _ =>
j8 (Afn (Ac k) f.length) (Awh k f)
def Ni : LI → UInt64 → Option (LI) := My Ng
def Mv (j7 : LI → UInt64 → Option (LI)) (f : LI) (h : Int) : Option (LI) :=
(Acf (Ad (Ac f) : UInt64) (Ad h : UInt64)).bind fun (m, g) =>
if ((Hw m 0) || (Hw g 9223372036854775807)) then
none
else
j7 f g
def Nb : LI → Int → Option (LI) := Mv Ni
def Nh (j6 : LI → Int → Option (LI)) (f : LI) (h : Int) : Option (LI) :=
if (Dm h 0) then
none
else
j6 f h
def Lk : LI → Int → Option (LI) := Nh Nb
def Ags (f : LI) : Option (LI) :=
some f
def Vi : LI → Option (LI) := Ags
def Fe (j16 : LI → Option (LI)) (bk14 : Int → LI → Option (LI)) (a : List LI) (g : Int) (f : LI) : Option (LI) :=
if (Dm g (Ac a)) then
(getI a g).bind fun o =>
(Gk f o).bind fun p =>
bk14 (Ae g 1) p
else
j16 f
def Dt (a : List LI) : Nat → Int → LI → Option (LI)
| 0, _, _ => none
| q + 1, g, f => Fe Vi (Dt a q) a g f
def Ll (a : List LI) : Int → LI → Option (LI) := Dt a Ba
def Lo (j14 : (List LI) → Int → LI → Option (LI)) (a : List LI) (k : LI) : Option (LI) :=
j14 a 0 k
def Hg : (List LI) → LI → Option (LI) := Lo Ll
def Lm (j13 : (List LI) → LI → Option (LI)) (b : Int) (a : List LI) : Option (LI) :=
if (Hw (Al b (Al (0 : Int) (0 : Int))) 0) then
(vwI 0 0 0).bind fun _ =>
(mkI (Al b (Al (0 : Int) (0 : Int))) (0 : Int)).bind fun u =>
(Gk ([] : LI) u).bind fun m =>
(vwI (Ac m) 0 0).bind fun _ =>
j13 a (Aiq m 0 ((0 : Int) - (0 : Int)))
else
j13 a ([] : LI)
def Ls : Int → (List LI) → Option (LI) := Lm Hg
def Ln (j12 : Int → (List LI) → Option (LI)) (a : List LI) (b : Int) : Option (LI) :=
if (Dm b 0) then
none
else
j12 b a
def Lr : (List LI) → Int → Option (LI) := Ln Ls
def Fw (j11 : (List LI) → Int → Option (LI)) (bk9 : Int → Int → Option (LI)) (a : List LI) (b h : Int) : Option (LI) :=
if (Dm h (Ac a)) then
(getI a h).bind fun n =>
if (Dm (Ae b (Ac n)) 0) then
none
else
bk9 (Ae b (Ac n)) (Ae h 1)
else
j11 a b
def Dy (a : List LI) : Nat → Int → Int → Option (LI)
| 0, _, _ => none
| q + 1, b, h => Fw Lr (Dy a q) a b h
def Mx (a : List LI) : Int → Int → Option (LI) := Dy a Ba
def Mz (j9 : (List LI) → Int → Int → Option (LI)) (a : List LI) : Option (LI) :=
j9 a 0 0
def Lf : (List LI) → Option (LI) := Mz Mx
def Agq (a b : LI) : Option (LI) :=
(Lf ([a, b] : List LI)).bind fun f =>
some f
def Ag2 (a b : Int) : Option (LI × Int) :=
(Wo a b).bind fun (f, g) =>
if (Cu g 0) then
some (([] : LI), g)
else
(Aai a).bind fun (h, n) =>
(Lk ([h] : LI) (Al f 1)).bind fun k =>
(Agq k ([(Al b (Bi (Al f 1) h))] : LI)).bind fun m =>
some (m, 0)
def Rf (g h k a b : Int) : Option (LI × Int) :=
(Aet g h k a b).bind fun f =>
if (Cu f 0) then
some (([] : LI), f)
else
(Ag2 a b).bind fun (m, n) =>
some (m, n)
def Aud : Option Int :=
some 0
def Alg : Option Int := Aud
def Aal (j6 : Option Int) (bk4 : Int → Int → Option Int) (a : LI) (f b : Int) : Option Int :=
if (Dm b (Ac a)) then
(getI a b).bind fun g =>
if ((Dm g 5) || (Hw g f)) then
some 8
else
bk4 (Al f g) (Ae b 1)
else
j6
def Pf (a : LI) : Nat → Int → Int → Option Int
| 0, _, _ => none
| q + 1, f, b => Aal Alg (Pf a q) a f b
def Agh (a : LI) : Int → Int → Option Int := Pf a Ba
def Afi (j4 : LI → Int → Int → Option Int) (a : LI) : Option Int :=
if ((geq (Ac a) 0) || (Hw (Ac a) 1000)) then
some 8
else
j4 a 100000 0
def Acu : LI → Option Int := Afi Agh
abbrev Ih := Option (LI × Int)
def An4 (a : LI) : Ih :=
(Acu a).bind fun k =>
if (Cu k 0) then
some (([] : LI), 12)
else
some (a, 0)
def Acg : LI → Ih := An4
def Acd (j6 : LI → Ih) (bk4 : Int → LI → Ih) (b : LB) (f : LI) (g : Int) (a : LI) : Ih :=
if (Dm g (Ac f)) then
(Aif b (Bi 4 g) 4).bind fun (k, u) =>
(getI a g).bind fun _ =>
(Pm a g (Ad k : Int)).bind fun m =>
bk4 (Ae g 1) m
else
j6 a
def Re (b : LB) (f : LI) : Nat → Int → LI → Ih
| 0, _, _ => none
| q + 1, g, a => Acd Acg (Re b f q) b f g a
def Ahu (b : LB) (f : LI) : Int → LI → Ih := Re b f Ba
def Ahy (j4 : LB → LI → Int → LI → Ih) (b : LB) (h : Int) : Ih :=
if ((Dm h 1) || (Hw h 1000)) then
some (([] : LI), 2)
else
if (Dm (Ac b) (Ae (Bi 4 h) 4)) then
some (([] : LI), 24)
else
(Aif b (Bi 4 h) 4).bind fun (n, v) =>
(Db b 0 (Bi 4 h)).bind fun o =>
(Ae0 o).bind fun (p, w) =>
if (Cu (Ad p : UInt64) n) then
some (([] : LI), 22)
else
(mkI h (0 : Int)).bind fun f =>
(Pn (geq h h)).bind fun _ =>
j4 b f 0 f
def Aj3 : LB → Int → Ih := Ahy Ahu
abbrev Wn := Option (Int × Int × Int × Int × Int × Int × LI × Int)
def Ald (a : LB) (b f g h k n : Int) : Wn :=
(Rf b f g h k).bind fun (ab, p) =>
if (Cu p 0) then
some (0, 0, 0, 0, 0, 0, ([] : LI), p)
else
(Db a n (Ac a)).bind fun ac =>
(Aj3 ac (Ac ab)).bind fun (u, v) =>
if (Cu v 0) then
some (0, 0, 0, 0, 0, 0, ([] : LI), v)
else
some (b, f, g, h, k, (Ae (Ae n (Bi 4 (Ac u))) 4), u, 0)
def Um : LB → Int → Int → Int → Int → Int → Int → Wn := Ald
def Us (j2 : LB → Int → Int → Int → Int → Int → Int → Wn) (a o : LB) : Wn :=
if (Hw (Ac o) 64) then
some (0, 0, 0, 0, 0, 0, ([] : LI), 2)
else
if (Hw (Ac a) 100000) then
some (0, 0, 0, 0, 0, 0, ([] : LI), 4)
else
(Yo a).bind fun (m, w) =>
if (Cu w 0) then
some (0, 0, 0, 0, 0, 0, ([] : LI), w)
else
(Db a m (Ac a)).bind fun ad =>
(Ag9 ad).bind fun (b, f, g, h, k, y) =>
if (Cu y 0) then
some (0, 0, 0, 0, 0, 0, ([] : LI), y)
else
if ((o == ([] : LB)) != (geq b 1)) then
some (0, 0, 0, 0, 0, 0, ([] : LI), 26)
else
if (o != ([] : LB)) then
if (Dm (Ac a) (Ae (Ae m 22) 8)) then
some (0, 0, 0, 0, 0, 0, ([] : LI), 24)
else
(Db a (Ae m 22) (Ae (Ae m 22) 8)).bind fun ae =>
(Ajx ae o).bind fun (af, aa) =>
if (Cu aa 0) then
some (0, 0, 0, 0, 0, 0, ([] : LI), aa)
else
if (!af) then
some (0, 0, 0, 0, 0, 0, ([] : LI), 26)
else
j2 a b f g h k (Ae (Ae m 22) 8)
else
j2 a b f g h k (Ae m 22)
def seekto_Open : LB → LB → Wn := Us Um
abbrev Cn := Option (LI × Int)
def Apk (f : LI) : Cn :=
some (f, 0)
def Ag0 : LI → Cn := Apk
def Aio (bk6 : Int → Int → LI → Cn) (a : LI) (b g h : Int) (k : LI) : Cn :=
bk6 (Ae b 1) (Ae g h) k
def Ab2 (bk6 : Int → Int → LI → Cn) : LI → Int → Int → Int → LI → Cn := Aio bk6
def Vg (j8 : Int → Int → Int → LI → Cn) (j10 : LI → Cn) (a : LI) (b g : Int) (f : LI) : Cn :=
if (Dm b (Ac a)) then
(getI a b).bind fun h =>
(Gk f ([(Ae g h)] : LI)).bind fun k =>
j8 b g h k
else
j10 f
def Kb (a : LI) : Nat → Int → Int → LI → Cn
| 0, _, _, _ => none
| q + 1, b, g, f => Vg (Ab2 (Kb a q) a) Ag0 a b g f
def Aip (a : LI) : Int → Int → LI → Cn := Kb a Ba
def Abi (j6 : LI → Int → Int → LI → Cn) (a : LI) : Cn :=
(Acu a).bind fun m =>
if (Cu m 0) then
some (([] : LI), m)
else
j6 a 0 0 ([(0 : Int)] : LI)
def Ab9 : LI → Cn := Abi Aip
def Bdr (a : LX) : Option (LX) :=
some a
def Ate : LX → Option (LX) := Bdr
def Ako (j6 : LX → Option (LX)) (bk4 : Int → LX → Option (LX)) (f : UInt64) (b : Int) (a : LX) : Option (LX) :=
if (Dm b 8) then
(Pn (Qy (Bi 8 b) 0)).bind fun _ =>
(getI a b).bind fun _ =>
(Pm a b (Ad (Ad (Cq f (GI.toZ (Bi 8 b)).toNat) : Int8) : Int32)).bind fun g =>
bk4 (Ae b 1) g
else
j6 a
def Abk (f : UInt64) : Nat → Int → LX → Option (LX)
| 0, _, _ => none
| q + 1, b, a => Ako Ate (Abk f q) f b a
def Ava (f : UInt64) : Int → LX → Option (LX) := Abk f Ba
def Au1 (j4 : UInt64 → Int → LX → Option (LX)) (f : UInt64) : Option (LX) :=
j4 f 0 (List.replicate 16 (0 : Int32))
def Ays : UInt64 → Option (LX) := Au1 Ava
def Ang (a : LB) : Option (LX × Int) :=
if (Hw (Ac a) 64) then
some (([(0 : Int32), (0 : Int32), (0 : Int32), (0 : Int32), (0 : Int32), (0 : Int32), (0 : Int32), (0 : Int32), (0 : Int32), (0 : Int32), (0 : Int32), (0 : Int32), (0 : Int32), (0 : Int32), (0 : Int32), (0 : Int32)] : LX), 2)
else
(Ai2 a).bind fun (f, b) =>
if (Cu b 0) then
some (([(0 : Int32), (0 : Int32), (0 : Int32), (0 : Int32), (0 : Int32), (0 : Int32), (0 : Int32), (0 : Int32), (0 : Int32), (0 : Int32), (0 : Int32), (0 : Int32), (0 : Int32), (0 : Int32), (0 : Int32), (0 : Int32)] : LX), b)
else
(Ays f).bind fun g =>
some (g, 0)
abbrev Wj := Option (Int32 × Int32 × Int)
def Av5 (a : Int) (b : Bool) : Wj :=
if b then
(Pn (Qy (Al a 1) 0)).bind fun _ =>
some ((Ap4 (Dx (1 : Int32) (GI.toZ (Al a 1)).toNat)), (Al (Dx (1 : Int32) (GI.toZ (Al a 1)).toNat) 1), 0)
else
some (0, 0, 2)
def Al9 : Int → Bool → Wj := Av5
def Aml (j2 : Int → Bool → Wj) (a : Int) : Wj :=
if (geq a 8) then
j2 a (geq a 8)
else
if (geq a 16) then
j2 a (geq a 16)
else
j2 a (geq a 24)
def Xv : Int → Wj := Aml Al9
def Ach (a b : Int) : Option Int :=
(Xv b).bind fun (g, h, f) =>
if (((Cu f 0) || (Dm a 1)) || (Hw a 6)) then
some 2
else
some 0
def Zl (a : LB) : Option (LB × Int) :=
if (Dm (Ac a) 5) then
some (([] : LB), 24)
else
if (Hw (Ac a) 41254) then
some (([] : LB), 4)
else
(Db a 0 (Al (Ac a) 4)).bind fun f =>
(Ae0 f).bind fun (g, b) =>
if (Cu b 0) then
some (([] : LB), b)
else
(Db a (Al (Ac a) 4) (Ac a)).bind fun h =>
(Al8 h).bind fun (k, m) =>
if ((Cu m 0) || (Cu k (Ad g : UInt64))) then
some (([] : LB), 22)
else
(Db a 0 (Al (Ac a) 4)).bind fun n =>
some (n, 0)
def Gl (a : LB) : Option (LB) :=
(
(Gk ([] : LB) a).bind fun b =>
some b)
def Ayz (a : LB) : Option (LB × Int × Int) :=
if (Hw (Ac a) 41250) then
some (([] : LB), 0, 4)
else
(Gl a).bind fun b =>
some (b, (Bi 8 (Ac a)), 0)
def Awf : Option (Int × Int × UInt64 × UInt64) :=
some (10, 10, 16384, 16384)
def Qg (b : LB) (a : Int) : Option Int :=
if (((Dm a 0) || (Hw a 330000)) || (Cu (Ac b) (Azt (Ae a 7) (GI.toZ (3 : UInt64)).toNat))) then
some 8
else
if (Hw (Hr a 7) 0) then
(getI b (Al (Ac b) 1)).bind fun f =>
(Pn (Qy (Hr a 7) 0)).bind fun _ =>
if (Cu (Cq f (GI.toZ (Hr a 7)).toNat) 0) then
some 8
else
some 0
else
some 0
def Bci (g : UInt64) : Option UInt64 :=
some g
def Arh : UInt64 → Option UInt64 := Bci
def Al0 (j6 : UInt64 → Option UInt64) (bk4 : UInt64 → Int → Option UInt64) (b f : Int) (h : LB) (k : Int) (g : UInt64) (a : Int) : Option UInt64 :=
if (Dm a f) then
(getI h (Azt (Ae b a) (GI.toZ (3 : UInt64)).toNat)).bind fun m =>
(Pn (Qy (Hr (Ae b a) 7) 0)).bind fun _ =>
(Pn (Qy (Gg (Al f a) (Al 8 (Hr (Ae b a) 7))) 0)).bind fun _ =>
(Pn (Qy a 0)).bind fun _ =>
bk4 (gor g (Dx (Ad (Hr (Cq m (GI.toZ (Hr (Ae b a) 7)).toNat) (Al (Dx (1 : UInt8) (GI.toZ (Gg (Al f a) (Al 8 (Hr (Ae b a) 7)))).toNat) 1)) : UInt64) (GI.toZ a).toNat)) (Ae a (Gg (Al f a) (Al 8 (Hr (Ae b a) 7))))
else
j6 g
def Adj (b f : Int) (h : LB) (k : Int) : Nat → UInt64 → Int → Option UInt64
| 0, _, _ => none
| q + 1, g, a => Al0 Arh (Adj b f h k q) b f h k g a
def Ar9 (b f : Int) (h : LB) (k : Int) : UInt64 → Int → Option UInt64 := Adj b f h k Ba
def Ar2 (j4 : Int → Int → LB → Int → UInt64 → Int → Option UInt64) (h : LB) (k b f : Int) : Option UInt64 :=
j4 b f h k 0 0
def Apv : LB → Int → Int → Int → Option UInt64 := Ar2 Ar9
abbrev Bh := Option (LB × Int × Int)
def Aqf (o : Int) (p : LB) : Bh :=
some (p, o, 0)
def Ajg : Int → LB → Bh := Aqf
def Ap1 (bk27 : Int → Int → LB → Bh) (a : Int) (g : LB) (f b h : Int) (u : LB) : Bh :=
bk27 (Ae b 64) h u
def Aem (bk27 : Int → Int → LB → Bh) : Int → LB → Int → Int → Int → LB → Bh := Ap1 bk27
def Ap0 (bk44 : UInt64 → Int → Int → LB → Bh) (a b : Int) (g : LB) (f : Int) (k n : UInt64) (m h : Int) (w : LB) : Bh :=
(Pn (Qy (Gg m (Al 8 (Hr h 7))) 0)).bind fun _ =>
bk44 (Cq n (GI.toZ (Gg m (Al 8 (Hr h 7)))).toNat) (Al m (Gg m (Al 8 (Hr h 7)))) (Ae h (Gg m (Al 8 (Hr h 7)))) w
def Akf (bk44 : UInt64 → Int → Int → LB → Bh) : Int → Int → LB → Int → UInt64 → UInt64 → Int → Int → LB → Bh := Ap0 bk44
def Aki (j48 : UInt64 → Int → Int → LB → Bh) (a b : Int) (g : LB) (f : Int) (k n : UInt64) (m h : Int) (v : LB) : Bh :=
(getI v (Al (Ac v) 1)).bind fun _ =>
(Pn (Qy (Gg m (Al 8 (Hr h 7))) 0)).bind fun _ =>
(Pn (Qy (Hr h 7) 0)).bind fun _ =>
(getI v (Al (Ac v) 1)).bind fun aa =>
(getI v (Al (Ac v) 1)).bind fun _ =>
Option.bind (Pm v (Al (Ac v) 1) (gor aa (Dx (Ad (Hr n (Al (Dx (1 : UInt64) (GI.toZ (Gg m (Al 8 (Hr h 7)))).toNat) 1)) : UInt8) (GI.toZ (Hr h 7)).toNat))) fun w =>
j48 n m h w
def Aeu (bk44 : UInt64 → Int → Int → LB → Bh) (a b : Int) (g : LB) (f : Int) (k : UInt64) : UInt64 → Int → Int → LB → Bh := Aki (Akf bk44 a b g f k) a b g f k
def Aev (j47 : UInt64 → Int → Int → LB → Bh) (j50 : Int → Int → LB → Bh) (a : Int) (g : LB) (f b : Int) (k n : UInt64) (m h : Int) (u : LB) : Bh :=
if (Hw m 0) then
if (geq (Hr h 7) 0) then
(Gk u ([(0 : UInt8)] : LB)).bind fun ab =>
j47 n m h ab
else
j47 n m h u
else
j50 b h u
def Ly (bk27 : Int → Int → LB → Bh) (a : Int) (g : LB) (f b : Int) (k : UInt64) : Nat → UInt64 → Int → Int → LB → Bh
| 0, _, _, _, _ => none
| q + 1, n, m, h, u => Aev (Aeu (Ly bk27 a g f b k q) a b g f k) (Aem bk27 a g f) a g f b k n m h u
def Aj4 (bk27 : Int → Int → LB → Bh) (a : Int) (g : LB) (f b : Int) (k : UInt64) : UInt64 → Int → Int → LB → Bh := Ly bk27 a g f b k Ba
def Aj7 (j44 : Int → UInt64 → UInt64 → Int → Int → LB → Bh) (j52 : Int → LB → Bh) (a : Int) (g : LB) (f b o : Int) (p : LB) : Bh :=
if (Dm b a) then
(Apv g f b (Gg 64 (Al a b))).bind fun k =>
j44 b k k (Gg 64 (Al a b)) o p
else
j52 o p
def Ve (a : Int) (g : LB) (f : Int) : Nat → Int → Int → LB → Bh
| 0, _, _, _ => none
| q + 1, b, o, p => Aj7 (Aj4 (Ve a g f q) a g f) Ajg a g f b o p
def Aje (a : Int) (g : LB) (f : Int) : Int → Int → LB → Bh := Ve a g f Ba
def Al5 (j27 : Int → LB → Int → Int → Int → LB → Bh) (g : LB) (f y a : Int) : Bh :=
(Qg g f).bind fun ac =>
if (Cu ac 0) then
some (([] : LB), 0, 8)
else
if (((Dm y 0) || (Hw y a)) || (Hw a f)) then
some (([] : LB), 0, 2)
else
j27 a g f y 0 ([] : LB)
def Amf : LB → Int → Int → Int → Bh := Al5 Aje
def Anv (a b : Int) (f g : UInt64) : Option Int :=
if (!((geq (Gg (Ank a 0) 24) a) && ((geq (Gg (Ank b 0) 24) b) && ((geq (Gg f 68719476735) f) && ((geq (Gg g 68719476735) g) && true))))) then
some 8
else
some 0
def Ahs : Int → Int → UInt64 → UInt64 → Option Int := Anv
def Acm (j4 : Int → Int → UInt64 → UInt64 → Option Int) (a b : Int) (f g : UInt64) : Option Int :=
(
(
j4 a b f g))
def Ahz : Int → Int → UInt64 → UInt64 → Option Int := Acm Ahs
def Ab7 (j3 : Int → Int → UInt64 → UInt64 → Option Int) (a b : Int) (f g : UInt64) : Option Int :=
(
(
j3 a b f g))
def Akc : Int → Int → UInt64 → UInt64 → Option Int := Ab7 Ahz
def Aar (g : LB) (b f a : Int) : Option (UInt64 × Int) :=
(Qg g b).bind fun h =>
if (Cu h 0) then
some (0, 8)
else
if (((Dm a 0) || (Hw a 64)) || (Dm f 0)) then
some (0, 2)
else
if (Hw f (Al b a)) then
some (0, 24)
else
(Apv g b f a).bind fun k =>
some (k, 0)
def Fc (a : UInt64) : Option Int :=
if (geq a 0) then
some 64
else
(getI ([(0 : UInt8), (1 : UInt8), (56 : UInt8), (2 : UInt8), (57 : UInt8), (49 : UInt8), (28 : UInt8), (3 : UInt8), (61 : UInt8), (58 : UInt8), (42 : UInt8), (50 : UInt8), (38 : UInt8), (29 : UInt8), (17 : UInt8), (4 : UInt8), (62 : UInt8), (47 : UInt8), (59 : UInt8), (36 : UInt8), (45 : UInt8), (43 : UInt8), (51 : UInt8), (22 : UInt8), (53 : UInt8), (39 : UInt8), (33 : UInt8), (30 : UInt8), (24 : UInt8), (18 : UInt8), (12 : UInt8), (5 : UInt8), (63 : UInt8), (55 : UInt8), (48 : UInt8), (27 : UInt8), (60 : UInt8), (41 : UInt8), (37 : UInt8), (16 : UInt8), (46 : UInt8), (35 : UInt8), (44 : UInt8), (21 : UInt8), (52 : UInt8), (32 : UInt8), (23 : UInt8), (11 : UInt8), (54 : UInt8), (26 : UInt8), (40 : UInt8), (15 : UInt8), (34 : UInt8), (20 : UInt8), (31 : UInt8), (10 : UInt8), (25 : UInt8), (14 : UInt8), (19 : UInt8), (9 : UInt8), (13 : UInt8), (8 : UInt8), (7 : UInt8), (6 : UInt8)] : LB) (GI.toZ (Cq (Bi (Hr a (Ap4 a)) 285870213051353865) (GI.toZ (58 : UInt64)).toNat))).bind fun b =>
some (Ad b : Int)
abbrev Cw := Option (Int × Int × Int)
def Av8 : Cw :=
some (0, 0, 24)
def Alc : Cw := Av8
def An8 (j10 : Cw) : Cw :=
j10
def Ann : Cw := An8 Alc
def Ahi (j9 : Cw) (f a : Int) : Cw :=
if (geq f 48) then
some (f, (Ae 0 (Ae a f)), 0)
else
j9
def Ahw : Int → Int → Cw := Ahi Ann
def Ah5 (j8 : Int → Int → Cw) (f b a : Int) : Cw :=
if (Dm f (Gg 48 (Al b a))) then
some (f, (Ae (Ae (0 : Int) (1 : Int)) (Ae a f)), 0)
else
j8 f a
def Ahl : Int → Int → Int → Cw := Ah5 Ahw
def Ahm (j7 : Int → Int → Int → Cw) (h : Int) (k : UInt64) (a : Int) (g : LB) (b : Int) : Cw :=
if (Cu h 0) then
some (0, 0, h)
else
(Fc (Avq k)).bind fun f =>
j7 f b a
def Ahn : Int → UInt64 → Int → LB → Int → Cw := Ahm Ahl
def Wk (j6 : Int → UInt64 → Int → LB → Int → Cw) (g : LB) (b a : Int) : Cw :=
(Qg g b).bind fun m =>
if (Cu m 0) then
some (0, 0, m)
else
if (Dm a 0) then
some (0, 0, 2)
else
if (Qy a b) then
some (0, 0, 24)
else
(
(
(Aar g b a (Gg 48 (Al b a))).bind fun (k, h) =>
j6 h k a g b))
def Ab1 : LB → Int → Int → Cw := Wk Ahn
def Akd (b : UInt32) (a : Int) : Option Bool :=
(Pn (Qy a 0)).bind fun _ =>
some (Qy (Cq b (GI.toZ a).toNat) 48)
abbrev Adh := Option (UInt32 × Int × Int)
def Ajz (a b f : Int) (g : LB) (h k : Int) : Adh :=
(Aar g h b k).bind fun (m, n) =>
if (Cu n 0) then
some (0, 0, n)
else
if (Dm f 48) then
(Pn (Qy a 0)).bind fun _ =>
some ((gor (Dx (Ad f : UInt32) (GI.toZ a).toNat) (Ad m : UInt32)), (Ae b k), 0)
else
(Akd (Ad m : UInt32) a).bind fun u =>
if (!u) then
some (0, 0, 12)
else
some ((Ad m : UInt32), (Ae b k), 0)
def Aeo : Int → Int → Int → LB → Int → Int → Adh := Ajz
def Aj1 (j2 : Int → Int → Int → LB → Int → Int → Adh) (g : LB) (h v a : Int) : Adh :=
(Qg g h).bind fun o =>
if (Cu o 0) then
some (0, 0, o)
else
if ((Dm a 0) || (Hw a 24)) then
some (0, 0, 2)
else
(Ab1 g h v).bind fun (f, b, p) =>
if (Cu p 0) then
some (0, 0, p)
else
if (geq f 48) then
j2 a b f g h 32
else
j2 a b f g h a
def Ana : LB → Int → Int → Int → Adh := Aj1 Aeo
def Aj2 (a f : Int) (g h : UInt64) (b : UInt32) : Option (Int × UInt32) :=
(Pn (Qy a 0)).bind fun _ =>
if (geq (Cq b (GI.toZ a).toNat) 0) then
some (0, b)
else
(Pn (Qy a 0)).bind fun _ =>
some (1, (Al b (Dx (1 : UInt32) (GI.toZ a).toNat)))
abbrev Dr := Option (UInt32 × Int × Int × Int × UInt64 × UInt64 × Int)
def An3 (f : UInt32) (k w m : Int) (a n : UInt64) : Dr :=
some (f, k, w, m, (Ae a (Al (Ad f : UInt64) (Cq a (GI.toZ (4 : UInt64)).toNat))), n, 0)
def Ahv : UInt32 → Int → Int → Int → UInt64 → UInt64 → Dr := An3
def Aju (j10 : UInt32 → Int → Int → Int → UInt64 → UInt64 → Dr) (f : UInt32) (k m : Int) (a n : UInt64) (w : Int) : Dr :=
j10 f k w m a n
def Aj6 : UInt32 → Int → Int → UInt64 → UInt64 → Int → Dr := Aju Ahv
def Ajt (j9 : UInt32 → Int → Int → UInt64 → UInt64 → Int → Dr) (f : UInt32) (k b : Int) (a : UInt64) (m : Int) (n : UInt64) : Dr :=
if (Hw b 0) then
(Pn (Qy b 0)).bind fun _ =>
if (Dm (Ae a (Al (Ad f : UInt64) (Cq a (GI.toZ (4 : UInt64)).toNat))) (Dx (16 : UInt64) (GI.toZ b).toNat)) then
j9 f k m a n (Al b 1)
else
if (Dm b 24) then
(Pn (Qy b 0)).bind fun _ =>
if (Hw (Ae a (Al (Ad f : UInt64) (Cq a (GI.toZ (4 : UInt64)).toNat))) (Dx (32 : UInt64) (GI.toZ b).toNat)) then
j9 f k m a n (Ae b 1)
else
j9 f k m a n b
else
j9 f k m a n b
else
if (Dm b 24) then
(Pn (Qy b 0)).bind fun _ =>
if (Hw (Ae a (Al (Ad f : UInt64) (Cq a (GI.toZ (4 : UInt64)).toNat))) (Dx (32 : UInt64) (GI.toZ b).toNat)) then
j9 f k m a n (Ae b 1)
else
j9 f k m a n b
else
j9 f k m a n b
def Aas : UInt32 → Int → Int → UInt64 → Int → UInt64 → Dr := Ajt Aj6
def Akn (j8 : UInt32 → Int → Int → UInt64 → Int → UInt64 → Dr) (b h : Int) (a g : UInt64) (f : UInt32) (k : Int) : Dr :=
(Aj2 b h a g f).bind fun (ad, o) =>
if (geq ad 1) then
if (Hw h 0) then
(Pn (Qy h 0)).bind fun _ =>
if (Dm (Ae g (Al (Ad o : UInt64) (Cq g (GI.toZ (4 : UInt64)).toNat))) (Dx (16 : UInt64) (GI.toZ h).toNat)) then
j8 f k b a (Al h 1) (Ae g (Al (Ad o : UInt64) (Cq g (GI.toZ (4 : UInt64)).toNat)))
else
if (Dm h 24) then
(Pn (Qy h 0)).bind fun _ =>
if (Hw (Ae g (Al (Ad o : UInt64) (Cq g (GI.toZ (4 : UInt64)).toNat))) (Dx (32 : UInt64) (GI.toZ h).toNat)) then
j8 f k b a (Ae h 1) (Ae g (Al (Ad o : UInt64) (Cq g (GI.toZ (4 : UInt64)).toNat)))
else
j8 f k b a h (Ae g (Al (Ad o : UInt64) (Cq g (GI.toZ (4 : UInt64)).toNat)))
else
j8 f k b a h (Ae g (Al (Ad o : UInt64) (Cq g (GI.toZ (4 : UInt64)).toNat)))
else
if (Dm h 24) then
(Pn (Qy h 0)).bind fun _ =>
if (Hw (Ae g (Al (Ad o : UInt64) (Cq g (GI.toZ (4 : UInt64)).toNat))) (Dx (32 : UInt64) (GI.toZ h).toNat)) then
j8 f k b a (Ae h 1) (Ae g (Al (Ad o : UInt64) (Cq g (GI.toZ (4 : UInt64)).toNat)))
else
j8 f k b a h (Ae g (Al (Ad o : UInt64) (Cq g (GI.toZ (4 : UInt64)).toNat)))
else
j8 f k b a h (Ae g (Al (Ad o : UInt64) (Cq g (GI.toZ (4 : UInt64)).toNat)))
else
j8 f k b a h g
def Aek : Int → Int → UInt64 → UInt64 → UInt32 → Int → Dr := Akn Aas
def Ajf (j7 : Int → Int → UInt64 → UInt64 → UInt32 → Int → Dr) (p : Int) (u : LB) (v b h : Int) (a g : UInt64) : Dr :=
(Aar u v p 1).bind fun (ae, aa) =>
if (Cu aa 0) then
some (0, 0, 0, 0, 0, 0, aa)
else
if (geq ae 0) then
(Aar u v (Ae p 1) b).bind fun (af, ab) =>
if (Cu ab 0) then
some (0, 0, 0, 0, 0, 0, ab)
else
j7 b h a g (Ad af : UInt32) (Ae (Ae p 1) b)
else
(Ana u v (Ae p 1) h).bind fun (y, ag, ac) =>
if (Cu ac 0) then
some (0, 0, 0, 0, 0, 0, ac)
else
(Pn (Qy b 0)).bind fun _ =>
if (Dm (Ae y (Dx (1 : UInt32) (GI.toZ b).toNat)) y) then
some (0, 0, 0, 0, 0, 0, 12)
else
j7 b h a g (Ae y (Dx (1 : UInt32) (GI.toZ b).toNat)) ag
def Akp : Int → LB → Int → Int → Int → UInt64 → UInt64 → Dr := Ajf Aek
def Ajl (j6 : Int → LB → Int → Int → Int → UInt64 → UInt64 → Dr) (u : LB) (v p b h : Int) (a g : UInt64) : Dr :=
(Qg u v).bind fun ah =>
if (Cu ah 0) then
some (0, 0, 0, 0, 0, 0, 8)
else
(Akc b h a g).bind fun ai =>
if (Cu ai 0) then
some (0, 0, 0, 0, 0, 0, 8)
else
j6 p u v b h a g
def Vb : LB → Int → Int → Int → Int → UInt64 → UInt64 → Dr := Ajl Akp
abbrev Ar := Option (LU × Int × Int)
def Aot (k : Int) (m : LU) : Ar :=
some (m, k, 0)
def Agk : Int → LU → Ar := Aot
def Afk (bk16 : Int → Int → (List (Int × Int × UInt64 × UInt64 × Unit)) → LU → Ar) (a f : Int) (g : LB) (b k u : Int) (v : UInt32) (h : Int) (ah : List (Int × Int × UInt64 × UInt64 × Unit)) (m : LU) : Ar :=
(Gk m ([v] : LU)).bind fun ai =>
bk16 (Ae k u) (Ae h 1) ah ai
def Xc (bk16 : Int → Int → (List (Int × Int × UInt64 × UInt64 × Unit)) → LU → Ar) : Int → Int → LB → Int → Int → Int → UInt32 → Int → (List (Int × Int × UInt64 × UInt64 × Unit)) → LU → Ar := Afk bk16
def Pv (j22 : Int → Int → UInt32 → Int → (List (Int × Int × UInt64 × UInt64 × Unit)) → LU → Ar) (a f : Int) (g : LB) (b k h y : Int) (v : UInt32) (u : Int) (n : List (Int × Int × UInt64 × UInt64 × Unit)) (m : LU) (aa ab : Int) (ac ad : UInt64) : Ar :=
if (Cu y 0) then
some (([] : LU), 0, y)
else
(Pn (Cu a 0)).bind fun _ =>
(getI n (Hz h a)).bind fun _ =>
(Pm n (Hz h a) (aa, ab, ac, ad, ())).bind fun ah =>
j22 k u v h ah m
def Qb (bk16 : Int → Int → (List (Int × Int × UInt64 × UInt64 × Unit)) → LU → Ar) (a f : Int) (g : LB) (b : Int) : Int → Int → Int → UInt32 → Int → (List (Int × Int × UInt64 × UInt64 × Unit)) → LU → Int → Int → UInt64 → UInt64 → Ar := Pv (Xc bk16 a f g b) a f g b
def Qc (j21 : Int → Int → Int → UInt32 → Int → (List (Int × Int × UInt64 × UInt64 × Unit)) → LU → Int → Int → UInt64 → UInt64 → Ar) (j24 : Int → LU → Ar) (a f : Int) (g : LB) (b k h : Int) (n : List (Int × Int × UInt64 × UInt64 × Unit)) (m : LU) : Ar :=
if (Dm h (Bi f a)) then
(Amf g b k (Gg (Ae k 81) b)).bind fun (af, ae, ag) =>
if (Cu ag 0) then
some (([] : LU), 0, ag)
else
(Pn (Cu a 0)).bind fun _ =>
(getI n (Hz h a)).bind fun _ =>
(
(
(getI n (Hz h a)).bind fun o =>
(
(Vb af ae 0 o.1 o.2.1 o.2.2.1 o.2.2.2.1).bind fun (v, u, aa, ab, ac, ad, y) =>
j21 k h y v u n m aa ab ac ad)))
else
j24 k m
def Kt (a f : Int) (g : LB) (b : Int) : Nat → Int → Int → (List (Int × Int × UInt64 × UInt64 × Unit)) → LU → Ar
| 0, _, _, _, _ => none
| q + 1, k, h, n, m => Qc (Qb (Kt a f g b q) a f g b) Agk a f g b k h n m
def Afl (a f : Int) (g : LB) (b : Int) : Int → Int → (List (Int × Int × UInt64 × UInt64 × Unit)) → LU → Ar := Kt a f g b Ba
def Afq (j16 : Int → Int → LB → Int → Int → Int → (List (Int × Int × UInt64 × UInt64 × Unit)) → LU → Ar) (a f : Int) (g : LB) (b : Int) (p : List (Int × Int × UInt64 × UInt64 × Unit)) : Ar :=
j16 a f g b 0 0 p ([] : LU)
def Xq : Int → Int → LB → Int → (List (Int × Int × UInt64 × UInt64 × Unit)) → Ar := Afq Afl
def Ae3 (j15 : Int → Int → LB → Int → (List (Int × Int × UInt64 × UInt64 × Unit)) → Ar) (bk13 : Int → (List (Int × Int × UInt64 × UInt64 × Unit)) → Ar) (a f : Int) (g : LB) (b w : Int) (p : List (Int × Int × UInt64 × UInt64 × Unit)) : Ar :=
if (Dm w 6) then
(Awf).bind fun (aj, ae, ag, ak) =>
(getI p w).bind fun _ =>
(Pm p w (aj, ae, ag, ak, ())).bind fun al =>
bk13 (Ae w 1) al
else
j15 a f g b p
def Xi (a f : Int) (g : LB) (b : Int) : Nat → Int → (List (Int × Int × UInt64 × UInt64 × Unit)) → Ar
| 0, _, _ => none
| q + 1, w, p => Ae3 Xq (Xi a f g b q) a f g b w p
def Qw (a f : Int) (g : LB) (b : Int) : Int → (List (Int × Int × UInt64 × UInt64 × Unit)) → Ar := Xi a f g b Ba
def Zd (j13 : Int → Int → LB → Int → Int → (List (Int × Int × UInt64 × UInt64 × Unit)) → Ar) (a f : Int) (g : LB) (b : Int) : Ar :=
j13 a f g b 0 (List.replicate 6 ((0 : Int), (0 : Int), (0 : UInt64), (0 : UInt64), ()))
def Aau : Int → Int → LB → Int → Ar := Zd Qw
abbrev Afm := Option (Int × LX × LX × Int)
def Bb9 (a : Int) (b : LX) (f : Bool) : Afm :=
if f then
some (10, b, (List.replicate 16 (0 : Int32)), 0)
else
if (geq a 16) then
some (9, b, (List.replicate 16 (0 : Int32)), 0)
else
some (0, (List.replicate 16 (0 : Int32)), (List.replicate 16 (0 : Int32)), 2)
def Ari : Int → LX → Bool → Afm := Bb9
def Arx (j2 : Int → LX → Bool → Afm) (a : Int) (b : LX) : Afm :=
if (geq a 8) then
j2 a b (geq a 8)
else
j2 a b (geq a 24)
def Ao9 : Int → LX → Afm := Arx Ari
def Aw8 (a : Int) (f : LX) : Option (Int × Int32 × Int × LX × LX × Int) :=
(Ao9 a f).bind fun (g, h, k, b) =>
if (Cu b 0) then
some (0, 0, 0, (List.replicate 16 (0 : Int32)), (List.replicate 16 (0 : Int32)), b)
else
some (a, 0, g, h, k, 0)
def Vd (a : UInt32) : Option Int32 :=
some (Wg (Ad (Cq a (GI.toZ (1 : UInt64)).toNat) : Int32) (Ap4 (Ad (Hr a 1) : Int32)))
def Acp (a : Int) (k : Int32) (b : Int) (f m : LX) : Option Int :=
(Ao9 a f).bind fun (g, n, o, h) =>
if ((Cu h 0) || (Cu g b)) then
some 8
else
some 0
def Alz (a : Int) : Option (Int × Int) :=
if (geq a 8) then
some (4, 0)
else
if (geq a 16) then
if (geq a 16) then
some (5, 0)
else
some (0, 2)
else
if (geq a 24) then
some (5, 0)
else
some (0, 2)
def Agz (a : Int) (b : Int32) : Option Int32 :=
(Pn (Qy a 0)).bind fun _ =>
(Pn (Qy a 0)).bind fun _ =>
some (Ad (Azt (Al (Dx (Ad b : Int) (GI.toZ a).toNat) (Ad b : Int)) (GI.toZ a).toNat) : Int32)
def Ac6 (b : Int) (f : Int32) : Option (Int32 × Int) :=
(Alz b).bind fun (g, a) =>
if (Cu a 0) then
some (0, a)
else
(Agz g f).bind fun h =>
some (h, 0)
def Ab4 (a : Int) (b f : LX) : Option Int :=
if ((Cu a 9) && (Cu a 10)) then
some 8
else
some 0
abbrev Ie := Option (Int32 × Int)
def An2 (g : Int32) (a : Int) (b f : LX) : Ie :=
(Pn (Qy a 0)).bind fun _ =>
some ((Cq g (GI.toZ a).toNat), 0)
def Ahp : Int32 → Int → LX → LX → Ie := An2
def Ack (j6 : Int32 → Int → LX → LX → Ie) (bk4 : Int32 → Int → Ie) (b : LX) (a : Int) (f : LX) (g : Int32) (h : Int) : Ie :=
if (Dm h 16) then
(getI b h).bind fun m =>
(getI f h).bind fun _ =>
(getI f h).bind fun n =>
bk4 (Ae g (Bi m n)) (Ae h 1)
else
j6 g a b f
def Rj (b : LX) (a : Int) (f : LX) : Nat → Int32 → Int → Ie
| 0, _, _ => none
| q + 1, g, h => Ack Ahp (Rj b a f q) b a f g h
def Ahh (b : LX) (a : Int) (f : LX) : Int32 → Int → Ie := Rj b a f Ba
def Ah6 (j4 : LX → Int → LX → Int32 → Int → Ie) (a : Int) (b f : LX) : Ie :=
(Ab4 a b f).bind fun k =>
if (Cu k 0) then
some (0, k)
else
(Pn (Qy (Al a 1) 0)).bind fun _ =>
j4 b a f (Dx (1 : Int32) (GI.toZ (Al a 1)).toNat) 0
def Aka : Int → LX → LX → Ie := Ah6 Ahh
def Aid (a : Int) : Option Int32 :=
if (geq a 0) then
some 4
else
if (Dm a 4) then
some 2
else
some 1
abbrev Ic := Option (Int × LX × LX × Int)
def Awq (g : Int) (b f : LX) : Ic :=
some (g, b, f, 0)
def Anw : Int → LX → LX → Ic := Awq
def Acb (j6 : Int → LX → LX → Ic) (bk4 : Int → LX → Ic) (h : Int32) (f : LX) (g a : Int) (b : LX) : Ic :=
if (Dm a 16) then
(getI f a).bind fun m =>
if (geq m 0) then
bk4 (Ae a 1) b
else
if ((Dm m 0) == (Dm h 0)) then
(getI b a).bind fun _ =>
(getI b a).bind fun o =>
(Aid a).bind fun p =>
(getI b a).bind fun _ =>
(Pm b a (Ae o p)).bind fun u =>
bk4 (Ae a 1) u
else
(getI b a).bind fun _ =>
(getI b a).bind fun v =>
(Aid a).bind fun w =>
(getI b a).bind fun _ =>
(Pm b a (Al v w)).bind fun y =>
bk4 (Ae a 1) y
else
j6 g b f
def Ri (h : Int32) (f : LX) (g : Int) : Nat → Int → LX → Ic
| 0, _, _ => none
| q + 1, a, b => Acb Anw (Ri h f g q) h f g a b
def Ano (h : Int32) (f : LX) (g : Int) : Int → LX → Ic := Ri h f g Ba
def Ahj (j4 : Int32 → LX → Int → Int → LX → Ic) (g : Int) (k f : LX) (h : Int32) : Ic :=
(Ab4 g k f).bind fun n =>
if (Cu n 0) then
some (0, (List.replicate 16 (0 : Int32)), (List.replicate 16 (0 : Int32)), n)
else
if (geq h 0) then
some (g, k, f, 0)
else
j4 h f g 0 k
def Akm : Int → LX → LX → Int32 → Ic := Ahj Ano
abbrev Acn := Option (Int × LX × LX × Int)
def Ao6 (g : Int32) (b : Int) (f a : LX) : Acn :=
(getI (Sg a 1 ((16 : Int) - (1 : Int)) (Aiq a 0 ((16 : Int) - (0 : Int)))) 0).bind fun _ =>
(Pm (Sg a 1 ((16 : Int) - (1 : Int)) (Aiq a 0 ((16 : Int) - (0 : Int)))) 0 g).bind fun k =>
some (b, f, k, 0)
def Ajd : Int32 → Int → LX → LX → Acn := Ao6
def Aej (j2 : Int32 → Int → LX → LX → Acn) (b : Int) (f a : LX) (g : Int32) : Acn :=
(Ab4 b f a).bind fun h =>
if (Cu h 0) then
some (0, (List.replicate 16 (0 : Int32)), (List.replicate 16 (0 : Int32)), h)
else
(
(vwI 16 1 16).bind fun _ =>
(vwI 16 0 16).bind fun _ =>
j2 g b f a)
def Amv : Int → LX → LX → Int32 → Acn := Aej Ajd
def Aoz (a : Int) (b f : LX) (g h : Int32) : Option (Int × LX × LX) :=
(Akm a b f h).bind fun (k, m, n, v) =>
(Amv k m n g).bind fun (o, p, u, w) =>
some (o, p, u)
def Amc (b : Int) (f g : LX) (a : Int32) : Option (Int32 × Int × LX × LX × Int) :=
(Aka b f g).bind fun (h, k) =>
if (Cu k 0) then
some (0, 0, (List.replicate 16 (0 : Int32)), (List.replicate 16 (0 : Int32)), k)
else
(Aoz b f g (Ae a h) a).bind fun (m, n, o) =>
some ((Ae a h), m, n, o, 0)
def Je (a : Int) (b : Int32) (f : Int) (g h : LX) (o : Int32) : Option (Int32 × Int × Int32 × Int × LX × LX × Int) :=
(Acp a b f g h).bind fun k =>
if (Cu k 0) then
some (0, 0, 0, 0, (List.replicate 16 (0 : Int32)), (List.replicate 16 (0 : Int32)), k)
else
(Ac6 a b).bind fun (m, y) =>
(Amc f g h o).bind fun (n, p, u, v, w) =>
(
some ((Ae n m), a, (Ae n m), p, u, v, w))
def Am0 (a : Int) (b : LX) : Option Int :=
if ((Dm a 1) || (Hw a 6)) then
some 2
else
if (Hw (Ac b) 4000) then
some 4
else
(Pn (Cu a 0)).bind fun _ =>
if (Cu (Hz (Ac b) a) 0) then
some 2
else
some 0
def Fu (a : LX) : Option (LX) :=
(
(Gk ([] : LX) a).bind fun b =>
some b)
abbrev Cf := Option (LX × Int)
def Aze (f : LX) : Cf :=
some (f, 0)
def Aph : LX → Cf := Aze
def Aqb (bk12 : Int → LX → Cf) (b a : Int) (h : LX) : Cf :=
bk12 (Ae a b) h
def Aj8 (bk12 : Int → LX → Cf) : Int → Int → LX → Cf := Aqb bk12
def Aes (j20 : Int → LX → Cf) (bk18 : Int → LX → Cf) (b a g : Int) (h : LX) : Cf :=
if (Qy g 0) then
(Pn (decide (0 ≤ (Ae g 1) ∧ (Ae g 1) < ((Ae a b) - a)))).bind fun _ =>
(Pn (decide (0 ≤ g ∧ g < ((Ae a b) - a)))).bind fun _ =>
(getI h (a + (Ae g 1))).bind fun o =>
(getI h (a + g)).bind fun p =>
(Pn (decide (0 ≤ g ∧ g < ((Ae a b) - a)))).bind fun _ =>
(Pm h (a + g) (Al o p)).bind fun u =>
bk18 (Al g 1) u
else
j20 a h
def Uv (bk12 : Int → LX → Cf) (b a : Int) : Nat → Int → LX → Cf
| 0, _, _ => none
| q + 1, g, h => Aes (Aj8 bk12 b) (Uv bk12 b a q) b a g h
def Ajv (bk12 : Int → LX → Cf) (b a : Int) : Int → LX → Cf := Uv bk12 b a Ba
def Ajc (j18 : Int → Int → LX → Cf) (b a : Int) (k : LX) : Cf :=
j18 a (Al (Al ((Ae a b) - a) 1) 1) k
def Aeq (bk12 : Int → LX → Cf) (b : Int) : Int → LX → Cf := Ajc (Ajv bk12 b) b
def Akj (j17 : Int → LX → Cf) (j22 : LX → Cf) (b a : Int) (f : LX) : Cf :=
if (Dm a (Ac f)) then
(vwI (Ac f) a (Ae a b)).bind fun _ =>
if (Hw (Al ((Ae a b) - a) 1) 0) then
(Pn (decide (0 ≤ (Al ((Ae a b) - a) 1) ∧ (Al ((Ae a b) - a) 1) < ((Ae a b) - a)))).bind fun _ =>
Option.bind (Pn (decide (0 ≤ (Al (Al ((Ae a b) - a) 1) 1) ∧ (Al (Al ((Ae a b) - a) 1) 1) < ((Ae a b) - a)))) fun _ =>
(getI f (a + (Al ((Ae a b) - a) 1))).bind fun v =>
(getI f (a + (Al (Al ((Ae a b) - a) 1) 1))).bind fun w =>
(Pn (decide (0 ≤ (Al ((Ae a b) - a) 1) ∧ (Al ((Ae a b) - a) 1) < ((Ae a b) - a)))).bind fun _ =>
(Pm f (a + (Al ((Ae a b) - a) 1)) (Ae v (Bo w 2))).bind fun y =>
j17 a y
else
j17 a f
else
j22 f
def Pw (b : Int) : Nat → Int → LX → Cf
| 0, _, _ => none
| q + 1, a, f => Akj (Aeq (Pw b q) b) Aph b a f
def Ajj (b : Int) : Int → LX → Cf := Pw b Ba
def Amo (j12 : Int → Int → LX → Cf) (b : Int) (m : LX) : Cf :=
(Am0 b m).bind fun n =>
if (Cu n 0) then
some (([] : LX), n)
else
(Fu m).bind fun aa =>
j12 b 0 aa
def Ape : Int → LX → Cf := Amo Ajj
def As8 : Option Int :=
some 0
def Amd : Option Int := As8
def Zo (j6 : Option Int) (bk4 : Int → Option Int) (b f : Int32) (a : LX) (g : Int) : Option Int :=
if (Dm g (Ac a)) then
(getI a g).bind fun h =>
if ((Dm h b) || (Hw h f)) then
some 16
else
bk4 (Ae g 1)
else
j6
def Pe (b f : Int32) (a : LX) : Nat → Int → Option Int
| 0, _ => none
| q + 1, g => Zo Amd (Pe b f a q) b f a g
def Amg (b f : Int32) (a : LX) : Int → Option Int := Pe b f a Ba
def Afe (j4 : Int32 → Int32 → LX → Int → Option Int) (m : Int) (a : LX) : Option Int :=
(Xv m).bind fun (b, f, k) =>
if (Cu k 0) then
some k
else
if (Hw (Ac a) 4000) then
some 4
else
j4 b f a 0
def Aco : Int → LX → Option Int := Afe Amg
abbrev Az := Option (LX × Int)
def Aeg (a b : Int) (k : LX) : Az :=
(Ape a k).bind fun (ah, af) =>
if (Cu af 0) then
some (([] : LX), af)
else
(Aco b ah).bind fun ae =>
if (Cu ae 0) then
some (([] : LX), ae)
else
some (ah, 0)
def Jg : Int → Int → LX → Az := Aeg
def Aei (bk13 : Int → (List (Int × Int32 × (Int × LX × LX × Unit) × Unit)) → LX → Az) (a : Int) (f : LU) (b g : Int) (w : Int32) (u : Int) (h : List (Int × Int32 × (Int × LX × LX × Unit) × Unit)) (k : LX) (y : Int) (v : Int32) (aa : Int) (ab ac : LX) : Az :=
if (Cu u 0) then
some (([] : LX), u)
else
(Pm h (Hz g a) (y, v, (aa, ab, ac, ()), ())).bind fun ai =>
(Gk k ([w] : LX)).bind fun aj =>
bk13 (Ae g 1) ai aj
def Vm (bk13 : Int → (List (Int × Int32 × (Int × LX × LX × Unit) × Unit)) → LX → Az) : Int → LU → Int → Int → Int32 → Int → (List (Int × Int32 × (Int × LX × LX × Unit) × Unit)) → LX → Int → Int32 → Int → LX → LX → Az := Aei bk13
def Jf (j16 : Int → Int32 → Int → (List (Int × Int32 × (Int × LX × LX × Unit) × Unit)) → LX → Int → Int32 → Int → LX → LX → Az) (j18 : Int → Int → LX → Az) (f : LU) (a b g : Int) (h : List (Int × Int32 × (Int × LX × LX × Unit) × Unit)) (k : LX) : Az :=
if (Dm g (Ac f)) then
(getI f g).bind fun ag =>
(Pn (Cu a 0)).bind fun _ =>
(getI h (Hz g a)).bind fun _ =>
(
(getI h (Hz g a)).bind fun m =>
(
(Vd ag).bind fun ae =>
(
(Je m.1 m.2.1 m.2.2.1.1 m.2.2.1.2.1 m.2.2.1.2.2.1 ae).bind fun (w, y, v, aa, ab, ac, u) =>
j16 g w u h k y v aa ab ac)))
else
j18 a b k
def Gv (f : LU) (a b : Int) : Nat → Int → (List (Int × Int32 × (Int × LX × LX × Unit) × Unit)) → LX → Az
| 0, _, _, _ => none
| q + 1, g, h, k => Jf (Vm (Gv f a b q) a f b) Jg f a b g h k
def Aea (f : LU) (a b : Int) : Int → (List (Int × Int32 × (Int × LX × LX × Unit) × Unit)) → LX → Az := Gv f a b Ba
def Aee (j13 : LU → Int → Int → Int → (List (Int × Int32 × (Int × LX × LX × Unit) × Unit)) → LX → Az) (f : LU) (a b : Int) (n : List (Int × Int32 × (Int × LX × LX × Unit) × Unit)) : Az :=
j13 f a b 0 n ([] : LX)
def Vo : LU → Int → Int → (List (Int × Int32 × (Int × LX × LX × Unit) × Unit)) → Az := Aee Aea
def Aed (j12 : LU → Int → Int → (List (Int × Int32 × (Int × LX × LX × Unit) × Unit)) → Az) (bk10 : Int → (List (Int × Int32 × (Int × LX × LX × Unit) × Unit)) → Az) (f : LU) (a b : Int) (o : LX) (p : Int) (n : List (Int × Int32 × (Int × LX × LX × Unit) × Unit)) : Az :=
if (Dm p 6) then
(Aw8 b o).bind fun (ak, af, ae, al, am, v) =>
(getI n p).bind fun _ =>
(Pm n p (ak, af, (ae, al, am, ()), ())).bind fun an =>
bk10 (Ae p 1) an
else
j12 f a b n
def Vt (f : LU) (a b : Int) (o : LX) : Nat → Int → (List (Int × Int32 × (Int × LX × LX × Unit) × Unit)) → Az
| 0, _, _ => none
| q + 1, p, n => Aed Vo (Vt f a b o q) f a b o p n
def Nl (f : LU) (a b : Int) (o : LX) : Int → (List (Int × Int32 × (Int × LX × LX × Unit) × Unit)) → Az := Vt f a b o Ba
def Xe (j10 : LU → Int → Int → LX → Int → (List (Int × Int32 × (Int × LX × LX × Unit) × Unit)) → Az) (a b : Int) (o : LX) (f : LU) : Az :=
j10 f a b o 0 (List.replicate 6 ((0 : Int), (0 : Int32), ((0 : Int), (List.replicate 16 (0 : Int32)), (List.replicate 16 (0 : Int32)), ()), ()))
def Qz : Int → Int → LX → LU → Az := Xe Nl
def deframe_Decode (a h : Int) (u : LX) (f : Int) (v : LB) : Option (LX × Int) :=
(Ach a h).bind fun k =>
if (Cu k 0) then
some (([] : LX), k)
else
if (Dm f 1) then
some (([] : LX), 2)
else
(Pn (Cu a 0)).bind fun _ =>
if (Hw f (Bo 4000 a)) then
some (([] : LX), 2)
else
(Zl v).bind fun (w, m) =>
if (Cu m 0) then
some (([] : LX), m)
else
(Ayz w).bind fun (n, b, o) =>
if (Cu o 0) then
some (([] : LX), o)
else
(Aau a f n b).bind fun (y, g, p) =>
if (Cu p 0) then
some (([] : LX), p)
else
if (Qy (Al b g) 8) then
some (([] : LX), 12)
else
(Aar n b g (Al b g)).bind fun (aa, ab) =>
if ((Cu ab 0) || (Cu aa 0)) then
some (([] : LX), 12)
else
(Qz a h u y).bind fun (ac, ad) =>
some (ac, ad)
abbrev Bf := Option (LB × Int)
def Asl (g : LB) : Bf :=
some (g, 0)
def Aks : LB → Bf := Asl
def Akx (bk16 : Int → LB → Bf) (b : Int) (a : LX) (f : Int) (h : LB) : Bf :=
bk16 (Ae f 1) h
def Adt (bk16 : Int → LB → Bf) : Int → LX → Int → LB → Bf := Akx bk16
def Wt (j28 : Int → LB → Bf) (bk26 : Int → LB → Bf) (b : Int) (a : LX) (k : Int32) (f m : Int) (h : LB) : Bf :=
if (Dm m (Bo b 8)) then
(Pn (Qy (Bi 8 m) 0)).bind fun _ =>
(Gk h ([(Ad (Cq k (GI.toZ (Bi 8 m)).toNat) : UInt8)] : LB)).bind fun p =>
bk26 (Ae m 1) p
else
j28 f h
def Ha (bk16 : Int → LB → Bf) (b : Int) (a : LX) (k : Int32) (f : Int) : Nat → Int → LB → Bf
| 0, _, _ => none
| q + 1, m, h => Wt (Adt bk16 b a) (Ha bk16 b a k f q) b a k f m h
def Adz (bk16 : Int → LB → Bf) (b : Int) (a : LX) (k : Int32) (f : Int) : Int → LB → Bf := Ha bk16 b a k f Ba
def Adp (j26 : Int32 → Int → Int → LB → Bf) (b : Int) (a : LX) (f : Int) (g : LB) (k : Int32) : Bf :=
j26 k f 0 g
def Jd (bk16 : Int → LB → Bf) (b : Int) (a : LX) : Int → LB → Int32 → Bf := Adp (Adz bk16 b a) b a
def Wy (j25 : Int → LB → Int32 → Bf) (j30 : LB → Bf) (b : Int) (a : LX) (f : Int) (g : LB) : Bf :=
if (Dm f (Ac a)) then
(getI a f).bind fun n =>
if (geq b 8) then
j25 f g (Ae n 128)
else
j25 f g n
else
j30 g
def Eu (b : Int) (a : LX) : Nat → Int → LB → Bf
| 0, _, _ => none
| q + 1, f, g => Wy (Jd (Eu b a q) b a) Aks b a f g
def Akq (b : Int) (a : LX) : Int → LB → Bf := Eu b a Ba
def Afc (j16 : Int → LX → Int → LB → Bf) (b : Int) (a : LX) : Bf :=
(Aco b a).bind fun o =>
if (Cu o 0) then
some (([] : LB), o)
else
j16 b a 0 ([] : LB)
def width_Bytes : Int → LX → Bf := Afc Akq
abbrev Bn := Option (LB × Int)
def Aso (a ac : Int) : Bn :=
if (Cu ac 0) then
some (([] : LB), ac)
else
if ((Dm a 0) || (Qy a 0)) then
some (([] : LB), 2)
else
none
def Akr : Int → Int → Bn := Aso
def Aqs (ad : Int) (ae : LB) : Bn :=
some (ae, ad)
def Abt : Int → LB → Bn := Aqs
def Ad5 (j10 : Int → LB → Bn) (w a h b : Int) (aa : LX) (n o p k : Int) (m : LB) (u : LX) (v f g : LI) : Bn :=
if (Cu w 0) then
j10 w ([] : LB)
else
(width_Bytes b aa).bind fun (ak, al) =>
j10 al ak
def Adw : Int → Int → Int → Int → LX → Int → Int → Int → Int → LB → LX → LI → LI → LI → Bn := Ad5 Abt
def Ad0 (j10 : Int → LB → Bn) (j9 : Int → Int → Int → Int → LX → Int → Int → Int → Int → LB → LX → LI → LI → LI → Bn) (a k ab y : Int) (m : LB) (h b : Int) (u : LX) (n o p : Int) (g v f : LI) : Bn :=
if (Hw (Ae k y) (Ac m)) then
j10 24 ([] : LB)
else
(getI g a).bind fun _ =>
(Db m (Ae k ab) (Ae k y)).bind fun am =>
(getI g a).bind fun an =>
(deframe_Decode h b u an am).bind fun (aa, w) =>
j9 w a h b aa n o p k m u v f g
def Adv : Int → Int → Int → Int → LB → Int → Int → LX → Int → Int → Int → LI → LI → LI → Bn := Ad0 Abt Adw
def Ad4 (j8 : Int → Int → Int → Int → LB → Int → Int → LX → Int → Int → Int → LI → LI → LI → Bn) (a : Int) (g : LI) (n h b o p k : Int) (m : LB) (u : LX) (v f : LI) : Bn :=
if (Cu (0 : Int) (0 : Int)) then
some (([] : LB), 0)
else
if ((Dm a 0) || (Qy a (Ac g))) then
some (([] : LB), 2)
else
(getI f a).bind fun _ =>
(getI f (Ae a 1)).bind fun _ =>
(getI f a).bind fun ab =>
(getI f (Ae a 1)).bind fun y =>
j8 a k ab y m h b u n o p g v f
def Ra : Int → LI → Int → Int → Int → Int → Int → Int → LB → LX → LI → LI → Bn := Ad4 Adv
def Ad1 (j6 : Int → Int → Bn) (j7 : Int → LI → Int → Int → Int → Int → Int → Int → LB → LX → LI → LI → Bn) (m af : LB) (a : Int) : Bn :=
(seekto_Open m af).bind fun (n, h, b, o, p, k, v, ag) =>
if (Cu ag 0) then
j6 a ag
else
(Rf n h b o p).bind fun (g, ah) =>
if (Cu ah 0) then
j6 a ah
else
(Ab9 v).bind fun (f, ai) =>
if (Cu ai 0) then
j6 a ai
else
(Ang af).bind fun (u, aj) =>
if (Cu aj 0) then
j6 a aj
else
(getI f (Ac g)).bind fun _ =>
(getI f (Ac g)).bind fun ao =>
j7 a g n h b o p k m u v f
def Ze : LB → LB → Int → Bn := Ad1 Akr Ra
abbrev Ay := Option (LX × Int)
def Apm (g : LX) : Ay :=
some (g, 0)
def Ag4 : LX → Ay := Apm
def Td (bk16 : Int → LX → Ay) (a : Int) (b : LB) (f : Int) (m : LX) : Ay :=
bk16 (Ae f (Bo a 8)) m
def Gj (bk16 : Int → LX → Ay) : Int → LB → Int → LX → Ay := Td bk16
def Sr (j28 : Int → LX → Ay) (a : Int) (b : LB) (f : Int) (h : Int32) (g : LX) : Ay :=
(Pn (Qy (Al 32 a) 0)).bind fun _ =>
(Pn (Qy (Al 32 a) 0)).bind fun _ =>
(Gk g ([(Cq (Dx h (GI.toZ (Al 32 a)).toNat) (GI.toZ (Al 32 a)).toNat)] : LX)).bind fun p =>
j28 f p
def Tl (bk16 : Int → LX → Ay) (a : Int) (b : LB) : Int → Int32 → LX → Ay := Sr (Gj bk16 a b) a b
def Ed (j27 : Int → Int32 → LX → Ay) (bk25 : Int32 → Int → Ay) (a : Int) (b : LB) (f : Int) (g : LX) (h : Int32) (k : Int) : Ay :=
if (Dm k (Bo a 8)) then
(getI b (Ae f k)).bind fun n =>
(Pn (Qy (Bi 8 k) 0)).bind fun _ =>
bk25 (gor h (Dx (Ad n : Int32) (GI.toZ (Bi 8 k)).toNat)) (Ae k 1)
else
j27 f h g
def Dn (bk16 : Int → LX → Ay) (a : Int) (b : LB) (f : Int) (g : LX) : Nat → Int32 → Int → Ay
| 0, _, _ => none
| q + 1, h, k => Ed (Tl bk16 a b) (Dn bk16 a b f g q) a b f g h k
def Io (bk16 : Int → LX → Ay) (a : Int) (b : LB) (f : Int) (g : LX) : Int32 → Int → Ay := Dn bk16 a b f g Ba
def Ec (j28 : Int → LX → Ay) (j25 : Int → LX → Int32 → Int → Ay) (j30 : LX → Ay) (a : Int) (b : LB) (f : Int) (g : LX) : Ay :=
if (Dm f (Ac b)) then
if (geq a 8) then
(getI b f).bind fun n =>
(Gk g ([(Al (Ad n : Int32) 128)] : LX)).bind fun u =>
j28 f u
else
j25 f g 0 0
else
j30 g
def Cy (a : Int) (b : LB) : Nat → Int → LX → Ay
| 0, _, _ => none
| q + 1, f, g => Ec (Gj (Cy a b q) a b) (Io (Cy a b q) a b) Ag4 a b f g
def Zr (a : Int) (b : LB) : Int → LX → Ay := Cy a b Ba
def Abs (j16 : Int → LB → Int → LX → Ay) (a : Int) (b : LB) : Ay :=
(Xv a).bind fun (v, w, o) =>
if (Cu o 0) then
some (([] : LX), o)
else
(Pn (Cu (Bo a 8) 0)).bind fun _ =>
if (Cu (Hz (Ac b) (Bo a 8)) 0) then
some (([] : LX), 12)
else
(Pn (Cu (Bo a 8) 0)).bind fun _ =>
if (Hw (Bo (Ac b) (Bo a 8)) 4000) then
some (([] : LX), 4)
else
j16 a b 0 ([] : LX)
def Wp : Int → LB → Ay := Abs Zr
abbrev Be := Option (LI × Int)
def Agi (ab : Int) (ac : LI) : Be :=
if (Cu ab 0) then
some (([] : LI), ab)
else
some (ac, 0)
def Kn : Int → LI → Be := Agi
def Af7 (j26 : Int → LI → Be) (a b : LB) (h k g m n o : Int) (p v : LI) : Be :=
j26 0 v
def Afu : LB → LB → Int → Int → Int → Int → Int → Int → LI → LI → Be := Af7 Kn
def Amh (bk14 : Int → LI → Be) (a b : LB) (f : LI) (h k g m n o : Int) (p : LI) (u : Int) (w : LI) : Be :=
bk14 (Ae u 1) w
def Afx (bk14 : Int → LI → Be) : LB → LB → LI → Int → Int → Int → Int → Int → Int → LI → Int → LI → Be := Amh bk14
def Aff (j26 : Int → LI → Be) (j23 : Int → LI → Be) (a b : LB) (f : LI) (h k g m n o : Int) (p : LI) (u : Int) (w : LI) : Be :=
if (Cu (0 : Int) (0 : Int)) then
j26 0 w
else
j23 u w
def Zt (bk14 : Int → LI → Be) (a b : LB) (f : LI) (h k g m n o : Int) (p : LI) : Int → LI → Be := Aff Kn (Afx bk14 a b f h k g m n o p) a b f h k g m n o p
def Aaf (j22 : Int → LI → Be) (a b : LB) (f : LI) (h k g m n o : Int) (p : LI) (u aa y : Int) (v : LI) (ad : LX) : Be :=
if (!(geq y 0)) then
(Gk v ([u] : LI)).bind fun ah =>
j22 u ah
else
j22 u v
def Yr (bk14 : Int → LI → Be) (a b : LB) (f : LI) (h k g m n o : Int) (p : LI) : Int → Int → Int → LI → LX → Be := Aaf (Zt bk14 a b f h k g m n o p) a b f h k g m n o p
def Yt (j26 : Int → LI → Be) (j21 : Int → Int → Int → LI → LX → Be) (j25 : LB → LB → Int → Int → Int → Int → Int → Int → LI → LI → Be) (a b : LB) (f : LI) (h k g m n o : Int) (p : LI) (u : Int) (v : LI) : Be :=
if (Dm u (Ac f)) then
(getI f u).bind fun _ =>
(getI f u).bind fun aa =>
(Ze a b u).bind fun (ai, y) =>
if (geq y 0) then
(Wp g ai).bind fun (aj, ae) =>
if (Cu ae 0) then
j26 ae v
else
j21 u aa y v aj
else
j21 u aa y v ([] : LX)
else
j25 a b h k g m n o p v
def Kr (a b : LB) (f : LI) (h k g m n o : Int) (p : LI) : Nat → Int → LI → Be
| 0, _, _ => none
| q + 1, u, v => Yt Kn (Yr (Kr a b f h k g m n o p q) a b f h k g m n o p) Afu a b f h k g m n o p u v
def Amr (a b : LB) (f : LI) (h k g m n o : Int) (p : LI) : Int → LI → Be := Kr a b f h k g m n o p Ba
def Acj (j26 : Int → LI → Be) (j14 : LB → LB → LI → Int → Int → Int → Int → Int → Int → LI → Int → LI → Be) (a b : LB) : Be :=
(seekto_Open a b).bind fun (h, k, g, m, n, o, p, af) =>
if (Cu af 0) then
j26 af ([] : LI)
else
(Rf h k g m n).bind fun (f, ag) =>
if (Cu ag 0) then
j26 ag ([] : LI)
else
j14 a b f h k g m n o p 0 ([] : LI)
def Xk : LB → LB → Be := Acj Kn Amr
abbrev Cm := Option (Int × Int)
def Ak8 (a : Int) : Cm :=
some (a, 0)
def Aa2 : Int → Cm := Ak8
def Kx (j6 : Int → Cm) (bk4 : Int → Int → Cm) (b : LB) (a f : Int) : Cm :=
if (Dm f 4) then
(getI b f).bind fun g =>
if (Qy g 128) then
some (0, 12)
else
(getI b f).bind fun h =>
bk4 (Ae (Bi 128 a) (Ad h : Int)) (Ae f 1)
else
j6 a
def Fh (b : LB) : Nat → Int → Int → Cm
| 0, _, _ => none
| q + 1, a, f => Kx Aa2 (Fh b q) b a f
def Se (b : LB) : Int → Int → Cm := Fh b Ba
def Ru (j4 : LB → Int → Int → Cm) (b : LB) : Cm :=
if (Cu (Ac b) 4) then
some (0, 2)
else
j4 b 0 0
def Qu : LB → Cm := Ru Se
abbrev Ci := Option (Int × Int)
def Adg (a : LB) (g : Int) : Ci :=
if (Hw g 4000) then
some (0, 4)
else
if (Dm (Ac a) g) then
some (0, 24)
else
(getI a 5).bind fun h =>
if (geq h 16) then
(Db a (Al g 10) g).bind fun k =>
(Db a 3 10).bind fun m =>
(Gk ([51, 68, 73] : LB) m).bind fun n =>
if (k != n) then
some (0, 12)
else
some (g, 0)
else
some (g, 0)
def Mm : LB → Int → Ci := Adg
def Tt (j6 : LB → Int → Ci) (a : LB) (b : Int) : Ci :=
(getI a 5).bind fun o =>
if (geq o 16) then
j6 a (Ae (Ae 10 b) 10)
else
j6 a (Ae 10 b)
def Md : LB → Int → Ci := Tt Mm
def Ts (j5 : LB → Int → Ci) (a : LB) : Ci :=
if (Dm (Ac a) 10) then
some (0, 24)
else
(Db a 6 10).bind fun p =>
(Qu p).bind fun (b, f) =>
(getI a 3).bind fun u =>
if (Dm u 2) then
if true then
if true then
if (true || (Cu f 0)) then
some (0, 12)
else
j5 a b
else
(getI a 5).bind fun v =>
if (Cu v 0) then
(getI a 5).bind fun w =>
if (Cu w 16) then
if (true || (Cu f 0)) then
some (0, 12)
else
j5 a b
else
(getI a 3).bind fun y =>
if ((Cu y 4) || (Cu f 0)) then
some (0, 12)
else
j5 a b
else
if (false || (Cu f 0)) then
some (0, 12)
else
j5 a b
else
(getI a 4).bind fun aa =>
if (Cu aa 0) then
if (true || (Cu f 0)) then
some (0, 12)
else
j5 a b
else
(getI a 5).bind fun ab =>
if (Cu ab 0) then
(getI a 5).bind fun ac =>
if (Cu ac 16) then
if (true || (Cu f 0)) then
some (0, 12)
else
j5 a b
else
(getI a 3).bind fun ad =>
if ((Cu ad 4) || (Cu f 0)) then
some (0, 12)
else
j5 a b
else
if (false || (Cu f 0)) then
some (0, 12)
else
j5 a b
else
(getI a 3).bind fun ae =>
if (Hw ae 4) then
if true then
if (true || (Cu f 0)) then
some (0, 12)
else
j5 a b
else
(getI a 5).bind fun af =>
if (Cu af 0) then
(getI a 5).bind fun ag =>
if (Cu ag 16) then
if (true || (Cu f 0)) then
some (0, 12)
else
j5 a b
else
(getI a 3).bind fun ah =>
if ((Cu ah 4) || (Cu f 0)) then
some (0, 12)
else
j5 a b
else
if (false || (Cu f 0)) then
some (0, 12)
else
j5 a b
else
(getI a 4).bind fun ai =>
if (Cu ai 0) then
if (true || (Cu f 0)) then
some (0, 12)
else
j5 a b
else
(getI a 5).bind fun aj =>
if (Cu aj 0) then
(getI a 5).bind fun ak =>
if (Cu ak 16) then
if (true || (Cu f 0)) then
some (0, 12)
else
j5 a b
else
(getI a 3).bind fun al =>
if ((Cu al 4) || (Cu f 0)) then
some (0, 12)
else
j5 a b
else
if (false || (Cu f 0)) then
some (0, 12)
else
j5 a b
def Tv : LB → Ci := Ts Md
def Ut (j4 : LB → Ci) (a : LB) : Ci :=
if (Dm (Ac a) 3) then
some (0, 6)
else
(Db a 0 3).bind fun am =>
if (am != ([73, 68, 51] : LB)) then
some (0, 6)
else
j4 a
def Tb : LB → Ci := Ut Tv
def Ago (a : UInt64) : Option UInt64 :=
some a
def Xa : UInt64 → Option UInt64 := Ago
def Qk (j6 : UInt64 → Option UInt64) (bk4 : UInt64 → Int → Option UInt64) (b : LB) (a : UInt64) (f : Int) : Option UInt64 :=
if (Qy f 0) then
(getI b f).bind fun g =>
bk4 (Ae (Bi 256 a) (Ad g : UInt64)) (Al f 1)
else
j6 a
def Ht (b : LB) : Nat → UInt64 → Int → Option UInt64
| 0, _, _ => none
| q + 1, a, f => Qk Xa (Ht b q) b a f
def Xl (b : LB) : UInt64 → Int → Option UInt64 := Ht b Ba
def Xn (j4 : LB → UInt64 → Int → Option UInt64) (b : LB) : Option UInt64 :=
j4 b 0 (Al (Ac b) 1)
def Aj : LB → Option UInt64 := Xn Xl
def Th (b : LB) : Option (Int × Int × Bool) :=
(Db b 12 16).bind fun g =>
(Aj g).bind fun a =>
(Db b 16 20).bind fun h =>
(Aj h).bind fun f =>
if (((Dm a 32) || (Hw a 3032)) || (Hw f 1000)) then
some (0, 0, false)
else
some ((Al (Ad a : Int) 32), (Ad f : Int), true)
def Xr (a : LB) : Option (LB) :=
some a
def Pd : LB → Option (LB) := Xr
def Iu (j6 : LB → Option (LB)) (bk4 : UInt64 → Int → LB → Option (LB)) (b : Int) (f : UInt64) (g : Int) (a : LB) : Option (LB) :=
if (Dm g b) then
(Gk a ([(Ad (Yp f 256) : UInt8)] : LB)).bind fun h =>
bk4 (Bo f 256) (Ae g 1) h
else
j6 a
def En (b : Int) : Nat → UInt64 → Int → LB → Option (LB)
| 0, _, _, _ => none
| q + 1, f, g, a => Iu Pd (En b q) b f g a
def Ph (b : Int) : UInt64 → Int → LB → Option (LB) := En b Ba
def Oj (j4 : Int → UInt64 → Int → LB → Option (LB)) (k : UInt64) (b : Int) : Option (LB) :=
j4 b k 0 ([] : LB)
def Cv : UInt64 → Int → Option (LB) := Oj Ph
def Ka (a b : Int) (f : UInt64) : Option (LB) :=
(Cv 2000 4).bind fun g =>
(Gk ([(65 : UInt8), (80 : UInt8), (69 : UInt8), (84 : UInt8), (65 : UInt8), (71 : UInt8), (69 : UInt8), (88 : UInt8)] : LB) g).bind fun h =>
(Cv (Ad (Ae a 32) : UInt64) 4).bind fun k =>
(Gk h k).bind fun m =>
(Cv (Ad b : UInt64) 4).bind fun n =>
(Gk m n).bind fun o =>
(Cv f 4).bind fun p =>
(Gk o p).bind fun u =>
(mkI (8 : Int) (0 : UInt8)).bind fun v =>
(Gk u v).bind fun w =>
some w
def Yy (a b : Int) : Option (LB) :=
(Ka a b 2684354560).bind fun f =>
some f
def Yz (a b : Int) (f : Bool) : Option (LB) :=
if f then
(Ka a b 2147483648).bind fun g =>
some g
else
(Ka a b 0).bind fun h =>
some h
abbrev Ds := Option (Int × Int)
def Aa9 (a : LB) (b f : Int) : Ds :=
if (Dm (Ac a) (Ae 64 b)) then
some (0, 24)
else
(Db a (Al (Ae 64 b) 32) (Ae 64 b)).bind fun g =>
(Yz b f true).bind fun h =>
if (g != h) then
some (0, 12)
else
some ((Ae 64 b), 0)
def Rw : LB → Int → Int → Ds := Aa9
def Rv (j4 : LB → Int → Int → Ds) (a : LB) : Ds :=
if (Dm (Ac a) 32) then
some (0, 24)
else
(Db a 0 32).bind fun k =>
(Th k).bind fun (b, f, m) =>
if (!m) then
some (0, 12)
else
(Db a 0 32).bind fun n =>
(Yy b f).bind fun o =>
if (n != o) then
some (0, 12)
else
j4 a b f
def Sd : LB → Ds := Rv Rw
def Ro (j3 : LB → Ds) (a : LB) : Ds :=
if (Dm (Ac a) 8) then
some (0, 6)
else
(Db a 0 8).bind fun p =>
if (p != ([65, 80, 69, 84, 65, 71, 69, 88] : LB)) then
some (0, 6)
else
j3 a
def Qa : LB → Ds := Ro Sd
abbrev By := Option (LI × Int)
def Abd (bk6 : Int → LI → By) (a : LB) (b : Int) (f : LI) (g h : Int) : By :=
if (geq h 6) then
some (f, 0)
else
if (Cu h 0) then
some (([] : LI), h)
else
if (Hw (Ae b g) 4000) then
some (([] : LI), 4)
else
(Gk f ([g] : LI)).bind fun m =>
bk6 (Ae b g) m
def Hi (bk6 : Int → LI → By) : LB → Int → LI → Int → Int → By := Abd bk6
def Li (j9 : Int → LI → Int → Int → By) (a : LB) (b : Int) (f : LI) : By :=
(Db a b (Ac a)).bind fun n =>
(Tb n).bind fun (o, k) =>
if (geq k 6) then
(Db a b (Ac a)).bind fun p =>
(Qa p).bind fun (u, v) =>
j9 b f u v
else
j9 b f o k
def Hl (a : LB) : Nat → Int → LI → By
| 0, _, _ => none
| q + 1, b, f => Li (Hi (Hl a q) a) a b f
def Aa4 (a : LB) : Int → LI → By := Hl a Ba
def Abe (j6 : LB → Int → LI → By) (a : LB) : By :=
j6 a 0 ([] : LI)
def Xp : LB → By := Abe Aa4
abbrev Ck := Option (Int × Int)
def Aa8 (a b : Int) : Ck :=
some (b, a)
def Rp : Int → Int → Ck := Aa8
def Lb (j6 : Int → Int → Ck) (bk4 : Int → Int → Ck) (a : Int) (f : LI) (b g : Int) : Ck :=
if (Dm g (Ac f)) then
(getI f g).bind fun _ =>
(getI f g).bind fun h =>
bk4 (Ae b h) (Ae g 1)
else
j6 a b
def Fp (a : Int) (f : LI) : Nat → Int → Int → Ck
| 0, _, _ => none
| q + 1, b, g => Lb Rp (Fp a f q) a f b g
def Lc (a : Int) (f : LI) : Int → Int → Ck := Fp a f Ba
def Rl (j4 : Int → LI → Int → Int → Ck) (k : LB) : Ck :=
(Xp k).bind fun (f, a) =>
j4 a f 0 0
def Pq : LB → Ck := Rl Lc
def Acv (a : UInt32) (b : Bool) : Option UInt32 :=
if b then
some (Wg (Bo a 2) 3988292384)
else
some (Bo a 2)
def Tm : UInt32 → Bool → Option UInt32 := Acv
def Tq (j2 : UInt32 → Bool → Option UInt32) (a : UInt32) (f : Int) : Option UInt32 :=
if (geq f 1) then
j2 a (!(geq (Yp a 2) 1))
else
j2 a (geq (Yp a 2) 1)
def Tf : UInt32 → Int → Option UInt32 := Tq Tm
def Ade (a : UInt32) : Option UInt32 :=
some a
def Tr : UInt32 → Option UInt32 := Ade
def Ma (j6 : UInt32 → Option UInt32) (bk4 : UInt32 → UInt8 → Int → Option UInt32) (a : UInt32) (b : UInt8) (f : Int) : Option UInt32 :=
if (Dm f 8) then
(Tf a (Ad (Yp b 2) : Int)).bind fun g =>
bk4 g (Bo b 2) (Ae f 1)
else
j6 a
def Ge : Nat → UInt32 → UInt8 → Int → Option UInt32
| 0, _, _, _ => none
| q + 1, a, b, f => Ma Tr (Ge q) a b f
def Ac3 : UInt32 → UInt8 → Int → Option UInt32 := Ge Ba
def Acs (j4 : UInt32 → UInt8 → Int → Option UInt32) (h : UInt32) (k : UInt8) : Option UInt32 :=
j4 h k 0
def Zg : UInt32 → UInt8 → Option UInt32 := Acs Ac3
def Aav (a : UInt32) : Option UInt32 :=
some a
def Qo : UInt32 → Option UInt32 := Aav
def Jv (j6 : UInt32 → Option UInt32) (bk4 : UInt32 → Int → Option UInt32) (b : LB) (a : UInt32) (f : Int) : Option UInt32 :=
if (Dm f (Ac b)) then
(getI b f).bind fun g =>
(Zg a g).bind fun h =>
bk4 h (Ae f 1)
else
j6 a
def Ez (b : LB) : Nat → UInt32 → Int → Option UInt32
| 0, _, _ => none
| q + 1, a, f => Jv Qo (Ez b q) b a f
def Qx (b : LB) : UInt32 → Int → Option UInt32 := Ez b Ba
def Qs (j4 : LB → UInt32 → Int → Option UInt32) (k : UInt32) (b : LB) : Option UInt32 :=
j4 b k 0
def Vz : UInt32 → LB → Option UInt32 := Qs Qx
def Lw (a : LB) : Option UInt32 :=
(Vz 4294967295 a).bind fun b =>
some (Al 4294967295 b)
def Oa (f g b a h : Int) : Option Bool :=
if ((((geq f 1) || (geq f 2)) && (Qy g 1)) && (gle g 6)) then
some ((((((geq b 8) || (geq b 16)) || (geq b 24)) && (Qy a 1)) && (gle a 1048576)) && (Qy h 1))
else
some (((false && (Qy a 1)) && (gle a 1048576)) && (Qy h 1))
def Mr (a : Int) : Option Int :=
some (Ank 1 (Bo (Bi 256 a) 245))
def Ku (a : LI) : Option (LI) :=
some a
def Hj : LI → Option (LI) := Ku
def Fj (j6 : LI → Option (LI)) (bk4 : Int → LI → Option (LI)) (b f : Int) (a : LI) : Option (LI) :=
if (Hw f 0) then
(Mr b).bind fun g =>
(Gk a ([(Gg f g)] : LI)).bind fun h =>
(Mr b).bind fun k =>
bk4 (Al f k) h
else
j6 a
def Dh (b : Int) : Nat → Int → LI → Option (LI)
| 0, _, _ => none
| q + 1, f, a => Fj Hj (Dh b q) b f a
def Sj (b : Int) : Int → LI → Option (LI) := Dh b Ba
def Rk (j4 : Int → Int → LI → Option (LI)) (b m : Int) : Option (LI) :=
j4 b m ([] : LI)
def Es : Int → Int → Option (LI) := Rk Sj
def Ir (h a k f b : Int) : Option Bool :=
(
(Pn (Cu a 0)).bind fun _ =>
(
if (Hw b (Bo 4000 a)) then
some true
else
(Es f b).bind fun g =>
some (Hw (Ac g) 1000)))
abbrev Ch := Option (Int × Int × Int × Int × Int × Int)
def Ac4 (k h g f b : UInt64) : Ch :=
(Oa (Ad k : Int) (Ad h : Int) (Ad g : Int) (Ad f : Int) (Ad b : Int)).bind fun v =>
if (!v) then
some (0, 0, 0, 0, 0, 12)
else
(Ir (Ad k : Int) (Ad h : Int) (Ad g : Int) (Ad f : Int) (Ad b : Int)).bind fun w =>
if w then
some (0, 0, 0, 0, 0, 4)
else
some ((Ad k : Int), (Ad h : Int), (Ad g : Int), (Ad f : Int), (Ad b : Int), 0)
def Up : UInt64 → UInt64 → UInt64 → UInt64 → UInt64 → Ch := Ac4
def Ml (j6 : UInt64 → UInt64 → UInt64 → UInt64 → UInt64 → Ch) (a : LB) : Ch :=
(Db a 4 6).bind fun u =>
(Db a 6 8).bind fun p =>
(Db a 8 10).bind fun o =>
(Db a 10 14).bind fun n =>
(Db a 14 18).bind fun m =>
(
(Aj u).bind fun k =>
(
(Aj p).bind fun h =>
(
(Aj o).bind fun g =>
(
(Aj n).bind fun f =>
(
(Aj m).bind fun b =>
(
j6 k h g f b))))))
def Tp : LB → Ch := Ml Up
def Uc (j5 : LB → Ch) (a : LB) : Ch :=
if (Dm (Ac a) 22) then
some (0, 0, 0, 0, 0, 24)
else
(Db a 18 22).bind fun y =>
(Db a 0 18).bind fun aa =>
(Aj y).bind fun ab =>
(Lw aa).bind fun ac =>
if (Cu ab (Ad ac : UInt64)) then
some (0, 0, 0, 0, 0, 22)
else
j5 a
def Tz : LB → Ch := Uc Tp
def Ur (j4 : LB → Ch) (a : LB) : Ch :=
(Db a 0 (Gg 4 (Ac a))).bind fun ad =>
(Db ([84, 84, 65, 49] : LB) 0 (Gg 4 (Ac a))).bind fun ae =>
if (ad != ae) then
some (0, 0, 0, 0, 0, 12)
else
j4 a
def Tk : LB → Ch := Ur Tz
def Ac2 (a : UInt64) (b : Bool) : Option UInt64 :=
if b then
some (Wg (Bi a 2) 4823603603198064275)
else
some (Bi a 2)
def Me : UInt64 → Bool → Option UInt64 := Ac2
def Ue (j2 : UInt64 → Bool → Option UInt64) (a : UInt64) (f : Int) : Option UInt64 :=
if (geq f 1) then
j2 a (!(Qy a 9223372036854775808))
else
j2 a (Qy a 9223372036854775808)
def Ta : UInt64 → Int → Option UInt64 := Ue Me
def Ac9 (a : UInt64) : Option UInt64 :=
some a
def Ua : UInt64 → Option UInt64 := Ac9
def Mf (j6 : UInt64 → Option UInt64) (bk4 : UInt64 → Int → Option UInt64) (b : UInt8) (a : UInt64) (f : Int) : Option UInt64 :=
if (Hw f 0) then
(Pn (Cu f 0)).bind fun _ =>
(Ta a (Hz (Bo (Ad b : Int) f) 2)).bind fun g =>
bk4 g (Bo f 2)
else
j6 a
def Ga (b : UInt8) : Nat → UInt64 → Int → Option UInt64
| 0, _, _ => none
| q + 1, a, f => Mf Ua (Ga b q) b a f
def Adb (b : UInt8) : UInt64 → Int → Option UInt64 := Ga b Ba
def Adi (j4 : UInt8 → UInt64 → Int → Option UInt64) (h : UInt64) (b : UInt8) : Option UInt64 :=
j4 b h 128
def Zf : UInt64 → UInt8 → Option UInt64 := Adi Adb
def Yu (a : UInt64) : Option UInt64 :=
some a
def Qh : UInt64 → Option UInt64 := Yu
def Jq (j6 : UInt64 → Option UInt64) (bk4 : UInt64 → Int → Option UInt64) (b : LB) (a : UInt64) (f : Int) : Option UInt64 :=
if (Dm f (Ac b)) then
(getI b f).bind fun g =>
(Zf a g).bind fun h =>
bk4 h (Ae f 1)
else
j6 a
def Fa (b : LB) : Nat → UInt64 → Int → Option UInt64
| 0, _, _ => none
| q + 1, a, f => Jq Qh (Fa b q) b a f
def Zn (b : LB) : UInt64 → Int → Option UInt64 := Fa b Ba
def Zw (j4 : LB → UInt64 → Int → Option UInt64) (k : UInt64) (b : LB) : Option UInt64 :=
j4 b k 0
def Np : UInt64 → LB → Option UInt64 := Zw Zn
def Zs (a : LB) : Option UInt64 :=
(Np 0 a).bind fun b =>
some b
def Mj (a : LB) : Option (LB) :=
(Zs a).bind fun b =>
(Cv b 8).bind fun f =>
some f
def Aac (b : Int) : Option Int :=
if (Hw b 100000) then
some 8
else
some 0
def Pp : Int → Option Int := Aac
def Aa5 (bk6 : Int → Int → Option Int) (a : LI) (b f : Int) : Option Int :=
(getI a f).bind fun g =>
bk6 (Ae b g) (Ae f 1)
def Sn (bk6 : Int → Int → Option Int) : LI → Int → Int → Option Int := Aa5 bk6
def Kz (j8 : Int → Int → Option Int) (j10 : Int → Option Int) (a : LI) (b f : Int) : Option Int :=
if (Dm f (Ac a)) then
(getI a f).bind fun h =>
if (Dm h 5) then
some 8
else
(getI a f).bind fun k =>
if (Hw k 100000) then
some 8
else
j8 b f
else
j10 b
def Fq (a : LI) : Nat → Int → Int → Option Int
| 0, _, _ => none
| q + 1, b, f => Kz (Sn (Fq a q) a) Pp a b f
def Rt (a : LI) : Int → Int → Option Int := Fq a Ba
def Rz (j6 : LI → Int → Int → Option Int) (a : LI) : Option Int :=
if ((Dm (Ac a) 1) || (Hw (Ac a) 1000)) then
some 8
else
j6 a 0 0
def Qv : LI → Option Int := Rz Rt
abbrev Bj := Option (LI × Int)
def Acy (f : LI) : Bj :=
(Qv f).bind fun h =>
if (Cu h 0) then
some (([] : LI), 12)
else
some (f, 0)
def Mc : LI → Bj := Acy
def Mh (j8 : LI → Bj) (bk6 : Int → LI → Bj) (b : LB) (a g : Int) (f : LI) : Bj :=
if (Dm g a) then
(Db b (Bi 4 g) (Ae (Bi 4 g) 4)).bind fun k =>
(Aj k).bind fun m =>
(Gk f ([(Ad m : Int)] : LI)).bind fun n =>
bk6 (Ae g 1) n
else
j8 f
def Gc (b : LB) (a : Int) : Nat → Int → LI → Bj
| 0, _, _ => none
| q + 1, g, f => Mh Mc (Gc b a q) b a g f
def Uq (b : LB) (a : Int) : Int → LI → Bj := Gc b a Ba
def Uf (j6 : LB → Int → Int → LI → Bj) (b : LB) (a : Int) : Bj :=
j6 b a 0 ([] : LI)
def Uk : LB → Int → Bj := Uf Uq
def Tx (j5 : LB → Int → Bj) (b : LB) (a : Int) : Bj :=
if ((Dm a 1) || (Hw a 1000)) then
some (([] : LI), 2)
else
if (Dm (Ac b) (Ae (Bi 4 a) 4)) then
some (([] : LI), 24)
else
(Db b (Bi 4 a) (Ae (Bi 4 a) 4)).bind fun o =>
(Db b 0 (Bi 4 a)).bind fun p =>
(Aj o).bind fun u =>
(Lw p).bind fun v =>
if (Cu u (Ad v : UInt64)) then
some (([] : LI), 22)
else
j5 b a
def Te : LB → Int → Bj := Tx Uk
abbrev Dg := Option (Int × Int × Int × Int × Int × Int × LI × Int)
def Aaa (m n b h k f g : Int) (o : LI) : Dg :=
if (Cu n 0) then
some (0, 0, 0, 0, 0, 0, ([] : LI), n)
else
some (b, h, k, f, g, (Ae (Ae m (Bi 4 (Ac o))) 4), o, 0)
def Qt : Int → Int → Int → Int → Int → Int → Int → LI → Dg := Aaa
def Qr (j4 : Int → Int → Int → Int → Int → Int → Int → LI → Dg) (a : LB) (b h k f g m : Int) : Dg :=
(Db a m (Ac a)).bind fun y =>
(Es f g).bind fun aa =>
(Te y (Ac aa)).bind fun (o, n) =>
j4 m n b h k f g o
def Gp : LB → Int → Int → Int → Int → Int → Int → Dg := Qr Qt
def Jn (j3 : LB → Int → Int → Int → Int → Int → Int → Dg) (a u : LB) : Dg :=
if (Hw (Ac a) 100000) then
some (0, 0, 0, 0, 0, 0, ([] : LI), 4)
else
(Pq a).bind fun (p, v) =>
if (Cu v 0) then
some (0, 0, 0, 0, 0, 0, ([] : LI), v)
else
(Db a p (Ac a)).bind fun ab =>
(Tk ab).bind fun (b, h, k, f, g, w) =>
if (Cu w 0) then
some (0, 0, 0, 0, 0, 0, ([] : LI), w)
else
if ((u == ([] : LB)) != (geq b 1)) then
some (0, 0, 0, 0, 0, 0, ([] : LI), 26)
else
if (geq b 2) then
if (Dm (Al (Ac a) (Ae p 22)) 8) then
some (0, 0, 0, 0, 0, 0, ([] : LI), 24)
else
(Db a (Ae p 22) (Ae (Ae p 22) 8)).bind fun ac =>
(Mj u).bind fun ad =>
if (ac != ad) then
some (0, 0, 0, 0, 0, 0, ([] : LI), 26)
else
j3 a b h k f g (Ae (Ae p 22) 8)
else
j3 a b h k f g (Ae p 22)
def cadenzaref40_Opened : LB → LB → Dg := Jn Gp
def Gn (b a : LB) : Option (Int × Int × Int × Int × Int × Int × LI × Int) :=
if (Hw (Ac a) 64) then
some (0, 0, 0, 0, 0, 0, ([] : LI), 2)
else
(cadenzaref40_Opened b a).bind fun (f, g, h, k, m, n, o, p) =>
some (f, g, h, k, m, n, o, p)
def Ak3 (a : Int) : Option Int :=
some a
def Aba : Int → Option Int := Ak3
def Kv (j6 : Int → Option Int) (bk4 : Int → Int → Option Int) (b h k m n o f : Int) (g : LI) (a p : Int) : Option Int :=
if (Dm p b) then
(getI g p).bind fun u =>
bk4 (Ae a u) (Ae p 1)
else
j6 a
def Fk (b h k m n o f : Int) (g : LI) : Nat → Int → Int → Option Int
| 0, _, _ => none
| q + 1, a, p => Kv Aba (Fk b h k m n o f g q) b h k m n o f g a p
def Abc (b h k m n o f : Int) (g : LI) : Int → Int → Option Int := Fk b h k m n o f g Ba
def Aa1 (j4 : Int → Int → Int → Int → Int → Int → Int → LI → Int → Int → Option Int) (h k m n o f : Int) (g : LI) (b : Int) : Option Int :=
j4 b h k m n o f g f 0
def Qm : Int → Int → Int → Int → Int → Int → LI → Int → Option Int := Aa1 Abc
def Zi (b : UInt64) (a : LB) : Option (UInt64 × Int) :=
if (Hw (Ac a) 100000) then
some (0, 4)
else
(Np b a).bind fun f =>
some (f, 0)
def Aby (a : LB) : Option (UInt64 × Int) :=
(Zi 0 a).bind fun (b, f) =>
some (b, f)
def Ani (a : LX) : Option (LX) :=
some a
def Aeh : LX → Option (LX) := Ani
def Af2 (bk6 : UInt64 → Int → LX → Option (LX)) (b : UInt64) (f : Int) (a : LX) (g : Int32) : Option (LX) :=
(getI a f).bind fun _ =>
(Pm a f g).bind fun h =>
bk6 (Bo b 256) (Ae f 1) h
def Pz (bk6 : UInt64 → Int → LX → Option (LX)) : UInt64 → Int → LX → Int32 → Option (LX) := Af2 bk6
def Qe (j8 : UInt64 → Int → LX → Int32 → Option (LX)) (j10 : LX → Option (LX)) (b : UInt64) (f : Int) (a : LX) : Option (LX) :=
if (Dm f 8) then
if (Hw (Ad (Yp b 256) : Int32) 127) then
j8 b f a (Al (Ad (Yp b 256) : Int32) 256)
else
j8 b f a (Ad (Yp b 256) : Int32)
else
j10 a
def Fz : Nat → UInt64 → Int → LX → Option (LX)
| 0, _, _, _ => none
| q + 1, b, f, a => Qe (Pz (Fz q)) Aeh b f a
def Afr : UInt64 → Int → LX → Option (LX) := Fz Ba
def Agb (j6 : UInt64 → Int → LX → Option (LX)) (k : UInt64) : Option (LX) :=
j6 k 0 (List.replicate 16 (0 : Int32))
def Ads : UInt64 → Option (LX) := Agb Afr
def Mn (a : LB) : Option (LX × Int) :=
if (Hw (Ac a) 64) then
some (([(0 : Int32), (0 : Int32), (0 : Int32), (0 : Int32), (0 : Int32), (0 : Int32), (0 : Int32), (0 : Int32), (0 : Int32), (0 : Int32), (0 : Int32), (0 : Int32), (0 : Int32), (0 : Int32), (0 : Int32), (0 : Int32)] : LX), 2)
else
(Aby a).bind fun (b, g) =>
(Ads b).bind fun f =>
some (f, 0)
def Ip (a : Int) : Option Int :=
if (geq a 8) then
some 128
else
if (geq a 16) then
some 32768
else
if (geq a 24) then
some 8388608
else
some 0
def Xh (a b : Int) : Option Int :=
if ((Dm a 1) || (Hw a 6)) then
some 2
else
(Ip b).bind fun f =>
if (geq f 0) then
some 2
else
some 0
def Ql (a f b : Int) : Option Int :=
(Xh a f).bind fun g =>
if ((Cu g 0) || (Dm b 1)) then
some 2
else
(Pn (Cu a 0)).bind fun _ =>
if (Hw b (Bo 4000 a)) then
some 2
else
some 0
def Nv (b : LB) : Option (LB) :=
(Lw b).bind fun a =>
(Gk ([] : LB) b).bind fun f =>
(Gk f ([(Ad a : UInt8), (Ad (Cq a (GI.toZ (8 : UInt64)).toNat) : UInt8), (Ad (Cq a (GI.toZ (16 : UInt64)).toNat) : UInt8), (Ad (Cq a (GI.toZ (24 : UInt64)).toNat) : UInt8)] : LB)).bind fun g =>
some g
def Jj (a : LB) : Option Int :=
if (Dm (Ac a) 5) then
some 24
else
if (Hw (Ac a) 41254) then
some 4
else
(Db a 0 (Al (Ac a) 4)).bind fun b =>
(Nv b).bind fun f =>
if (f != a) then
some 22
else
some 0
def Hs : Option (Int × Int × UInt64 × UInt64) :=
some (10, 10, 16384, 16384)
def Ak2 (a : UInt64) : Option UInt64 :=
some a
def Aax : UInt64 → Option UInt64 := Ak2
def Le (j6 : UInt64 → Option UInt64) (bk4 : UInt64 → Int → Option UInt64) (b : Int) (a : UInt64) (f : Int) : Option UInt64 :=
if (Dm f b) then
bk4 (Bi a 2) (Ae f 1)
else
j6 a
def Fm (b : Int) : Nat → UInt64 → Int → Option UInt64
| 0, _, _ => none
| q + 1, a, f => Le Aax (Fm b q) b a f
def Abg (b : Int) : UInt64 → Int → Option UInt64 := Fm b Ba
def Aa7 (j4 : Int → UInt64 → Int → Option UInt64) (b : Int) : Option UInt64 :=
j4 b 1 0
def Du : Int → Option UInt64 := Aa7 Abg
def Pa (a g : Int) (h k : UInt64) (b : UInt32) : Option Bool :=
(Du a).bind fun f =>
some (Dm (Ad b : UInt64) f)
def Cx (a g : Int) (h k : UInt64) (b : UInt32) : Option UInt32 :=
(Du a).bind fun f =>
some (Ad (Al (Ad b : UInt64) f) : UInt32)
abbrev Ji := Option (Int × UInt64)
def Ac1 (b : Int) (a f : UInt64) : Ji :=
if (Dm b 24) then
(Du (Ae b 5)).bind fun g =>
if (Hw (Al (Ae a f) (Bo a 16)) g) then
some ((Ae b 1), (Al (Ae a f) (Bo a 16)))
else
some (b, (Al (Ae a f) (Bo a 16)))
else
some (b, (Al (Ae a f) (Bo a 16)))
def Mi : Int → UInt64 → UInt64 → Ji := Ac1
def Uj (j2 : Int → UInt64 → UInt64 → Ji) (b : Int) (a f : UInt64) : Ji :=
if (Hw b 0) then
(Du (Ae b 4)).bind fun h =>
if (Dm (Al (Ae a f) (Bo a 16)) h) then
some ((Al b 1), (Al (Ae a f) (Bo a 16)))
else
j2 b a f
else
j2 b a f
def Cp : Int → UInt64 → UInt64 → Ji := Uj Mi
abbrev Hh := Option (Int × Int × UInt64 × UInt64)
def Zm (h : UInt32) (f a : Int) (g b : UInt64) (o : Int) (p : UInt64) : Hh :=
(Cp f g (Ad h : UInt64)).bind fun (v, w) =>
some (v, o, w, p)
def Jm : UInt32 → Int → Int → UInt64 → UInt64 → Int → UInt64 → Hh := Zm
def Jr (j2 : UInt32 → Int → Int → UInt64 → UInt64 → Int → UInt64 → Hh) (f a : Int) (g b : UInt64) (h : UInt32) : Hh :=
(Pa f a g b h).bind fun u =>
if (!u) then
(
(
(Cx f a g b h).bind fun k =>
(Cp a b (Ad k : UInt64)).bind fun (m, n) =>
j2 h f a g b m n))
else
j2 h f a g b a b
def Nm : Int → Int → UInt64 → UInt64 → UInt32 → Hh := Jr Jm
abbrev Cd := Option (Int × Int × UInt64 × UInt64)
def Ajo (a b : Int) (f g : UInt64) : Cd :=
some (a, b, f, g)
def Aae : Int → Int → UInt64 → UInt64 → Cd := Ajo
def Px (j6 : Int → Int → UInt64 → UInt64 → Cd) (bk4 : Int → Int → Int → UInt64 → UInt64 → Cd) (h : Int) (k : LU) (m a b : Int) (f g : UInt64) : Cd :=
if (Dm m (Ac k)) then
(getI k m).bind fun n =>
(Nm a b f g n).bind fun (o, p, u, v) =>
bk4 (Ae m h) o p u v
else
j6 a b f g
def Gm (h : Int) (k : LU) : Nat → Int → Int → Int → UInt64 → UInt64 → Cd
| 0, _, _, _, _, _ => none
| q + 1, m, a, b, f, g => Px Aae (Gm h k q) h k m a b f g
def Yw (h : Int) (k : LU) : Int → Int → Int → UInt64 → UInt64 → Cd := Gm h k Ba
def Qd (j4 : Int → LU → Int → Int → Int → UInt64 → UInt64 → Cd) (h : Int) (k : LU) : Cd :=
(Hs).bind fun (w, y, aa, ab) =>
(Pn (Cu h 0)).bind fun _ =>
j4 h k (Hz (Ac k) h) w y aa ab
def Jk : Int → LU → Cd := Qd Yw
def Afa (a : Int) : Option Int :=
some (Hz a 2)
def Xo : Int → Option Int := Afa
def Qf (j6 : Int → Option Int) (bk4 : Int → Int → Option Int) (b a f : Int) : Option Int :=
if (Dm f (Hz b 8)) then
bk4 (Bo a 2) (Ae f 1)
else
j6 a
def Hp (b : Int) : Nat → Int → Int → Option Int
| 0, _, _ => none
| q + 1, a, f => Qf Xo (Hp b q) b a f
def Xf (b : Int) : Int → Int → Option Int := Hp b Ba
def Xb (j4 : Int → Int → Int → Option Int) (g : LB) (k b : Int) : Option Int :=
(getI g (Bo b 8)).bind fun h =>
j4 b (Ad h : Int) 0
def Gz : LB → Int → Int → Option Int := Xb Xf
abbrev Br := Option (LB × Int)
def Aeb (b g a : Int) (f : LB) : Br :=
(getI f (Bo a 8)).bind fun _ =>
(getI f (Bo a 8)).bind fun m =>
(getI f (Bo a 8)).bind fun _ =>
(Pm f (Bo a 8) (Ae m (Ad (Bi b g) : UInt8))).bind fun n =>
some (n, (Ae a 1))
def Nq : Int → Int → Int → LB → Br := Aeb
def Nx (j8 : Int → Int → Int → LB → Br) (bk6 : Int → Int → Br) (b a : Int) (f : LB) (g h : Int) : Br :=
if (Dm h (Hz a 8)) then
bk6 (Bi g 2) (Ae h 1)
else
j8 b g a f
def Gw (b a : Int) (f : LB) : Nat → Int → Int → Br
| 0, _, _ => none
| q + 1, g, h => Nx Nq (Gw b a f q) b a f g h
def Vv (b a : Int) (f : LB) : Int → Int → Br := Gw b a f Ba
def Vn (j6 : Int → Int → LB → Int → Int → Br) (b a : Int) (f : LB) : Br :=
j6 b a f 1 0
def Nz : Int → Int → LB → Br := Vn Vv
def Vw (j5 : Int → Int → LB → Br) (k : LB) (a b : Int) : Br :=
if (geq (Hz a 8) 0) then
(Gk k ([(0 : UInt8)] : LB)).bind fun o =>
j5 b a o
else
j5 b a k
def Ou : LB → Int → Int → Br := Vw Nz
abbrev Bt := Option (LB × Int)
def Aih (a : Int) (b : LB) : Bt :=
some (b, a)
def Ym : Int → LB → Bt := Aih
def Is (j6 : Int → LB → Bt) (bk4 : Int → Int → LB → Bt) (f : Int) (g : LB) (h k a : Int) (b : LB) : Bt :=
if (Dm k f) then
(Gz g h k).bind fun m =>
(Ou b a m).bind fun (n, o) =>
bk4 (Ae k 1) o n
else
j6 a b
def Ek (f : Int) (g : LB) (h : Int) : Nat → Int → Int → LB → Bt
| 0, _, _, _ => none
| q + 1, k, a, b => Is Ym (Ek f g h q) f g h k a b
def Ye (f : Int) (g : LB) (h : Int) : Int → Int → LB → Bt := Ek f g h Ba
def Yd (j4 : Int → LB → Int → Int → Int → LB → Bt) (g : LB) (h p f : Int) : Bt :=
j4 f g h p 0 ([] : LB)
def Ul : LB → Int → Int → Int → Bt := Yd Ye
def Ak6 (a : UInt64) : Option UInt64 :=
some a
def Aaz : UInt64 → Option UInt64 := Ak6
def Lh (j6 : UInt64 → Option UInt64) (bk4 : UInt64 → Int → Option UInt64) (b : Int) (f : LB) (g : Int) (a : UInt64) (h : Int) : Option UInt64 :=
if (Qy h 0) then
(Gz f g (Ae b h)).bind fun k =>
bk4 (Ae (Bi 2 a) (Ad k : UInt64)) (Al h 1)
else
j6 a
def Fl (b : Int) (f : LB) (g : Int) : Nat → UInt64 → Int → Option UInt64
| 0, _, _ => none
| q + 1, a, h => Lh Aaz (Fl b f g q) b f g a h
def Rr (b : Int) (f : LB) (g : Int) : UInt64 → Int → Option UInt64 := Fl b f g Ba
def Sm (j4 : Int → LB → Int → UInt64 → Int → Option UInt64) (f : LB) (g b m : Int) : Option UInt64 :=
j4 b f g 0 (Al m 1)
def Ks : LB → Int → Int → Int → Option UInt64 := Sm Rr
abbrev Dc := Option (Int × Int)
def Ad6 (b a : Int) (g : LB) (f : Int) : Dc :=
if (geq a 48) then
some (a, (Ae b a))
else
if (Qy (Ae b a) f) then
some ((-1 : Int), 0)
else
some (a, (Ae (Ae b a) 1))
def Nr : Int → Int → LB → Int → Dc := Ad6
def Nk (j6 : Int → Int → LB → Int → Dc) (bk4 : Int → Dc) (b : Int) (g : LB) (f a : Int) : Dc :=
if ((Dm (Ae b a) f) && (Dm a 48)) then
(Gz g f (Ae b a)).bind fun h =>
if (geq h 1) then
bk4 (Ae a 1)
else
j6 b a g f
else
j6 b a g f
def Gu (b : Int) (g : LB) (f : Int) : Nat → Int → Dc
| 0, _ => none
| q + 1, a => Nk Nr (Gu b g f q) b g f a
def Aec (b : Int) (g : LB) (f : Int) : Int → Dc := Gu b g f Ba
def Ad7 (j4 : Int → LB → Int → Int → Dc) (g : LB) (f b : Int) : Dc :=
j4 b g f 0
def Abq : LB → Int → Int → Dc := Ad7 Aec
def So (b : UInt32) (f : Int) : Option Int :=
(Du f).bind fun a =>
(Pn (Cu a 0)).bind fun _ =>
some (Ad (Gg 48 (Bo (Ad b : UInt64) a)) : Int)
abbrev Kg := Option (UInt32 × Int × Int)
def Vk (g a b : Int) (h : LB) (f k : Int) : Kg :=
if ((Dm a 0) || (Dm (Al f b) k)) then
some (0, 0, 24)
else
(Ks h f b k).bind fun m =>
if (Dm a 48) then
(Du g).bind fun o =>
some ((Ad (Ae (Bi (Ad a : UInt64) o) m) : UInt32), (Ae b k), 0)
else
(So (Ad m : UInt32) g).bind fun p =>
if (Dm p a) then
some (0, 0, 12)
else
some ((Ad m : UInt32), (Ae b k), 0)
def Nw : Int → Int → Int → LB → Int → Int → Kg := Vk
def Vs (j2 : Int → Int → Int → LB → Int → Int → Kg) (h : LB) (f n g : Int) : Kg :=
if (Qy n f) then
some (0, 0, 24)
else
(Abq h f n).bind fun (a, b) =>
if (geq a 48) then
j2 g a b h f 32
else
j2 g a b h f g
def Uw : LB → Int → Int → Int → Kg := Vs Nw
def Vf (g : LB) (b a f n : Int) (v w : UInt64) : Option (UInt32 × Int × Int) :=
if (Qy a b) then
some (0, 0, 24)
else
(Gz g b a).bind fun o =>
if (geq o 0) then
if (Dm (Al (Al b a) 1) f) then
some (0, 0, 24)
else
(Ks g b (Ae a 1) f).bind fun p =>
some ((Ad p : UInt32), (Ae (Ae a 1) f), 0)
else
(Uw g b (Ae a 1) n).bind fun (h, u, k) =>
if (Cu k 0) then
some (0, 0, k)
else
(Du f).bind fun m =>
if (Hw (Ae (Ad h : UInt64) m) 4294967295) then
some (0, 0, 12)
else
some ((Ad (Ae (Ad h : UInt64) m) : UInt32), u, 0)
abbrev Ap := Option (LU × Int)
def Ak4 (b : LU) : Ap :=
some (b, 0)
def Aay : LU → Ap := Ak4
def Lg (j18 : LU → Ap) (bk16 : Int → Ap) (a : LB) (b : LU) (m : Int) : Ap :=
if (Dm m (Bi 8 (Ac a))) then
(Gz a (Bi 8 (Ac a)) m).bind fun n =>
if (Cu n 0) then
some (b, 12)
else
bk16 (Ae m 1)
else
j18 b
def Fo (a : LB) (b : LU) : Nat → Int → Ap
| 0, _ => none
| q + 1, m => Lg Aay (Fo a b q) a b m
def Ry (a : LB) (b : LU) : Int → Ap := Fo a b Ba
def Sf (j16 : LB → LU → Int → Ap) (f : Int) (a : LB) (b : LU) : Ap :=
if (Hw (Al (Bi 8 (Ac a)) f) 7) then
some (b, 12)
else
j16 a b f
def Ky : Int → LB → LU → Ap := Sf Ry
def Abf (bk10 : Int → Int → LU → Ap) (g h : Int) (a : LB) (f k : Int) (b : LU) (o p : Int) (u v : UInt64) : Ap :=
(Ul a (Bi 8 (Ac a)) f (Gg (Ae f 81) (Bi 8 (Ac a)))).bind fun (y, aa) =>
(Vf y aa 0 o p u v).bind fun (ab, ac, w) =>
if (Cu w 0) then
some (b, w)
else
(Gk b ([ab] : LU)).bind fun ad =>
bk10 (Ae f ac) (Ae k 1) ad
def Fs (bk10 : Int → Int → LU → Ap) : Int → Int → LB → Int → Int → LU → Int → Int → UInt64 → UInt64 → Ap := Abf bk10
def Rm (j13 : Int → Int → LU → Int → Int → UInt64 → UInt64 → Ap) (j15 : Int → LB → LU → Ap) (g h : Int) (a : LB) (f k : Int) (b : LU) : Ap :=
if (Dm k (Bi h g)) then
(Hs).bind fun (n, ae, af, ag) =>
if (Qy k g) then
(Jk g b).bind fun (ah, ai, aj, ak) =>
j13 f k b ah ai aj ak
else
j13 f k b n ae af ag
else
j15 f a b
def Di (g h : Int) (a : LB) : Nat → Int → Int → LU → Ap
| 0, _, _, _ => none
| q + 1, f, k, b => Rm (Fs (Di g h a q) g h a) Ky g h a f k b
def Abb (g h : Int) (a : LB) : Int → Int → LU → Ap := Di g h a Ba
def Ty (j10 : Int → Int → LB → Int → Int → LU → Ap) (g h : Int) (a : LB) : Ap :=
j10 g h a 0 0 ([] : LU)
def Ti : Int → Int → LB → Ap := Ty Abb
def Ae5 (a : Int) : Option (Int × Int) :=
if (geq a 8) then
some (4, 0)
else
if ((geq a 16) || (geq a 24)) then
some (5, 0)
else
some (0, 2)
def Ai6 (a : Int) (b : LX) : Option (Int × LX × LX × Int) :=
(Ae5 a).bind fun (g, f) =>
if (Cu f 0) then
some (0, (List.replicate 16 (0 : Int32)), (List.replicate 16 (0 : Int32)), 2)
else
if (geq a 16) then
some (9, b, (List.replicate 16 (0 : Int32)), 0)
else
some (10, b, (List.replicate 16 (0 : Int32)), 0)
def Ab5 (a : Int) (b : LX) : Option (Int × Int32 × Int × LX × LX × Int) :=
(Ai6 a b).bind fun (f, g, h, k) =>
if (Cu k 0) then
some (0, 0, 0, (List.replicate 16 (0 : Int32)), (List.replicate 16 (0 : Int32)), 2)
else
some (a, 0, f, g, h, 0)
def Iq (a : UInt32) : Option Int32 :=
if (geq (Yp a 2) 0) then
some (Ad (Bo a 2) : Int32)
else
some (Ad (Bo (Ap4 (Ae (Ad a : Int) 1)) 2) : Int32)
def Bq (a : Int) : Option Int32 :=
some (Ad (Ad (Ad a : UInt64) : UInt32) : Int32)
def Ad8 (a : Int) : Option Int32 :=
some (Ad a : Int32)
def Vl : Int → Option Int32 := Ad8
def Nn (j6 : Int → Option Int32) (bk4 : Int → Int → Option Int32) (h : Int) (f g : LX) (a b : Int) : Option Int32 :=
if (Dm b 16) then
(getI f b).bind fun _ =>
(getI g b).bind fun _ =>
(getI f b).bind fun k =>
(getI g b).bind fun m =>
(Bq (Bi (Ad k : Int) (Ad m : Int))).bind fun n =>
(Bq (Ae a (Ad n : Int))).bind fun o =>
bk4 (Ad o : Int) (Ae b 1)
else
j6 a
def Gt (h : Int) (f g : LX) : Nat → Int → Int → Option Int32
| 0, _, _ => none
| q + 1, a, b => Nn Vl (Gt h f g q) h f g a b
def Ad9 (h : Int) (f g : LX) : Int → Int → Option Int32 := Gt h f g Ba
def Aef (j4 : Int → LX → LX → Int → Int → Option Int32) (h : Int) (f g : LX) : Option Int32 :=
j4 h f g 0 0
def Abp : Int → LX → LX → Option Int32 := Aef Ad9
def Acr (b : Int) (f g : LX) (a : Int) : Option Int32 :=
(Abp b f g).bind fun k =>
(Bq (Ae (Ad k : Int) (Bo a 2))).bind fun h =>
(Pn (Cu a 0)).bind fun _ =>
(Pn (Cu a 0)).bind fun _ =>
if (Dm (Hz (Ad h : Int) a) 0) then
some (Ad (Al (Bo (Ad h : Int) a) 1) : Int32)
else
some (Ad (Bo (Ad h : Int) a) : Int32)
def Mk : Int → LX → LX → Int → Option Int32 := Acr
def Uh (j2 : Int → LX → LX → Int → Option Int32) (b : Int) (f g : LX) : Option Int32 :=
if (geq b 9) then
j2 b f g 512
else
j2 b f g 1024
def Sy : Int → LX → LX → Option Int32 := Uh Mk
def Tg (a : Int) : Option Int32 :=
if (geq a 0) then
some 4
else
if (gle a 3) then
some 2
else
some 1
def Mo (a : Int32) : Option Int32 :=
if (Dm a 0) then
some (-1 : Int32)
else
if (Hw a 0) then
some 1
else
some 0
abbrev Bu := Option (Int × LX × LX)
def Aiz (g : Int) (b a : LX) : Bu :=
some (g, b, a)
def Yj : Int → LX → LX → Bu := Aiz
def Iy (j6 : Int → LX → LX → Bu) (bk4 : Int → LX → Bu) (h : Int32) (g : Int) (a : LX) (f : Int) (b : LX) : Bu :=
if (Dm f 16) then
(getI b f).bind fun _ =>
(getI a f).bind fun _ =>
(getI b f).bind fun k =>
(getI a f).bind fun m =>
(Tg f).bind fun n =>
(Mo m).bind fun o =>
(Mo h).bind fun p =>
(getI b f).bind fun _ =>
(Pm b f (Ae k (Bi (Bi n o) p))).bind fun u =>
bk4 (Ae f 1) u
else
j6 g b a
def Ei (h : Int32) (g : Int) (a : LX) : Nat → Int → LX → Bu
| 0, _, _ => none
| q + 1, f, b => Iy Yj (Ei h g a q) h g a f b
def Xw (h : Int32) (g : Int) (a : LX) : Int → LX → Bu := Ei h g a Ba
def Yf (j4 : Int32 → Int → LX → Int → LX → Bu) (g : Int) (v a : LX) (h : Int32) : Bu :=
j4 h g a 0 v
def To : Int → LX → LX → Int32 → Bu := Yf Xw
abbrev Cc := Option (Int × LX × LX)
def Aag (b : Int32) (f : Int) (g a : LX) : Cc :=
(getI a 0).bind fun _ =>
(Pm a 0 b).bind fun k =>
some (f, g, k)
def Qi : Int32 → Int → LX → LX → Cc := Aag
def Jw (j6 : Int32 → Int → LX → LX → Cc) (bk4 : Int → LX → Cc) (b : Int32) (f : Int) (g : LX) (h : Int) (a : LX) : Cc :=
if (Hw h 0) then
(getI a (Al h 1)).bind fun _ =>
(getI a (Al h 1)).bind fun m =>
(getI a h).bind fun _ =>
(Pm a h m).bind fun n =>
bk4 (Al h 1) n
else
j6 b f g a
def Ex (b : Int32) (f : Int) (g : LX) : Nat → Int → LX → Cc
| 0, _, _ => none
| q + 1, h, a => Jw Qi (Ex b f g q) b f g h a
def Aan (b : Int32) (f : Int) (g : LX) : Int → LX → Cc := Ex b f g Ba
def Zc (j4 : Int32 → Int → LX → Int → LX → Cc) (f : Int) (g o : LX) (b : Int32) : Cc :=
j4 b f g 15 o
def Vy : Int → LX → LX → Int32 → Cc := Zc Aan
def Mg (a : Int) (b f : LX) (g : Int32) : Option (Int32 × Int × LX × LX) :=
(Sy a b f).bind fun k =>
(Bq (Ae (Ad g : Int) (Ad k : Int))).bind fun h =>
(To a b f g).bind fun (m, n, o) =>
(Vy m n o h).bind fun (p, u, v) =>
some (h, p, u, v)
def Zj (b : Int32) (a : Int) : Option Int32 :=
(Pn (Cu a 0)).bind fun _ =>
(Pn (Cu a 0)).bind fun _ =>
if (Dm (Hz (Bi (Al a 1) (Ad b : Int)) a) 0) then
some (Ad (Al (Bo (Bi (Al a 1) (Ad b : Int)) a) 1) : Int32)
else
some (Ad (Bo (Bi (Al a 1) (Ad b : Int)) a) : Int32)
def Jt : Int32 → Int → Option Int32 := Zj
def Qp (j2 : Int32 → Int → Option Int32) (f : Int) (b : Int32) : Option Int32 :=
if (geq f 5) then
j2 b 32
else
j2 b 16
def Jl : Int → Int32 → Option Int32 := Qp Jt
def Ns (b : Int) (a : Int32) (h : Int) (k m : LX) : Option Int :=
if (geq b 8) then
(Jl 4 a).bind fun f =>
some (Ad f : Int)
else
(Jl 5 a).bind fun g =>
some (Ad g : Int)
def Gf (a : Int) (k : Int32) (b : Int) (f g : LX) (m : Int32) : Option (Int32 × Int × Int32 × Int × LX × LX) :=
(Mg b f g m).bind fun (n, o, p, u) =>
(Ns a k b f g).bind fun v =>
(Bq (Ae (Ad n : Int) v)).bind fun h =>
some (h, a, h, o, p, u)
def Kj (a : Int) (b : LX) : Option Int :=
if ((Dm a 1) || (Hw a 6)) then
some 2
else
if (Hw (Ac b) 4000) then
some 4
else
(Pn (Cu a 0)).bind fun _ =>
if (Hw (Hz (Ac b) a) 0) then
some 2
else
some 0
def Aii (b : LX) : Option (LX) :=
some b
def Yk : LX → Option (LX) := Aii
def Iw (j8 : LX → Option (LX)) (bk6 : Int → LX → Option (LX)) (a : LX) (f : Int) (b : LX) : Option (LX) :=
if (Qy f 0) then
(getI b (Ae f 1)).bind fun _ =>
(getI a f).bind fun m =>
(getI b (Ae f 1)).bind fun n =>
(Bq (Al (Ad n : Int) (Ad m : Int))).bind fun o =>
(getI b f).bind fun _ =>
(Pm b f o).bind fun p =>
bk6 (Al f 1) p
else
j8 b
def Eo (a : LX) : Nat → Int → LX → Option (LX)
| 0, _, _ => none
| q + 1, f, b => Iw Yk (Eo a q) a f b
def Yi (a : LX) : Int → LX → Option (LX) := Eo a Ba
def Oq (j6 : LX → Int → LX → Option (LX)) (a g : LX) : Option (LX) :=
j6 a (Al (Ac a) 2) g
def Ix : LX → LX → Option (LX) := Oq Yi
def Ot (j5 : LX → LX → Option (LX)) (a : LX) : Option (LX) :=
(mkI (Ac a) (0 : Int32)).bind fun k =>
(Pn (geq (Ac a) (Ac a))).bind fun _ =>
(getI a (Al (Ac a) 1)).bind fun u =>
(getI k (Al (Ac a) 1)).bind fun _ =>
(Pm k (Al (Ac a) 1) u).bind fun h =>
if (Hw (Ac a) 1) then
(getI a (Al (Ac a) 1)).bind fun v =>
(getI a (Al (Ac a) 2)).bind fun w =>
(Bq (Ae (Ad v : Int) (Bo (Ad w : Int) 2))).bind fun y =>
(getI h (Al (Ac a) 1)).bind fun _ =>
(Pm h (Al (Ac a) 1) y).bind fun aa =>
j5 a aa
else
j5 a h
def Lz : LX → Option (LX) := Ot Ix
abbrev Cs := Option (LX × Int)
def Alq (f : LX) : Cs :=
some (f, 0)
def Adl : LX → Cs := Alq
def Ub (j6 : LX → Cs) (bk4 : Int → LX → Cs) (a : Int) (b : LX) (g : Int) (f : LX) : Cs :=
if (Dm g (Ac b)) then
(Db b g (Ae g a)).bind fun h =>
(Lz h).bind fun k =>
(Gk f k).bind fun m =>
bk4 (Ae g a) m
else
j6 f
def Ij (a : Int) (b : LX) : Nat → Int → LX → Cs
| 0, _, _ => none
| q + 1, g, f => Ub Adl (Ij a b q) a b g f
def Acw (a : Int) (b : LX) : Int → LX → Cs := Ij a b Ba
def Tw (j4 : Int → LX → Int → LX → Cs) (a : Int) (b : LX) : Cs :=
(Kj a b).bind fun n =>
if (Cu n 0) then
(Kj a b).bind fun o =>
some (([] : LX), o)
else
j4 a b 0 ([] : LX)
def Tc : Int → LX → Cs := Tw Acw
def Yn (a f : Int) (w : LX) : Option (LX) :=
(Tc a w).bind fun (aj, ai) =>
some aj
def Ja : Int → Int → LX → Option (LX) := Yn
def Xy (bk18 : Int → LX → Option (LX)) (b : LU) (a f : Int) (g : LX) (h : Int) (m : LX) : Option (LX) :=
bk18 (Ae h 1) m
def Oz (bk18 : Int → LX → Option (LX)) : LU → Int → Int → LX → Int → LX → Option (LX) := Xy bk18
def Xt (bk26 : Int → LX → Int → Int32 → Int → LX → LX → Option (LX)) (b : LU) (h a f : Int) (g : LX) (k : Int) (af : LX) (y : Int) (aa : Int32) (ab : Int) (ac ad : LX) : Option (LX) :=
bk26 (Ae k a) af y aa ab ac ad
def Pj (bk26 : Int → LX → Int → Int32 → Int → LX → LX → Option (LX)) : LU → Int → Int → Int → LX → Int → LX → Int → Int32 → Int → LX → LX → Option (LX) := Xt bk26
def Oi (j30 : Int → LX → Int → Int32 → Int → LX → LX → Option (LX)) (b : LU) (h a f : Int) (g : LX) (k : Int) (ae : Int32) (m : LX) (n : Int) (o : Int32) (p : Int) (u v : LX) (y : Int) (aa : Int32) (ab : Int) (ac ad : LX) : Option (LX) :=
(getI m k).bind fun _ =>
(Pm m k ae).bind fun af =>
j30 k af y aa ab ac ad
def Pb (bk26 : Int → LX → Int → Int32 → Int → LX → LX → Option (LX)) (b : LU) (h a f : Int) (g : LX) : Int → Int32 → LX → Int → Int32 → Int → LX → LX → Int → Int32 → Int → LX → LX → Option (LX) := Oi (Pj bk26 b h a f g) b h a f g
def Im (j29 : Int → Int32 → LX → Int → Int32 → Int → LX → LX → Int → Int32 → Int → LX → LX → Option (LX)) (j32 : Int → LX → Option (LX)) (b : LU) (a f : Int) (g : LX) (h k : Int) (m : LX) (n : Int) (o : Int32) (p : Int) (u v : LX) : Option (LX) :=
if (Dm k (Ac b)) then
(getI b k).bind fun ah =>
(
(Iq ah).bind fun ag =>
(
(Gf n o p u v ag).bind fun (ae, y, aa, ab, ac, ad) =>
j29 k ae m n o p u v y aa ab ac ad))
else
j32 h m
def Gd (bk18 : Int → LX → Option (LX)) (b : LU) (a f : Int) (g : LX) (h : Int) : Nat → Int → LX → Int → Int32 → Int → LX → LX → Option (LX)
| 0, _, _, _, _, _, _, _ => none
| q + 1, k, m, n, o, p, u, v => Im (Pb (Gd bk18 b a f g h q) b h a f g) (Oz bk18 b a f g) b a f g h k m n o p u v
def Ok (bk18 : Int → LX → Option (LX)) (b : LU) (a f : Int) (g : LX) (h : Int) : Int → LX → Int → Int32 → Int → LX → LX → Option (LX) := Gd bk18 b a f g h Ba
def Iz (j26 : Int → Int → LX → Int → Int32 → Int → LX → LX → Option (LX)) (j34 : Int → Int → LX → Option (LX)) (b : LU) (a f : Int) (g : LX) (h : Int) (w : LX) : Option (LX) :=
if (Dm h a) then
(Ab5 f g).bind fun (ak, ai, al, am, an, ap) =>
j26 h h w ak ai al am an
else
j34 a f w
def Dk (b : LU) (a f : Int) (g : LX) : Nat → Int → LX → Option (LX)
| 0, _, _ => none
| q + 1, h, w => Iz (Ok (Dk b a f g q) b a f g) Ja b a f g h w
def Om (b : LU) (a f : Int) (g : LX) : Int → LX → Option (LX) := Dk b a f g Ba
def Qj (j18 : LU → Int → Int → LX → Int → LX → Option (LX)) (a f : Int) (g : LX) (b : LU) : Option (LX) :=
(mkI (Ac b) (0 : Int32)).bind fun ao =>
(Pn (geq (Ac b) (Ac b))).bind fun _ =>
j18 b a f g 0 ao
def Cr : Int → Int → LX → LU → Option (LX) := Qj Om
def Ak1 : Option Int :=
some 0
def Aa0 : Option Int := Ak1
def Eb (j6 : Option Int) (bk4 : Int → Option Int) (a : LX) (b f : Int) : Option Int :=
if (Dm f (Ac a)) then
(getI a f).bind fun g =>
if (Dm (Ad g : Int) (Ap4 b)) then
some 16
else
(getI a f).bind fun h =>
if (Qy (Ad h : Int) b) then
some 16
else
bk4 (Ae f 1)
else
j6
def Bm (a : LX) (b : Int) : Nat → Int → Option Int
| 0, _ => none
| q + 1, f => Eb Aa0 (Bm a b q) a b f
def Aa3 (a : LX) (b : Int) : Int → Option Int := Bm a b Ba
def Hm (j4 : LX → Int → Int → Option Int) (k : Int) (a : LX) : Option Int :=
(Ip k).bind fun b =>
if (geq b 0) then
some 2
else
if (Hw (Ac a) 4000) then
some 4
else
j4 a b 0
def cadenzaref18_Check : Int → LX → Option Int := Hm Aa3
def Dj (g f : Int) (a : LX) : Option (LX × Int) :=
(cadenzaref18_Check f a).bind fun b =>
if (Cu b 0) then
some (([] : LX), b)
else
some (a, 0)
abbrev Hk := Option (LX × Int)
def Gq (n a b : Int) (f : LX) (g : LU) : Hk :=
if (Cu n 0) then
some (([] : LX), n)
else
(
(
(Cr a b f g).bind fun h =>
(Dj a b h).bind fun (k, m) =>
some (k, m)))
def Jp : Int → Int → Int → LX → LU → Hk := Gq
def Pr (j2 : Int → Int → Int → LX → LU → Hk) (a b : Int) (f : LX) (p : Int) (o : LB) : Hk :=
(Ql a b p).bind fun u =>
if (Cu u 0) then
some (([] : LX), 2)
else
(Jj o).bind fun v =>
if (Cu v 0) then
(Jj o).bind fun w =>
some (([] : LX), w)
else
(Db o 0 (Al (Ac o) 4)).bind fun y =>
(Ti a p y).bind fun (g, n) =>
j2 n a b f g
def cadenzaref21_Decode : Int → Int → LX → Int → LB → Hk := Pr Jp
def Vu (a b : Int) : Option (LB) :=
if (geq a 24) then
(Gk ([(Ad (Hz b 256) : UInt8), (Ad (Hz (Bo b 256) 256) : UInt8)] : LB) ([(Ad (Bo b 65536) : UInt8)] : LB)).bind fun g =>
some g
else
some ([(Ad (Hz b 256) : UInt8), (Ad (Hz (Bo b 256) 256) : UInt8)] : LB)
def Gx : Int → Int → Option (LB) := Vu
def Vq (j2 : Int → Int → Option (LB)) (a : Int) (f : Int32) : Option (LB) :=
if (geq a 8) then
some ([(Ad (Ae (Ad f : Int) 128) : UInt8)] : LB)
else
if (Dm (Ad f : Int) 0) then
(Ip a).bind fun h =>
j2 a (Ae (Ad f : Int) (Bi 2 h))
else
j2 a (Ad f : Int)
def Vh : Int → Int32 → Option (LB) := Vq Gx
abbrev Cj := Option (LB × Int)
def Ak7 (b : LB) : Cj :=
some (b, 0)
def Abh : LB → Cj := Ak7
def Lj (j6 : LB → Cj) (bk4 : Int → LB → Cj) (f : Int) (a : LX) (g : Int) (b : LB) : Cj :=
if (Dm g (Ac a)) then
(getI a g).bind fun h =>
(Vh f h).bind fun k =>
(Gk b k).bind fun m =>
bk4 (Ae g 1) m
else
j6 b
def Fi (f : Int) (a : LX) : Nat → Int → LB → Cj
| 0, _, _ => none
| q + 1, g, b => Lj Abh (Fi f a q) f a g b
def Aa6 (f : Int) (a : LX) : Int → LB → Cj := Fi f a Ba
def Rn (j4 : Int → LX → Int → LB → Cj) (f : Int) (a : LX) : Cj :=
(cadenzaref18_Check f a).bind fun n =>
if (Cu n 0) then
(cadenzaref18_Check f a).bind fun o =>
some (([] : LB), o)
else
j4 f a 0 ([] : LB)
def Qq : Int → LX → Cj := Rn Aa6
abbrev Ko := Option (LB × Int)
def Vr (p : LX) (m n g b h k o : Int) (a : LI) : Ko :=
if (Cu m 0) then
some (([] : LB), m)
else
(Qq b p).bind fun (af, ah) =>
some (af, 0)
def Oc : LX → Int → Int → Int → Int → Int → Int → Int → LI → Ko := Vr
def Jh (j2 : LX → Int → Int → Int → Int → Int → Int → Int → LI → Ko) (v y : LB) (n g b h k o : Int) (a : LI) (f : Int) : Ko :=
(Qm n g b h k o a f).bind fun u =>
(getI a f).bind fun aa =>
if (Dm (Al (Ac v) u) aa) then
some (([] : LB), 24)
else
(Mn y).bind fun (ab, ag) =>
(getI a f).bind fun ac =>
(Db v u (Ae u ac)).bind fun ad =>
(
(Es h k).bind fun w =>
(getI w f).bind fun _ =>
(getI w f).bind fun ae =>
(cadenzaref21_Decode g b ab ae ad).bind fun (p, m) =>
j2 p m n g b h k o a)
def cadenzaref40_Got : LB → LB → Int → Int → Int → Int → Int → Int → LI → Int → Ko := Jh Oc
abbrev Ah := Option (LX × Int)
def Ahf (h : LX) : Ah :=
some (h, 0)
def Wb : LX → Ah := Ahf
def Wf (bk16 : Int → LX → Ah) (a : Int) (b : LB) (f g : Int) (n : LX) : Ah :=
bk16 (Ae g (Bo a 8)) n
def Hx (bk16 : Int → LX → Ah) : Int → LB → Int → Int → LX → Ah := Wf bk16
def Mw (j28 : Int → LX → Ah) (a : Int) (b : LB) (f g k : Int) (h : LX) : Ah :=
if (geq a 8) then
(Gk h ([(Ad (Al k 128) : Int32)] : LX)).bind fun o =>
j28 g o
else
if (Qy k f) then
(Gk h ([(Ad (Al k (Bi 2 f)) : Int32)] : LX)).bind fun p =>
j28 g p
else
(Gk h ([(Ad k : Int32)] : LX)).bind fun u =>
j28 g u
def Fv (bk16 : Int → LX → Ah) (a : Int) (b : LB) (f : Int) : Int → Int → LX → Ah := Mw (Hx bk16 a b f) a b f
def Ia (j27 : Int → Int → LX → Ah) (bk25 : Int → Int → Ah) (a : Int) (b : LB) (f g : Int) (h : LX) (k m : Int) : Ah :=
if (Qy m 0) then
(getI b (Ae g m)).bind fun v =>
bk25 (Ae (Bi 256 k) (Ad v : Int)) (Al m 1)
else
j27 g k h
def Cl (bk16 : Int → LX → Ah) (a : Int) (b : LB) (f g : Int) (h : LX) : Nat → Int → Int → Ah
| 0, _, _ => none
| q + 1, k, m => Ia (Fv bk16 a b f) (Cl bk16 a b f g h q) a b f g h k m
def Na (bk16 : Int → LX → Ah) (a : Int) (b : LB) (f g : Int) (h : LX) : Int → Int → Ah := Cl bk16 a b f g h Ba
def Ib (j25 : Int → LX → Int → Int → Ah) (j30 : LX → Ah) (a : Int) (b : LB) (f g : Int) (h : LX) : Ah :=
if (Dm g (Ac b)) then
j25 g h 0 (Al (Bo a 8) 1)
else
j30 h
def Bs (a : Int) (b : LB) (f : Int) : Nat → Int → LX → Ah
| 0, _, _ => none
| q + 1, g, h => Ib (Na (Bs a b f q) a b f) Wb a b f g h
def Mu (a : Int) (b : LB) (f : Int) : Int → LX → Ah := Bs a b f Ba
def Od (j16 : Int → LB → Int → Int → LX → Ah) (a : Int) (b : LB) : Ah :=
(Ip a).bind fun f =>
if (geq f 0) then
some (([] : LX), 2)
else
(Pn (Cu (Bo a 8) 0)).bind fun _ =>
if (Hw (Hz (Ac b) (Bo a 8)) 0) then
some (([] : LX), 12)
else
(Pn (Cu (Bo a 8) 0)).bind fun _ =>
if (Hw (Bo (Ac b) (Bo a 8)) 4000) then
some (([] : LX), 4)
else
j16 a b f 0 ([] : LX)
def Il : Int → LB → Ah := Od Mu
abbrev Ce := Option ((List LX) × LI)
def Ajw (a : List LX) (b : LI) : Ce :=
some (a, b)
def Aaj : (List LX) → LI → Ce := Ajw
def Js (j6 : (List LX) → LI → Ce) (bk4 : Int → (List LX) → LI → Ce) (k m : LB) (n o f p u v : Int) (g : LI) (h : Int) (a : List LX) (b : LI) : Ce :=
if (Dm h (Ac g)) then
(cadenzaref40_Got k m n o f p u v g h).bind fun (w, y) =>
if (Cu y 0) then
(Gk a ([([] : LX)] : List LX)).bind fun aa =>
(Gk b ([h] : LI)).bind fun ab =>
bk4 (Ae h 1) aa ab
else
(Il f w).bind fun (ac, ae) =>
(Gk a ([ac] : List LX)).bind fun ad =>
bk4 (Ae h 1) ad b
else
j6 a b
def Ew (k m : LB) (n o f p u v : Int) (g : LI) : Nat → Int → (List LX) → LI → Ce
| 0, _, _, _ => none
| q + 1, h, a, b => Js Aaj (Ew k m n o f p u v g q) k m n o f p u v g h a b
def Zz (k m : LB) (n o f p u v : Int) (g : LI) : Int → (List LX) → LI → Ce := Ew k m n o f p u v g Ba
def Yv (j4 : LB → LB → Int → Int → Int → Int → Int → Int → LI → Int → (List LX) → LI → Ce) (k m : LB) (n o f p u v : Int) (g : LI) : Ce :=
j4 k m n o f p u v g 0 ([] : List LX) ([] : LI)
def Vx : LB → LB → Int → Int → Int → Int → Int → Int → LI → Ce := Yv Zz
def Ho (a b : LB) : Option (LI × Int) :=
(Gn a b).bind fun (g, h, k, m, n, o, p, f) =>
if (Cu f 0) then
some (([] : LI), f)
else
(Vx a b g h k m n o p).bind fun (v, u) =>
some (u, 0)
def Ahe : Option Bool :=
some true
def Wr : Option Bool := Ahe
def Hy (j6 : Option Bool) (bk4 : Int → Option Bool) (a b : LI) (f : Int) : Option Bool :=
if (Dm f (Ac a)) then
(getI a f).bind fun g =>
(getI b f).bind fun h =>
if (Cu g h) then
some false
else
bk4 (Ae f 1)
else
j6
def Dw (a b : LI) : Nat → Int → Option Bool
| 0, _ => none
| q + 1, f => Hy Wr (Dw a b q) a b f
def Wq (a b : LI) : Int → Option Bool := Dw a b Ba
def Mt (j4 : LI → LI → Int → Option Bool) (a b : LI) : Option Bool :=
if (Cu (Ac a) (Ac b)) then
some false
else
j4 a b 0
def Ld : LI → LI → Option Bool := Mt Wq
def Oe (a b : LB) : Option Bool :=
(Zp a).bind fun f =>
if (f || (Hw (Ac b) 100)) then
some true
else
(Xk a b).bind fun (g, h) =>
(Ho a b).bind fun (k, m) =>
(Ld g k).bind fun n =>
some (n && (geq h m))
end Go.Pl
