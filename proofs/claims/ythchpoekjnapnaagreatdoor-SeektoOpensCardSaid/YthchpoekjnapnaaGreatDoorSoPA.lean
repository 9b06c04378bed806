/- A part of the proof of a statement of this seat (see the text that ends in Proof): SoPure. No conditions of its own. -/
import Derived.Test.YthchpoekjnapnaaGreatDoorSoBA
set_option linter.unusedVariables false
namespace Go.Pl
open Go Go.Lv
abbrev LB := List UInt8
abbrev LI := List Int
abbrev LX := List Int32
abbrev LU := List UInt32
abbrev LQ := List UInt64
def Zb (a : LB) : Option Bool :=
some (((Hq (Ac a) 5000) && (Dg (Ac a) 12000)) || (Hq (Ac a) 12100))
def Jf (a b : LB) : Option Bool :=
some (a == b)
def Lb (b a : LB) : Option Bool :=
if (Re (Ac b) (Ac a)) then
(Cv b 0 (Ac a)).bind fun f =>
(Jf f a).bind fun g =>
some g
else
some false
abbrev Ei := Option (Int × Int)
def Apn (b : Int) : Ei :=
some (b, 0)
def Ahd : Int → Ei := Apn
def Tx (j6 : Int → Ei) (bk4 : Int → Int → Ei) (a : LB) (b f : Int) : Ei :=
if (Dg f (Ac a)) then
(Aj a f).bind fun g =>
if (Hq g 127) then
some (0, 12)
else
bk4 (gor (Eu b (GI.toZ (7 : UInt64)).toNat) (Ad g : Int)) (Ae f 1)
else
j6 b
def Jg (a : LB) : Nat → Int → Int → Ei
| 0, _, _ => none
| q + 1, b, f => Tx Ahd (Jg a q) a b f
def Aa5 (a : LB) : Int → Int → Ei := Jg a Ba
def Aaz (j4 : LB → Int → Int → Ei) (a : LB) : Ei :=
if (Db (Ac a) 4) then
some (0, 2)
else
j4 a 0 0
def Abd : LB → Ei := Aaz Aa5
abbrev Cp := Option (Int × Int)
def Ajg (a : LB) (b : UInt8) (h : Int) : Cp :=
if (Hq h 4000) then
some (0, 4)
else
if (Dg (Ac a) h) then
some (0, 24)
else
if (geq b 16) then
(Cv a (Am h 10) h).bind fun k =>
(Cv k 0 3).bind fun o =>
if (o != ([51, 68, 73] : LB)) then
some (0, 12)
else
(Cv k 3 (Ac k)).bind fun p =>
(Cv a 3 10).bind fun u =>
(Jf p u).bind fun v =>
if (!v) then
some (0, 12)
else
some (h, 0)
else
some (h, 0)
def Vv : LB → UInt8 → Int → Cp := Ajg
def Acs (j8 : LB → UInt8 → Int → Cp) (a : LB) (g : Int) (b : UInt8) : Cp :=
if (geq b 16) then
j8 a b (Ae (Ae g 10) 10)
else
j8 a b (Ae g 10)
def Vu : LB → Int → UInt8 → Cp := Acs Vv
def Aci (j7 : LB → Int → UInt8 → Cp) (a : LB) (g : Int) (b : UInt8) (m : Bool) : Cp :=
if m then
some (0, 12)
else
j7 a g b
def Aco : LB → Int → UInt8 → Bool → Cp := Aci Vu
def Acu (j6 : LB → Int → UInt8 → Bool → Cp) (a : LB) (f b : UInt8) : Cp :=
(Cv a 6 10).bind fun w =>
(Abd w).bind fun (g, y) =>
if (Db y 0) then
if true then
j6 a g b true
else
if (geq b 0) then
j6 a g b (!((Re f 2) && (gle f 4)))
else
if (geq b 16) then
j6 a g b (!(geq f 4))
else
j6 a g b (!false)
else
(Aj a 4).bind fun aa =>
if (Db aa 0) then
j6 a g b true
else
if (geq b 0) then
j6 a g b (!((Re f 2) && (gle f 4)))
else
if (geq b 16) then
j6 a g b (!(geq f 4))
else
j6 a g b (!false)
def Ack : LB → UInt8 → UInt8 → Cp := Acu Aco
def Vt (j5 : LB → UInt8 → UInt8 → Cp) (a : LB) : Cp :=
(Lb a ([(73 : UInt8), (68 : UInt8), (51 : UInt8)] : LB)).bind fun n =>
if (!n) then
some (0, 6)
else
if (Dg (Ac a) 10) then
some (0, 24)
else
(Aj a 3).bind fun f =>
(Aj a 5).bind fun b =>
(
(
(
j5 a f b)))
def Adg : LB → Cp := Vt Ack
abbrev Mi := Option (UInt64 × Int)
def Bao (b : UInt64) : Mi :=
some (b, 0)
def Aqr : UInt64 → Mi := Bao
def Afx (j6 : UInt64 → Mi) (bk4 : UInt64 → Int → Mi) (a : LB) (b : UInt64) (f : Int) : Mi :=
if (Dg f (Ac a)) then
(Aj a f).bind fun g =>
(Sa (Re (Bp 8 f) 0)).bind fun _ =>
bk4 (gor b (Eu (Ad g : UInt64) (GI.toZ (Bp 8 f)).toNat)) (Ae f 1)
else
j6 b
def Xd (a : LB) : Nat → UInt64 → Int → Mi
| 0, _, _ => none
| q + 1, b, f => Afx Aqr (Xd a q) a b f
def Akg (a : LB) : UInt64 → Int → Mi := Xd a Ba
def Ak9 (j4 : LB → UInt64 → Int → Mi) (a : LB) : Mi :=
if ((Dg (Ac a) 1) || (Hq (Ac a) 8)) then
some (0, 2)
else
j4 a 0 0
def Aj8 : LB → Mi := Ak9 Akg
def Ahy (f : LB) (a b : Int) : Option (UInt64 × Int) :=
if (((Dg b 1) || (Hq b 8)) || (Dg a 0)) then
some (0, 2)
else
if (Hq a (Am (Ac f) b)) then
some (0, 24)
else
(Cv f a (Ae a b)).bind fun g =>
(Aj8 g).bind fun (h, k) =>
some (h, k)
def Aq6 (b : UInt64) (a : Int) : Option Bool :=
if (geq a 8) then
some true
else
(Sa (Re (Bp 8 a) 0)).bind fun _ =>
some (geq (Cj b (GI.toZ (Bp 8 a)).toNat) 0)
abbrev Mg := Option (LB × Int)
def Ap1 (a : LB) : Mg :=
some (a, 0)
def Akn : LB → Mg := Ap1
def Afr (j6 : LB → Mg) (bk4 : Int → LB → Mg) (f : UInt64) (g : LB) (b : Int) (a : LB) : Mg :=
if (Dg b (Ac g)) then
(Sa (Re (Bp 8 b) 0)).bind fun _ =>
(Aj a b).bind fun _ =>
(Oi a b (Ad (Cj f (GI.toZ (Bp 8 b)).toNat) : UInt8)).bind fun k =>
bk4 (Ae b 1) k
else
j6 a
def Wt (f : UInt64) (g : LB) : Nat → Int → LB → Mg
| 0, _, _ => none
| q + 1, b, a => Afr Akn (Wt f g q) f g b a
def Aj5 (f : UInt64) (g : LB) : Int → LB → Mg := Wt f g Ba
def Alb (j4 : UInt64 → LB → Int → LB → Mg) (f : UInt64) (h : Int) : Mg :=
if ((Dg h 1) || (Hq h 8)) then
some (([] : LB), 2)
else
(Aq6 f h).bind fun m =>
if (!m) then
some (([] : LB), 16)
else
(mkI h (0 : UInt8)).bind fun g =>
(Sa (geq h h)).bind fun _ =>
j4 f g 0 g
def Akr : UInt64 → Int → Mg := Alb Aj5
def Ati (g : LB) : Option (LB) :=
some g
def Am6 : LB → Option (LB) := Ati
def Aie (j6 : LB → Option (LB)) (bk4 : Int → LB → Option (LB)) (a b : Int) (f : UInt64) (h : Int) (g : LB) : Option (LB) :=
if (Dg h (Ac ([(2000 : UInt64), (Ad (Ae a 32) : UInt64), (Ad b : UInt64), f, (0 : UInt64), (0 : UInt64)] : LQ))) then
(Aj ([(2000 : UInt64), (Ad (Ae a 32) : UInt64), (Ad b : UInt64), f, (0 : UInt64), (0 : UInt64)] : LQ) h).bind fun _ =>
(Aj ([(2000 : UInt64), (Ad (Ae a 32) : UInt64), (Ad b : UInt64), f, (0 : UInt64), (0 : UInt64)] : LQ) h).bind fun k =>
(Akr k 4).bind fun (m, o) =>
(Ir g m).bind fun n =>
bk4 (Ae h 1) n
else
j6 g
def Wi (a b : Int) (f : UInt64) : Nat → Int → LB → Option (LB)
| 0, _, _ => none
| q + 1, h, g => Aie Am6 (Wi a b f q) a b f h g
def Amu (a b : Int) (f : UInt64) : Int → LB → Option (LB) := Wi a b f Ba
def Am5 (j4 : Int → Int → UInt64 → Int → LB → Option (LB)) (a b : Int) (f : UInt64) : Option (LB) :=
j4 a b f 0 ([(65 : UInt8), (80 : UInt8), (69 : UInt8), (84 : UInt8), (65 : UInt8), (71 : UInt8), (69 : UInt8), (88 : UInt8)] : LB)
def Anz : Int → Int → UInt64 → Option (LB) := Am5 Amu
def Alf (b : LB) (g : UInt64) : Option (Int × Int × Bool) :=
(Ahy b 12 4).bind fun (a, m) =>
(Ahy b 16 4).bind fun (f, n) =>
if (((Dg a 32) || (Hq a 3032)) || (Hq f 1000)) then
some (0, 0, false)
else
(Anz (Am (Ad a : Int) 32) (Ad f : Int) g).bind fun h =>
(Jf b h).bind fun k =>
some ((Am (Ad a : Int) 32), (Ad f : Int), k)
def Alp (a : LB) : Option (Int × Int) :=
(Lb a ([(65 : UInt8), (80 : UInt8), (69 : UInt8), (84 : UInt8), (65 : UInt8), (71 : UInt8), (69 : UInt8), (88 : UInt8)] : LB)).bind fun f =>
if (!f) then
some (0, 6)
else
if (Dg (Ac a) 32) then
some (0, 24)
else
(Cv a 0 32).bind fun g =>
(Alf g 2684354560).bind fun (b, h, k) =>
if (!k) then
some (0, 12)
else
if (Dg (Ac a) (Ae b 64)) then
some (0, 24)
else
(Cv a (Am (Ae b 64) 32) (Ae b 64)).bind fun m =>
(Anz b h 2147483648).bind fun n =>
(Jf m n).bind fun o =>
if (!o) then
some (0, 12)
else
some ((Ae b 64), 0)
def Sn (a : LB) : Option (Int × Int) :=
(Adg a).bind fun (f, b) =>
if (Db b 6) then
some (f, b)
else
(Alp a).bind fun (g, h) =>
some (g, h)
def Qj (b : List UInt8) : Nat → Int → Option (Int × Int)
  | 0, _ => none
  | q + 1, x => Option.bind (Cv b x (Ac b)) fun s => Option.bind (Sn s) fun r =>
    if geq r.2 (6 : Int) = true then some (x, 0)
    else if (geq r.2 (0 : Int) && Hq (Ae x r.1) (4000 : Int)) = true then some (0, 4)
    else if Db r.2 (0 : Int) = true then some (0, r.2)
    else Qj b q (Ae x r.1)
def Wv (b : List UInt8) : Option (Int × Int) := Qj b Ba 0
def Hg (b a : LB) : Option Bool :=
if (Re (Ac b) (Ac a)) then
(Cv b 0 (Ac a)).bind fun f =>
some (f == a)
else
some false
def Rl (a b : LB) : Option Bool :=
(Hg a b).bind fun f =>
some f
abbrev Aq := Option (UInt32 × Int)
def Aj9 (h : UInt32) : Aq :=
some (h, 0)
def Afb : UInt32 → Aq := Aj9
def Xv (j30 : UInt32 → Aq) (bk28 : UInt32 → Int → Aq) (a : LB) (b : LU) (h : UInt32) (m : Int) : Aq :=
if (Dg m (Ac a)) then
(Aj a m).bind fun p =>
(Aj b (GI.toZ (Vq (Ad h : UInt8) p))).bind fun _ =>
(Aj b (GI.toZ (Vq (Ad h : UInt8) p))).bind fun u =>
bk28 (Vq (Cj h (GI.toZ (8 : UInt64)).toNat) u) (Ae m 1)
else
j30 h
def Ng (a : LB) (b : LU) : Nat → UInt32 → Int → Aq
| 0, _, _ => none
| q + 1, h, m => Xv Afb (Ng a b q) a b h m
def Aew (a : LB) (b : LU) : UInt32 → Int → Aq := Ng a b Ba
def Aeq (j28 : LB → LU → UInt32 → Int → Aq) (f : UInt32) (a : LB) (b : LU) : Aq :=
j28 a b f 0
def Aeg : UInt32 → LB → LU → Aq := Aeq Aew
def Afe (j27 : UInt32 → LB → LU → Aq) (f : UInt32) (a : LB) (b : LU) : Aq :=
j27 f a b
def Yt : UInt32 → LB → LU → Aq := Afe Aeg
def Ak2 (bk16 : Int → LU → Aq) (f : UInt32) (a : LB) (g : Int) (o : LU) : Aq :=
bk16 (Ae g 1) o
def Ad4 (bk16 : Int → LU → Aq) : UInt32 → LB → Int → LU → Aq := Ak2 bk16
def Ae7 (j24 : Int → LU → Aq) (f : UInt32) (a : LB) (g : Int) (k : UInt32) (b : LU) : Aq :=
(Aj b g).bind fun _ =>
(Oi b g k).bind fun o =>
j24 g o
def Yp (bk16 : Int → LU → Aq) (f : UInt32) (a : LB) : Int → UInt32 → LU → Aq := Ae7 (Ad4 bk16 f a) f a
def Xq (j23 : Int → UInt32 → LU → Aq) (bk21 : UInt32 → Int → Aq) (f : UInt32) (a : LB) (g : Int) (b : LU) (k : UInt32) (n : Int) : Aq :=
if (Dg n 8) then
bk21 (Vq (Cj k (GI.toZ (1 : UInt64)).toNat) (Bp 3988292384 (He k 1))) (Ae n 1)
else
j23 g k b
def Oc (bk16 : Int → LU → Aq) (f : UInt32) (a : LB) (g : Int) (b : LU) : Nat → UInt32 → Int → Aq
| 0, _, _ => none
| q + 1, k, n => Xq (Yp bk16 f a) (Oc bk16 f a g b q) f a g b k n
def Aeb (bk16 : Int → LU → Aq) (f : UInt32) (a : LB) (g : Int) (b : LU) : UInt32 → Int → Aq := Oc bk16 f a g b Ba
def Yv (j21 : Int → LU → UInt32 → Int → Aq) (j26 : UInt32 → LB → LU → Aq) (f : UInt32) (a : LB) (g : Int) (b : LU) : Aq :=
if (Dg g 256) then
j21 g b (Ad g : UInt32) 0
else
j26 f a b
def Jp (f : UInt32) (a : LB) : Nat → Int → LU → Aq
| 0, _, _ => none
| q + 1, g, b => Yv (Aeb (Jp f a q) f a) Yt f a g b
def Aer (f : UInt32) (a : LB) : Int → LU → Aq := Jp f a Ba
def Agv (j16 : UInt32 → LB → Int → LU → Aq) (f : UInt32) (a : LB) : Aq :=
if (Hq (Ac a) 100000) then
some (0, 4)
else
j16 f a 0 (List.replicate 256 (0 : UInt32))
def Aiu : UInt32 → LB → Aq := Agv Aer
def Adx (b : LB) : Option (UInt32 × Int) :=
(Aiu 4294967295 b).bind fun (f, a) =>
if (Db a 0) then
some (0, a)
else
some ((Ass f), 0)
def Ahw (b f a g h : Int) : Option Bool :=
some (((((((geq b 1) || (geq b 2)) && (Hq f 0)) && (gle f 6)) && (Hq g 0)) && (gle g 1048576)) && (Hq h 0))
def Uf : Int → Int → Int → Int → Int → Option Bool := Ahw
def Aaj (j2 : Int → Int → Int → Int → Int → Option Bool) (b f a g h : Int) : Option Bool :=
if (geq a 8) then
if (geq a 8) then
j2 b f a g h
else
some false
else
if (geq a 16) then
if (geq a 16) then
j2 b f a g h
else
some false
else
if (geq a 24) then
j2 b f a g h
else
some false
def Vb : Int → Int → Int → Int → Int → Option Bool := Aaj Uf
def Yw (a : Int) : Option (Int × Int) :=
if ((Dg a 1) || (Hq a 1048576)) then
some (0, 2)
else
some ((Al6 1 (Dc (Bp 256 a) 245)), 0)
def Vl (g b : Int) : Option (Int × Int) :=
(Yw g).bind fun (a, f) =>
if (Db f 0) then
some (0, f)
else
if ((Dg b 1) || (Hq b 4000)) then
some (0, 2)
else
(Sa (Db a 0)).bind fun _ =>
if (Hq (Dc (Am (Ae b a) 1) a) 1000) then
some (0, 4)
else
some ((Dc (Am (Ae b a) 1) a), 0)
def Abx (k a m f b : Int) : Option Bool :=
(Sa (Db a 0)).bind fun _ =>
if (Hq b (Dc 4000 a)) then
some false
else
(Vl f b).bind fun (g, h) =>
some ((geq h 0) && (gle g 1000))
abbrev Fz := Option (Int × Int × Int × Int × Int × Int)
def Akz (a : LI) : Fz :=
(Aj a 0).bind fun _ =>
(Aj a 0).bind fun h =>
(Aj a 1).bind fun _ =>
(Aj a 1).bind fun k =>
(Aj a 2).bind fun _ =>
(Aj a 2).bind fun m =>
(Aj a 3).bind fun _ =>
(Aj a 3).bind fun n =>
(Aj a 4).bind fun _ =>
(Aj a 4).bind fun o =>
(Vb h k m n o).bind fun p =>
if (!p) then
some (0, 0, 0, 0, 0, 12)
else
(Abx h k m n o).bind fun u =>
if (!u) then
some (0, 0, 0, 0, 0, 4)
else
some (h, k, m, n, o, 0)
def Xu : LI → Fz := Akz
def Zl (j6 : LI → Fz) (bk4 : Int → Int → LI → Fz) (b : LB) (g f : Int) (a : LI) : Fz :=
if (Dg f 5) then
(Aj ([(2 : Int), (2 : Int), (2 : Int), (4 : Int), (4 : Int)] : LI) f).bind fun h =>
(Ahy b g h).bind fun (v, ae) =>
(Aj a f).bind fun _ =>
(Oi a f (Ad v : Int)).bind fun w =>
bk4 (Ae g h) (Ae f 1) w
else
j6 a
def Jr (b : LB) : Nat → Int → Int → LI → Fz
| 0, _, _, _ => none
| q + 1, g, f, a => Zl Xu (Jr b q) b g f a
def Yd (b : LB) : Int → Int → LI → Fz := Jr b Ba
def Ad9 (j4 : LB → Int → Int → LI → Fz) (b : LB) : Fz :=
(Cv b 0 (Fy 4 (Ac b))).bind fun y =>
(Rl ([84, 84, 65, 49] : LB) y).bind fun aa =>
if (!aa) then
some (0, 0, 0, 0, 0, 12)
else
if (Dg (Ac b) 22) then
some (0, 0, 0, 0, 0, 24)
else
(Ahy b 18 4).bind fun (ab, af) =>
(Cv b 0 18).bind fun ac =>
(Adx ac).bind fun (ad, ag) =>
if (Db (Ad ad : UInt64) ab) then
some (0, 0, 0, 0, 0, 22)
else
j4 b 4 0 (List.replicate 5 (0 : Int))
def Afu : LB → Fz := Ad9 Yd
abbrev Ar := Option (UInt64 × Int)
def Akk (h : UInt64) : Ar :=
some (h, 0)
def Afi : UInt64 → Ar := Akk
def Aet (j30 : UInt64 → Ar) (h b : UInt64) (a : LB) (f : LQ) : Ar :=
j30 h
def Ae8 : UInt64 → UInt64 → LB → LQ → Ar := Aet Afi
def Ys (j29 : UInt64 → UInt64 → LB → LQ → Ar) (bk27 : UInt64 → Int → Ar) (a : LB) (b : UInt64) (f : LQ) (h : UInt64) (m : Int) : Ar :=
if (Dg m (Ac a)) then
(Aj a m).bind fun p =>
Option.bind (Aj f (GI.toZ (Vq (Ad (Cj h (GI.toZ (56 : UInt64)).toNat) : UInt8) p))) fun _ =>
Option.bind (Aj f (GI.toZ (Vq (Ad (Cj h (GI.toZ (56 : UInt64)).toNat) : UInt8) p))) fun u =>
bk27 (Vq (Eu h (GI.toZ (8 : UInt64)).toNat) u) (Ae m 1)
else
j29 h b a f
def Nh (a : LB) (b : UInt64) (f : LQ) : Nat → UInt64 → Int → Ar
| 0, _, _ => none
| q + 1, h, m => Ys Ae8 (Nh a b f q) a b f h m
def Ad2 (a : LB) (b : UInt64) (f : LQ) : UInt64 → Int → Ar := Nh a b f Ba
def Aek (j27 : LB → UInt64 → LQ → UInt64 → Int → Ar) (b : UInt64) (a : LB) (f : LQ) : Ar :=
j27 a b f b 0
def Xt : UInt64 → LB → LQ → Ar := Aek Ad2
def Akv (bk16 : Int → LQ → Ar) (b : UInt64) (a : LB) (g : Int) (o : LQ) : Ar :=
bk16 (Ae g 1) o
def Aex (bk16 : Int → LQ → Ar) : UInt64 → LB → Int → LQ → Ar := Akv bk16
def Aei (j24 : Int → LQ → Ar) (b : UInt64) (a : LB) (g : Int) (k : UInt64) (f : LQ) : Ar :=
(Aj f g).bind fun _ =>
(Oi f g k).bind fun o =>
j24 g o
def Yg (bk16 : Int → LQ → Ar) (b : UInt64) (a : LB) : Int → UInt64 → LQ → Ar := Aei (Aex bk16 b a) b a
def Yb (j23 : Int → UInt64 → LQ → Ar) (bk21 : UInt64 → Int → Ar) (b : UInt64) (a : LB) (g : Int) (f : LQ) (k : UInt64) (n : Int) : Ar :=
if (Dg n 8) then
bk21 (Vq (Eu k (GI.toZ (1 : UInt64)).toNat) (Bp 4823603603198064275 (Cj k (GI.toZ (63 : UInt64)).toNat))) (Ae n 1)
else
j23 g k f
def Ni (bk16 : Int → LQ → Ar) (b : UInt64) (a : LB) (g : Int) (f : LQ) : Nat → UInt64 → Int → Ar
| 0, _, _ => none
| q + 1, k, n => Yb (Yg bk16 b a) (Ni bk16 b a g f q) b a g f k n
def Ae2 (bk16 : Int → LQ → Ar) (b : UInt64) (a : LB) (g : Int) (f : LQ) : UInt64 → Int → Ar := Ni bk16 b a g f Ba
def Zd (j21 : Int → LQ → UInt64 → Int → Ar) (j26 : UInt64 → LB → LQ → Ar) (b : UInt64) (a : LB) (g : Int) (f : LQ) : Ar :=
if (Dg g 256) then
j21 g f (Eu (Ad g : UInt64) (GI.toZ (56 : UInt64)).toNat) 0
else
j26 b a f
def Jm (b : UInt64) (a : LB) : Nat → Int → LQ → Ar
| 0, _, _ => none
| q + 1, g, f => Zd (Ae2 (Jm b a q) b a) Xt b a g f
def Aeo (b : UInt64) (a : LB) : Int → LQ → Ar := Jm b a Ba
def Agm (j16 : UInt64 → LB → Int → LQ → Ar) (b : UInt64) (a : LB) : Ar :=
if (Hq (Ac a) 100000) then
some (0, 4)
else
j16 b a 0 (List.replicate 256 (0 : UInt64))
def Aij : UInt64 → LB → Ar := Agm Aeo
def Aht (a : LB) : Option (UInt64 × Int) :=
(Aij 0 a).bind fun (b, f) =>
some (b, f)
def Apg (a : LB) : Option (UInt64 × Int) :=
if (Hq (Ac a) 64) then
some (0, 2)
else
(Aht a).bind fun (b, f) =>
some (b, 0)
def Adf (b : LB) : Option (LB × Int) :=
(Apg b).bind fun (f, a) =>
if (Db a 0) then
some (([] : LB), a)
else
(Akr f 8).bind fun (g, h) =>
some (g, h)
def Aiz (a f : LB) : Option (Bool × Int) :=
(Adf f).bind fun (b, g) =>
if ((Db g 0) || (Db (Ac a) (Ac b))) then
some (false, 2)
else
(Jf a b).bind fun h =>
some (h, 0)
def Adr (a b f g h : Int) : Option Int :=
(Vb a b f g h).bind fun k =>
if (!k) then
some 8
else
(Abx a b f g h).bind fun m =>
if (!m) then
some 8
else
some 0
def Acy (a b : UInt64) : Option (UInt64 × UInt64) :=
some ((Ae (Ae (Bp (Cj a (GI.toZ (32 : UInt64)).toNat) (Cj b (GI.toZ (32 : UInt64)).toNat)) (Cj (Ae (Bp (Cj a (GI.toZ (32 : UInt64)).toNat) (He b 4294967295)) (Cj (Bp (He a 4294967295) (He b 4294967295)) (GI.toZ (32 : UInt64)).toNat)) (GI.toZ (32 : UInt64)).toNat)) (Cj (Ae (He (Ae (Bp (Cj a (GI.toZ (32 : UInt64)).toNat) (He b 4294967295)) (Cj (Bp (He a 4294967295) (He b 4294967295)) (GI.toZ (32 : UInt64)).toNat)) 4294967295) (Bp (He a 4294967295) (Cj b (GI.toZ (32 : UInt64)).toNat))) (GI.toZ (32 : UInt64)).toNat)), (Bp a b))
def Abf (a b : UInt64) : Option (UInt64 × UInt64) :=
(Acy a b).bind fun (f, g) =>
some (f, g)
def Kt (a : LI) : Option (LI) :=
some a
def Gq : LI → Option (LI) := Kt
def Fh (j10 : LI → Option (LI)) (bk8 : Int → LI → Option (LI)) (b : Int) (a : LI) : Option (LI) :=
if (Dg b (Ac a)) then
(
(vwI (Ac a) b (Ac a)).bind fun _ =>
(vwI (Ac a) 0 b).bind fun _ =>
bk8 (Ae b (Ae3 ((Ac a) - b) (Ahq a 0 (b - (0 : Int))).length)) (Qv a b ((Ac a) - b) (Ahq a 0 (b - (0 : Int)))))
else
j10 a
def Dp : Nat → Int → LI → Option (LI)
| 0, _, _ => none
| q + 1, b, a => Fh Gq (Dp q) b a
def Mk : Int → LI → Option (LI) := Dp Ba
def Mf (j8 : Int → LI → Option (LI)) (f : LI) (g : UInt64) : Option (LI) :=
(mkI (Ad g : Int) (0 : Int)).bind fun k =>
(Sa (geq (Ad g : Int) (Ad g : Int))).bind fun _ =>
j8 (Ae3 (Ac k) f.length) (Arx k f)
def Mj : LI → UInt64 → Option (LI) := Mf Mk
def Ma (j7 : LI → UInt64 → Option (LI)) (f : LI) (h : Int) : Option (LI) :=
(Abf (Ad (Ac f) : UInt64) (Ad h : UInt64)).bind fun (m, g) =>
if ((Hq m 0) || (Hq g 9223372036854775807)) then
none
else
j7 f g
def Mb : LI → Int → Option (LI) := Ma Mj
def Me (j6 : LI → Int → Option (LI)) (f : LI) (h : Int) : Option (LI) :=
if (Dg h 0) then
none
else
j6 f h
def Kc : LI → Int → Option (LI) := Me Mb
def Afl (f : LI) : Option (LI) :=
some f
def Uj : LI → Option (LI) := Afl
def Er (j16 : LI → Option (LI)) (bk14 : Int → LI → Option (LI)) (a : List LI) (g : Int) (f : LI) : Option (LI) :=
if (Dg g (Ac a)) then
(Aj a g).bind fun o =>
(Ir f o).bind fun p =>
bk14 (Ae g 1) p
else
j16 f
def Dj (a : List LI) : Nat → Int → LI → Option (LI)
| 0, _, _ => none
| q + 1, g, f => Er Uj (Dj a q) a g f
def Kx (a : List LI) : Int → LI → Option (LI) := Dj a Ba
def Kr (j14 : (List LI) → Int → LI → Option (LI)) (a : List LI) (k : LI) : Option (LI) :=
j14 a 0 k
def Gs : (List LI) → LI → Option (LI) := Kr Kx
def Ku (j13 : (List LI) → LI → Option (LI)) (b : Int) (a : List LI) : Option (LI) :=
if (Hq (Am b (Am (0 : Int) (0 : Int))) 0) then
(vwI 0 0 0).bind fun _ =>
(mkI (Am b (Am (0 : Int) (0 : Int))) (0 : Int)).bind fun u =>
(Ir ([] : LI) u).bind fun m =>
(vwI (Ac m) 0 0).bind fun _ =>
j13 a (Ahq m 0 ((0 : Int) - (0 : Int)))
else
j13 a ([] : LI)
def Kz : Int → (List LI) → Option (LI) := Ku Gs
def Ky (j12 : Int → (List LI) → Option (LI)) (a : List LI) (b : Int) : Option (LI) :=
if (Dg b 0) then
none
else
j12 b a
def Kw : (List LI) → Int → Option (LI) := Ky Kz
def Fi (j11 : (List LI) → Int → Option (LI)) (bk9 : Int → Int → Option (LI)) (a : List LI) (b h : Int) : Option (LI) :=
if (Dg h (Ac a)) then
(Aj a h).bind fun n =>
if (Dg (Ae b (Ac n)) 0) then
none
else
bk9 (Ae b (Ac n)) (Ae h 1)
else
j11 a b
def Dn (a : List LI) : Nat → Int → Int → Option (LI)
| 0, _, _ => none
| q + 1, b, h => Fi Kw (Dn a q) a b h
def Mn (a : List LI) : Int → Int → Option (LI) := Dn a Ba
def Md (j9 : (List LI) → Int → Int → Option (LI)) (a : List LI) : Option (LI) :=
j9 a 0 0
def Kb : (List LI) → Option (LI) := Md Mn
def Afd (a b : LI) : Option (LI) :=
(Kb ([a, b] : List LI)).bind fun f =>
some f
def Af2 (a b : Int) : Option (LI × Int) :=
(Vl a b).bind fun (f, g) =>
if (Db g 0) then
some (([] : LI), g)
else
(Yw a).bind fun (h, n) =>
(Kc ([h] : LI) (Am f 1)).bind fun k =>
(Afd k ([(Am b (Bp (Am f 1) h))] : LI)).bind fun m =>
some (m, 0)
def Vh (g h k a b : Int) : Option (LI × Int) :=
(Adr g h k a b).bind fun f =>
if (Db f 0) then
some (([] : LI), f)
else
(Af2 a b).bind fun (m, n) =>
some (m, n)
def Arz : Option Int :=
some 0
def Aj0 : Option Int := Arz
def Zi (j6 : Option Int) (bk4 : Int → Int → Option Int) (a : LI) (f b : Int) : Option Int :=
if (Dg b (Ac a)) then
(Aj a b).bind fun g =>
if ((Dg g 5) || (Hq g f)) then
some 8
else
bk4 (Am f g) (Ae b 1)
else
j6
def Oa (a : LI) : Nat → Int → Int → Option Int
| 0, _, _ => none
| q + 1, f, b => Zi Aj0 (Oa a q) a f b
def Afa (a : LI) : Int → Int → Option Int := Oa a Ba
def Ad0 (j4 : LI → Int → Int → Option Int) (a : LI) : Option Int :=
if ((geq (Ac a) 0) || (Hq (Ac a) 1000)) then
some 8
else
j4 a 100000 0
def Abo : LI → Option Int := Ad0 Afa
abbrev Hl := Option (LI × Int)
def Amq (a : LI) : Hl :=
(Abo a).bind fun k =>
if (Db k 0) then
some (([] : LI), 12)
else
some (a, 0)
def Aa7 : LI → Hl := Amq
def Abc (j6 : LI → Hl) (bk4 : Int → LI → Hl) (b : LB) (f : LI) (g : Int) (a : LI) : Hl :=
if (Dg g (Ac f)) then
(Ahy b (Bp 4 g) 4).bind fun (k, u) =>
(Aj a g).bind fun _ =>
(Oi a g (Ad k : Int)).bind fun m =>
bk4 (Ae g 1) m
else
j6 a
def Qi (b : LB) (f : LI) : Nat → Int → LI → Hl
| 0, _, _ => none
| q + 1, g, a => Abc Aa7 (Qi b f q) b f g a
def Agi (b : LB) (f : LI) : Int → LI → Hl := Qi b f Ba
def Agw (j4 : LB → LI → Int → LI → Hl) (b : LB) (h : Int) : Hl :=
if ((Dg h 1) || (Hq h 1000)) then
some (([] : LI), 2)
else
if (Dg (Ac b) (Ae (Bp 4 h) 4)) then
some (([] : LI), 24)
else
(Ahy b (Bp 4 h) 4).bind fun (n, v) =>
(Cv b 0 (Bp 4 h)).bind fun o =>
(Adx o).bind fun (p, w) =>
if (Db (Ad p : UInt64) n) then
some (([] : LI), 22)
else
(mkI h (0 : Int)).bind fun f =>
(Sa (geq h h)).bind fun _ =>
j4 b f 0 f
def Air : LB → Int → Hl := Agw Agi
abbrev Vm := Option (Int × Int × Int × Int × Int × Int × LI × Int)
def Akm (a : LB) (b f g h k n : Int) : Vm :=
(Vh b f g h k).bind fun (ab, p) =>
if (Db p 0) then
some (0, 0, 0, 0, 0, 0, ([] : LI), p)
else
(Cv a n (Ac a)).bind fun ac =>
(Air ac (Ac ab)).bind fun (u, v) =>
if (Db v 0) then
some (0, 0, 0, 0, 0, 0, ([] : LI), v)
else
some (b, f, g, h, k, (Ae (Ae n (Bp 4 (Ac u))) 4), u, 0)
def Tr : LB → Int → Int → Int → Int → Int → Int → Vm := Akm
def Tb (j2 : LB → Int → Int → Int → Int → Int → Int → Vm) (a o : LB) : Vm :=
if (Hq (Ac o) 64) then
some (0, 0, 0, 0, 0, 0, ([] : LI), 2)
else
if (Hq (Ac a) 100000) then
some (0, 0, 0, 0, 0, 0, ([] : LI), 4)
else
(Wv a).bind fun (m, w) =>
if (Db w 0) then
some (0, 0, 0, 0, 0, 0, ([] : LI), w)
else
(Cv a m (Ac a)).bind fun ad =>
(Afu ad).bind fun (b, f, g, h, k, y) =>
if (Db y 0) then
some (0, 0, 0, 0, 0, 0, ([] : LI), y)
else
if ((o == ([] : LB)) != (geq b 1)) then
some (0, 0, 0, 0, 0, 0, ([] : LI), 26)
else
if (o != ([] : LB)) then
if (Dg (Ac a) (Ae (Ae m 22) 8)) then
some (0, 0, 0, 0, 0, 0, ([] : LI), 24)
else
(Cv a (Ae m 22) (Ae (Ae m 22) 8)).bind fun ae =>
(Aiz ae o).bind fun (af, aa) =>
if (Db aa 0) then
some (0, 0, 0, 0, 0, 0, ([] : LI), aa)
else
if (!af) then
some (0, 0, 0, 0, 0, 0, ([] : LI), 26)
else
j2 a b f g h k (Ae (Ae m 22) 8)
else
j2 a b f g h k (Ae m 22)
def seekto_Open : LB → LB → Vm := Tb Tr
abbrev Cf := Option (Int × Int)
def Ajt (a : Int) : Cf :=
some (a, 0)
def Zv : Int → Cf := Ajt
def Kj (j6 : Int → Cf) (bk4 : Int → Int → Cf) (b : LB) (a f : Int) : Cf :=
if (Dg f 4) then
(Aj b f).bind fun g =>
if (Re g 128) then
some (0, 12)
else
(Aj b f).bind fun h =>
bk4 (Ae (Bp 128 a) (Ad h : Int)) (Ae f 1)
else
j6 a
def Ex (b : LB) : Nat → Int → Int → Cf
| 0, _, _ => none
| q + 1, a, f => Kj Zv (Ex b q) b a f
def Ql (b : LB) : Int → Int → Cf := Ex b Ba
def Rh (j4 : LB → Int → Int → Cf) (b : LB) : Cf :=
if (Db (Ac b) 4) then
some (0, 2)
else
j4 b 0 0
def Pg : LB → Cf := Rh Ql
abbrev Cb := Option (Int × Int)
def Ab4 (a : LB) (g : Int) : Cb :=
if (Hq g 4000) then
some (0, 4)
else
if (Dg (Ac a) g) then
some (0, 24)
else
(Aj a 5).bind fun h =>
if (geq h 16) then
(Cv a (Am g 10) g).bind fun k =>
(Cv a 3 10).bind fun m =>
(Ir ([51, 68, 73] : LB) m).bind fun n =>
if (k != n) then
some (0, 12)
else
some (g, 0)
else
some (g, 0)
def Le : LB → Int → Cb := Ab4
def Sf (j6 : LB → Int → Cb) (a : LB) (b : Int) : Cb :=
(Aj a 5).bind fun o =>
if (geq o 16) then
j6 a (Ae (Ae 10 b) 10)
else
j6 a (Ae 10 b)
def Lz : LB → Int → Cb := Sf Le
def To (j5 : LB → Int → Cb) (a : LB) : Cb :=
if (Dg (Ac a) 10) then
some (0, 24)
else
(Cv a 6 10).bind fun p =>
(Pg p).bind fun (b, f) =>
(Aj a 3).bind fun u =>
if (Dg u 2) then
if true then
if true then
if (true || (Db f 0)) then
some (0, 12)
else
j5 a b
else
(Aj a 5).bind fun v =>
if (Db v 0) then
(Aj a 5).bind fun w =>
if (Db w 16) then
if (true || (Db f 0)) then
some (0, 12)
else
j5 a b
else
(Aj a 3).bind fun y =>
if ((Db y 4) || (Db f 0)) then
some (0, 12)
else
j5 a b
else
if (false || (Db f 0)) then
some (0, 12)
else
j5 a b
else
(Aj a 4).bind fun aa =>
if (Db aa 0) then
if (true || (Db f 0)) then
some (0, 12)
else
j5 a b
else
(Aj a 5).bind fun ab =>
if (Db ab 0) then
(Aj a 5).bind fun ac =>
if (Db ac 16) then
if (true || (Db f 0)) then
some (0, 12)
else
j5 a b
else
(Aj a 3).bind fun ad =>
if ((Db ad 4) || (Db f 0)) then
some (0, 12)
else
j5 a b
else
if (false || (Db f 0)) then
some (0, 12)
else
j5 a b
else
(Aj a 3).bind fun ae =>
if (Hq ae 4) then
if true then
if (true || (Db f 0)) then
some (0, 12)
else
j5 a b
else
(Aj a 5).bind fun af =>
if (Db af 0) then
(Aj a 5).bind fun ag =>
if (Db ag 16) then
if (true || (Db f 0)) then
some (0, 12)
else
j5 a b
else
(Aj a 3).bind fun ah =>
if ((Db ah 4) || (Db f 0)) then
some (0, 12)
else
j5 a b
else
if (false || (Db f 0)) then
some (0, 12)
else
j5 a b
else
(Aj a 4).bind fun ai =>
if (Db ai 0) then
if (true || (Db f 0)) then
some (0, 12)
else
j5 a b
else
(Aj a 5).bind fun aj =>
if (Db aj 0) then
(Aj a 5).bind fun ak =>
if (Db ak 16) then
if (true || (Db f 0)) then
some (0, 12)
else
j5 a b
else
(Aj a 3).bind fun al =>
if ((Db al 4) || (Db f 0)) then
some (0, 12)
else
j5 a b
else
if (false || (Db f 0)) then
some (0, 12)
else
j5 a b
def Tl : LB → Cb := To Lz
def Tj (j4 : LB → Cb) (a : LB) : Cb :=
if (Dg (Ac a) 3) then
some (0, 6)
else
(Cv a 0 3).bind fun am =>
if (am != ([73, 68, 51] : LB)) then
some (0, 6)
else
j4 a
def Rn : LB → Cb := Tj Tl
def Ad5 (a : UInt64) : Option UInt64 :=
some a
def Wf : UInt64 → Option UInt64 := Ad5
def Ph (j6 : UInt64 → Option UInt64) (bk4 : UInt64 → Int → Option UInt64) (b : LB) (a : UInt64) (f : Int) : Option UInt64 :=
if (Re f 0) then
(Aj b f).bind fun g =>
bk4 (Ae (Bp 256 a) (Ad g : UInt64)) (Am f 1)
else
j6 a
def Ha (b : LB) : Nat → UInt64 → Int → Option UInt64
| 0, _, _ => none
| q + 1, a, f => Ph Wf (Ha b q) b a f
def We (b : LB) : UInt64 → Int → Option UInt64 := Ha b Ba
def Wg (j4 : LB → UInt64 → Int → Option UInt64) (b : LB) : Option UInt64 :=
j4 b 0 (Am (Ac b) 1)
def Ah : LB → Option UInt64 := Wg We
def Rz (b : LB) : Option (Int × Int × Bool) :=
(Cv b 12 16).bind fun g =>
(Ah g).bind fun a =>
(Cv b 16 20).bind fun h =>
(Ah h).bind fun f =>
if (((Dg a 32) || (Hq a 3032)) || (Hq f 1000)) then
some (0, 0, false)
else
some ((Am (Ad a : Int) 32), (Ad f : Int), true)
def Wz (a : LB) : Option (LB) :=
some a
def Nm : LB → Option (LB) := Wz
def Hv (j6 : LB → Option (LB)) (bk4 : UInt64 → Int → LB → Option (LB)) (b : Int) (f : UInt64) (g : Int) (a : LB) : Option (LB) :=
if (Dg g b) then
(Ir a ([(Ad (Xo f 256) : UInt8)] : LB)).bind fun h =>
bk4 (Dc f 256) (Ae g 1) h
else
j6 a
def Dw (b : Int) : Nat → UInt64 → Int → LB → Option (LB)
| 0, _, _, _ => none
| q + 1, f, g, a => Hv Nm (Dw b q) b f g a
def Oh (b : Int) : UInt64 → Int → LB → Option (LB) := Dw b Ba
def Nu (j4 : Int → UInt64 → Int → LB → Option (LB)) (k : UInt64) (b : Int) : Option (LB) :=
j4 b k 0 ([] : LB)
def Cs : UInt64 → Int → Option (LB) := Nu Oh
def Jl (a b : Int) (f : UInt64) : Option (LB) :=
(Cs 2000 4).bind fun g =>
(Ir ([(65 : UInt8), (80 : UInt8), (69 : UInt8), (84 : UInt8), (65 : UInt8), (71 : UInt8), (69 : UInt8), (88 : UInt8)] : LB) g).bind fun h =>
(Cs (Ad (Ae a 32) : UInt64) 4).bind fun k =>
(Ir h k).bind fun m =>
(Cs (Ad b : UInt64) 4).bind fun n =>
(Ir m n).bind fun o =>
(Cs f 4).bind fun p =>
(Ir o p).bind fun u =>
(mkI (8 : Int) (0 : UInt8)).bind fun v =>
(Ir u v).bind fun w =>
some w
def Xz (a b : Int) : Option (LB) :=
(Jl a b 2684354560).bind fun f =>
some f
def Za (a b : Int) (f : Bool) : Option (LB) :=
if f then
(Jl a b 2147483648).bind fun g =>
some g
else
(Jl a b 0).bind fun h =>
some h
abbrev Df := Option (Int × Int)
def Aaa (a : LB) (b f : Int) : Df :=
if (Dg (Ac a) (Ae 64 b)) then
some (0, 24)
else
(Cv a (Am (Ae 64 b) 32) (Ae 64 b)).bind fun g =>
(Za b f true).bind fun h =>
if (g != h) then
some (0, 12)
else
some ((Ae 64 b), 0)
def Qz : LB → Int → Int → Df := Aaa
def Rk (j4 : LB → Int → Int → Df) (a : LB) : Df :=
if (Dg (Ac a) 32) then
some (0, 24)
else
(Cv a 0 32).bind fun k =>
(Rz k).bind fun (b, f, m) =>
if (!m) then
some (0, 12)
else
(Cv a 0 32).bind fun n =>
(Xz b f).bind fun o =>
if (n != o) then
some (0, 12)
else
j4 a b f
def Rg : LB → Df := Rk Qz
def Ri (j3 : LB → Df) (a : LB) : Df :=
if (Dg (Ac a) 8) then
some (0, 6)
else
(Cv a 0 8).bind fun p =>
if (p != ([65, 80, 69, 84, 65, 71, 69, 88] : LB)) then
some (0, 6)
else
j3 a
def Ox : LB → Df := Ri Rg
abbrev Br := Option (LI × Int)
def Aae (bk6 : Int → LI → Br) (a : LB) (b : Int) (f : LI) (g h : Int) : Br :=
if (geq h 6) then
some (f, 0)
else
if (Db h 0) then
some (([] : LI), h)
else
if (Hq (Ae b g) 4000) then
some (([] : LI), 4)
else
(Ir f ([g] : LI)).bind fun m =>
bk6 (Ae b g) m
def Gw (bk6 : Int → LI → Br) : LB → Int → LI → Int → Int → Br := Aae bk6
def Kf (j9 : Int → LI → Int → Int → Br) (a : LB) (b : Int) (f : LI) : Br :=
(Cv a b (Ac a)).bind fun n =>
(Rn n).bind fun (o, k) =>
if (geq k 6) then
(Cv a b (Ac a)).bind fun p =>
(Ox p).bind fun (u, v) =>
j9 b f u v
else
j9 b f o k
def Gz (a : LB) : Nat → Int → LI → Br
| 0, _, _ => none
| q + 1, b, f => Kf (Gw (Gz a q) a) a b f
def Zz (a : LB) : Int → LI → Br := Gz a Ba
def Zo (j6 : LB → Int → LI → Br) (a : LB) : Br :=
j6 a 0 ([] : LI)
def Wc : LB → Br := Zo Zz
abbrev Ce := Option (Int × Int)
def Zw (a b : Int) : Ce :=
some (b, a)
def Ra : Int → Int → Ce := Zw
def Ka (j6 : Int → Int → Ce) (bk4 : Int → Int → Ce) (a : Int) (f : LI) (b g : Int) : Ce :=
if (Dg g (Ac f)) then
(Aj f g).bind fun _ =>
(Aj f g).bind fun h =>
bk4 (Ae b h) (Ae g 1)
else
j6 a b
def Fe (a : Int) (f : LI) : Nat → Int → Int → Ce
| 0, _, _ => none
| q + 1, b, g => Ka Ra (Fe a f q) a f b g
def Kn (a : Int) (f : LI) : Int → Int → Ce := Fe a f Ba
def Rj (j4 : Int → LI → Int → Int → Ce) (k : LB) : Ce :=
(Wc k).bind fun (f, a) =>
j4 a f 0 0
def Oy : LB → Ce := Rj Kn
def Abj (a : UInt32) (b : Bool) : Option UInt32 :=
if b then
some (Vq (Dc a 2) 3988292384)
else
some (Dc a 2)
def Se : UInt32 → Bool → Option UInt32 := Abj
def Ta (j2 : UInt32 → Bool → Option UInt32) (a : UInt32) (f : Int) : Option UInt32 :=
if (geq f 1) then
j2 a (!(geq (Xo a 2) 1))
else
j2 a (geq (Xo a 2) 1)
def Rv : UInt32 → Int → Option UInt32 := Ta Se
def Abp (a : UInt32) : Option UInt32 :=
some a
def Tm : UInt32 → Option UInt32 := Abp
def Lm (j6 : UInt32 → Option UInt32) (bk4 : UInt32 → UInt8 → Int → Option UInt32) (a : UInt32) (b : UInt8) (f : Int) : Option UInt32 :=
if (Dg f 8) then
(Rv a (Ad (Xo b 2) : Int)).bind fun g =>
bk4 g (Dc b 2) (Ae f 1)
else
j6 a
def Ft : Nat → UInt32 → UInt8 → Int → Option UInt32
| 0, _, _, _ => none
| q + 1, a, b, f => Lm Tm (Ft q) a b f
def Abk : UInt32 → UInt8 → Int → Option UInt32 := Ft Ba
def Acb (j4 : UInt32 → UInt8 → Int → Option UInt32) (h : UInt32) (k : UInt8) : Option UInt32 :=
j4 h k 0
def Yc : UInt32 → UInt8 → Option UInt32 := Acb Abk
def Yr (a : UInt32) : Option UInt32 :=
some a
def Ok : UInt32 → Option UInt32 := Yr
def Ix (j6 : UInt32 → Option UInt32) (bk4 : UInt32 → Int → Option UInt32) (b : LB) (a : UInt32) (f : Int) : Option UInt32 :=
if (Dg f (Ac b)) then
(Aj b f).bind fun g =>
(Yc a g).bind fun h =>
bk4 h (Ae f 1)
else
j6 a
def El (b : LB) : Nat → UInt32 → Int → Option UInt32
| 0, _, _ => none
| q + 1, a, f => Ix Ok (El b q) b a f
def Qc (b : LB) : UInt32 → Int → Option UInt32 := El b Ba
def Py (j4 : LB → UInt32 → Int → Option UInt32) (k : UInt32) (b : LB) : Option UInt32 :=
j4 b k 0
def Ux : UInt32 → LB → Option UInt32 := Py Qc
def Lc (a : LB) : Option UInt32 :=
(Ux 4294967295 a).bind fun b =>
some (Am 4294967295 b)
def Mu (f g b a h : Int) : Option Bool :=
if ((((geq f 1) || (geq f 2)) && (Re g 1)) && (gle g 6)) then
some ((((((geq b 8) || (geq b 16)) || (geq b 24)) && (Re a 1)) && (gle a 1048576)) && (Re h 1))
else
some (((false && (Re a 1)) && (gle a 1048576)) && (Re h 1))
def Lt (a : Int) : Option Int :=
some (Al6 1 (Dc (Bp 256 a) 245))
def Jy (a : LI) : Option (LI) :=
some a
def Gx : LI → Option (LI) := Jy
def Fc (j6 : LI → Option (LI)) (bk4 : Int → LI → Option (LI)) (b f : Int) (a : LI) : Option (LI) :=
if (Hq f 0) then
(Lt b).bind fun g =>
(Ir a ([(Fy f g)] : LI)).bind fun h =>
(Lt b).bind fun k =>
bk4 (Am f k) h
else
j6 a
def Cy (b : Int) : Nat → Int → LI → Option (LI)
| 0, _, _ => none
| q + 1, f, a => Fc Gx (Cy b q) b f a
def Qw (b : Int) : Int → LI → Option (LI) := Cy b Ba
def Qm (j4 : Int → Int → LI → Option (LI)) (b m : Int) : Option (LI) :=
j4 b m ([] : LI)
def Eh : Int → Int → Option (LI) := Qm Qw
def Hs (h a k f b : Int) : Option Bool :=
(
(Sa (Db a 0)).bind fun _ =>
(
if (Hq b (Dc 4000 a)) then
some true
else
(Eh f b).bind fun g =>
some (Hq (Ac g) 1000)))
abbrev Cc := Option (Int × Int × Int × Int × Int × Int)
def Ace (k h g f b : UInt64) : Cc :=
(Mu (Ad k : Int) (Ad h : Int) (Ad g : Int) (Ad f : Int) (Ad b : Int)).bind fun v =>
if (!v) then
some (0, 0, 0, 0, 0, 12)
else
(Hs (Ad k : Int) (Ad h : Int) (Ad g : Int) (Ad f : Int) (Ad b : Int)).bind fun w =>
if w then
some (0, 0, 0, 0, 0, 4)
else
some ((Ad k : Int), (Ad h : Int), (Ad g : Int), (Ad f : Int), (Ad b : Int), 0)
def Tc : UInt64 → UInt64 → UInt64 → UInt64 → UInt64 → Cc := Ace
def Lp (j6 : UInt64 → UInt64 → UInt64 → UInt64 → UInt64 → Cc) (a : LB) : Cc :=
(Cv a 4 6).bind fun u =>
(Cv a 6 8).bind fun p =>
(Cv a 8 10).bind fun o =>
(Cv a 10 14).bind fun n =>
(Cv a 14 18).bind fun m =>
(
(Ah u).bind fun k =>
(
(Ah p).bind fun h =>
(
(Ah o).bind fun g =>
(
(Ah n).bind fun f =>
(
(Ah m).bind fun b =>
(
j6 k h g f b))))))
def Sy : LB → Cc := Lp Tc
def Tf (j5 : LB → Cc) (a : LB) : Cc :=
if (Dg (Ac a) 22) then
some (0, 0, 0, 0, 0, 24)
else
(Cv a 18 22).bind fun y =>
(Cv a 0 18).bind fun aa =>
(Ah y).bind fun ab =>
(Lc aa).bind fun ac =>
if (Db ab (Ad ac : UInt64)) then
some (0, 0, 0, 0, 0, 22)
else
j5 a
def Ts : LB → Cc := Tf Sy
def Tp (j4 : LB → Cc) (a : LB) : Cc :=
(Cv a 0 (Fy 4 (Ac a))).bind fun ad =>
(Cv ([84, 84, 65, 49] : LB) 0 (Fy 4 (Ac a))).bind fun ae =>
if (ad != ae) then
some (0, 0, 0, 0, 0, 12)
else
j4 a
def Ru : LB → Cc := Tp Ts
def Abu (a : UInt64) (b : Bool) : Option UInt64 :=
if b then
some (Vq (Bp a 2) 4823603603198064275)
else
some (Bp a 2)
def Lu : UInt64 → Bool → Option UInt64 := Abu
def Sg (j2 : UInt64 → Bool → Option UInt64) (a : UInt64) (f : Int) : Option UInt64 :=
if (geq f 1) then
j2 a (!(Re a 9223372036854775808))
else
j2 a (Re a 9223372036854775808)
def Rm : UInt64 → Int → Option UInt64 := Sg Lu
def Abq (a : UInt64) : Option UInt64 :=
some a
def Sm : UInt64 → Option UInt64 := Abq
def Lh (j6 : UInt64 → Option UInt64) (bk4 : UInt64 → Int → Option UInt64) (b : UInt8) (a : UInt64) (f : Int) : Option UInt64 :=
if (Hq f 0) then
(Sa (Db f 0)).bind fun _ =>
(Rm a (Il (Dc (Ad b : Int) f) 2)).bind fun g =>
bk4 g (Dc f 2)
else
j6 a
def Fu (b : UInt8) : Nat → UInt64 → Int → Option UInt64
| 0, _, _ => none
| q + 1, a, f => Lh Sm (Fu b q) b a f
def Ab3 (b : UInt8) : UInt64 → Int → Option UInt64 := Fu b Ba
def Abs (j4 : UInt8 → UInt64 → Int → Option UInt64) (h : UInt64) (b : UInt8) : Option UInt64 :=
j4 b h 128
def Yi : UInt64 → UInt8 → Option UInt64 := Abs Ab3
def Zc (a : UInt64) : Option UInt64 :=
some a
def Oo : UInt64 → Option UInt64 := Zc
def Ja (j6 : UInt64 → Option UInt64) (bk4 : UInt64 → Int → Option UInt64) (b : LB) (a : UInt64) (f : Int) : Option UInt64 :=
if (Dg f (Ac b)) then
(Aj b f).bind fun g =>
(Yi a g).bind fun h =>
bk4 h (Ae f 1)
else
j6 a
def Ep (b : LB) : Nat → UInt64 → Int → Option UInt64
| 0, _, _ => none
| q + 1, a, f => Ja Oo (Ep b q) b a f
def Ze (b : LB) : UInt64 → Int → Option UInt64 := Ep b Ba
def Zh (j4 : LB → UInt64 → Int → Option UInt64) (k : UInt64) (b : LB) : Option UInt64 :=
j4 b k 0
def Mt : UInt64 → LB → Option UInt64 := Zh Ze
def Xs (a : LB) : Option UInt64 :=
(Mt 0 a).bind fun b =>
some b
def Lj (a : LB) : Option (LB) :=
(Xs a).bind fun b =>
(Cs b 8).bind fun f =>
some f
def Yy (b : Int) : Option Int :=
if (Hq b 100000) then
some 8
else
some 0
def Pd : Int → Option Int := Yy
def Zn (bk6 : Int → Int → Option Int) (a : LI) (b f : Int) : Option Int :=
(Aj a f).bind fun g =>
bk6 (Ae b g) (Ae f 1)
def Qr (bk6 : Int → Int → Option Int) : LI → Int → Int → Option Int := Zn bk6
def Jz (j8 : Int → Int → Option Int) (j10 : Int → Option Int) (a : LI) (b f : Int) : Option Int :=
if (Dg f (Ac a)) then
(Aj a f).bind fun h =>
if (Dg h 5) then
some 8
else
(Aj a f).bind fun k =>
if (Hq k 100000) then
some 8
else
j8 b f
else
j10 b
def Ew (a : LI) : Nat → Int → Int → Option Int
| 0, _, _ => none
| q + 1, b, f => Jz (Qr (Ew a q) a) Pd a b f
def Qn (a : LI) : Int → Int → Option Int := Ew a Ba
def Qy (j6 : LI → Int → Int → Option Int) (a : LI) : Option Int :=
if ((Dg (Ac a) 1) || (Hq (Ac a) 1000)) then
some 8
else
j6 a 0 0
def Ot : LI → Option Int := Qy Qn
abbrev Bh := Option (LI × Int)
def Abn (f : LI) : Bh :=
(Ot f).bind fun h =>
if (Db h 0) then
some (([] : LI), 12)
else
some (f, 0)
def Ld : LI → Bh := Abn
def Ll (j8 : LI → Bh) (bk6 : Int → LI → Bh) (b : LB) (a g : Int) (f : LI) : Bh :=
if (Dg g a) then
(Cv b (Bp 4 g) (Ae (Bp 4 g) 4)).bind fun k =>
(Ah k).bind fun m =>
(Ir f ([(Ad m : Int)] : LI)).bind fun n =>
bk6 (Ae g 1) n
else
j8 f
def Fq (b : LB) (a : Int) : Nat → Int → LI → Bh
| 0, _, _ => none
| q + 1, g, f => Ll Ld (Fq b a q) b a g f
def Sk (b : LB) (a : Int) : Int → LI → Bh := Fq b a Ba
def Sp (j6 : LB → Int → Int → LI → Bh) (b : LB) (a : Int) : Bh :=
j6 b a 0 ([] : LI)
def Tu : LB → Int → Bh := Sp Sk
def So (j5 : LB → Int → Bh) (b : LB) (a : Int) : Bh :=
if ((Dg a 1) || (Hq a 1000)) then
some (([] : LI), 2)
else
if (Dg (Ac b) (Ae (Bp 4 a) 4)) then
some (([] : LI), 24)
else
(Cv b (Bp 4 a) (Ae (Bp 4 a) 4)).bind fun o =>
(Cv b 0 (Bp 4 a)).bind fun p =>
(Ah o).bind fun u =>
(Lc p).bind fun v =>
if (Db u (Ad v : UInt64)) then
some (([] : LI), 22)
else
j5 b a
def Rs : LB → Int → Bh := So Tu
abbrev Cz := Option (Int × Int × Int × Int × Int × Int × LI × Int)
def Xx (m n b h k f g : Int) (o : LI) : Cz :=
if (Db n 0) then
some (0, 0, 0, 0, 0, 0, ([] : LI), n)
else
some (b, h, k, f, g, (Ae (Ae m (Bp 4 (Ac o))) 4), o, 0)
def Pn : Int → Int → Int → Int → Int → Int → Int → LI → Cz := Xx
def Pm (j4 : Int → Int → Int → Int → Int → Int → Int → LI → Cz) (a : LB) (b h k f g m : Int) : Cz :=
(Cv a m (Ac a)).bind fun y =>
(Eh f g).bind fun aa =>
(Rs y (Ac aa)).bind fun (o, n) =>
j4 m n b h k f g o
def Gb : LB → Int → Int → Int → Int → Int → Int → Cz := Pm Pn
def Iv (j3 : LB → Int → Int → Int → Int → Int → Int → Cz) (a u : LB) : Cz :=
if (Hq (Ac a) 100000) then
some (0, 0, 0, 0, 0, 0, ([] : LI), 4)
else
(Oy a).bind fun (p, v) =>
if (Db v 0) then
some (0, 0, 0, 0, 0, 0, ([] : LI), v)
else
(Cv a p (Ac a)).bind fun ab =>
(Ru ab).bind fun (b, h, k, f, g, w) =>
if (Db w 0) then
some (0, 0, 0, 0, 0, 0, ([] : LI), w)
else
if ((u == ([] : LB)) != (geq b 1)) then
some (0, 0, 0, 0, 0, 0, ([] : LI), 26)
else
if (geq b 2) then
if (Dg (Am (Ac a) (Ae p 22)) 8) then
some (0, 0, 0, 0, 0, 0, ([] : LI), 24)
else
(Cv a (Ae p 22) (Ae (Ae p 22) 8)).bind fun ac =>
(Lj u).bind fun ad =>
if (ac != ad) then
some (0, 0, 0, 0, 0, 0, ([] : LI), 26)
else
j3 a b h k f g (Ae (Ae p 22) 8)
else
j3 a b h k f g (Ae p 22)
def cadenzaref40_Opened : LB → LB → Cz := Iv Gb
def Du (b a : LB) : Option (Int × Int × Int × Int × Int × Int × LI × Int) :=
if (Hq (Ac a) 64) then
some (0, 0, 0, 0, 0, 0, ([] : LI), 2)
else
(cadenzaref40_Opened b a).bind fun (f, g, h, k, m, n, o, p) =>
some (f, g, h, k, m, n, o, p)
abbrev Ch := Option (LI × Int)
def Ant (f : LI) : Ch :=
some (f, 0)
def Afs : LI → Ch := Ant
def Ahl (bk6 : Int → Int → LI → Ch) (a : LI) (b g h : Int) (k : LI) : Ch :=
bk6 (Ae b 1) (Ae g h) k
def Aaw (bk6 : Int → Int → LI → Ch) : LI → Int → Int → Int → LI → Ch := Ahl bk6
def Uh (j8 : Int → Int → Int → LI → Ch) (j10 : LI → Ch) (a : LI) (b g : Int) (f : LI) : Ch :=
if (Dg b (Ac a)) then
(Aj a b).bind fun h =>
(Ir f ([(Ae g h)] : LI)).bind fun k =>
j8 b g h k
else
j10 f
def Jj (a : LI) : Nat → Int → Int → LI → Ch
| 0, _, _, _ => none
| q + 1, b, g, f => Uh (Aaw (Jj a q) a) Afs a b g f
def Ahc (a : LI) : Int → Int → LI → Ch := Jj a Ba
def Aay (j6 : LI → Int → Int → LI → Ch) (a : LI) : Ch :=
(Abo a).bind fun m =>
if (Db m 0) then
some (([] : LI), m)
else
j6 a 0 0 ([(0 : Int)] : LI)
def Aba : LI → Ch := Aay Ahc
def Bcb (a : LX) : Option (LX) :=
some a
def Atx : LX → Option (LX) := Bcb
def Aif (j6 : LX → Option (LX)) (bk4 : Int → LX → Option (LX)) (f : UInt64) (b : Int) (a : LX) : Option (LX) :=
if (Dg b 8) then
(Sa (Re (Bp 8 b) 0)).bind fun _ =>
(Aj a b).bind fun _ =>
(Oi a b (Ad (Ad (Cj f (GI.toZ (Bp 8 b)).toNat) : Int8) : Int32)).bind fun g =>
bk4 (Ae b 1) g
else
j6 a
def Aa3 (f : UInt64) : Nat → Int → LX → Option (LX)
| 0, _, _ => none
| q + 1, b, a => Aif Atx (Aa3 f q) f b a
def Ary (f : UInt64) : Int → LX → Option (LX) := Aa3 f Ba
def Asw (j4 : UInt64 → Int → LX → Option (LX)) (f : UInt64) : Option (LX) :=
j4 f 0 (List.replicate 16 (0 : Int32))
def Aw8 : UInt64 → Option (LX) := Asw Ary
def Aln (a : LB) : Option (LX × Int) :=
if (Hq (Ac a) 64) then
some (([(0 : Int32), (0 : Int32), (0 : Int32), (0 : Int32), (0 : Int32), (0 : Int32), (0 : Int32), (0 : Int32), (0 : Int32), (0 : Int32), (0 : Int32), (0 : Int32), (0 : Int32), (0 : Int32), (0 : Int32), (0 : Int32)] : LX), 2)
else
(Aht a).bind fun (f, b) =>
if (Db b 0) then
some (([(0 : Int32), (0 : Int32), (0 : Int32), (0 : Int32), (0 : Int32), (0 : Int32), (0 : Int32), (0 : Int32), (0 : Int32), (0 : Int32), (0 : Int32), (0 : Int32), (0 : Int32), (0 : Int32), (0 : Int32), (0 : Int32)] : LX), b)
else
(Aw8 f).bind fun g =>
some (g, 0)
abbrev Vo := Option (Int32 × Int32 × Int)
def Ato (a : Int) (b : Bool) : Vo :=
if b then
(Sa (Re (Am a 1) 0)).bind fun _ =>
some ((An9 (Eu (1 : Int32) (GI.toZ (Am a 1)).toNat)), (Am (Eu (1 : Int32) (GI.toZ (Am a 1)).toNat) 1), 0)
else
some (0, 0, 2)
def Akc : Int → Bool → Vo := Ato
def Akq (j2 : Int → Bool → Vo) (a : Int) : Vo :=
if (geq a 8) then
j2 a (geq a 8)
else
if (geq a 16) then
j2 a (geq a 16)
else
j2 a (geq a 24)
def Ab8 : Int → Vo := Akq Akc
def Abi (a b : Int) : Option Int :=
(Ab8 b).bind fun (g, h, f) =>
if (((Db f 0) || (Dg a 1)) || (Hq a 6)) then
some 2
else
some 0
def Yf (a : LB) : Option (LB × Int) :=
if (Dg (Ac a) 5) then
some (([] : LB), 24)
else
if (Hq (Ac a) 41254) then
some (([] : LB), 4)
else
(Cv a 0 (Am (Ac a) 4)).bind fun f =>
(Adx f).bind fun (g, b) =>
if (Db b 0) then
some (([] : LB), b)
else
(Cv a (Am (Ac a) 4) (Ac a)).bind fun h =>
(Aj8 h).bind fun (k, m) =>
if ((Db m 0) || (Db k (Ad g : UInt64))) then
some (([] : LB), 22)
else
(Cv a 0 (Am (Ac a) 4)).bind fun n =>
some (n, 0)
def Gc (a : LB) : Option (LB) :=
(
(Ir ([] : LB) a).bind fun b =>
some b)
def Axr (a : LB) : Option (LB × Int × Int) :=
if (Hq (Ac a) 41250) then
some (([] : LB), 0, 4)
else
(Gc a).bind fun b =>
some (b, (Bp 8 (Ac a)), 0)
def Asx : Option (Int × Int × UInt64 × UInt64) :=
some (10, 10, 16384, 16384)
def Pb (b : LB) (a : Int) : Option Int :=
if (((Dg a 0) || (Hq a 330000)) || (Db (Ac b) (Ax6 (Ae a 7) (GI.toZ (3 : UInt64)).toNat))) then
some 8
else
if (Hq (He a 7) 0) then
(Aj b (Am (Ac b) 1)).bind fun f =>
(Sa (Re (He a 7) 0)).bind fun _ =>
if (Db (Cj f (GI.toZ (He a 7)).toNat) 0) then
some 8
else
some 0
else
some 0
def Bau (g : UInt64) : Option UInt64 :=
some g
def Ap3 : UInt64 → Option UInt64 := Bau
def Aky (j6 : UInt64 → Option UInt64) (bk4 : UInt64 → Int → Option UInt64) (b f : Int) (h : LB) (k : Int) (g : UInt64) (a : Int) : Option UInt64 :=
if (Dg a f) then
(Aj h (Ax6 (Ae b a) (GI.toZ (3 : UInt64)).toNat)).bind fun m =>
(Sa (Re (He (Ae b a) 7) 0)).bind fun _ =>
(Sa (Re (Fy (Am f a) (Am 8 (He (Ae b a) 7))) 0)).bind fun _ =>
(Sa (Re a 0)).bind fun _ =>
bk4 (gor g (Eu (Ad (He (Cj m (GI.toZ (He (Ae b a) 7)).toNat) (Am (Eu (1 : UInt8) (GI.toZ (Fy (Am f a) (Am 8 (He (Ae b a) 7)))).toNat) 1)) : UInt64) (GI.toZ a).toNat)) (Ae a (Fy (Am f a) (Am 8 (He (Ae b a) 7))))
else
j6 g
def Abv (b f : Int) (h : LB) (k : Int) : Nat → UInt64 → Int → Option UInt64
| 0, _, _ => none
| q + 1, g, a => Aky Ap3 (Abv b f h k q) b f h k g a
def Aqt (b f : Int) (h : LB) (k : Int) : UInt64 → Int → Option UInt64 := Abv b f h k Ba
def Ap2 (j4 : Int → Int → LB → Int → UInt64 → Int → Option UInt64) (h : LB) (k b f : Int) : Option UInt64 :=
j4 b f h k 0 0
def Aok : LB → Int → Int → Int → Option UInt64 := Ap2 Aqt
abbrev Bg := Option (LB × Int × Int)
def An2 (o : Int) (p : LB) : Bg :=
some (p, o, 0)
def Ah5 : Int → LB → Bg := An2
def An7 (bk27 : Int → Int → LB → Bg) (a : Int) (g : LB) (f b h : Int) (u : LB) : Bg :=
bk27 (Ae b 64) h u
def Adh (bk27 : Int → Int → LB → Bg) : Int → LB → Int → Int → Int → LB → Bg := An7 bk27
def Aou (bk44 : UInt64 → Int → Int → LB → Bg) (a b : Int) (g : LB) (f : Int) (k n : UInt64) (m h : Int) (w : LB) : Bg :=
(Sa (Re (Fy m (Am 8 (He h 7))) 0)).bind fun _ =>
bk44 (Cj n (GI.toZ (Fy m (Am 8 (He h 7)))).toNat) (Am m (Fy m (Am 8 (He h 7)))) (Ae h (Fy m (Am 8 (He h 7)))) w
def Ain (bk44 : UInt64 → Int → Int → LB → Bg) : Int → Int → LB → Int → UInt64 → UInt64 → Int → Int → LB → Bg := Aou bk44
def Aib (j48 : UInt64 → Int → Int → LB → Bg) (a b : Int) (g : LB) (f : Int) (k n : UInt64) (m h : Int) (v : LB) : Bg :=
(Aj v (Am (Ac v) 1)).bind fun _ =>
(Sa (Re (Fy m (Am 8 (He h 7))) 0)).bind fun _ =>
(Sa (Re (He h 7) 0)).bind fun _ =>
(Aj v (Am (Ac v) 1)).bind fun aa =>
(Aj v (Am (Ac v) 1)).bind fun _ =>
Option.bind (Oi v (Am (Ac v) 1) (gor aa (Eu (Ad (He n (Am (Eu (1 : UInt64) (GI.toZ (Fy m (Am 8 (He h 7)))).toNat) 1)) : UInt8) (GI.toZ (He h 7)).toNat))) fun w =>
j48 n m h w
def Adm (bk44 : UInt64 → Int → Int → LB → Bg) (a b : Int) (g : LB) (f : Int) (k : UInt64) : UInt64 → Int → Int → LB → Bg := Aib (Ain bk44 a b g f k) a b g f k
def Adl (j47 : UInt64 → Int → Int → LB → Bg) (j50 : Int → Int → LB → Bg) (a : Int) (g : LB) (f b : Int) (k n : UInt64) (m h : Int) (u : LB) : Bg :=
if (Hq m 0) then
if (geq (He h 7) 0) then
(Ir u ([(0 : UInt8)] : LB)).bind fun ab =>
j47 n m h ab
else
j47 n m h u
else
j50 b h u
def Lk (bk27 : Int → Int → LB → Bg) (a : Int) (g : LB) (f b : Int) (k : UInt64) : Nat → UInt64 → Int → Int → LB → Bg
| 0, _, _, _, _ => none
| q + 1, n, m, h, u => Adl (Adm (Lk bk27 a g f b k q) a b g f k) (Adh bk27 a g f) a g f b k n m h u
def Ail (bk27 : Int → Int → LB → Bg) (a : Int) (g : LB) (f b : Int) (k : UInt64) : UInt64 → Int → Int → LB → Bg := Lk bk27 a g f b k Ba
def Ajb (j44 : Int → UInt64 → UInt64 → Int → Int → LB → Bg) (j52 : Int → LB → Bg) (a : Int) (g : LB) (f b o : Int) (p : LB) : Bg :=
if (Dg b a) then
(Aok g f b (Fy 64 (Am a b))).bind fun k =>
j44 b k k (Fy 64 (Am a b)) o p
else
j52 o p
def Ty (a : Int) (g : LB) (f : Int) : Nat → Int → Int → LB → Bg
| 0, _, _, _ => none
| q + 1, b, o, p => Ajb (Ail (Ty a g f q) a g f) Ah5 a g f b o p
def Ai7 (a : Int) (g : LB) (f : Int) : Int → Int → LB → Bg := Ty a g f Ba
def Aka (j27 : Int → LB → Int → Int → Int → LB → Bg) (g : LB) (f y a : Int) : Bg :=
(Pb g f).bind fun ac =>
if (Db ac 0) then
some (([] : LB), 0, 8)
else
if (((Dg y 0) || (Hq y a)) || (Hq a f)) then
some (([] : LB), 0, 2)
else
j27 a g f y 0 ([] : LB)
def Akb : LB → Int → Int → Int → Bg := Aka Ai7
def Amh (a b : Int) (f g : UInt64) : Option Int :=
if (!((geq (Fy (Al6 a 0) 24) a) && ((geq (Fy (Al6 b 0) 24) b) && ((geq (Fy f 68719476735) f) && ((geq (Fy g 68719476735) g) && true))))) then
some 8
else
some 0
def Agn : Int → Int → UInt64 → UInt64 → Option Int := Amh
def Abe (j4 : Int → Int → UInt64 → UInt64 → Option Int) (a b : Int) (f g : UInt64) : Option Int :=
(
(
j4 a b f g))
def Agq : Int → Int → UInt64 → UInt64 → Option Int := Abe Agn
def Abh (j3 : Int → Int → UInt64 → UInt64 → Option Int) (a b : Int) (f g : UInt64) : Option Int :=
(
(
j3 a b f g))
def Aia : Int → Int → UInt64 → UInt64 → Option Int := Abh Agq
def Yz (g : LB) (b f a : Int) : Option (UInt64 × Int) :=
(Pb g b).bind fun h =>
if (Db h 0) then
some (0, 8)
else
if (((Dg a 0) || (Hq a 64)) || (Dg f 0)) then
some (0, 2)
else
if (Hq f (Am b a)) then
some (0, 24)
else
(Aok g b f a).bind fun k =>
some (k, 0)
def Es (a : UInt64) : Option Int :=
if (geq a 0) then
some 64
else
(Aj ([(0 : UInt8), (1 : UInt8), (56 : UInt8), (2 : UInt8), (57 : UInt8), (49 : UInt8), (28 : UInt8), (3 : UInt8), (61 : UInt8), (58 : UInt8), (42 : UInt8), (50 : UInt8), (38 : UInt8), (29 : UInt8), (17 : UInt8), (4 : UInt8), (62 : UInt8), (47 : UInt8), (59 : UInt8), (36 : UInt8), (45 : UInt8), (43 : UInt8), (51 : UInt8), (22 : UInt8), (53 : UInt8), (39 : UInt8), (33 : UInt8), (30 : UInt8), (24 : UInt8), (18 : UInt8), (12 : UInt8), (5 : UInt8), (63 : UInt8), (55 : UInt8), (48 : UInt8), (27 : UInt8), (60 : UInt8), (41 : UInt8), (37 : UInt8), (16 : UInt8), (46 : UInt8), (35 : UInt8), (44 : UInt8), (21 : UInt8), (52 : UInt8), (32 : UInt8), (23 : UInt8), (11 : UInt8), (54 : UInt8), (26 : UInt8), (40 : UInt8), (15 : UInt8), (34 : UInt8), (20 : UInt8), (31 : UInt8), (10 : UInt8), (25 : UInt8), (14 : UInt8), (19 : UInt8), (9 : UInt8), (13 : UInt8), (8 : UInt8), (7 : UInt8), (6 : UInt8)] : LB) (GI.toZ (Cj (Bp (He a (An9 a)) 285870213051353865) (GI.toZ (58 : UInt64)).toNat))).bind fun b =>
some (Ad b : Int)
abbrev Cn := Option (Int × Int × Int)
def Arw : Cn :=
some (0, 0, 24)
def Aks : Cn := Arw
def Amm (j10 : Cn) : Cn :=
j10
def Al9 : Cn := Amm Aks
def Agz (j9 : Cn) (f a : Int) : Cn :=
if (geq f 48) then
some (f, (Ae 0 (Ae a f)), 0)
else
j9
def Age : Int → Int → Cn := Agz Al9
def Af6 (j8 : Int → Int → Cn) (f b a : Int) : Cn :=
if (Dg f (Fy 48 (Am b a))) then
some (f, (Ae (Ae (0 : Int) (1 : Int)) (Ae a f)), 0)
else
j8 f a
def Agf : Int → Int → Int → Cn := Af6 Age
def Agk (j7 : Int → Int → Int → Cn) (h : Int) (k : UInt64) (a : Int) (g : LB) (b : Int) : Cn :=
if (Db h 0) then
some (0, 0, h)
else
(Es (Ass k)).bind fun f =>
j7 f b a
def Agt : Int → UInt64 → Int → LB → Int → Cn := Agk Agf
def Vi (j6 : Int → UInt64 → Int → LB → Int → Cn) (g : LB) (b a : Int) : Cn :=
(Pb g b).bind fun m =>
if (Db m 0) then
some (0, 0, m)
else
if (Dg a 0) then
some (0, 0, 2)
else
if (Re a b) then
some (0, 0, 24)
else
(
(
(Yz g b a (Fy 48 (Am b a))).bind fun (k, h) =>
j6 h k a g b))
def Aar : LB → Int → Int → Cn := Vi Agt
def Ah7 (b : UInt32) (a : Int) : Option Bool :=
(Sa (Re a 0)).bind fun _ =>
some (Re (Cj b (GI.toZ a).toNat) 48)
abbrev Abr := Option (UInt32 × Int × Int)
def Ai2 (a b f : Int) (g : LB) (h k : Int) : Abr :=
(Yz g h b k).bind fun (m, n) =>
if (Db n 0) then
some (0, 0, n)
else
if (Dg f 48) then
(Sa (Re a 0)).bind fun _ =>
some ((gor (Eu (Ad f : UInt32) (GI.toZ a).toNat) (Ad m : UInt32)), (Ae b k), 0)
else
(Ah7 (Ad m : UInt32) a).bind fun u =>
if (!u) then
some (0, 0, 12)
else
some ((Ad m : UInt32), (Ae b k), 0)
def Ado : Int → Int → Int → LB → Int → Int → Abr := Ai2
def Aik (j2 : Int → Int → Int → LB → Int → Int → Abr) (g : LB) (h v a : Int) : Abr :=
(Pb g h).bind fun o =>
if (Db o 0) then
some (0, 0, o)
else
if ((Dg a 0) || (Hq a 24)) then
some (0, 0, 2)
else
(Aar g h v).bind fun (f, b, p) =>
if (Db p 0) then
some (0, 0, p)
else
if (geq f 48) then
j2 a b f g h 32
else
j2 a b f g h a
def Alo : LB → Int → Int → Int → Abr := Aik Ado
def Ai6 (a f : Int) (g h : UInt64) (b : UInt32) : Option (Int × UInt32) :=
(Sa (Re a 0)).bind fun _ =>
if (geq (Cj b (GI.toZ a).toNat) 0) then
some (0, b)
else
(Sa (Re a 0)).bind fun _ =>
some (1, (Am b (Eu (1 : UInt32) (GI.toZ a).toNat)))
abbrev Di := Option (UInt32 × Int × Int × Int × UInt64 × UInt64 × Int)
def Al7 (f : UInt32) (k w m : Int) (a n : UInt64) : Di :=
some (f, k, w, m, (Ae a (Am (Ad f : UInt64) (Cj a (GI.toZ (4 : UInt64)).toNat))), n, 0)
def Agl : UInt32 → Int → Int → Int → UInt64 → UInt64 → Di := Al7
def Aic (j10 : UInt32 → Int → Int → Int → UInt64 → UInt64 → Di) (f : UInt32) (k m : Int) (a n : UInt64) (w : Int) : Di :=
j10 f k w m a n
def Aiq : UInt32 → Int → Int → UInt64 → UInt64 → Int → Di := Aic Agl
def Ait (j9 : UInt32 → Int → Int → UInt64 → UInt64 → Int → Di) (f : UInt32) (k b : Int) (a : UInt64) (m : Int) (n : UInt64) : Di :=
if (Hq b 0) then
(Sa (Re b 0)).bind fun _ =>
if (Dg (Ae a (Am (Ad f : UInt64) (Cj a (GI.toZ (4 : UInt64)).toNat))) (Eu (16 : UInt64) (GI.toZ b).toNat)) then
j9 f k m a n (Am b 1)
else
if (Dg b 24) then
(Sa (Re b 0)).bind fun _ =>
if (Hq (Ae a (Am (Ad f : UInt64) (Cj a (GI.toZ (4 : UInt64)).toNat))) (Eu (32 : UInt64) (GI.toZ b).toNat)) then
j9 f k m a n (Ae b 1)
else
j9 f k m a n b
else
j9 f k m a n b
else
if (Dg b 24) then
(Sa (Re b 0)).bind fun _ =>
if (Hq (Ae a (Am (Ad f : UInt64) (Cj a (GI.toZ (4 : UInt64)).toNat))) (Eu (32 : UInt64) (GI.toZ b).toNat)) then
j9 f k m a n (Ae b 1)
else
j9 f k m a n b
else
j9 f k m a n b
def Yo : UInt32 → Int → Int → UInt64 → Int → UInt64 → Di := Ait Aiq
def Ai0 (j8 : UInt32 → Int → Int → UInt64 → Int → UInt64 → Di) (b h : Int) (a g : UInt64) (f : UInt32) (k : Int) : Di :=
(Ai6 b h a g f).bind fun (ad, o) =>
if (geq ad 1) then
if (Hq h 0) then
(Sa (Re h 0)).bind fun _ =>
if (Dg (Ae g (Am (Ad o : UInt64) (Cj g (GI.toZ (4 : UInt64)).toNat))) (Eu (16 : UInt64) (GI.toZ h).toNat)) then
j8 f k b a (Am h 1) (Ae g (Am (Ad o : UInt64) (Cj g (GI.toZ (4 : UInt64)).toNat)))
else
if (Dg h 24) then
(Sa (Re h 0)).bind fun _ =>
if (Hq (Ae g (Am (Ad o : UInt64) (Cj g (GI.toZ (4 : UInt64)).toNat))) (Eu (32 : UInt64) (GI.toZ h).toNat)) then
j8 f k b a (Ae h 1) (Ae g (Am (Ad o : UInt64) (Cj g (GI.toZ (4 : UInt64)).toNat)))
else
j8 f k b a h (Ae g (Am (Ad o : UInt64) (Cj g (GI.toZ (4 : UInt64)).toNat)))
else
j8 f k b a h (Ae g (Am (Ad o : UInt64) (Cj g (GI.toZ (4 : UInt64)).toNat)))
else
if (Dg h 24) then
(Sa (Re h 0)).bind fun _ =>
if (Hq (Ae g (Am (Ad o : UInt64) (Cj g (GI.toZ (4 : UInt64)).toNat))) (Eu (32 : UInt64) (GI.toZ h).toNat)) then
j8 f k b a (Ae h 1) (Ae g (Am (Ad o : UInt64) (Cj g (GI.toZ (4 : UInt64)).toNat)))
else
j8 f k b a h (Ae g (Am (Ad o : UInt64) (Cj g (GI.toZ (4 : UInt64)).toNat)))
else
j8 f k b a h (Ae g (Am (Ad o : UInt64) (Cj g (GI.toZ (4 : UInt64)).toNat)))
else
j8 f k b a h g
def Adn : Int → Int → UInt64 → UInt64 → UInt32 → Int → Di := Ai0 Yo
def Aih (j7 : Int → Int → UInt64 → UInt64 → UInt32 → Int → Di) (p : Int) (u : LB) (v b h : Int) (a g : UInt64) : Di :=
(Yz u v p 1).bind fun (ae, aa) =>
if (Db aa 0) then
some (0, 0, 0, 0, 0, 0, aa)
else
if (geq ae 0) then
(Yz u v (Ae p 1) b).bind fun (af, ab) =>
if (Db ab 0) then
some (0, 0, 0, 0, 0, 0, ab)
else
j7 b h a g (Ad af : UInt32) (Ae (Ae p 1) b)
else
(Alo u v (Ae p 1) h).bind fun (y, ag, ac) =>
if (Db ac 0) then
some (0, 0, 0, 0, 0, 0, ac)
else
(Sa (Re b 0)).bind fun _ =>
if (Dg (Ae y (Eu (1 : UInt32) (GI.toZ b).toNat)) y) then
some (0, 0, 0, 0, 0, 0, 12)
else
j7 b h a g (Ae y (Eu (1 : UInt32) (GI.toZ b).toNat)) ag
def Aix : Int → LB → Int → Int → Int → UInt64 → UInt64 → Di := Aih Adn
def Ai3 (j6 : Int → LB → Int → Int → Int → UInt64 → UInt64 → Di) (u : LB) (v p b h : Int) (a g : UInt64) : Di :=
(Pb u v).bind fun ah =>
if (Db ah 0) then
some (0, 0, 0, 0, 0, 0, 8)
else
(Aia b h a g).bind fun ai =>
if (Db ai 0) then
some (0, 0, 0, 0, 0, 0, 8)
else
j6 p u v b h a g
def Ub : LB → Int → Int → Int → Int → UInt64 → UInt64 → Di := Ai3 Aix
abbrev Ap := Option (LU × Int × Int)
def Anj (k : Int) (m : LU) : Ap :=
some (m, k, 0)
def Ad7 : Int → LU → Ap := Anj
def Aey (bk16 : Int → Int → (List (Int × Int × UInt64 × UInt64 × Unit)) → LU → Ap) (a f : Int) (g : LB) (b k u : Int) (v : UInt32) (h : Int) (ah : List (Int × Int × UInt64 × UInt64 × Unit)) (m : LU) : Ap :=
(Ir m ([v] : LU)).bind fun ai =>
bk16 (Ae k u) (Ae h 1) ah ai
def Wj (bk16 : Int → Int → (List (Int × Int × UInt64 × UInt64 × Unit)) → LU → Ap) : Int → Int → LB → Int → Int → Int → UInt32 → Int → (List (Int × Int × UInt64 × UInt64 × Unit)) → LU → Ap := Aey bk16
def Oq (j22 : Int → Int → UInt32 → Int → (List (Int × Int × UInt64 × UInt64 × Unit)) → LU → Ap) (a f : Int) (g : LB) (b k h y : Int) (v : UInt32) (u : Int) (n : List (Int × Int × UInt64 × UInt64 × Unit)) (m : LU) (aa ab : Int) (ac ad : UInt64) : Ap :=
if (Db y 0) then
some (([] : LU), 0, y)
else
(Sa (Db a 0)).bind fun _ =>
(Aj n (Il h a)).bind fun _ =>
(Oi n (Il h a) (aa, ab, ac, ad, ())).bind fun ah =>
j22 k u v h ah m
def Qb (bk16 : Int → Int → (List (Int × Int × UInt64 × UInt64 × Unit)) → LU → Ap) (a f : Int) (g : LB) (b : Int) : Int → Int → Int → UInt32 → Int → (List (Int × Int × UInt64 × UInt64 × Unit)) → LU → Int → Int → UInt64 → UInt64 → Ap := Oq (Wj bk16 a f g b) a f g b
def Ps (j21 : Int → Int → Int → UInt32 → Int → (List (Int × Int × UInt64 × UInt64 × Unit)) → LU → Int → Int → UInt64 → UInt64 → Ap) (j24 : Int → LU → Ap) (a f : Int) (g : LB) (b k h : Int) (n : List (Int × Int × UInt64 × UInt64 × Unit)) (m : LU) : Ap :=
if (Dg h (Bp f a)) then
(Akb g b k (Fy (Ae k 81) b)).bind fun (af, ae, ag) =>
if (Db ag 0) then
some (([] : LU), 0, ag)
else
(Sa (Db a 0)).bind fun _ =>
(Aj n (Il h a)).bind fun _ =>
(
(
(Aj n (Il h a)).bind fun o =>
(
(Ub af ae 0 o.1 o.2.1 o.2.2.1 o.2.2.2.1).bind fun (v, u, aa, ab, ac, ad, y) =>
j21 k h y v u n m aa ab ac ad)))
else
j24 k m
def Jv (a f : Int) (g : LB) (b : Int) : Nat → Int → Int → (List (Int × Int × UInt64 × UInt64 × Unit)) → LU → Ap
| 0, _, _, _, _ => none
| q + 1, k, h, n, m => Ps (Qb (Jv a f g b q) a f g b) Ad7 a f g b k h n m
def Afg (a f : Int) (g : LB) (b : Int) : Int → Int → (List (Int × Int × UInt64 × UInt64 × Unit)) → LU → Ap := Jv a f g b Ba
def Aea (j16 : Int → Int → LB → Int → Int → Int → (List (Int × Int × UInt64 × UInt64 × Unit)) → LU → Ap) (a f : Int) (g : LB) (b : Int) (p : List (Int × Int × UInt64 × UInt64 × Unit)) : Ap :=
j16 a f g b 0 0 p ([] : LU)
def Wb : Int → Int → LB → Int → (List (Int × Int × UInt64 × UInt64 × Unit)) → Ap := Aea Afg
def Aep (j15 : Int → Int → LB → Int → (List (Int × Int × UInt64 × UInt64 × Unit)) → Ap) (bk13 : Int → (List (Int × Int × UInt64 × UInt64 × Unit)) → Ap) (a f : Int) (g : LB) (b w : Int) (p : List (Int × Int × UInt64 × UInt64 × Unit)) : Ap :=
if (Dg w 6) then
(Asx).bind fun (aj, ae, ag, ak) =>
(Aj p w).bind fun _ =>
(Oi p w (aj, ae, ag, ak, ())).bind fun al =>
bk13 (Ae w 1) al
else
j15 a f g b p
def Wk (a f : Int) (g : LB) (b : Int) : Nat → Int → (List (Int × Int × UInt64 × UInt64 × Unit)) → Ap
| 0, _, _ => none
| q + 1, w, p => Aep Wb (Wk a f g b q) a f g b w p
def Pw (a f : Int) (g : LB) (b : Int) : Int → (List (Int × Int × UInt64 × UInt64 × Unit)) → Ap := Wk a f g b Ba
def Xp (j13 : Int → Int → LB → Int → Int → (List (Int × Int × UInt64 × UInt64 × Unit)) → Ap) (a f : Int) (g : LB) (b : Int) : Ap :=
j13 a f g b 0 (List.replicate 6 ((0 : Int), (0 : Int), (0 : UInt64), (0 : UInt64), ()))
def Zf : Int → Int → LB → Int → Ap := Xp Pw
abbrev Aff := Option (Int × LX × LX × Int)
def Azb (a : Int) (b : LX) (f : Bool) : Aff :=
if f then
some (10, b, (List.replicate 16 (0 : Int32)), 0)
else
if (geq a 16) then
some (9, b, (List.replicate 16 (0 : Int32)), 0)
else
some (0, (List.replicate 16 (0 : Int32)), (List.replicate 16 (0 : Int32)), 2)
def Aqg : Int → LX → Bool → Aff := Azb
def Apv (j2 : Int → LX → Bool → Aff) (a : Int) (b : LX) : Aff :=
if (geq a 8) then
j2 a b (geq a 8)
else
j2 a b (geq a 24)
def Anp : Int → LX → Aff := Apv Aqg
def Awb (a : Int) (f : LX) : Option (Int × Int32 × Int × LX × LX × Int) :=
(Anp a f).bind fun (g, h, k, b) =>
if (Db b 0) then
some (0, 0, 0, (List.replicate 16 (0 : Int32)), (List.replicate 16 (0 : Int32)), b)
else
some (a, 0, g, h, k, 0)
def Ue (a : UInt32) : Option Int32 :=
some (Vq (Ad (Cj a (GI.toZ (1 : UInt64)).toNat) : Int32) (An9 (Ad (He a 1) : Int32)))
def Ab1 (a : Int) (k : Int32) (b : Int) (f m : LX) : Option Int :=
(Anp a f).bind fun (g, n, o, h) =>
if ((Db h 0) || (Db g b)) then
some 8
else
some 0
def Ak0 (a : Int) : Option (Int × Int) :=
if (geq a 8) then
some (4, 0)
else
if (geq a 16) then
if (geq a 16) then
some (5, 0)
else
some (0, 2)
else
if (geq a 24) then
some (5, 0)
else
some (0, 2)
def Aft (a : Int) (b : Int32) : Option Int32 :=
(Sa (Re a 0)).bind fun _ =>
(Sa (Re a 0)).bind fun _ =>
some (Ad (Ax6 (Am (Eu (Ad b : Int) (GI.toZ a).toNat) (Ad b : Int)) (GI.toZ a).toNat) : Int32)
def Ab9 (b : Int) (f : Int32) : Option (Int32 × Int) :=
(Ak0 b).bind fun (g, a) =>
if (Db a 0) then
some (0, a)
else
(Aft g f).bind fun h =>
some (h, 0)
def Aas (a : Int) (b f : LX) : Option Int :=
if ((Db a 9) && (Db a 10)) then
some 8
else
some 0
abbrev Hk := Option (Int32 × Int)
def Ame (g : Int32) (a : Int) (b f : LX) : Hk :=
(Sa (Re a 0)).bind fun _ =>
some ((Cj g (GI.toZ a).toNat), 0)
def Agj : Int32 → Int → LX → LX → Hk := Ame
def Abg (j6 : Int32 → Int → LX → LX → Hk) (bk4 : Int32 → Int → Hk) (b : LX) (a : Int) (f : LX) (g : Int32) (h : Int) : Hk :=
if (Dg h 16) then
(Aj b h).bind fun m =>
(Aj f h).bind fun _ =>
(Aj f h).bind fun n =>
bk4 (Ae g (Bp m n)) (Ae h 1)
else
j6 g a b f
def Qg (b : LX) (a : Int) (f : LX) : Nat → Int32 → Int → Hk
| 0, _, _ => none
| q + 1, g, h => Abg Agj (Qg b a f q) b a f g h
def Agd (b : LX) (a : Int) (f : LX) : Int32 → Int → Hk := Qg b a f Ba
def Agc (j4 : LX → Int → LX → Int32 → Int → Hk) (a : Int) (b f : LX) : Hk :=
(Aas a b f).bind fun k =>
if (Db k 0) then
some (0, k)
else
(Sa (Re (Am a 1) 0)).bind fun _ =>
j4 b a f (Eu (1 : Int32) (GI.toZ (Am a 1)).toNat) 0
def Aiy : Int → LX → LX → Hk := Agc Agd
def Ahk (a : Int) : Option Int32 :=
if (geq a 0) then
some 4
else
if (Dg a 4) then
some 2
else
some 1
abbrev Hn := Option (Int × LX × LX × Int)
def Au4 (g : Int) (b f : LX) : Hn :=
some (g, b, f, 0)
def Amd : Int → LX → LX → Hn := Au4
def Aa9 (j6 : Int → LX → LX → Hn) (bk4 : Int → LX → Hn) (h : Int32) (f : LX) (g a : Int) (b : LX) : Hn :=
if (Dg a 16) then
(Aj f a).bind fun m =>
if (geq m 0) then
bk4 (Ae a 1) b
else
if ((Dg m 0) == (Dg h 0)) then
(Aj b a).bind fun _ =>
(Aj b a).bind fun o =>
(Ahk a).bind fun p =>
(Aj b a).bind fun _ =>
(Oi b a (Ae o p)).bind fun u =>
bk4 (Ae a 1) u
else
(Aj b a).bind fun _ =>
(Aj b a).bind fun v =>
(Ahk a).bind fun w =>
(Aj b a).bind fun _ =>
(Oi b a (Am v w)).bind fun y =>
bk4 (Ae a 1) y
else
j6 g b f
def Qf (h : Int32) (f : LX) (g : Int) : Nat → Int → LX → Hn
| 0, _, _ => none
| q + 1, a, b => Aa9 Amd (Qf h f g q) h f g a b
def Amp (h : Int32) (f : LX) (g : Int) : Int → LX → Hn := Qf h f g Ba
def Ago (j4 : Int32 → LX → Int → Int → LX → Hn) (g : Int) (k f : LX) (h : Int32) : Hn :=
(Aas g k f).bind fun n =>
if (Db n 0) then
some (0, (List.replicate 16 (0 : Int32)), (List.replicate 16 (0 : Int32)), n)
else
if (geq h 0) then
some (g, k, f, 0)
else
j4 h f g 0 k
def Ah2 : Int → LX → LX → Int32 → Hn := Ago Amp
abbrev Abz := Option (Int × LX × LX × Int)
def Aon (g : Int32) (b : Int) (f a : LX) : Abz :=
(Aj (Qv a 1 ((16 : Int) - (1 : Int)) (Ahq a 0 ((16 : Int) - (0 : Int)))) 0).bind fun _ =>
(Oi (Qv a 1 ((16 : Int) - (1 : Int)) (Ahq a 0 ((16 : Int) - (0 : Int)))) 0 g).bind fun k =>
some (b, f, k, 0)
def Aja : Int32 → Int → LX → LX → Abz := Aon
def Adj (j2 : Int32 → Int → LX → LX → Abz) (b : Int) (f a : LX) (g : Int32) : Abz :=
(Aas b f a).bind fun h =>
if (Db h 0) then
some (0, (List.replicate 16 (0 : Int32)), (List.replicate 16 (0 : Int32)), h)
else
(
(vwI 16 1 16).bind fun _ =>
(vwI 16 0 16).bind fun _ =>
j2 g b f a)
def Alv : Int → LX → LX → Int32 → Abz := Adj Aja
def Anb (a : Int) (b f : LX) (g h : Int32) : Option (Int × LX × LX) :=
(Ah2 a b f h).bind fun (k, m, n, v) =>
(Alv k m n g).bind fun (o, p, u, w) =>
some (o, p, u)
def Ak3 (b : Int) (f g : LX) (a : Int32) : Option (Int32 × Int × LX × LX × Int) :=
(Aiy b f g).bind fun (h, k) =>
if (Db k 0) then
some (0, 0, (List.replicate 16 (0 : Int32)), (List.replicate 16 (0 : Int32)), k)
else
(Anb b f g (Ae a h) a).bind fun (m, n, o) =>
some ((Ae a h), m, n, o, 0)
def Ij (a : Int) (b : Int32) (f : Int) (g h : LX) (o : Int32) : Option (Int32 × Int × Int32 × Int × LX × LX × Int) :=
(Ab1 a b f g h).bind fun k =>
if (Db k 0) then
some (0, 0, 0, 0, (List.replicate 16 (0 : Int32)), (List.replicate 16 (0 : Int32)), k)
else
(Ab9 a b).bind fun (m, y) =>
(Ak3 f g h o).bind fun (n, p, u, v, w) =>
(
some ((Ae n m), a, (Ae n m), p, u, v, w))
def Alx (a : Int) (b : LX) : Option Int :=
if ((Dg a 1) || (Hq a 6)) then
some 2
else
if (Hq (Ac b) 4000) then
some 4
else
(Sa (Db a 0)).bind fun _ =>
if (Db (Il (Ac b) a) 0) then
some 2
else
some 0
def Fj (a : LX) : Option (LX) :=
(
(Ir ([] : LX) a).bind fun b =>
some b)
abbrev By := Option (LX × Int)
def Axf (f : LX) : By :=
some (f, 0)
def Aow : LX → By := Axf
def Aoc (bk12 : Int → LX → By) (b a : Int) (h : LX) : By :=
bk12 (Ae a b) h
def Aii (bk12 : Int → LX → By) : Int → Int → LX → By := Aoc bk12
def Adq (j20 : Int → LX → By) (bk18 : Int → LX → By) (b a g : Int) (h : LX) : By :=
if (Re g 0) then
(Sa (decide (0 ≤ (Ae g 1) ∧ (Ae g 1) < ((Ae a b) - a)))).bind fun _ =>
(Sa (decide (0 ≤ g ∧ g < ((Ae a b) - a)))).bind fun _ =>
(Aj h (a + (Ae g 1))).bind fun o =>
(Aj h (a + g)).bind fun p =>
(Sa (decide (0 ≤ g ∧ g < ((Ae a b) - a)))).bind fun _ =>
(Oi h (a + g) (Am o p)).bind fun u =>
bk18 (Am g 1) u
else
j20 a h
def Ud (bk12 : Int → LX → By) (b a : Int) : Nat → Int → LX → By
| 0, _, _ => none
| q + 1, g, h => Adq (Aii bk12 b) (Ud bk12 b a q) b a g h
def Aid (bk12 : Int → LX → By) (b a : Int) : Int → LX → By := Ud bk12 b a Ba
def Ai8 (j18 : Int → Int → LX → By) (b a : Int) (k : LX) : By :=
j18 a (Am (Am ((Ae a b) - a) 1) 1) k
def Adp (bk12 : Int → LX → By) (b : Int) : Int → LX → By := Ai8 (Aid bk12 b) b
def Ajd (j17 : Int → LX → By) (j22 : LX → By) (b a : Int) (f : LX) : By :=
if (Dg a (Ac f)) then
(vwI (Ac f) a (Ae a b)).bind fun _ =>
if (Hq (Am ((Ae a b) - a) 1) 0) then
(Sa (decide (0 ≤ (Am ((Ae a b) - a) 1) ∧ (Am ((Ae a b) - a) 1) < ((Ae a b) - a)))).bind fun _ =>
Option.bind (Sa (decide (0 ≤ (Am (Am ((Ae a b) - a) 1) 1) ∧ (Am (Am ((Ae a b) - a) 1) 1) < ((Ae a b) - a)))) fun _ =>
(Aj f (a + (Am ((Ae a b) - a) 1))).bind fun v =>
(Aj f (a + (Am (Am ((Ae a b) - a) 1) 1))).bind fun w =>
(Sa (decide (0 ≤ (Am ((Ae a b) - a) 1) ∧ (Am ((Ae a b) - a) 1) < ((Ae a b) - a)))).bind fun _ =>
(Oi f (a + (Am ((Ae a b) - a) 1)) (Ae v (Dc w 2))).bind fun y =>
j17 a y
else
j17 a f
else
j22 f
def On (b : Int) : Nat → Int → LX → By
| 0, _, _ => none
| q + 1, a, f => Ajd (Adp (On b q) b) Aow b a f
def Ah6 (b : Int) : Int → LX → By := On b Ba
def Aki (j12 : Int → Int → LX → By) (b : Int) (m : LX) : By :=
(Alx b m).bind fun n =>
if (Db n 0) then
some (([] : LX), n)
else
(Fj m).bind fun aa =>
j12 b 0 aa
def Aoq : Int → LX → By := Aki Ah6
def Atr : Option Int :=
some 0
def Ala : Option Int := Atr
def Zg (j6 : Option Int) (bk4 : Int → Option Int) (b f : Int32) (a : LX) (g : Int) : Option Int :=
if (Dg g (Ac a)) then
(Aj a g).bind fun h =>
if ((Dg h b) || (Hq h f)) then
some 16
else
bk4 (Ae g 1)
else
j6
def Nq (b f : Int32) (a : LX) : Nat → Int → Option Int
| 0, _ => none
| q + 1, g => Zg Ala (Nq b f a q) b f a g
def Ake (b f : Int32) (a : LX) : Int → Option Int := Nq b f a Ba
def Aej (j4 : Int32 → Int32 → LX → Int → Option Int) (m : Int) (a : LX) : Option Int :=
(Ab8 m).bind fun (b, f, k) =>
if (Db k 0) then
some k
else
if (Hq (Ac a) 4000) then
some 4
else
j4 b f a 0
def Acg : Int → LX → Option Int := Aej Ake
abbrev Ax := Option (LX × Int)
def Ac9 (a b : Int) (k : LX) : Ax :=
(Aoq a k).bind fun (ah, af) =>
if (Db af 0) then
some (([] : LX), af)
else
(Acg b ah).bind fun ae =>
if (Db ae 0) then
some (([] : LX), ae)
else
some (ah, 0)
def Ip : Int → Int → LX → Ax := Ac9
def Adb (bk13 : Int → (List (Int × Int32 × (Int × LX × LX × Unit) × Unit)) → LX → Ax) (a : Int) (f : LU) (b g : Int) (w : Int32) (u : Int) (h : List (Int × Int32 × (Int × LX × LX × Unit) × Unit)) (k : LX) (y : Int) (v : Int32) (aa : Int) (ab ac : LX) : Ax :=
if (Db u 0) then
some (([] : LX), u)
else
(Oi h (Il g a) (y, v, (aa, ab, ac, ()), ())).bind fun ai =>
(Ir k ([w] : LX)).bind fun aj =>
bk13 (Ae g 1) ai aj
def Uz (bk13 : Int → (List (Int × Int32 × (Int × LX × LX × Unit) × Unit)) → LX → Ax) : Int → LU → Int → Int → Int32 → Int → (List (Int × Int32 × (Int × LX × LX × Unit) × Unit)) → LX → Int → Int32 → Int → LX → LX → Ax := Adb bk13
def It (j16 : Int → Int32 → Int → (List (Int × Int32 × (Int × LX × LX × Unit) × Unit)) → LX → Int → Int32 → Int → LX → LX → Ax) (j18 : Int → Int → LX → Ax) (f : LU) (a b g : Int) (h : List (Int × Int32 × (Int × LX × LX × Unit) × Unit)) (k : LX) : Ax :=
if (Dg g (Ac f)) then
(Aj f g).bind fun ag =>
(Sa (Db a 0)).bind fun _ =>
(Aj h (Il g a)).bind fun _ =>
(
(Aj h (Il g a)).bind fun m =>
(
(Ue ag).bind fun ae =>
(
(Ij m.1 m.2.1 m.2.2.1.1 m.2.2.1.2.1 m.2.2.1.2.2.1 ae).bind fun (w, y, v, aa, ab, ac, u) =>
j16 g w u h k y v aa ab ac)))
else
j18 a b k
def Gh (f : LU) (a b : Int) : Nat → Int → (List (Int × Int32 × (Int × LX × LX × Unit) × Unit)) → LX → Ax
| 0, _, _, _ => none
| q + 1, g, h, k => It (Uz (Gh f a b q) a f b) Ip f a b g h k
def Adc (f : LU) (a b : Int) : Int → (List (Int × Int32 × (Int × LX × LX × Unit) × Unit)) → LX → Ax := Gh f a b Ba
def Ac8 (j13 : LU → Int → Int → Int → (List (Int × Int32 × (Int × LX × LX × Unit) × Unit)) → LX → Ax) (f : LU) (a b : Int) (n : List (Int × Int32 × (Int × LX × LX × Unit) × Unit)) : Ax :=
j13 f a b 0 n ([] : LX)
def Uo : LU → Int → Int → (List (Int × Int32 × (Int × LX × LX × Unit) × Unit)) → Ax := Ac8 Adc
def Ac2 (j12 : LU → Int → Int → (List (Int × Int32 × (Int × LX × LX × Unit) × Unit)) → Ax) (bk10 : Int → (List (Int × Int32 × (Int × LX × LX × Unit) × Unit)) → Ax) (f : LU) (a b : Int) (o : LX) (p : Int) (n : List (Int × Int32 × (Int × LX × LX × Unit) × Unit)) : Ax :=
if (Dg p 6) then
(Awb b o).bind fun (ak, af, ae, al, am, v) =>
(Aj n p).bind fun _ =>
(Oi n p (ak, af, (ae, al, am, ()), ())).bind fun an =>
bk10 (Ae p 1) an
else
j12 f a b n
def Uu (f : LU) (a b : Int) (o : LX) : Nat → Int → (List (Int × Int32 × (Int × LX × LX × Unit) × Unit)) → Ax
| 0, _, _ => none
| q + 1, p, n => Ac2 Uo (Uu f a b o q) f a b o p n
def Nf (f : LU) (a b : Int) (o : LX) : Int → (List (Int × Int32 × (Int × LX × LX × Unit) × Unit)) → Ax := Uu f a b o Ba
def Wd (j10 : LU → Int → Int → LX → Int → (List (Int × Int32 × (Int × LX × LX × Unit) × Unit)) → Ax) (a b : Int) (o : LX) (f : LU) : Ax :=
j10 f a b o 0 (List.replicate 6 ((0 : Int), (0 : Int32), ((0 : Int), (List.replicate 16 (0 : Int32)), (List.replicate 16 (0 : Int32)), ()), ()))
def Qd : Int → Int → LX → LU → Ax := Wd Nf
def Zj (a h : Int) (u : LX) (f : Int) (v : LB) : Option (LX × Int) :=
(Abi a h).bind fun k =>
if (Db k 0) then
some (([] : LX), k)
else
if (Dg f 1) then
some (([] : LX), 2)
else
(Sa (Db a 0)).bind fun _ =>
if (Hq f (Dc 4000 a)) then
some (([] : LX), 2)
else
(Yf v).bind fun (w, m) =>
if (Db m 0) then
some (([] : LX), m)
else
(Axr w).bind fun (n, b, o) =>
if (Db o 0) then
some (([] : LX), o)
else
(Zf a f n b).bind fun (y, g, p) =>
if (Db p 0) then
some (([] : LX), p)
else
if (Re (Am b g) 8) then
some (([] : LX), 12)
else
(Yz n b g (Am b g)).bind fun (aa, ab) =>
if ((Db ab 0) || (Db aa 0)) then
some (([] : LX), 12)
else
(Qd a h u y).bind fun (ac, ad) =>
some (ac, ad)
abbrev Bd := Option (LB × Int)
def Aqu (g : LB) : Bd :=
some (g, 0)
def Ajm : LB → Bd := Aqu
def Ajn (bk16 : Int → LB → Bd) (b : Int) (a : LX) (f : Int) (h : LB) : Bd :=
bk16 (Ae f 1) h
def Acz (bk16 : Int → LB → Bd) : Int → LX → Int → LB → Bd := Ajn bk16
def Vx (j28 : Int → LB → Bd) (bk26 : Int → LB → Bd) (b : Int) (a : LX) (k : Int32) (f m : Int) (h : LB) : Bd :=
if (Dg m (Dc b 8)) then
(Sa (Re (Bp 8 m) 0)).bind fun _ =>
(Ir h ([(Ad (Cj k (GI.toZ (Bp 8 m)).toNat) : UInt8)] : LB)).bind fun p =>
bk26 (Ae m 1) p
else
j28 f h
def Gm (bk16 : Int → LB → Bd) (b : Int) (a : LX) (k : Int32) (f : Int) : Nat → Int → LB → Bd
| 0, _, _ => none
| q + 1, m, h => Vx (Acz bk16 b a) (Gm bk16 b a k f q) b a k f m h
def Acr (bk16 : Int → LB → Bd) (b : Int) (a : LX) (k : Int32) (f : Int) : Int → LB → Bd := Gm bk16 b a k f Ba
def Acm (j26 : Int32 → Int → Int → LB → Bd) (b : Int) (a : LX) (f : Int) (g : LB) (k : Int32) : Bd :=
j26 k f 0 g
def Ii (bk16 : Int → LB → Bd) (b : Int) (a : LX) : Int → LB → Int32 → Bd := Acm (Acr bk16 b a) b a
def Vy (j25 : Int → LB → Int32 → Bd) (j30 : LB → Bd) (b : Int) (a : LX) (f : Int) (g : LB) : Bd :=
if (Dg f (Ac a)) then
(Aj a f).bind fun n =>
if (geq b 8) then
j25 f g (Ae n 128)
else
j25 f g n
else
j30 g
def Ek (b : Int) (a : LX) : Nat → Int → LB → Bd
| 0, _, _ => none
| q + 1, f, g => Vy (Ii (Ek b a q) b a) Ajm b a f g
def Ajh (b : Int) (a : LX) : Int → LB → Bd := Ek b a Ba
def Aee (j16 : Int → LX → Int → LB → Bd) (b : Int) (a : LX) : Bd :=
(Acg b a).bind fun o =>
if (Db o 0) then
some (([] : LB), o)
else
j16 b a 0 ([] : LB)
def Afy : Int → LX → Bd := Aee Ajh
abbrev Bj := Option (LB × Int)
def Aji (a ac : Int) : Bj :=
if (Db ac 0) then
some (([] : LB), ac)
else
if ((Dg a 0) || (Re a 0)) then
some (([] : LB), 2)
else
none
def Acn : Int → Int → Bj := Aji
def Ao0 (ad : Int) (ae : LB) : Bj :=
some (ae, ad)
def Aan : Int → LB → Bj := Ao0
def Acw (j10 : Int → LB → Bj) (w a h b : Int) (aa : LX) (n o p k : Int) (m : LB) (u : LX) (v f g : LI) : Bj :=
if (Db w 0) then
j10 w ([] : LB)
else
(Afy b aa).bind fun (ak, al) =>
j10 al ak
def Acj : Int → Int → Int → Int → LX → Int → Int → Int → Int → LB → LX → LI → LI → LI → Bj := Acw Aan
def Acl (j10 : Int → LB → Bj) (j9 : Int → Int → Int → Int → LX → Int → Int → Int → Int → LB → LX → LI → LI → LI → Bj) (a k ab y : Int) (m : LB) (h b : Int) (u : LX) (n o p : Int) (g v f : LI) : Bj :=
if (Hq (Ae k y) (Ac m)) then
j10 24 ([] : LB)
else
(Aj g a).bind fun _ =>
(Cv m (Ae k ab) (Ae k y)).bind fun am =>
(Aj g a).bind fun an =>
(Zj h b u an am).bind fun (aa, w) =>
j9 w a h b aa n o p k m u v f g
def Acv : Int → Int → Int → Int → LB → Int → Int → LX → Int → Int → Int → LI → LI → LI → Bj := Acl Aan Acj
def Vz (j8 : Int → Int → Int → Int → LB → Int → Int → LX → Int → Int → Int → LI → LI → LI → Bj) (a : Int) (g : LI) (n h b o p k : Int) (m : LB) (u : LX) (v f : LI) : Bj :=
if (Db (0 : Int) (0 : Int)) then
some (([] : LB), 0)
else
if ((Dg a 0) || (Re a (Ac g))) then
some (([] : LB), 2)
else
(Aj f a).bind fun _ =>
(Aj f (Ae a 1)).bind fun _ =>
(Aj f a).bind fun ab =>
(Aj f (Ae a 1)).bind fun y =>
j8 a k ab y m h b u n o p g v f
def La : Int → LI → Int → Int → Int → Int → Int → Int → LB → LX → LI → LI → Bj := Vz Acv
def Vs (j6 : Int → Int → Bj) (j7 : Int → LI → Int → Int → Int → Int → Int → Int → LB → LX → LI → LI → Bj) (m af : LB) (a : Int) : Bj :=
(seekto_Open m af).bind fun (n, h, b, o, p, k, v, ag) =>
if (Db ag 0) then
j6 a ag
else
(Vh n h b o p).bind fun (g, ah) =>
if (Db ah 0) then
j6 a ah
else
(Aba v).bind fun (f, ai) =>
if (Db ai 0) then
j6 a ai
else
(Aln af).bind fun (u, aj) =>
if (Db aj 0) then
j6 a aj
else
(Aj f (Ac g)).bind fun _ =>
(Aj f (Ac g)).bind fun ao =>
j7 a g n h b o p k m u v f
def Pj : LB → LB → Int → Bj := Vs Acn La
def Ajq (a : Int) : Option Int :=
some a
def Zp : Int → Option Int := Ajq
def Ko (j6 : Int → Option Int) (bk4 : Int → Int → Option Int) (b h k m n o f : Int) (g : LI) (a p : Int) : Option Int :=
if (Dg p b) then
(Aj g p).bind fun u =>
bk4 (Ae a u) (Ae p 1)
else
j6 a
def Fg (b h k m n o f : Int) (g : LI) : Nat → Int → Int → Option Int
| 0, _, _ => none
| q + 1, a, p => Ko Zp (Fg b h k m n o f g q) b h k m n o f g a p
def Zx (b h k m n o f : Int) (g : LI) : Int → Int → Option Int := Fg b h k m n o f g Ba
def Aag (j4 : Int → Int → Int → Int → Int → Int → Int → LI → Int → Int → Option Int) (h k m n o f : Int) (g : LI) (b : Int) : Option Int :=
j4 b h k m n o f g f 0
def Pf : Int → Int → Int → Int → Int → Int → LI → Int → Option Int := Aag Zx
def Xw (b : UInt64) (a : LB) : Option (UInt64 × Int) :=
if (Hq (Ac a) 100000) then
some (0, 4)
else
(Mt b a).bind fun f =>
some (f, 0)
def Aao (a : LB) : Option (UInt64 × Int) :=
(Xw 0 a).bind fun (b, f) =>
some (b, f)
def Al5 (a : LX) : Option (LX) :=
some a
def Ada : LX → Option (LX) := Al5
def Aec (bk6 : UInt64 → Int → LX → Option (LX)) (b : UInt64) (f : Int) (a : LX) (g : Int32) : Option (LX) :=
(Aj a f).bind fun _ =>
(Oi a f g).bind fun h =>
bk6 (Dc b 256) (Ae f 1) h
def Po (bk6 : UInt64 → Int → LX → Option (LX)) : UInt64 → Int → LX → Int32 → Option (LX) := Aec bk6
def Pr (j8 : UInt64 → Int → LX → Int32 → Option (LX)) (j10 : LX → Option (LX)) (b : UInt64) (f : Int) (a : LX) : Option (LX) :=
if (Dg f 8) then
if (Hq (Ad (Xo b 256) : Int32) 127) then
j8 b f a (Am (Ad (Xo b 256) : Int32) 256)
else
j8 b f a (Ad (Xo b 256) : Int32)
else
j10 a
def Fl : Nat → UInt64 → Int → LX → Option (LX)
| 0, _, _, _ => none
| q + 1, b, f, a => Pr (Po (Fl q)) Ada b f a
def Ad3 : UInt64 → Int → LX → Option (LX) := Fl Ba
def Aed (j6 : UInt64 → Int → LX → Option (LX)) (k : UInt64) : Option (LX) :=
j6 k 0 (List.replicate 16 (0 : Int32))
def Acp : UInt64 → Option (LX) := Aed Ad3
def Lw (a : LB) : Option (LX × Int) :=
if (Hq (Ac a) 64) then
some (([(0 : Int32), (0 : Int32), (0 : Int32), (0 : Int32), (0 : Int32), (0 : Int32), (0 : Int32), (0 : Int32), (0 : Int32), (0 : Int32), (0 : Int32), (0 : Int32), (0 : Int32), (0 : Int32), (0 : Int32), (0 : Int32)] : LX), 2)
else
(Aao a).bind fun (b, g) =>
(Acp b).bind fun f =>
some (f, 0)
def Lf (a : Int) : Option Int :=
if (geq a 8) then
some 128
else
if (geq a 16) then
some 32768
else
if (geq a 24) then
some 8388608
else
some 0
def Wh (a b : Int) : Option Int :=
if ((Dg a 1) || (Hq a 6)) then
some 2
else
(Lf b).bind fun f =>
if (geq f 0) then
some 2
else
some 0
def Pq (a f b : Int) : Option Int :=
(Wh a f).bind fun g =>
if ((Db g 0) || (Dg b 1)) then
some 2
else
(Sa (Db a 0)).bind fun _ =>
if (Hq b (Dc 4000 a)) then
some 2
else
some 0
def Nc (b : LB) : Option (LB) :=
(Lc b).bind fun a =>
(Ir ([] : LB) b).bind fun f =>
(Ir f ([(Ad a : UInt8), (Ad (Cj a (GI.toZ (8 : UInt64)).toNat) : UInt8), (Ad (Cj a (GI.toZ (16 : UInt64)).toNat) : UInt8), (Ad (Cj a (GI.toZ (24 : UInt64)).toNat) : UInt8)] : LB)).bind fun g =>
some g
def Iq (a : LB) : Option Int :=
if (Dg (Ac a) 5) then
some 24
else
if (Hq (Ac a) 41254) then
some 4
else
(Cv a 0 (Am (Ac a) 4)).bind fun b =>
(Nc b).bind fun f =>
if (f != a) then
some 22
else
some 0
def Hb : Option (Int × Int × UInt64 × UInt64) :=
some (10, 10, 16384, 16384)
def Ajv (a : UInt64) : Option UInt64 :=
some a
def Aac : UInt64 → Option UInt64 := Ajv
def Kq (j6 : UInt64 → Option UInt64) (bk4 : UInt64 → Int → Option UInt64) (b : Int) (a : UInt64) (f : Int) : Option UInt64 :=
if (Dg f b) then
bk4 (Bp a 2) (Ae f 1)
else
j6 a
def Fa (b : Int) : Nat → UInt64 → Int → Option UInt64
| 0, _, _ => none
| q + 1, a, f => Kq Aac (Fa b q) b a f
def Zr (b : Int) : UInt64 → Int → Option UInt64 := Fa b Ba
def Aah (j4 : Int → UInt64 → Int → Option UInt64) (b : Int) : Option UInt64 :=
j4 b 1 0
def Dk : Int → Option UInt64 := Aah Zr
def Nj (a g : Int) (h k : UInt64) (b : UInt32) : Option Bool :=
(Dk a).bind fun f =>
some (Dg (Ad b : UInt64) f)
def Cr (a g : Int) (h k : UInt64) (b : UInt32) : Option UInt32 :=
(Dk a).bind fun f =>
some (Ad (Am (Ad b : UInt64) f) : UInt32)
abbrev Im := Option (Int × UInt64)
def Ab0 (b : Int) (a f : UInt64) : Im :=
if (Dg b 24) then
(Dk (Ae b 5)).bind fun g =>
if (Hq (Am (Ae a f) (Dc a 16)) g) then
some ((Ae b 1), (Am (Ae a f) (Dc a 16)))
else
some (b, (Am (Ae a f) (Dc a 16)))
else
some (b, (Am (Ae a f) (Dc a 16)))
def Lo : Int → UInt64 → UInt64 → Im := Ab0
def Te (j2 : Int → UInt64 → UInt64 → Im) (b : Int) (a f : UInt64) : Im :=
if (Hq b 0) then
(Dk (Ae b 4)).bind fun h =>
if (Dg (Am (Ae a f) (Dc a 16)) h) then
some ((Am b 1), (Am (Ae a f) (Dc a 16)))
else
j2 b a f
else
j2 b a f
def Ci : Int → UInt64 → UInt64 → Im := Te Lo
abbrev Gu := Option (Int × Int × UInt64 × UInt64)
def Xr (h : UInt32) (f a : Int) (g b : UInt64) (o : Int) (p : UInt64) : Gu :=
(Ci f g (Ad h : UInt64)).bind fun (v, w) =>
some (v, o, w, p)
def Jd : UInt32 → Int → Int → UInt64 → UInt64 → Int → UInt64 → Gu := Xr
def Iy (j2 : UInt32 → Int → Int → UInt64 → UInt64 → Int → UInt64 → Gu) (f a : Int) (g b : UInt64) (h : UInt32) : Gu :=
(Nj f a g b h).bind fun u =>
if (!u) then
(
(
(Cr f a g b h).bind fun k =>
(Ci a b (Ad k : UInt64)).bind fun (m, n) =>
j2 h f a g b m n))
else
j2 h f a g b a b
def Nb : Int → Int → UInt64 → UInt64 → UInt32 → Gu := Iy Jd
abbrev Bv := Option (Int × Int × UInt64 × UInt64)
def Ajc (a b : Int) (f g : UInt64) : Bv :=
some (a, b, f, g)
def Yl : Int → Int → UInt64 → UInt64 → Bv := Ajc
def Pz (j6 : Int → Int → UInt64 → UInt64 → Bv) (bk4 : Int → Int → Int → UInt64 → UInt64 → Bv) (h : Int) (k : LU) (m a b : Int) (f g : UInt64) : Bv :=
if (Dg m (Ac k)) then
(Aj k m).bind fun n =>
(Nb a b f g n).bind fun (o, p, u, v) =>
bk4 (Ae m h) o p u v
else
j6 a b f g
def Ga (h : Int) (k : LU) : Nat → Int → Int → Int → UInt64 → UInt64 → Bv
| 0, _, _, _, _, _ => none
| q + 1, m, a, b, f, g => Pz Yl (Ga h k q) h k m a b f g
def Yu (h : Int) (k : LU) : Int → Int → Int → UInt64 → UInt64 → Bv := Ga h k Ba
def Qa (j4 : Int → LU → Int → Int → Int → UInt64 → UInt64 → Bv) (h : Int) (k : LU) : Bv :=
(Hb).bind fun (w, y, aa, ab) =>
(Sa (Db h 0)).bind fun _ =>
j4 h k (Il (Ac k) h) w y aa ab
def Is : Int → LU → Bv := Qa Yu
def Aez (a : Int) : Option Int :=
some (Il a 2)
def Wa : Int → Option Int := Aez
def Pk (j6 : Int → Option Int) (bk4 : Int → Int → Option Int) (b a f : Int) : Option Int :=
if (Dg f (Il b 8)) then
bk4 (Dc a 2) (Ae f 1)
else
j6 a
def Hh (b : Int) : Nat → Int → Int → Option Int
| 0, _, _ => none
| q + 1, a, f => Pk Wa (Hh b q) b a f
def Wo (b : Int) : Int → Int → Option Int := Hh b Ba
def Wp (j4 : Int → Int → Int → Option Int) (g : LB) (k b : Int) : Option Int :=
(Aj g (Dc b 8)).bind fun h =>
j4 b (Ad h : Int) 0
def Gn : LB → Int → Int → Option Int := Wp Wo
abbrev Bm := Option (LB × Int)
def Ac1 (b g a : Int) (f : LB) : Bm :=
(Aj f (Dc a 8)).bind fun _ =>
(Aj f (Dc a 8)).bind fun m =>
(Aj f (Dc a 8)).bind fun _ =>
(Oi f (Dc a 8) (Ae m (Ad (Bp b g) : UInt8))).bind fun n =>
some (n, (Ae a 1))
def Mw : Int → Int → Int → LB → Bm := Ac1
def Nd (j8 : Int → Int → Int → LB → Bm) (bk6 : Int → Int → Bm) (b a : Int) (f : LB) (g h : Int) : Bm :=
if (Dg h (Il a 8)) then
bk6 (Bp g 2) (Ae h 1)
else
j8 b g a f
def Gi (b a : Int) (f : LB) : Nat → Int → Int → Bm
| 0, _, _ => none
| q + 1, g, h => Nd Mw (Gi b a f q) b a f g h
def Ut (b a : Int) (f : LB) : Int → Int → Bm := Gi b a f Ba
def Uw (j6 : Int → Int → LB → Int → Int → Bm) (b a : Int) (f : LB) : Bm :=
j6 b a f 1 0
def Na : Int → Int → LB → Bm := Uw Ut
def Un (j5 : Int → Int → LB → Bm) (k : LB) (a b : Int) : Bm :=
if (geq (Il a 8) 0) then
(Ir k ([(0 : UInt8)] : LB)).bind fun o =>
j5 b a o
else
j5 b a k
def Nx : LB → Int → Int → Bm := Un Na
abbrev Bo := Option (LB × Int)
def Ahe (a : Int) (b : LB) : Bo :=
some (b, a)
def Xe : Int → LB → Bo := Ahe
def Ie (j6 : Int → LB → Bo) (bk4 : Int → Int → LB → Bo) (f : Int) (g : LB) (h k a : Int) (b : LB) : Bo :=
if (Dg k f) then
(Gn g h k).bind fun m =>
(Nx b a m).bind fun (n, o) =>
bk4 (Ae k 1) o n
else
j6 a b
def Dy (f : Int) (g : LB) (h : Int) : Nat → Int → Int → LB → Bo
| 0, _, _, _ => none
| q + 1, k, a, b => Ie Xe (Dy f g h q) f g h k a b
def Xi (f : Int) (g : LB) (h : Int) : Int → Int → LB → Bo := Dy f g h Ba
def Xm (j4 : Int → LB → Int → Int → Int → LB → Bo) (g : LB) (h p f : Int) : Bo :=
j4 f g h p 0 ([] : LB)
def Sj : LB → Int → Int → Int → Bo := Xm Xi
def Aju (a : UInt64) : Option UInt64 :=
some a
def Zt : UInt64 → Option UInt64 := Aju
def Kg (j6 : UInt64 → Option UInt64) (bk4 : UInt64 → Int → Option UInt64) (b : Int) (f : LB) (g : Int) (a : UInt64) (h : Int) : Option UInt64 :=
if (Re h 0) then
(Gn f g (Ae b h)).bind fun k =>
bk4 (Ae (Bp 2 a) (Ad k : UInt64)) (Am h 1)
else
j6 a
def Fb (b : Int) (f : LB) (g : Int) : Nat → UInt64 → Int → Option UInt64
| 0, _, _ => none
| q + 1, a, h => Kg Zt (Fb b f g q) b f g a h
def Rb (b : Int) (f : LB) (g : Int) : UInt64 → Int → Option UInt64 := Fb b f g Ba
def Qp (j4 : Int → LB → Int → UInt64 → Int → Option UInt64) (f : LB) (g b m : Int) : Option UInt64 :=
j4 b f g 0 (Am m 1)
def Jw : LB → Int → Int → Int → Option UInt64 := Qp Rb
abbrev Cu := Option (Int × Int)
def Ac5 (b a : Int) (g : LB) (f : Int) : Cu :=
if (geq a 48) then
some (a, (Ae b a))
else
if (Re (Ae b a) f) then
some ((-1 : Int), 0)
else
some (a, (Ae (Ae b a) 1))
def My : Int → Int → LB → Int → Cu := Ac5
def Mz (j6 : Int → Int → LB → Int → Cu) (bk4 : Int → Cu) (b : Int) (g : LB) (f a : Int) : Cu :=
if ((Dg (Ae b a) f) && (Dg a 48)) then
(Gn g f (Ae b a)).bind fun h =>
if (geq h 1) then
bk4 (Ae a 1)
else
j6 b a g f
else
j6 b a g f
def Gj (b : Int) (g : LB) (f : Int) : Nat → Int → Cu
| 0, _ => none
| q + 1, a => Mz My (Gj b g f q) b g f a
def Ac6 (b : Int) (g : LB) (f : Int) : Int → Cu := Gj b g f Ba
def Ac3 (j4 : Int → LB → Int → Int → Cu) (g : LB) (f b : Int) : Cu :=
j4 b g f 0
def Aam : LB → Int → Int → Cu := Ac3 Ac6
def Rp (b : UInt32) (f : Int) : Option Int :=
(Dk f).bind fun a =>
(Sa (Db a 0)).bind fun _ =>
some (Ad (Fy 48 (Dc (Ad b : UInt64) a)) : Int)
abbrev Js := Option (UInt32 × Int × Int)
def Uq (g a b : Int) (h : LB) (f k : Int) : Js :=
if ((Dg a 0) || (Dg (Am f b) k)) then
some (0, 0, 24)
else
(Jw h f b k).bind fun m =>
if (Dg a 48) then
(Dk g).bind fun o =>
some ((Ad (Ae (Bp (Ad a : UInt64) o) m) : UInt32), (Ae b k), 0)
else
(Rp (Ad m : UInt32) g).bind fun p =>
if (Dg p a) then
some (0, 0, 12)
else
some ((Ad m : UInt32), (Ae b k), 0)
def Mq : Int → Int → Int → LB → Int → Int → Js := Uq
def Ul (j2 : Int → Int → Int → LB → Int → Int → Js) (h : LB) (f n g : Int) : Js :=
if (Re n f) then
some (0, 0, 24)
else
(Aam h f n).bind fun (a, b) =>
if (geq a 48) then
j2 g a b h f 32
else
j2 g a b h f g
def Tz : LB → Int → Int → Int → Js := Ul Mq
def Ua (g : LB) (b a f n : Int) (v w : UInt64) : Option (UInt32 × Int × Int) :=
if (Re a b) then
some (0, 0, 24)
else
(Gn g b a).bind fun o =>
if (geq o 0) then
if (Dg (Am (Am b a) 1) f) then
some (0, 0, 24)
else
(Jw g b (Ae a 1) f).bind fun p =>
some ((Ad p : UInt32), (Ae (Ae a 1) f), 0)
else
(Tz g b (Ae a 1) n).bind fun (h, u, k) =>
if (Db k 0) then
some (0, 0, k)
else
(Dk f).bind fun m =>
if (Hq (Ae (Ad h : UInt64) m) 4294967295) then
some (0, 0, 12)
else
some ((Ad (Ae (Ad h : UInt64) m) : UInt32), u, 0)
abbrev Ao := Option (LU × Int)
def Ajr (b : LU) : Ao :=
some (b, 0)
def Zs : LU → Ao := Ajr
def Kh (j18 : LU → Ao) (bk16 : Int → Ao) (a : LB) (b : LU) (m : Int) : Ao :=
if (Dg m (Bp 8 (Ac a))) then
(Gn a (Bp 8 (Ac a)) m).bind fun n =>
if (Db n 0) then
some (b, 12)
else
bk16 (Ae m 1)
else
j18 b
def Ez (a : LB) (b : LU) : Nat → Int → Ao
| 0, _ => none
| q + 1, m => Kh Zs (Ez a b q) a b m
def Qu (a : LB) (b : LU) : Int → Ao := Ez a b Ba
def Qo (j16 : LB → LU → Int → Ao) (f : Int) (a : LB) (b : LU) : Ao :=
if (Hq (Am (Bp 8 (Ac a)) f) 7) then
some (b, 12)
else
j16 a b f
def Ki : Int → LB → LU → Ao := Qo Qu
def Zq (bk10 : Int → Int → LU → Ao) (g h : Int) (a : LB) (f k : Int) (b : LU) (o p : Int) (u v : UInt64) : Ao :=
(Sj a (Bp 8 (Ac a)) f (Fy (Ae f 81) (Bp 8 (Ac a)))).bind fun (y, aa) =>
(Ua y aa 0 o p u v).bind fun (ab, ac, w) =>
if (Db w 0) then
some (b, w)
else
(Ir b ([ab] : LU)).bind fun ad =>
bk10 (Ae f ac) (Ae k 1) ad
def Ey (bk10 : Int → Int → LU → Ao) : Int → Int → LB → Int → Int → LU → Int → Int → UInt64 → UInt64 → Ao := Zq bk10
def Qs (j13 : Int → Int → LU → Int → Int → UInt64 → UInt64 → Ao) (j15 : Int → LB → LU → Ao) (g h : Int) (a : LB) (f k : Int) (b : LU) : Ao :=
if (Dg k (Bp h g)) then
(Hb).bind fun (n, ae, af, ag) =>
if (Re k g) then
(Is g b).bind fun (ah, ai, aj, ak) =>
j13 f k b ah ai aj ak
else
j13 f k b n ae af ag
else
j15 f a b
def Da (g h : Int) (a : LB) : Nat → Int → Int → LU → Ao
| 0, _, _, _ => none
| q + 1, f, k, b => Qs (Ey (Da g h a q) g h a) Ki g h a f k b
def Aab (g h : Int) (a : LB) : Int → Int → LU → Ao := Da g h a Ba
def Tt (j10 : Int → Int → LB → Int → Int → LU → Ao) (g h : Int) (a : LB) : Ao :=
j10 g h a 0 0 ([] : LU)
def Rt : Int → Int → LB → Ao := Tt Aab
def Ae6 (a : Int) : Option (Int × Int) :=
if (geq a 8) then
some (4, 0)
else
if ((geq a 16) || (geq a 24)) then
some (5, 0)
else
some (0, 2)
def Ahv (a : Int) (b : LX) : Option (Int × LX × LX × Int) :=
(Ae6 a).bind fun (g, f) =>
if (Db f 0) then
some (0, (List.replicate 16 (0 : Int32)), (List.replicate 16 (0 : Int32)), 2)
else
if (geq a 16) then
some (9, b, (List.replicate 16 (0 : Int32)), 0)
else
some (10, b, (List.replicate 16 (0 : Int32)), 0)
def Aa0 (a : Int) (b : LX) : Option (Int × Int32 × Int × LX × LX × Int) :=
(Ahv a b).bind fun (f, g, h, k) =>
if (Db k 0) then
some (0, 0, 0, (List.replicate 16 (0 : Int32)), (List.replicate 16 (0 : Int32)), 2)
else
some (a, 0, f, g, h, 0)
def Hy (a : UInt32) : Option Int32 :=
if (geq (Xo a 2) 0) then
some (Ad (Dc a 2) : Int32)
else
some (Ad (Dc (An9 (Ae (Ad a : Int) 1)) 2) : Int32)
def Bl (a : Int) : Option Int32 :=
some (Ad (Ad (Ad a : UInt64) : UInt32) : Int32)
def Ac4 (a : Int) : Option Int32 :=
some (Ad a : Int32)
def Uv : Int → Option Int32 := Ac4
def Mv (j6 : Int → Option Int32) (bk4 : Int → Int → Option Int32) (h : Int) (f g : LX) (a b : Int) : Option Int32 :=
if (Dg b 16) then
(Aj f b).bind fun _ =>
(Aj g b).bind fun _ =>
(Aj f b).bind fun k =>
(Aj g b).bind fun m =>
(Bl (Bp (Ad k : Int) (Ad m : Int))).bind fun n =>
(Bl (Ae a (Ad n : Int))).bind fun o =>
bk4 (Ad o : Int) (Ae b 1)
else
j6 a
def Gg (h : Int) (f g : LX) : Nat → Int → Int → Option Int32
| 0, _, _ => none
| q + 1, a, b => Mv Uv (Gg h f g q) h f g a b
def Ade (h : Int) (f g : LX) : Int → Int → Option Int32 := Gg h f g Ba
def Ac7 (j4 : Int → LX → LX → Int → Int → Option Int32) (h : Int) (f g : LX) : Option Int32 :=
j4 h f g 0 0
def Aat : Int → LX → LX → Option Int32 := Ac7 Ade
def Abt (b : Int) (f g : LX) (a : Int) : Option Int32 :=
(Aat b f g).bind fun k =>
(Bl (Ae (Ad k : Int) (Dc a 2))).bind fun h =>
(Sa (Db a 0)).bind fun _ =>
(Sa (Db a 0)).bind fun _ =>
if (Dg (Il (Ad h : Int) a) 0) then
some (Ad (Am (Dc (Ad h : Int) a) 1) : Int32)
else
some (Ad (Dc (Ad h : Int) a) : Int32)
def Lr : Int → LX → LX → Int → Option Int32 := Abt
def Sr (j2 : Int → LX → LX → Int → Option Int32) (b : Int) (f g : LX) : Option Int32 :=
if (geq b 9) then
j2 b f g 512
else
j2 b f g 1024
def Rq : Int → LX → LX → Option Int32 := Sr Lr
def Ry (a : Int) : Option Int32 :=
if (geq a 0) then
some 4
else
if (gle a 3) then
some 2
else
some 1
def Lg (a : Int32) : Option Int32 :=
if (Dg a 0) then
some (-1 : Int32)
else
if (Hq a 0) then
some 1
else
some 0
abbrev Bn := Option (Int × LX × LX)
def Ahb (g : Int) (b a : LX) : Bn :=
some (g, b, a)
def Xj : Int → LX → LX → Bn := Ahb
def Hw (j6 : Int → LX → LX → Bn) (bk4 : Int → LX → Bn) (h : Int32) (g : Int) (a : LX) (f : Int) (b : LX) : Bn :=
if (Dg f 16) then
(Aj b f).bind fun _ =>
(Aj a f).bind fun _ =>
(Aj b f).bind fun k =>
(Aj a f).bind fun m =>
(Ry f).bind fun n =>
(Lg m).bind fun o =>
(Lg h).bind fun p =>
(Aj b f).bind fun _ =>
(Oi b f (Ae k (Bp (Bp n o) p))).bind fun u =>
bk4 (Ae f 1) u
else
j6 g b a
def Dz (h : Int32) (g : Int) (a : LX) : Nat → Int → LX → Bn
| 0, _, _ => none
| q + 1, f, b => Hw Xj (Dz h g a q) h g a f b
def Wr (h : Int32) (g : Int) (a : LX) : Int → LX → Bn := Dz h g a Ba
def Xg (j4 : Int32 → Int → LX → Int → LX → Bn) (g : Int) (v a : LX) (h : Int32) : Bn :=
j4 h g a 0 v
def Tn : Int → LX → LX → Int32 → Bn := Xg Wr
abbrev Bw := Option (Int × LX × LX)
def Yh (b : Int32) (f : Int) (g a : LX) : Bw :=
(Aj a 0).bind fun _ =>
(Oi a 0 b).bind fun k =>
some (f, g, k)
def Pp : Int32 → Int → LX → LX → Bw := Yh
def Je (j6 : Int32 → Int → LX → LX → Bw) (bk4 : Int → LX → Bw) (b : Int32) (f : Int) (g : LX) (h : Int) (a : LX) : Bw :=
if (Hq h 0) then
(Aj a (Am h 1)).bind fun _ =>
(Aj a (Am h 1)).bind fun m =>
(Aj a h).bind fun _ =>
(Oi a h m).bind fun n =>
bk4 (Am h 1) n
else
j6 b f g a
def En (b : Int32) (f : Int) (g : LX) : Nat → Int → LX → Bw
| 0, _, _ => none
| q + 1, h, a => Je Pp (En b f g q) b f g h a
def Yn (b : Int32) (f : Int) (g : LX) : Int → LX → Bw := En b f g Ba
def Yj (j4 : Int32 → Int → LX → Int → LX → Bw) (f : Int) (g o : LX) (b : Int32) : Bw :=
j4 b f g 15 o
def Uy : Int → LX → LX → Int32 → Bw := Yj Yn
def Li (a : Int) (b f : LX) (g : Int32) : Option (Int32 × Int × LX × LX) :=
(Rq a b f).bind fun k =>
(Bl (Ae (Ad g : Int) (Ad k : Int))).bind fun h =>
(Tn a b f g).bind fun (m, n, o) =>
(Uy m n o h).bind fun (p, u, v) =>
some (h, p, u, v)
def Xy (b : Int32) (a : Int) : Option Int32 :=
(Sa (Db a 0)).bind fun _ =>
(Sa (Db a 0)).bind fun _ =>
if (Dg (Il (Bp (Am a 1) (Ad b : Int)) a) 0) then
some (Ad (Am (Dc (Bp (Am a 1) (Ad b : Int)) a) 1) : Int32)
else
some (Ad (Dc (Bp (Am a 1) (Ad b : Int)) a) : Int32)
def Iz : Int32 → Int → Option Int32 := Xy
def Pa (j2 : Int32 → Int → Option Int32) (f : Int) (b : Int32) : Option Int32 :=
if (geq f 5) then
j2 b 32
else
j2 b 16
def Iu : Int → Int32 → Option Int32 := Pa Iz
def Ms (b : Int) (a : Int32) (h : Int) (k m : LX) : Option Int :=
if (geq b 8) then
(Iu 4 a).bind fun f =>
some (Ad f : Int)
else
(Iu 5 a).bind fun g =>
some (Ad g : Int)
def Fp (a : Int) (k : Int32) (b : Int) (f g : LX) (m : Int32) : Option (Int32 × Int × Int32 × Int × LX × LX) :=
(Li b f g m).bind fun (n, o, p, u) =>
(Ms a k b f g).bind fun v =>
(Bl (Ae (Ad n : Int) v)).bind fun h =>
some (h, a, h, o, p, u)
def Jn (a : Int) (b : LX) : Option Int :=
if ((Dg a 1) || (Hq a 6)) then
some 2
else
if (Hq (Ac b) 4000) then
some 4
else
(Sa (Db a 0)).bind fun _ =>
if (Hq (Il (Ac b) a) 0) then
some 2
else
some 0
def Ag5 (b : LX) : Option (LX) :=
some b
def Ws : LX → Option (LX) := Ag5
def Ic (j8 : LX → Option (LX)) (bk6 : Int → LX → Option (LX)) (a : LX) (f : Int) (b : LX) : Option (LX) :=
if (Re f 0) then
(Aj b (Ae f 1)).bind fun _ =>
(Aj a f).bind fun m =>
(Aj b (Ae f 1)).bind fun n =>
(Bl (Am (Ad n : Int) (Ad m : Int))).bind fun o =>
(Aj b f).bind fun _ =>
(Oi b f o).bind fun p =>
bk6 (Am f 1) p
else
j8 b
def Ea (a : LX) : Nat → Int → LX → Option (LX)
| 0, _, _ => none
| q + 1, f, b => Ic Ws (Ea a q) a f b
def Xk (a : LX) : Int → LX → Option (LX) := Ea a Ba
def Nt (j6 : LX → Int → LX → Option (LX)) (a g : LX) : Option (LX) :=
j6 a (Am (Ac a) 2) g
def Ia : LX → LX → Option (LX) := Nt Xk
def Of (j5 : LX → LX → Option (LX)) (a : LX) : Option (LX) :=
(mkI (Ac a) (0 : Int32)).bind fun k =>
(Sa (geq (Ac a) (Ac a))).bind fun _ =>
(Aj a (Am (Ac a) 1)).bind fun u =>
(Aj k (Am (Ac a) 1)).bind fun _ =>
(Oi k (Am (Ac a) 1) u).bind fun h =>
if (Hq (Ac a) 1) then
(Aj a (Am (Ac a) 1)).bind fun v =>
(Aj a (Am (Ac a) 2)).bind fun w =>
(Bl (Ae (Ad v : Int) (Dc (Ad w : Int) 2))).bind fun y =>
(Aj h (Am (Ac a) 1)).bind fun _ =>
(Oi h (Am (Ac a) 1) y).bind fun aa =>
j5 a aa
else
j5 a h
def Ly : LX → Option (LX) := Of Ia
abbrev Ck := Option (LX × Int)
def Akf (f : LX) : Ck :=
some (f, 0)
def Acd : LX → Ck := Akf
def Th (j6 : LX → Ck) (bk4 : Int → LX → Ck) (a : Int) (b : LX) (g : Int) (f : LX) : Ck :=
if (Dg g (Ac b)) then
(Cv b g (Ae g a)).bind fun h =>
(Ly h).bind fun k =>
(Ir f k).bind fun m =>
bk4 (Ae g a) m
else
j6 f
def Hr (a : Int) (b : LX) : Nat → Int → LX → Ck
| 0, _, _ => none
| q + 1, g, f => Th Acd (Hr a b q) a b g f
def Ach (a : Int) (b : LX) : Int → LX → Ck := Hr a b Ba
def Sd (j4 : Int → LX → Int → LX → Ck) (a : Int) (b : LX) : Ck :=
(Jn a b).bind fun n =>
if (Db n 0) then
(Jn a b).bind fun o =>
some (([] : LX), o)
else
j4 a b 0 ([] : LX)
def Ro : Int → LX → Ck := Sd Ach
def Xb (a f : Int) (w : LX) : Option (LX) :=
(Ro a w).bind fun (aj, ai) =>
some aj
def Hz : Int → Int → LX → Option (LX) := Xb
def Wx (bk18 : Int → LX → Option (LX)) (b : LU) (a f : Int) (g : LX) (h : Int) (m : LX) : Option (LX) :=
bk18 (Ae h 1) m
def Np (bk18 : Int → LX → Option (LX)) : LU → Int → Int → LX → Int → LX → Option (LX) := Wx bk18
def Wy (bk26 : Int → LX → Int → Int32 → Int → LX → LX → Option (LX)) (b : LU) (h a f : Int) (g : LX) (k : Int) (af : LX) (y : Int) (aa : Int32) (ab : Int) (ac ad : LX) : Option (LX) :=
bk26 (Ae k a) af y aa ab ac ad
def Nr (bk26 : Int → LX → Int → Int32 → Int → LX → LX → Option (LX)) : LU → Int → Int → Int → LX → Int → LX → Int → Int32 → Int → LX → LX → Option (LX) := Wy bk26
def Ny (j30 : Int → LX → Int → Int32 → Int → LX → LX → Option (LX)) (b : LU) (h a f : Int) (g : LX) (k : Int) (ae : Int32) (m : LX) (n : Int) (o : Int32) (p : Int) (u v : LX) (y : Int) (aa : Int32) (ab : Int) (ac ad : LX) : Option (LX) :=
(Aj m k).bind fun _ =>
(Oi m k ae).bind fun af =>
j30 k af y aa ab ac ad
def Nk (bk26 : Int → LX → Int → Int32 → Int → LX → LX → Option (LX)) (b : LU) (h a f : Int) (g : LX) : Int → Int32 → LX → Int → Int32 → Int → LX → LX → Int → Int32 → Int → LX → LX → Option (LX) := Ny (Nr bk26 b h a f g) b h a f g
def Ib (j29 : Int → Int32 → LX → Int → Int32 → Int → LX → LX → Int → Int32 → Int → LX → LX → Option (LX)) (j32 : Int → LX → Option (LX)) (b : LU) (a f : Int) (g : LX) (h k : Int) (m : LX) (n : Int) (o : Int32) (p : Int) (u v : LX) : Option (LX) :=
if (Dg k (Ac b)) then
(Aj b k).bind fun ah =>
(
(Hy ah).bind fun ag =>
(
(Fp n o p u v ag).bind fun (ae, y, aa, ab, ac, ad) =>
j29 k ae m n o p u v y aa ab ac ad))
else
j32 h m
def Fs (bk18 : Int → LX → Option (LX)) (b : LU) (a f : Int) (g : LX) (h : Int) : Nat → Int → LX → Int → Int32 → Int → LX → LX → Option (LX)
| 0, _, _, _, _, _, _, _ => none
| q + 1, k, m, n, o, p, u, v => Ib (Nk (Fs bk18 b a f g h q) b h a f g) (Np bk18 b a f g) b a f g h k m n o p u v
def Od (bk18 : Int → LX → Option (LX)) (b : LU) (a f : Int) (g : LX) (h : Int) : Int → LX → Int → Int32 → Int → LX → LX → Option (LX) := Fs bk18 b a f g h Ba
def Hx (j26 : Int → Int → LX → Int → Int32 → Int → LX → LX → Option (LX)) (j34 : Int → Int → LX → Option (LX)) (b : LU) (a f : Int) (g : LX) (h : Int) (w : LX) : Option (LX) :=
if (Dg h a) then
(Aa0 f g).bind fun (ak, ai, al, am, an, ap) =>
j26 h h w ak ai al am an
else
j34 a f w
def De (b : LU) (a f : Int) (g : LX) : Nat → Int → LX → Option (LX)
| 0, _, _ => none
| q + 1, h, w => Hx (Od (De b a f g q) b a f g) Hz b a f g h w
def Nv (b : LU) (a f : Int) (g : LX) : Int → LX → Option (LX) := De b a f g Ba
def Pu (j18 : LU → Int → Int → LX → Int → LX → Option (LX)) (a f : Int) (g : LX) (b : LU) : Option (LX) :=
(mkI (Ac b) (0 : Int32)).bind fun ao =>
(Sa (geq (Ac b) (Ac b))).bind fun _ =>
j18 b a f g 0 ao
def Cl : Int → Int → LX → LU → Option (LX) := Pu Nv
def Ajs : Option Int :=
some 0
def Aad : Option Int := Ajs
def Ds (j6 : Option Int) (bk4 : Int → Option Int) (a : LX) (b f : Int) : Option Int :=
if (Dg f (Ac a)) then
(Aj a f).bind fun g =>
if (Dg (Ad g : Int) (An9 b)) then
some 16
else
(Aj a f).bind fun h =>
if (Re (Ad h : Int) b) then
some 16
else
bk4 (Ae f 1)
else
j6
def Bk (a : LX) (b : Int) : Nat → Int → Option Int
| 0, _ => none
| q + 1, f => Ds Aad (Bk a b q) a b f
def Aaf (a : LX) (b : Int) : Int → Option Int := Bk a b Ba
def Gv (j4 : LX → Int → Int → Option Int) (k : Int) (a : LX) : Option Int :=
(Lf k).bind fun b =>
if (geq b 0) then
some 2
else
if (Hq (Ac a) 4000) then
some 4
else
j4 a b 0
def Bf : Int → LX → Option Int := Gv Aaf
def Dd (g f : Int) (a : LX) : Option (LX × Int) :=
(Bf f a).bind fun b =>
if (Db b 0) then
some (([] : LX), b)
else
some (a, 0)
abbrev Gy := Option (LX × Int)
def Ge (n a b : Int) (f : LX) (g : LU) : Gy :=
if (Db n 0) then
some (([] : LX), n)
else
(
(
(Cl a b f g).bind fun h =>
(Dd a b h).bind fun (k, m) =>
some (k, m)))
def Jc : Int → Int → Int → LX → LU → Gy := Ge
def Om (j2 : Int → Int → Int → LX → LU → Gy) (a b : Int) (f : LX) (p : Int) (o : LB) : Gy :=
(Pq a b p).bind fun u =>
if (Db u 0) then
some (([] : LX), 2)
else
(Iq o).bind fun v =>
if (Db v 0) then
(Iq o).bind fun w =>
some (([] : LX), w)
else
(Cv o 0 (Am (Ac o) 4)).bind fun y =>
(Rt a p y).bind fun (g, n) =>
j2 n a b f g
def Io : Int → Int → LX → Int → LB → Gy := Om Jc
def Up (a b : Int) : Option (LB) :=
if (geq a 24) then
(Ir ([(Ad (Il b 256) : UInt8), (Ad (Il (Dc b 256) 256) : UInt8)] : LB) ([(Ad (Dc b 65536) : UInt8)] : LB)).bind fun g =>
some g
else
some ([(Ad (Il b 256) : UInt8), (Ad (Il (Dc b 256) 256) : UInt8)] : LB)
def Gf : Int → Int → Option (LB) := Up
def Um (j2 : Int → Int → Option (LB)) (a : Int) (f : Int32) : Option (LB) :=
if (geq a 8) then
some ([(Ad (Ae (Ad f : Int) 128) : UInt8)] : LB)
else
if (Dg (Ad f : Int) 0) then
(Lf a).bind fun h =>
j2 a (Ae (Ad f : Int) (Bp 2 h))
else
j2 a (Ad f : Int)
def Tw : Int → Int32 → Option (LB) := Um Gf
abbrev Cg := Option (LB × Int)
def Ajx (b : LB) : Cg :=
some (b, 0)
def Zu : LB → Cg := Ajx
def Km (j6 : LB → Cg) (bk4 : Int → LB → Cg) (f : Int) (a : LX) (g : Int) (b : LB) : Cg :=
if (Dg g (Ac a)) then
(Aj a g).bind fun h =>
(Tw f h).bind fun k =>
(Ir b k).bind fun m =>
bk4 (Ae g 1) m
else
j6 b
def Ff (f : Int) (a : LX) : Nat → Int → LB → Cg
| 0, _, _ => none
| q + 1, g, b => Km Zu (Ff f a q) f a g b
def Zy (f : Int) (a : LX) : Int → LB → Cg := Ff f a Ba
def Rc (j4 : Int → LX → Int → LB → Cg) (f : Int) (a : LX) : Cg :=
(Bf f a).bind fun n =>
if (Db n 0) then
(Bf f a).bind fun o =>
some (([] : LB), o)
else
j4 f a 0 ([] : LB)
def Pc : Int → LX → Cg := Rc Zy
abbrev Jo := Option (LB × Int)
def Ac0 (p : LX) (m n g b h k o : Int) (a : LI) : Jo :=
if (Db m 0) then
some (([] : LB), m)
else
(Pc b p).bind fun (af, ah) =>
some (af, 0)
def Va : LX → Int → Int → Int → Int → Int → Int → Int → LI → Jo := Ac0
def Mp (j2 : LX → Int → Int → Int → Int → Int → Int → Int → LI → Jo) (v y : LB) (n g b h k o : Int) (a : LI) (f : Int) : Jo :=
(Pf n g b h k o a f).bind fun u =>
(Aj a f).bind fun aa =>
if (Dg (Am (Ac v) u) aa) then
some (([] : LB), 24)
else
(Lw y).bind fun (ab, ag) =>
(Aj a f).bind fun ac =>
(Cv v u (Ae u ac)).bind fun ad =>
(
(Eh h k).bind fun w =>
(Aj w f).bind fun _ =>
(Aj w f).bind fun ae =>
(Io g b ab ae ad).bind fun (p, m) =>
j2 p m n g b h k o a)
def Oe : LB → LB → Int → Int → Int → Int → Int → Int → LI → Int → Jo := Mp Va
def Fo (b f : LB) (a : Int) : Option (LB × Int) :=
(Du b f).bind fun (k, m, n, o, p, u, g, h) =>
if (Db h 0) then
some (([] : LB), h)
else
if ((Dg a 0) || (Re a (Ac g))) then
some (([] : LB), 2)
else
(Oe b f k m n o p u g a).bind fun (v, w) =>
some (v, w)
def Agg : Option Bool :=
some true
def Vc : Option Bool := Agg
def Hj (j6 : Option Bool) (bk4 : Int → Option Bool) (a b : LI) (f : Int) : Option Bool :=
if (Dg f (Ac a)) then
(Aj a f).bind fun g =>
(Aj b f).bind fun h =>
if (Db g h) then
some false
else
bk4 (Ae f 1)
else
j6
def Dq (a b : LI) : Nat → Int → Option Bool
| 0, _ => none
| q + 1, f => Hj Vc (Dq a b q) a b f
def Ve (a b : LI) : Int → Option Bool := Dq a b Ba
def Mc (j4 : LI → LI → Int → Option Bool) (a b : LI) : Option Bool :=
if (Db (Ac a) (Ac b)) then
some false
else
j4 a b 0
def Kk : LI → LI → Option Bool := Mc Ve
def Rw (a b f g h k : Int) (m : LI) (n o p u v w : Int) (y : LI) : Option Bool :=
if (((geq a n) && ((geq b o) && ((geq f p) && ((geq g u) && ((geq h v) && true))))) && (geq k w)) then
(Kk m y).bind fun aa =>
some aa
else
some false
def Mh (a b : LB) (f : Int) : Option Bool :=
(Zb a).bind fun g =>
if (g || (Hq (Ac b) 100)) then
some true
else
(seekto_Open a b).bind fun (h, k, m, n, o, p, u, v) =>
(Du a b).bind fun (w, y, aa, ab, ac, ad, ae, af) =>
(Pj a b f).bind fun (ag, ah) =>
(Fo a b f).bind fun (ai, aj) =>
(Rw h k m n o p u w y aa ab ac ad ae).bind fun ak =>
some (((ak && (geq v af)) && (ag == ai)) && (geq ah aj))
end Go.Pl
