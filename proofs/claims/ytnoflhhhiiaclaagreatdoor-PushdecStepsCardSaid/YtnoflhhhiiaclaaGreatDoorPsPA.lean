/- A part of the proof of a statement of this seat (see the text that ends in Proof): PsPure. No conditions of its own. -/
import Derived.Test.YtnoflhhhiiaclaaGreatDoorPsBA
set_option linter.unusedVariables false
namespace Go.Pl
open Go Go.Lv
abbrev LB := List UInt8
abbrev LI := List Int
abbrev LX := List Int32
abbrev LU := List UInt32
abbrev LQ := List UInt64
def Tk (f g : LB) (h k m n o : Int) (b : LI) (p : Int) (a : LB) (u : Bool) (v : Int) : Option Bool :=
if ((Gf (Ac f) 100) || (Gf (Ac g) 5000)) then
some ((true || (Gf (Ac a) 12100)) || (Gf (Ac b) 1010))
else
some ((((Gf (Ac a) 5000) && (gle (Ac a) 12000)) || (Gf (Ac a) 12100)) || (Gf (Ac b) 1010))
def We (a : LB) : Option Bool :=
some (((Gf (Ac a) 5000) && (Ci (Ac a) 12000)) || (Gf (Ac a) 12100))
abbrev Zd := Option (LB × LB × Int × Int × Int × Int × Int × LI × Int × LB × Bool × Int)
def Af0 (f : LB) (g h k m n : Int) (o : LI) (p : Int) (u : Bool) (v : Int) (a b : LB) : Zd :=
(Db ([] : LI) o).bind fun af =>
some (f, a, g, h, k, m, n, af, p, b, u, v)
def Xh := Af0
def Oi (j2 : LB → Int → Int → Int → Int → Int → LI → Int → Bool → Int → LB → LB → Zd) (f w : LB) (g h k m n : Int) (o : LI) (p : Int) (y : LB) (u : Bool) (v : Int) : Zd :=
(
(
(
(Db ([] : LB) w).bind fun a =>
(
(Db ([] : LB) y).bind fun b =>
j2 f g h k m n o p u v a b))))
def Fs := Oi Xh
def Hc (a : LB) : Option (LB) :=
(
(Db ([] : LB) a).bind fun b =>
some b)
def Es (a : LI) : Option (LI) :=
(
(Db ([] : LI) a).bind fun b =>
some b)
def Cf (a b : LB) (f g h k m : Int) (n : LI) (o : Int) (p : LB) (u : Bool) (v : Int) : Option (LB × LB × Int × Int × Int × Int × Int × LI × Int × LB × Bool × Int) :=
(Hc b).bind fun w =>
(Hc p).bind fun y =>
(Es n).bind fun aa =>
some (a, w, f, g, h, k, m, aa, o, y, u, v)
def Aey (b f a g h : Int) : Option Bool :=
some (((((((geq b 1) || (geq b 2)) && (Gf f 0)) && (gle f 6)) && (Gf g 0)) && (gle g 1048576)) && (Gf h 0))
def Mc := Aey
def Yk (j2 : Int → Int → Int → Int → Int → Option Bool) (b f a g h : Int) : Option Bool :=
if (geq a 8) then
if (geq a 8) then
j2 b f a g h
else
some false
else
if (geq a 16) then
if (geq a 16) then
j2 b f a g h
else
some false
else
if (geq a 24) then
j2 b f a g h
else
some false
def Qb := Yk Mc
def Ada (a : Int) : Option (Int × Int) :=
if ((Ci a 1) || (Gf a 1048576)) then
some (0, 2)
else
some ((Arb 1 (Cn (Bp 256 a) 245)), 0)
def Zr (g b : Int) : Option (Int × Int) :=
(Ada g).bind fun (a, f) =>
if (Bn f 0) then
some (0, f)
else
if ((Ci b 1) || (Gf b 4000)) then
some (0, 2)
else
(Wq (Bn a 0)).bind fun _ =>
if (Gf (Cn (Ao (Af b a) 1) a) 1000) then
some (0, 4)
else
some ((Cn (Ao (Af b a) 1) a), 0)
def Agk (k a m f b : Int) : Option Bool :=
(Wq (Bn a 0)).bind fun _ =>
if (Gf b (Cn 4000 a)) then
some false
else
(Zr f b).bind fun (g, h) =>
some ((geq h 0) && (gle g 1000))
def Yw (a b f g h : Int) : Option Int :=
(Qb a b f g h).bind fun k =>
if (!k) then
some 8
else
(Agk a b f g h).bind fun m =>
if (!m) then
some 8
else
some 0
def Ag6 (a b : UInt64) : Option (UInt64 × UInt64) :=
some ((Af (Af (Bp (Cg a (GI.toZ (32 : UInt64)).toNat) (Cg b (GI.toZ (32 : UInt64)).toNat)) (Cg (Af (Bp (Cg a (GI.toZ (32 : UInt64)).toNat) (Jg b 4294967295)) (Cg (Bp (Jg a 4294967295) (Jg b 4294967295)) (GI.toZ (32 : UInt64)).toNat)) (GI.toZ (32 : UInt64)).toNat)) (Cg (Af (Jg (Af (Bp (Cg a (GI.toZ (32 : UInt64)).toNat) (Jg b 4294967295)) (Cg (Bp (Jg a 4294967295) (Jg b 4294967295)) (GI.toZ (32 : UInt64)).toNat)) 4294967295) (Bp (Jg a 4294967295) (Cg b (GI.toZ (32 : UInt64)).toNat))) (GI.toZ (32 : UInt64)).toNat)), (Bp a b))
def Afi (a b : UInt64) : Option (UInt64 × UInt64) :=
(Ag6 a b).bind fun (f, g) =>
some (f, g)
def Ns (a : LI) : Option (LI) :=
some a
def Ir := Ns
def Gj (j10 : LI → Option (LI)) (bk8 : Int → LI → Option (LI)) (b : Int) (a : LI) : Option (LI) :=
if (Ci b (Ac a)) then
(
(vwI (Ac a) b (Ac a)).bind fun _ =>
(vwI (Ac a) 0 b).bind fun _ =>
bk8 (Af b (Ajw ((Ac a) - b) (Alq a 0 (b - (0 : Int))).length)) (Vn a b ((Ac a) - b) (Alq a 0 (b - (0 : Int)))))
else
j10 a
def Dt : Nat → Int → LI → Option (LI)
| 0, _, _ => none
| q + 1, b, a => Gj Ir (Dt q) b a
def Pp := Dt Ay
def Qc (j8 : Int → LI → Option (LI)) (f : LI) (g : UInt64) : Option (LI) :=
(mkI (Ad g : Int) (0 : Int)).bind fun k =>
(Wq (geq (Ad g : Int) (Ad g : Int))).bind fun _ =>
j8 (Ajw (Ac k) f.length) (Axb k f)
def Pr := Qc Pp
def Pn (j7 : LI → UInt64 → Option (LI)) (f : LI) (h : Int) : Option (LI) :=
(Afi (Ad (Ac f) : UInt64) (Ad h : UInt64)).bind fun (m, g) =>
if ((Gf m 0) || (Gf g 9223372036854775807)) then
none
else
j7 f g
def Pv := Pn Pr
def Qa (j6 : LI → Int → Option (LI)) (f : LI) (h : Int) : Option (LI) :=
if (Ci h 0) then
none
else
j6 f h
def My := Qa Pv
def Aj1 (f : LI) : Option (LI) :=
some f
def Yy := Aj1
def Fj (j16 : LI → Option (LI)) (bk14 : Int → LI → Option (LI)) (a : List LI) (g : Int) (f : LI) : Option (LI) :=
if (Ci g (Ac a)) then
(Al a g).bind fun o =>
(Db f o).bind fun p =>
bk14 (Af g 1) p
else
j16 f
def Dj (a : List LI) : Nat → Int → LI → Option (LI)
| 0, _, _ => none
| q + 1, g, f => Fj Yy (Dj a q) a g f
def Nq a := Dj a Ay
def Np (j14 : (List LI) → Int → LI → Option (LI)) (a : List LI) (k : LI) : Option (LI) :=
j14 a 0 k
def Iq := Np Nq
def Nu (j13 : (List LI) → LI → Option (LI)) (b : Int) (a : List LI) : Option (LI) :=
if (Gf (Ao b (Ao (0 : Int) (0 : Int))) 0) then
(vwI 0 0 0).bind fun _ =>
(mkI (Ao b (Ao (0 : Int) (0 : Int))) (0 : Int)).bind fun u =>
(Db ([] : LI) u).bind fun m =>
(vwI (Ac m) 0 0).bind fun _ =>
j13 a (Alq m 0 ((0 : Int) - (0 : Int)))
else
j13 a ([] : LI)
def Nn := Nu Iq
def Nl (j12 : Int → (List LI) → Option (LI)) (a : List LI) (b : Int) : Option (LI) :=
if (Ci b 0) then
none
else
j12 b a
def Nt := Nl Nn
def Gm (j11 : (List LI) → Int → Option (LI)) (bk9 : Int → Int → Option (LI)) (a : List LI) (b h : Int) : Option (LI) :=
if (Ci h (Ac a)) then
(Al a h).bind fun n =>
if (Ci (Af b (Ac n)) 0) then
none
else
bk9 (Af b (Ac n)) (Af h 1)
else
j11 a b
def Dr (a : List LI) : Nat → Int → Int → Option (LI)
| 0, _, _ => none
| q + 1, b, h => Gm Nt (Dr a q) a b h
def Px a := Dr a Ay
def Po (j9 : (List LI) → Int → Int → Option (LI)) (a : List LI) : Option (LI) :=
j9 a 0 0
def Mt := Po Px
def Ajs (a b : LI) : Option (LI) :=
(Mt ([a, b] : List LI)).bind fun f =>
some f
def Akk (a b : Int) : Option (LI × Int) :=
(Zr a b).bind fun (f, g) =>
if (Bn g 0) then
some (([] : LI), g)
else
(Ada a).bind fun (h, n) =>
(My ([h] : LI) (Ao f 1)).bind fun k =>
(Ajs k ([(Ao b (Bp (Ao f 1) h))] : LI)).bind fun m =>
some (m, 0)
def Ct (g h k a b : Int) : Option (LI × Int) :=
(Yw g h k a b).bind fun f =>
if (Bn f 0) then
some (([] : LI), f)
else
(Akk a b).bind fun (m, n) =>
some (m, n)
def Mk (a f g h k : Int) (b : LB) : Option Int :=
if ((b == ([] : LB)) != (geq a 1)) then
some 26
else
some 0
def Axn : Option Int :=
some 0
def Apo := Axn
def Aca (j6 : Option Int) (bk4 : Int → Int → Option Int) (a : LI) (f b : Int) : Option Int :=
if (Ci b (Ac a)) then
(Al a b).bind fun g =>
if ((Ci g 5) || (Gf g f)) then
some 8
else
bk4 (Ao f g) (Af b 1)
else
j6
def Rj (a : LI) : Nat → Int → Int → Option Int
| 0, _, _ => none
| q + 1, f, b => Aca Apo (Rj a q) a f b
def Ai2 a := Rj a Ay
def Adq (j4 : LI → Int → Int → Option Int) (a : LI) : Option Int :=
if ((geq (Ac a) 0) || (Gf (Ac a) 1000)) then
some 8
else
j4 a 100000 0
def Sd := Adq Ai2
def Aoj (w : Int) (o p : LB) (h b f k m : Int) (g : LI) (a : Int) (n : LB) (u : Bool) (v : Int) : Option Bool :=
some (gle (Ac n) w)
def Ag7 := Aoj
def Aag (j8 : Int → LB → LB → Int → Int → Int → Int → Int → LI → Int → LB → Bool → Int → Option Bool) (bk6 : Int → Int → Option Bool) (y : LI) (o p : LB) (h b f k m : Int) (g : LI) (a : Int) (n : LB) (u : Bool) (v w aa : Int) : Option Bool :=
if (Ci aa (Ac y)) then
(Al y aa).bind fun ac =>
bk6 (Af w (Cn (Bp (Bp ac b) f) 8)) (Af aa 1)
else
j8 w o p h b f k m g a n u v
def Nx (y : LI) (o p : LB) (h b f k m : Int) (g : LI) (a : Int) (n : LB) (u : Bool) (v : Int) : Nat → Int → Int → Option Bool
| 0, _, _ => none
| q + 1, w, aa => Aag Ag7 (Nx y o p h b f k m g a n u v q) y o p h b f k m g a n u v w aa
def Agr y o p h b f k m g a n u v := Nx y o p h b f k m g a n u v Ay
def Aha (j6 : LI → LB → LB → Int → Int → Int → Int → Int → LI → Int → LB → Bool → Int → Int → Int → Option Bool) (o p : LB) (h b f k m : Int) (g : LI) (a : Int) (n : LB) (u : Bool) (v : Int) (ab : LI) : Option Bool :=
if (geq (Ac g) 0) then
some ((geq a 0) && (geq (Ac n) 0))
else
(Sd g).bind fun ad =>
if ((((Bn ad 0) || (Bn (Ac g) (Ac ab))) || (Ci a 0)) || (Gf a (Ac ab))) then
some false
else
(Bb ab 0 a).bind fun y =>
j6 y o p h b f k m g a n u v 0 0
def Ag4 := Aha Agr
def Agq (j5 : LB → LB → Int → Int → Int → Int → Int → LI → Int → LB → Bool → Int → LI → Option Bool) (o p : LB) (h b f k m : Int) (g : LI) (a : Int) (n : LB) (u : Bool) (v : Int) : Option Bool :=
if ((geq h 0) && ((geq b 0) && ((geq f 0) && ((geq k 0) && ((geq m 0) && true))))) then
some (((geq (Ac g) 0) && (geq a 0)) && (geq (Ac n) 0))
else
(Ct h b f k m).bind fun (ab, ae) =>
if (Bn ae 0) then
some false
else
(Mk h b f k m o).bind fun af =>
if (Bn af 0) then
some false
else
j5 o p h b f k m g a n u v ab
def Yq := Agq Ag4
def Il (a b : LB) : Option Bool :=
some (a == b)
def Kr (b a : LB) : Option Bool :=
if (Ud (Ac b) (Ac a)) then
(Bb b 0 (Ac a)).bind fun f =>
(Il f a).bind fun g =>
some g
else
some false
abbrev Ku := Option (Int × Int)
def Au8 (b : Int) : Ku :=
some (b, 0)
def Alm := Au8
def Yu (j6 : Int → Ku) (bk4 : Int → Int → Ku) (a : LB) (b f : Int) : Ku :=
if (Ci f (Ac a)) then
(Al a f).bind fun g =>
if (Gf g 127) then
some (0, 12)
else
bk4 (gor (Fu b (GI.toZ (7 : UInt64)).toNat) (Ad g : Int)) (Af f 1)
else
j6 b
def Ly (a : LB) : Nat → Int → Int → Ku
| 0, _, _ => none
| q + 1, b, f => Yu Alm (Ly a q) a b f
def Aew a := Ly a Ay
def Aek (j4 : LB → Int → Int → Ku) (a : LB) : Ku :=
if (Bn (Ac a) 4) then
some (0, 2)
else
j4 a 0 0
def Afh := Aek Aew
abbrev Ia := Option (Int × Int)
def Aoi (a : LB) (b : UInt8) (h : Int) : Ia :=
if (Gf h 4000) then
some (0, 4)
else
if (Ci (Ac a) h) then
some (0, 24)
else
if (geq b 16) then
(Bb a (Ao h 10) h).bind fun k =>
(Bb k 0 3).bind fun u =>
if (u != ([51, 68, 73] : LB)) then
some (0, 12)
else
(Bb k 3 (Ac k)).bind fun v =>
(Bb a 3 10).bind fun w =>
(Il v w).bind fun y =>
if (!y) then
some (0, 12)
else
some (h, 0)
else
some (h, 0)
def Aaj := Aoi
def Agt (j8 : LB → UInt8 → Int → Ia) (a : LB) (g : Int) (b : UInt8) : Ia :=
if (geq b 16) then
j8 a b (Af (Af g 10) 10)
else
j8 a b (Af g 10)
def Aal := Agt Aaj
def Ahb (j7 : LB → Int → UInt8 → Ia) (a : LB) (g : Int) (b : UInt8) (m : Bool) : Ia :=
if m then
some (0, 12)
else
j7 a g b
def Agw := Ahb Aal
def Ag5 (j6 : LB → Int → UInt8 → Bool → Ia) (a : LB) (f b : UInt8) : Ia :=
(Bb a 6 10).bind fun aa =>
(Afh aa).bind fun (g, ab) =>
if (Bn ab 0) then
if true then
j6 a g b true
else
if (geq b 0) then
j6 a g b (!((Ud f 2) && (gle f 4)))
else
if (geq b 16) then
j6 a g b (!(geq f 4))
else
j6 a g b (!false)
else
(Al a 4).bind fun ac =>
if (Bn ac 0) then
j6 a g b true
else
if (geq b 0) then
j6 a g b (!((Ud f 2) && (gle f 4)))
else
if (geq b 16) then
j6 a g b (!(geq f 4))
else
j6 a g b (!false)
def Ags := Ag5 Agw
def Aai (j5 : LB → UInt8 → UInt8 → Ia) (a : LB) : Ia :=
(Kr a ([(73 : UInt8), (68 : UInt8), (51 : UInt8)] : LB)).bind fun n =>
if (!n) then
some (0, 6)
else
if (Ci (Ac a) 10) then
some (0, 24)
else
(Al a 3).bind fun f =>
(Al a 5).bind fun b =>
(
(
(
j5 a f b)))
def Ahy := Aai Ags
abbrev Aa5 := Option (UInt64 × Int)
def Bfp (b : UInt64) : Aa5 :=
some (b, 0)
def Av6 := Bfp
def Akl (j6 : UInt64 → Aa5) (bk4 : UInt64 → Int → Aa5) (a : LB) (b : UInt64) (f : Int) : Aa5 :=
if (Ci f (Ac a)) then
(Al a f).bind fun g =>
(Wq (Ud (Bp 8 f) 0)).bind fun _ =>
bk4 (gor b (Fu (Ad g : UInt64) (GI.toZ (Bp 8 f)).toNat)) (Af f 1)
else
j6 b
def Aa8 (a : LB) : Nat → UInt64 → Int → Aa5
| 0, _, _ => none
| q + 1, b, f => Akl Av6 (Aa8 a q) a b f
def Ao9 a := Aa8 a Ay
def Apk (j4 : LB → UInt64 → Int → Aa5) (a : LB) : Aa5 :=
if ((Ci (Ac a) 1) || (Gf (Ac a) 8)) then
some (0, 2)
else
j4 a 0 0
def Ap6 := Apk Ao9
def Ami (f : LB) (a b : Int) : Option (UInt64 × Int) :=
if (((Ci b 1) || (Gf b 8)) || (Ci a 0)) then
some (0, 2)
else
if (Gf a (Ao (Ac f) b)) then
some (0, 24)
else
(Bb f a (Af a b)).bind fun g =>
(Ap6 g).bind fun (h, k) =>
some (h, k)
def Awj (b : UInt64) (a : Int) : Option Bool :=
if (geq a 8) then
some true
else
(Wq (Ud (Bp 8 a) 0)).bind fun _ =>
some (geq (Cg b (GI.toZ (Bp 8 a)).toNat) 0)
abbrev Aat := Option (LB × Int)
def Avm (a : LB) : Aat :=
some (a, 0)
def Ape := Avm
def Akh (j6 : LB → Aat) (bk4 : Int → LB → Aat) (f : UInt64) (g : LB) (b : Int) (a : LB) : Aat :=
if (Ci b (Ac g)) then
(Wq (Ud (Bp 8 b) 0)).bind fun _ =>
(Al a b).bind fun _ =>
(Sa a b (Ad (Cg f (GI.toZ (Bp 8 b)).toNat) : UInt8)).bind fun k =>
bk4 (Af b 1) k
else
j6 a
def Abc (f : UInt64) (g : LB) : Nat → Int → LB → Aat
| 0, _, _ => none
| q + 1, b, a => Akh Ape (Abc f g q) f g b a
def Apn f g := Abc f g Ay
def Apu (j4 : UInt64 → LB → Int → LB → Aat) (f : UInt64) (h : Int) : Aat :=
if ((Ci h 1) || (Gf h 8)) then
some (([] : LB), 2)
else
(Awj f h).bind fun m =>
if (!m) then
some (([] : LB), 16)
else
(mkI h (0 : UInt8)).bind fun g =>
(Wq (geq h h)).bind fun _ =>
j4 f g 0 g
def Aqd := Apu Apn
def Az9 (g : LB) : Option (LB) :=
some g
def Ase := Az9
def An7 (j6 : LB → Option (LB)) (bk4 : Int → LB → Option (LB)) (a b : Int) (f : UInt64) (h : Int) (g : LB) : Option (LB) :=
if (Ci h (Ac ([(2000 : UInt64), (Ad (Af a 32) : UInt64), (Ad b : UInt64), f, (0 : UInt64), (0 : UInt64)] : LQ))) then
(Al ([(2000 : UInt64), (Ad (Af a 32) : UInt64), (Ad b : UInt64), f, (0 : UInt64), (0 : UInt64)] : LQ) h).bind fun _ =>
(Al ([(2000 : UInt64), (Ad (Af a 32) : UInt64), (Ad b : UInt64), f, (0 : UInt64), (0 : UInt64)] : LQ) h).bind fun k =>
(Aqd k 4).bind fun (m, o) =>
(Db g m).bind fun n =>
bk4 (Af h 1) n
else
j6 g
def Aay (a b : Int) (f : UInt64) : Nat → Int → LB → Option (LB)
| 0, _, _ => none
| q + 1, h, g => An7 Ase (Aay a b f q) a b f h g
def Asp a b f := Aay a b f Ay
def Ar1 (j4 : Int → Int → UInt64 → Int → LB → Option (LB)) (a b : Int) (f : UInt64) : Option (LB) :=
j4 a b f 0 ([(65 : UInt8), (80 : UInt8), (69 : UInt8), (84 : UInt8), (65 : UInt8), (71 : UInt8), (69 : UInt8), (88 : UInt8)] : LB)
def Aqo := Ar1 Asp
def Ah8 (b : LB) (g : UInt64) : Option (Int × Int × Bool) :=
(Ami b 12 4).bind fun (a, m) =>
(Ami b 16 4).bind fun (f, n) =>
if (((Ci a 32) || (Gf a 3032)) || (Gf f 1000)) then
some (0, 0, false)
else
(Aqo (Ao (Ad a : Int) 32) (Ad f : Int) g).bind fun h =>
(Il b h).bind fun k =>
some ((Ao (Ad a : Int) 32), (Ad f : Int), k)
def Aqw (a : LB) : Option (Int × Int) :=
(Kr a ([(65 : UInt8), (80 : UInt8), (69 : UInt8), (84 : UInt8), (65 : UInt8), (71 : UInt8), (69 : UInt8), (88 : UInt8)] : LB)).bind fun f =>
if (!f) then
some (0, 6)
else
if (Ci (Ac a) 32) then
some (0, 24)
else
(Bb a 0 32).bind fun g =>
(Ah8 g 2684354560).bind fun (b, h, k) =>
if (!k) then
some (0, 12)
else
if (Ci (Ac a) (Af b 64)) then
some (0, 24)
else
(Bb a (Ao (Af b 64) 32) (Af b 64)).bind fun m =>
(Aqo b h 2147483648).bind fun n =>
(Il m n).bind fun o =>
if (!o) then
some (0, 12)
else
some ((Af b 64), 0)
def Xa (a : LB) : Option (Int × Int) :=
(Ahy a).bind fun (f, b) =>
if (Bn b 6) then
some (f, b)
else
(Aqw a).bind fun (g, h) =>
some (g, h)
def Ui (b : List UInt8) : Nat → Int → Option (Int × Int)
  | 0, _ => none
  | q + 1, x => Option.bind (Bb b x (Ac b)) fun s => Option.bind (Xa s) fun r =>
    if geq r.2 (6 : Int) = true then some (x, 0)
    else if (geq r.2 (0 : Int) && Gf (Af x r.1) (4000 : Int)) = true then some (0, 4)
    else if Bn r.2 (0 : Int) = true then some (0, r.2)
    else Ui b q (Af x r.1)
def Jq (b : List UInt8) : Option (Int × Int) := Ui b Ay 0
def Ag (a : Int) : Option (Bool × Int) :=
some (false, a)
def Fg (b a : LB) : Option Bool :=
if (Ud (Ac b) (Ac a)) then
(Bb b 0 (Ac a)).bind fun f =>
some (f == a)
else
some false
def Hn (a b : LB) : Option Bool :=
(Fg a b).bind fun f =>
some f
def Awe : Option Bool :=
some false
def Aof := Awe
def Uh (j6 : Option Bool) (bk4 : Int → Option Bool) (a : LB) (b : Int) : Option Bool :=
if (Ci b 2) then
(Al ([([73, 68, 51] : LB), ([65, 80, 69, 84, 65, 71, 69, 88] : LB)] : List LB) b).bind fun f =>
if (Ci (Ac a) (Ac f)) then
(Hn f a).bind fun g =>
if g then
some true
else
bk4 (Af b 1)
else
bk4 (Af b 1)
else
j6
def Im (a : LB) : Nat → Int → Option Bool
| 0, _ => none
| q + 1, b => Uh Aof (Im a q) a b
def Agu a := Im a Ay
def Agx (j4 : LB → Int → Option Bool) (a : LB) : Option Bool :=
j4 a 0
def Pk := Agx Agu
abbrev Bk := Option (UInt32 × Int)
def Aqj (h : UInt32) : Bk :=
some (h, 0)
def Aiy := Aqj
def Adp (j30 : UInt32 → Bk) (bk28 : UInt32 → Int → Bk) (a : LB) (b : LU) (h : UInt32) (m : Int) : Bk :=
if (Ci m (Ac a)) then
(Al a m).bind fun p =>
(Al b (GI.toZ (Aaa (Ad h : UInt8) p))).bind fun _ =>
(Al b (GI.toZ (Aaa (Ad h : UInt8) p))).bind fun u =>
bk28 (Aaa (Cg h (GI.toZ (8 : UInt64)).toNat) u) (Af m 1)
else
j30 h
def Qy (a : LB) (b : LU) : Nat → UInt32 → Int → Bk
| 0, _, _ => none
| q + 1, h, m => Adp Aiy (Qy a b q) a b h m
def Aie a b := Qy a b Ay
def Ajg (j28 : LB → LU → UInt32 → Int → Bk) (f : UInt32) (a : LB) (b : LU) : Bk :=
j28 a b f 0
def Ajx := Ajg Aie
def Ai1 (j27 : UInt32 → LB → LU → Bk) (f : UInt32) (a : LB) (b : LU) : Bk :=
j27 f a b
def Acf := Ai1 Ajx
def Ap4 (bk16 : Int → LU → Bk) (f : UInt32) (a : LB) (g : Int) (o : LU) : Bk :=
bk16 (Af g 1) o
def Aiw bk16 := Ap4 bk16
def Ai4 (j24 : Int → LU → Bk) (f : UInt32) (a : LB) (g : Int) (k : UInt32) (b : LU) : Bk :=
(Al b g).bind fun _ =>
(Sa b g k).bind fun o =>
j24 g o
def Adn bk16 f a := Ai4 (Aiw bk16 f a) f a
def Abx (j23 : Int → UInt32 → LU → Bk) (bk21 : UInt32 → Int → Bk) (f : UInt32) (a : LB) (g : Int) (b : LU) (k : UInt32) (n : Int) : Bk :=
if (Ci n 8) then
bk21 (Aaa (Cg k (GI.toZ (1 : UInt64)).toNat) (Bp 3988292384 (Jg k 1))) (Af n 1)
else
j23 g k b
def Rs (bk16 : Int → LU → Bk) (f : UInt32) (a : LB) (g : Int) (b : LU) : Nat → UInt32 → Int → Bk
| 0, _, _ => none
| q + 1, k, n => Abx (Adn bk16 f a) (Rs bk16 f a g b q) f a g b k n
def Ajp bk16 f a g b := Rs bk16 f a g b Ay
def Acn (j21 : Int → LU → UInt32 → Int → Bk) (j26 : UInt32 → LB → LU → Bk) (f : UInt32) (a : LB) (g : Int) (b : LU) : Bk :=
if (Ci g 256) then
j21 g b (Ad g : UInt32) 0
else
j26 f a b
def Me (f : UInt32) (a : LB) : Nat → Int → LU → Bk
| 0, _, _ => none
| q + 1, g, b => Acn (Ajp (Me f a q) f a) Acf f a g b
def Ajd f a := Me f a Ay
def Akv (j16 : UInt32 → LB → Int → LU → Bk) (f : UInt32) (a : LB) : Bk :=
if (Gf (Ac a) 100000) then
some (0, 4)
else
j16 f a 0 (List.replicate 256 (0 : UInt32))
def Amx := Akv Ajd
def Ah6 (b : LB) : Option (UInt32 × Int) :=
(Amx 4294967295 b).bind fun (f, a) =>
if (Bn a 0) then
some (0, a)
else
some ((Ay3 f), 0)
abbrev Qd := Option (Int × Int × Int × Int × Int × Int)
def Ao2 (a : LI) : Qd :=
(Al a 0).bind fun _ =>
(Al a 0).bind fun h =>
(Al a 1).bind fun _ =>
(Al a 1).bind fun k =>
(Al a 2).bind fun _ =>
(Al a 2).bind fun m =>
(Al a 3).bind fun _ =>
(Al a 3).bind fun n =>
(Al a 4).bind fun _ =>
(Al a 4).bind fun o =>
(Qb h k m n o).bind fun p =>
if (!p) then
some (0, 0, 0, 0, 0, 12)
else
(Agk h k m n o).bind fun u =>
if (!u) then
some (0, 0, 0, 0, 0, 4)
else
some (h, k, m, n, o, 0)
def Ab3 := Ao2
def Acs (j6 : LI → Qd) (bk4 : Int → Int → LI → Qd) (b : LB) (g f : Int) (a : LI) : Qd :=
if (Ci f 5) then
(Al ([(2 : Int), (2 : Int), (2 : Int), (4 : Int), (4 : Int)] : LI) f).bind fun h =>
(Ami b g h).bind fun (v, ae) =>
(Al a f).bind fun _ =>
(Sa a f (Ad v : Int)).bind fun w =>
bk4 (Af g h) (Af f 1) w
else
j6 a
def Md (b : LB) : Nat → Int → Int → LI → Qd
| 0, _, _, _ => none
| q + 1, g, f, a => Acs Ab3 (Md b q) b g f a
def Ac0 b := Md b Ay
def Ajr (j4 : LB → Int → Int → LI → Qd) (b : LB) : Qd :=
(Bb b 0 (Fv 4 (Ac b))).bind fun y =>
(Hn ([84, 84, 65, 49] : LB) y).bind fun aa =>
if (!aa) then
some (0, 0, 0, 0, 0, 12)
else
if (Ci (Ac b) 22) then
some (0, 0, 0, 0, 0, 24)
else
(Ami b 18 4).bind fun (ab, af) =>
(Bb b 0 18).bind fun ac =>
(Ah6 ac).bind fun (ad, ag) =>
if (Bn (Ad ad : UInt64) ab) then
some (0, 0, 0, 0, 0, 22)
else
j4 b 4 0 (List.replicate 5 (0 : Int))
def Pg := Ajr Ac0
abbrev Bl := Option (UInt64 × Int)
def Ao1 (h : UInt64) : Bl :=
some (h, 0)
def Ajf := Ao1
def Ai7 (j30 : UInt64 → Bl) (h b : UInt64) (a : LB) (f : LQ) : Bl :=
j30 h
def Aih := Ai7 Ajf
def Acm (j29 : UInt64 → UInt64 → LB → LQ → Bl) (bk27 : UInt64 → Int → Bl) (a : LB) (b : UInt64) (f : LQ) (h : UInt64) (m : Int) : Bl :=
if (Ci m (Ac a)) then
(Al a m).bind fun p =>
Option.bind (Al f (GI.toZ (Aaa (Ad (Cg h (GI.toZ (56 : UInt64)).toNat) : UInt8) p))) fun _ =>
Option.bind (Al f (GI.toZ (Aaa (Ad (Cg h (GI.toZ (56 : UInt64)).toNat) : UInt8) p))) fun u =>
bk27 (Aaa (Fu h (GI.toZ (8 : UInt64)).toNat) u) (Af m 1)
else
j29 h b a f
def Rl (a : LB) (b : UInt64) (f : LQ) : Nat → UInt64 → Int → Bl
| 0, _, _ => none
| q + 1, h, m => Acm Aih (Rl a b f q) a b f h m
def Aiq a b f := Rl a b f Ay
def Aja (j27 : LB → UInt64 → LQ → UInt64 → Int → Bl) (b : UInt64) (a : LB) (f : LQ) : Bl :=
j27 a b f b 0
def Abz := Aja Aiq
def Aqg (bk16 : Int → LQ → Bl) (b : UInt64) (a : LB) (g : Int) (o : LQ) : Bl :=
bk16 (Af g 1) o
def Ajq bk16 := Aqg bk16
def Ajc (j24 : Int → LQ → Bl) (b : UInt64) (a : LB) (g : Int) (k : UInt64) (f : LQ) : Bl :=
(Al f g).bind fun _ =>
(Sa f g k).bind fun o =>
j24 g o
def Ace bk16 b a := Ajc (Ajq bk16 b a) b a
def Ads (j23 : Int → UInt64 → LQ → Bl) (bk21 : UInt64 → Int → Bl) (b : UInt64) (a : LB) (g : Int) (f : LQ) (k : UInt64) (n : Int) : Bl :=
if (Ci n 8) then
bk21 (Aaa (Fu k (GI.toZ (1 : UInt64)).toNat) (Bp 4823603603198064275 (Cg k (GI.toZ (63 : UInt64)).toNat))) (Af n 1)
else
j23 g k f
def Rf (bk16 : Int → LQ → Bl) (b : UInt64) (a : LB) (g : Int) (f : LQ) : Nat → UInt64 → Int → Bl
| 0, _, _ => none
| q + 1, k, n => Ads (Ace bk16 b a) (Rf bk16 b a g f q) b a g f k n
def Ajj bk16 b a g f := Rf bk16 b a g f Ay
def Aco (j21 : Int → LQ → UInt64 → Int → Bl) (j26 : UInt64 → LB → LQ → Bl) (b : UInt64) (a : LB) (g : Int) (f : LQ) : Bl :=
if (Ci g 256) then
j21 g f (Fu (Ad g : UInt64) (GI.toZ (56 : UInt64)).toNat) 0
else
j26 b a f
def Mm (b : UInt64) (a : LB) : Nat → Int → LQ → Bl
| 0, _, _ => none
| q + 1, g, f => Aco (Ajj (Mm b a q) b a) Abz b a g f
def Aj0 b a := Mm b a Ay
def Aku (j16 : UInt64 → LB → Int → LQ → Bl) (b : UInt64) (a : LB) : Bl :=
if (Gf (Ac a) 100000) then
some (0, 4)
else
j16 b a 0 (List.replicate 256 (0 : UInt64))
def Anx := Aku Aj0
def Aln (a : LB) : Option (UInt64 × Int) :=
(Anx 0 a).bind fun (b, f) =>
some (b, f)
def Aui (a : LB) : Option (UInt64 × Int) :=
if (Gf (Ac a) 64) then
some (0, 2)
else
(Aln a).bind fun (b, f) =>
some (b, 0)
def Ah3 (b : LB) : Option (LB × Int) :=
(Aui b).bind fun (f, a) =>
if (Bn a 0) then
some (([] : LB), a)
else
(Aqd f 8).bind fun (g, h) =>
some (g, h)
def Ab5 (a f : LB) : Option (Bool × Int) :=
(Ah3 f).bind fun (b, g) =>
if ((Bn g 0) || (Bn (Ac a) (Ac b))) then
some (false, 2)
else
(Il a b).bind fun h =>
some (h, 0)
abbrev Ta := Option (LI × Int)
def Arq (a : LI) : Ta :=
(Sd a).bind fun k =>
if (Bn k 0) then
some (([] : LI), 12)
else
some (a, 0)
def Afd := Arq
def Ae7 (j6 : LI → Ta) (bk4 : Int → LI → Ta) (b : LB) (f : LI) (g : Int) (a : LI) : Ta :=
if (Ci g (Ac f)) then
(Ami b (Bp 4 g) 4).bind fun (k, u) =>
(Al a g).bind fun _ =>
(Sa a g (Ad k : Int)).bind fun m =>
bk4 (Af g 1) m
else
j6 a
def Um (b : LB) (f : LI) : Nat → Int → LI → Ta
| 0, _, _ => none
| q + 1, g, a => Ae7 Afd (Um b f q) b f g a
def Ak1 b f := Um b f Ay
def Akp (j4 : LB → LI → Int → LI → Ta) (b : LB) (h : Int) : Ta :=
if ((Ci h 1) || (Gf h 1000)) then
some (([] : LI), 2)
else
if (Ci (Ac b) (Af (Bp 4 h) 4)) then
some (([] : LI), 24)
else
(Ami b (Bp 4 h) 4).bind fun (n, v) =>
(Bb b 0 (Bp 4 h)).bind fun o =>
(Ah6 o).bind fun (p, w) =>
if (Bn (Ad p : UInt64) n) then
some (([] : LI), 22)
else
(mkI h (0 : Int)).bind fun f =>
(Wq (geq h h)).bind fun _ =>
j4 b f 0 f
def Ajl := Akp Ak1
def Bib (a : LX) : Option (LX) :=
some a
def Axw := Bib
def An0 (j6 : LX → Option (LX)) (bk4 : Int → LX → Option (LX)) (f : UInt64) (b : Int) (a : LX) : Option (LX) :=
if (Ci b 8) then
(Wq (Ud (Bp 8 b) 0)).bind fun _ =>
(Al a b).bind fun _ =>
(Sa a b (Ad (Ad (Cg f (GI.toZ (Bp 8 b)).toNat) : Int8) : Int32)).bind fun g =>
bk4 (Af b 1) g
else
j6 a
def Aem (f : UInt64) : Nat → Int → LX → Option (LX)
| 0, _, _ => none
| q + 1, b, a => An0 Axw (Aem f q) f b a
def Azv f := Aem f Ay
def Azo (j4 : UInt64 → Int → LX → Option (LX)) (f : UInt64) : Option (LX) :=
j4 f 0 (List.replicate 16 (0 : Int32))
def Bdd := Azo Azv
def Abe (a : LB) : Option (LX × Int) :=
if (Gf (Ac a) 64) then
some (([(0 : Int32), (0 : Int32), (0 : Int32), (0 : Int32), (0 : Int32), (0 : Int32), (0 : Int32), (0 : Int32), (0 : Int32), (0 : Int32), (0 : Int32), (0 : Int32), (0 : Int32), (0 : Int32), (0 : Int32), (0 : Int32)] : LX), 2)
else
(Aln a).bind fun (f, b) =>
if (Bn b 0) then
some (([(0 : Int32), (0 : Int32), (0 : Int32), (0 : Int32), (0 : Int32), (0 : Int32), (0 : Int32), (0 : Int32), (0 : Int32), (0 : Int32), (0 : Int32), (0 : Int32), (0 : Int32), (0 : Int32), (0 : Int32), (0 : Int32)] : LX), b)
else
(Bdd f).bind fun g =>
some (g, 0)
def Zv (f a b g h : Int) : Option (Int × Int) :=
some (a, b)
abbrev Akw := Option (Int32 × Int32 × Int)
def Ay6 (a : Int) (b : Bool) : Akw :=
if b then
(Wq (Ud (Ao a 1) 0)).bind fun _ =>
some ((Atc (Fu (1 : Int32) (GI.toZ (Ao a 1)).toNat)), (Ao (Fu (1 : Int32) (GI.toZ (Ao a 1)).toNat) 1), 0)
else
some (0, 0, 2)
def Aqk := Ay6
def Apm (j2 : Int → Bool → Akw) (a : Int) : Akw :=
if (geq a 8) then
j2 a (geq a 8)
else
if (geq a 16) then
j2 a (geq a 16)
else
j2 a (geq a 24)
def Agl := Apm Aqk
def Afa (a b : Int) : Option Int :=
(Agl b).bind fun (g, h, f) =>
if (((Bn f 0) || (Ci a 1)) || (Gf a 6)) then
some 2
else
some 0
def Ac2 (a : LB) : Option (LB × Int) :=
if (Ci (Ac a) 5) then
some (([] : LB), 24)
else
if (Gf (Ac a) 41254) then
some (([] : LB), 4)
else
(Bb a 0 (Ao (Ac a) 4)).bind fun f =>
(Ah6 f).bind fun (g, b) =>
if (Bn b 0) then
some (([] : LB), b)
else
(Bb a (Ao (Ac a) 4) (Ac a)).bind fun h =>
(Ap6 h).bind fun (k, m) =>
if ((Bn m 0) || (Bn k (Ad g : UInt64))) then
some (([] : LB), 22)
else
(Bb a 0 (Ao (Ac a) 4)).bind fun n =>
some (n, 0)
def Hl (a : LB) : Option (LB) :=
(
(Db ([] : LB) a).bind fun b =>
some b)
def Bc4 (a : LB) : Option (LB × Int × Int) :=
if (Gf (Ac a) 41250) then
some (([] : LB), 0, 4)
else
(Hl a).bind fun b =>
some (b, (Bp 8 (Ac a)), 0)
def Ayp : Option (Int × Int × UInt64 × UInt64) :=
some (10, 10, 16384, 16384)
def Tl (b : LB) (a : Int) : Option Int :=
if (((Ci a 0) || (Gf a 330000)) || (Bn (Ac b) (Bdw (Af a 7) (GI.toZ (3 : UInt64)).toNat))) then
some 8
else
if (Gf (Jg a 7) 0) then
(Al b (Ao (Ac b) 1)).bind fun f =>
(Wq (Ud (Jg a 7) 0)).bind fun _ =>
if (Bn (Cg f (GI.toZ (Jg a 7)).toNat) 0) then
some 8
else
some 0
else
some 0
def Bgk (g : UInt64) : Option UInt64 :=
some g
def Avr := Bgk
def Aqm (j6 : UInt64 → Option UInt64) (bk4 : UInt64 → Int → Option UInt64) (b f : Int) (h : LB) (k : Int) (g : UInt64) (a : Int) : Option UInt64 :=
if (Ci a f) then
(Al h (Bdw (Af b a) (GI.toZ (3 : UInt64)).toNat)).bind fun m =>
(Wq (Ud (Jg (Af b a) 7) 0)).bind fun _ =>
(Wq (Ud (Fv (Ao f a) (Ao 8 (Jg (Af b a) 7))) 0)).bind fun _ =>
(Wq (Ud a 0)).bind fun _ =>
bk4 (gor g (Fu (Ad (Jg (Cg m (GI.toZ (Jg (Af b a) 7)).toNat) (Ao (Fu (1 : UInt8) (GI.toZ (Fv (Ao f a) (Ao 8 (Jg (Af b a) 7)))).toNat) 1)) : UInt64) (GI.toZ a).toNat)) (Af a (Fv (Ao f a) (Ao 8 (Jg (Af b a) 7))))
else
j6 g
def Afp (b f : Int) (h : LB) (k : Int) : Nat → UInt64 → Int → Option UInt64
| 0, _, _ => none
| q + 1, g, a => Aqm Avr (Afp b f h k q) b f h k g a
def Avi b f h k := Afp b f h k Ay
def Av2 (j4 : Int → Int → LB → Int → UInt64 → Int → Option UInt64) (h : LB) (k b f : Int) : Option UInt64 :=
j4 b f h k 0 0
def Ath := Av2 Avi
abbrev Dz := Option (LB × Int × Int)
def At6 (o : Int) (p : LB) : Dz :=
some (p, o, 0)
def Amq := At6
def As7 (bk27 : Int → Int → LB → Dz) (a : Int) (g : LB) (f b h : Int) (u : LB) : Dz :=
bk27 (Af b 64) h u
def Ah0 bk27 := As7 bk27
def At0 (bk44 : UInt64 → Int → Int → LB → Dz) (a b : Int) (g : LB) (f : Int) (k n : UInt64) (m h : Int) (w : LB) : Dz :=
(Wq (Ud (Fv m (Ao 8 (Jg h 7))) 0)).bind fun _ =>
bk44 (Cg n (GI.toZ (Fv m (Ao 8 (Jg h 7)))).toNat) (Ao m (Fv m (Ao 8 (Jg h 7)))) (Af h (Fv m (Ao 8 (Jg h 7)))) w
def Anp bk44 := At0 bk44
def An9 (j48 : UInt64 → Int → Int → LB → Dz) (a b : Int) (g : LB) (f : Int) (k n : UInt64) (m h : Int) (v : LB) : Dz :=
(Al v (Ao (Ac v) 1)).bind fun _ =>
(Wq (Ud (Fv m (Ao 8 (Jg h 7))) 0)).bind fun _ =>
(Wq (Ud (Jg h 7) 0)).bind fun _ =>
(Al v (Ao (Ac v) 1)).bind fun aa =>
(Al v (Ao (Ac v) 1)).bind fun _ =>
Option.bind (Sa v (Ao (Ac v) 1) (gor aa (Fu (Ad (Jg n (Ao (Fu (1 : UInt64) (GI.toZ (Fv m (Ao 8 (Jg h 7)))).toNat) 1)) : UInt8) (GI.toZ (Jg h 7)).toNat))) fun w =>
j48 n m h w
def Ahs bk44 a b g f k := An9 (Anp bk44 a b g f k) a b g f k
def Aht (j47 : UInt64 → Int → Int → LB → Dz) (j50 : Int → Int → LB → Dz) (a : Int) (g : LB) (f b : Int) (k n : UInt64) (m h : Int) (u : LB) : Dz :=
if (Gf m 0) then
if (geq (Jg h 7) 0) then
(Db u ([(0 : UInt8)] : LB)).bind fun ab =>
j47 n m h ab
else
j47 n m h u
else
j50 b h u
def Oe (bk27 : Int → Int → LB → Dz) (a : Int) (g : LB) (f b : Int) (k : UInt64) : Nat → UInt64 → Int → Int → LB → Dz
| 0, _, _, _, _ => none
| q + 1, n, m, h, u => Aht (Ahs (Oe bk27 a g f b k q) a b g f k) (Ah0 bk27 a g f) a g f b k n m h u
def An6 bk27 a g f b k := Oe bk27 a g f b k Ay
def Anu (j44 : Int → UInt64 → UInt64 → Int → Int → LB → Dz) (j52 : Int → LB → Dz) (a : Int) (g : LB) (f b o : Int) (p : LB) : Dz :=
if (Ci b a) then
(Ath g f b (Fv 64 (Ao a b))).bind fun k =>
j44 b k k (Fv 64 (Ao a b)) o p
else
j52 o p
def Yj (a : Int) (g : LB) (f : Int) : Nat → Int → Int → LB → Dz
| 0, _, _, _ => none
| q + 1, b, o, p => Anu (An6 (Yj a g f q) a g f) Amq a g f b o p
def Am4 a g f := Yj a g f Ay
def Aqi (j27 : Int → LB → Int → Int → Int → LB → Dz) (g : LB) (f y a : Int) : Dz :=
(Tl g f).bind fun ac =>
if (Bn ac 0) then
some (([] : LB), 0, 8)
else
if (((Ci y 0) || (Gf y a)) || (Gf a f)) then
some (([] : LB), 0, 2)
else
j27 a g f y 0 ([] : LB)
def Ap3 := Aqi Am4
def Arx (a b : Int) (f g : UInt64) : Option Int :=
if (!((geq (Fv (Arb a 0) 24) a) && ((geq (Fv (Arb b 0) 24) b) && ((geq (Fv f 68719476735) f) && ((geq (Fv g 68719476735) g) && true))))) then
some 8
else
some 0
def Akz := Arx
def Afc (j4 : Int → Int → UInt64 → UInt64 → Option Int) (a b : Int) (f g : UInt64) : Option Int :=
(
(
j4 a b f g))
def Alj := Afc Akz
def Ae9 (j3 : Int → Int → UInt64 → UInt64 → Option Int) (a b : Int) (f g : UInt64) : Option Int :=
(
(
j3 a b f g))
def Am3 := Ae9 Alj
def Adg (g : LB) (b f a : Int) : Option (UInt64 × Int) :=
(Tl g b).bind fun h =>
if (Bn h 0) then
some (0, 8)
else
if (((Ci a 0) || (Gf a 64)) || (Ci f 0)) then
some (0, 2)
else
if (Gf f (Ao b a)) then
some (0, 24)
else
(Ath g b f a).bind fun k =>
some (k, 0)
def Fi (a : UInt64) : Option Int :=
if (geq a 0) then
some 64
else
(Al ([(0 : UInt8), (1 : UInt8), (56 : UInt8), (2 : UInt8), (57 : UInt8), (49 : UInt8), (28 : UInt8), (3 : UInt8), (61 : UInt8), (58 : UInt8), (42 : UInt8), (50 : UInt8), (38 : UInt8), (29 : UInt8), (17 : UInt8), (4 : UInt8), (62 : UInt8), (47 : UInt8), (59 : UInt8), (36 : UInt8), (45 : UInt8), (43 : UInt8), (51 : UInt8), (22 : UInt8), (53 : UInt8), (39 : UInt8), (33 : UInt8), (30 : UInt8), (24 : UInt8), (18 : UInt8), (12 : UInt8), (5 : UInt8), (63 : UInt8), (55 : UInt8), (48 : UInt8), (27 : UInt8), (60 : UInt8), (41 : UInt8), (37 : UInt8), (16 : UInt8), (46 : UInt8), (35 : UInt8), (44 : UInt8), (21 : UInt8), (52 : UInt8), (32 : UInt8), (23 : UInt8), (11 : UInt8), (54 : UInt8), (26 : UInt8), (40 : UInt8), (15 : UInt8), (34 : UInt8), (20 : UInt8), (31 : UInt8), (10 : UInt8), (25 : UInt8), (14 : UInt8), (19 : UInt8), (9 : UInt8), (13 : UInt8), (8 : UInt8), (7 : UInt8), (6 : UInt8)] : LB) (GI.toZ (Cg (Bp (Jg a (Atc a)) 285870213051353865) (GI.toZ (58 : UInt64)).toNat))).bind fun b =>
some (Ad b : Int)
abbrev Hr := Option (Int × Int × Int)
def Ayh : Hr :=
some (0, 0, 24)
def Ao0 := Ayh
def Aro (j10 : Hr) : Hr :=
j10
def Arz := Aro Ao0
def Ale (j9 : Hr) (f a : Int) : Hr :=
if (geq f 48) then
some (f, (Af 0 (Af a f)), 0)
else
j9
def Aky := Ale Arz
def Ald (j8 : Int → Int → Hr) (f b a : Int) : Hr :=
if (Ci f (Fv 48 (Ao b a))) then
some (f, (Af (Af (0 : Int) (1 : Int)) (Af a f)), 0)
else
j8 f a
def Ak7 := Ald Aky
def Ak3 (j7 : Int → Int → Int → Hr) (h : Int) (k : UInt64) (a : Int) (g : LB) (b : Int) : Hr :=
if (Bn h 0) then
some (0, 0, h)
else
(Fi (Ay3 k)).bind fun f =>
j7 f b a
def Alc := Ak3 Ak7
def Zx (j6 : Int → UInt64 → Int → LB → Int → Hr) (g : LB) (b a : Int) : Hr :=
(Tl g b).bind fun m =>
if (Bn m 0) then
some (0, 0, m)
else
if (Ci a 0) then
some (0, 0, 2)
else
if (Ud a b) then
some (0, 0, 24)
else
(
(
(Adg g b a (Fv 48 (Ao b a))).bind fun (k, h) =>
j6 h k a g b))
def Aex := Zx Alc
def Anc (b : UInt32) (a : Int) : Option Bool :=
(Wq (Ud a 0)).bind fun _ =>
some (Ud (Cg b (GI.toZ a).toNat) 48)
abbrev Ao8 := Option (UInt32 × Int × Int)
def Anb (a b f : Int) (g : LB) (h k : Int) : Ao8 :=
(Adg g h b k).bind fun (m, n) =>
if (Bn n 0) then
some (0, 0, n)
else
if (Ci f 48) then
(Wq (Ud a 0)).bind fun _ =>
some ((gor (Fu (Ad f : UInt32) (GI.toZ a).toNat) (Ad m : UInt32)), (Af b k), 0)
else
(Anc (Ad m : UInt32) a).bind fun u =>
if (!u) then
some (0, 0, 12)
else
some ((Ad m : UInt32), (Af b k), 0)
def Ah1 := Anb
def An8 (j2 : Int → Int → Int → LB → Int → Int → Ao8) (g : LB) (h v a : Int) : Ao8 :=
(Tl g h).bind fun o =>
if (Bn o 0) then
some (0, 0, o)
else
if ((Ci a 0) || (Gf a 24)) then
some (0, 0, 2)
else
(Aex g h v).bind fun (f, b, p) =>
if (Bn p 0) then
some (0, 0, p)
else
if (geq f 48) then
j2 a b f g h 32
else
j2 a b f g h a
def Aqy := An8 Ah1
def Am7 (a f : Int) (g h : UInt64) (b : UInt32) : Option (Int × UInt32) :=
(Wq (Ud a 0)).bind fun _ =>
if (geq (Cg b (GI.toZ a).toNat) 0) then
some (0, b)
else
(Wq (Ud a 0)).bind fun _ =>
some (1, (Ao b (Fu (1 : UInt32) (GI.toZ a).toNat)))
abbrev Jt := Option (UInt32 × Int × Int × Int × UInt64 × UInt64 × Int)
def Ark (f : UInt32) (k w m : Int) (a n : UInt64) : Jt :=
some (f, k, w, m, (Af a (Ao (Ad f : UInt64) (Cg a (GI.toZ (4 : UInt64)).toNat))), n, 0)
def Alk := Ark
def Am6 (j10 : UInt32 → Int → Int → Int → UInt64 → UInt64 → Jt) (f : UInt32) (k m : Int) (a n : UInt64) (w : Int) : Jt :=
j10 f k w m a n
def Anf := Am6 Alk
def Anh (j9 : UInt32 → Int → Int → UInt64 → UInt64 → Int → Jt) (f : UInt32) (k b : Int) (a : UInt64) (m : Int) (n : UInt64) : Jt :=
if (Gf b 0) then
(Wq (Ud b 0)).bind fun _ =>
if (Ci (Af a (Ao (Ad f : UInt64) (Cg a (GI.toZ (4 : UInt64)).toNat))) (Fu (16 : UInt64) (GI.toZ b).toNat)) then
j9 f k m a n (Ao b 1)
else
if (Ci b 24) then
(Wq (Ud b 0)).bind fun _ =>
if (Gf (Af a (Ao (Ad f : UInt64) (Cg a (GI.toZ (4 : UInt64)).toNat))) (Fu (32 : UInt64) (GI.toZ b).toNat)) then
j9 f k m a n (Af b 1)
else
j9 f k m a n b
else
j9 f k m a n b
else
if (Ci b 24) then
(Wq (Ud b 0)).bind fun _ =>
if (Gf (Af a (Ao (Ad f : UInt64) (Cg a (GI.toZ (4 : UInt64)).toNat))) (Fu (32 : UInt64) (GI.toZ b).toNat)) then
j9 f k m a n (Af b 1)
else
j9 f k m a n b
else
j9 f k m a n b
def Ac3 := Anh Anf
def Anj (j8 : UInt32 → Int → Int → UInt64 → Int → UInt64 → Jt) (b h : Int) (a g : UInt64) (f : UInt32) (k : Int) : Jt :=
(Am7 b h a g f).bind fun (ad, o) =>
if (geq ad 1) then
if (Gf h 0) then
(Wq (Ud h 0)).bind fun _ =>
if (Ci (Af g (Ao (Ad o : UInt64) (Cg g (GI.toZ (4 : UInt64)).toNat))) (Fu (16 : UInt64) (GI.toZ h).toNat)) then
j8 f k b a (Ao h 1) (Af g (Ao (Ad o : UInt64) (Cg g (GI.toZ (4 : UInt64)).toNat)))
else
if (Ci h 24) then
(Wq (Ud h 0)).bind fun _ =>
if (Gf (Af g (Ao (Ad o : UInt64) (Cg g (GI.toZ (4 : UInt64)).toNat))) (Fu (32 : UInt64) (GI.toZ h).toNat)) then
j8 f k b a (Af h 1) (Af g (Ao (Ad o : UInt64) (Cg g (GI.toZ (4 : UInt64)).toNat)))
else
j8 f k b a h (Af g (Ao (Ad o : UInt64) (Cg g (GI.toZ (4 : UInt64)).toNat)))
else
j8 f k b a h (Af g (Ao (Ad o : UInt64) (Cg g (GI.toZ (4 : UInt64)).toNat)))
else
if (Ci h 24) then
(Wq (Ud h 0)).bind fun _ =>
if (Gf (Af g (Ao (Ad o : UInt64) (Cg g (GI.toZ (4 : UInt64)).toNat))) (Fu (32 : UInt64) (GI.toZ h).toNat)) then
j8 f k b a (Af h 1) (Af g (Ao (Ad o : UInt64) (Cg g (GI.toZ (4 : UInt64)).toNat)))
else
j8 f k b a h (Af g (Ao (Ad o : UInt64) (Cg g (GI.toZ (4 : UInt64)).toNat)))
else
j8 f k b a h (Af g (Ao (Ad o : UInt64) (Cg g (GI.toZ (4 : UInt64)).toNat)))
else
j8 f k b a h g
def Ah4 := Anj Ac3
def Amw (j7 : Int → Int → UInt64 → UInt64 → UInt32 → Int → Jt) (p : Int) (u : LB) (v b h : Int) (a g : UInt64) : Jt :=
(Adg u v p 1).bind fun (ae, aa) =>
if (Bn aa 0) then
some (0, 0, 0, 0, 0, 0, aa)
else
if (geq ae 0) then
(Adg u v (Af p 1) b).bind fun (af, ab) =>
if (Bn ab 0) then
some (0, 0, 0, 0, 0, 0, ab)
else
j7 b h a g (Ad af : UInt32) (Af (Af p 1) b)
else
(Aqy u v (Af p 1) h).bind fun (y, ag, ac) =>
if (Bn ac 0) then
some (0, 0, 0, 0, 0, 0, ac)
else
(Wq (Ud b 0)).bind fun _ =>
if (Ci (Af y (Fu (1 : UInt32) (GI.toZ b).toNat)) y) then
some (0, 0, 0, 0, 0, 0, 12)
else
j7 b h a g (Af y (Fu (1 : UInt32) (GI.toZ b).toNat)) ag
def Ano := Amw Ah4
def Anw (j6 : Int → LB → Int → Int → Int → UInt64 → UInt64 → Jt) (u : LB) (v p b h : Int) (a g : UInt64) : Jt :=
(Tl u v).bind fun ah =>
if (Bn ah 0) then
some (0, 0, 0, 0, 0, 0, 8)
else
(Am3 b h a g).bind fun ai =>
if (Bn ai 0) then
some (0, 0, 0, 0, 0, 0, 8)
else
j6 p u v b h a g
def Aev := Anw Ano
abbrev Bj := Option (LU × Int × Int)
def Asq (k : Int) (m : LU) : Bj :=
some (m, k, 0)
def Ai8 := Asq
def Aik (bk16 : Int → Int → (List (Int × Int × UInt64 × UInt64 × Unit)) → LU → Bj) (a f : Int) (g : LB) (b k v : Int) (w : UInt32) (h : Int) (ag : List (Int × Int × UInt64 × UInt64 × Unit)) (m : LU) : Bj :=
(Db m ([w] : LU)).bind fun ak =>
bk16 (Af k v) (Af h 1) ag ak
def Aaq bk16 := Aik bk16
def Tw (j22 : Int → Int → UInt32 → Int → (List (Int × Int × UInt64 × UInt64 × Unit)) → LU → Bj) (a f : Int) (g : LB) (b k h y : Int) (w : UInt32) (v : Int) (n : List (Int × Int × UInt64 × UInt64 × Unit)) (m : LU) (aa ab : Int) (ac ad : UInt64) : Bj :=
if (Bn y 0) then
some (([] : LU), 0, y)
else
(Wq (Bn a 0)).bind fun _ =>
(Al n (Lk h a)).bind fun _ =>
(Sa n (Lk h a) (aa, ab, ac, ad, ())).bind fun ag =>
j22 k v w h ag m
def Ty bk16 a f g b := Tw (Aaq bk16 a f g b) a f g b
def Tz (j21 : Int → Int → Int → UInt32 → Int → (List (Int × Int × UInt64 × UInt64 × Unit)) → LU → Int → Int → UInt64 → UInt64 → Bj) (j24 : Int → LU → Bj) (a f : Int) (g : LB) (b k h : Int) (n : List (Int × Int × UInt64 × UInt64 × Unit)) (m : LU) : Bj :=
if (Ci h (Bp f a)) then
(Ap3 g b k (Fv (Af k 81) b)).bind fun (ah, ae, af) =>
if (Bn af 0) then
some (([] : LU), 0, af)
else
(Wq (Bn a 0)).bind fun _ =>
(Al n (Lk h a)).bind fun _ =>
(
(
(Al n (Lk h a)).bind fun p =>
(
(Aev ah ae 0 p.1 p.2.1 p.2.2.1 p.2.2.2.1).bind fun (w, v, aa, ab, ac, ad, y) =>
j21 k h y w v n m aa ab ac ad)))
else
j24 k m
def Mh (a f : Int) (g : LB) (b : Int) : Nat → Int → Int → (List (Int × Int × UInt64 × UInt64 × Unit)) → LU → Bj
| 0, _, _, _, _ => none
| q + 1, k, h, n, m => Tz (Ty (Mh a f g b q) a f g b) Ai8 a f g b k h n m
def Aiv a f g b := Mh a f g b Ay
def Ajo (j16 : Int → Int → LB → Int → Int → Int → (List (Int × Int × UInt64 × UInt64 × Unit)) → LU → Bj) (a f : Int) (g : LB) (b : Int) (o : List (Int × Int × UInt64 × UInt64 × Unit)) : Bj :=
j16 a f g b 0 0 o ([] : LU)
def Aaw := Ajo Aiv
def Aim (j15 : Int → Int → LB → Int → (List (Int × Int × UInt64 × UInt64 × Unit)) → Bj) (bk13 : Int → (List (Int × Int × UInt64 × UInt64 × Unit)) → Bj) (a f : Int) (g : LB) (b u : Int) (o : List (Int × Int × UInt64 × UInt64 × Unit)) : Bj :=
if (Ci u 6) then
(Ayp).bind fun (al, ae, af, am) =>
(Al o u).bind fun _ =>
(Sa o u (al, ae, af, am, ())).bind fun an =>
bk13 (Af u 1) an
else
j15 a f g b o
def Aau (a f : Int) (g : LB) (b : Int) : Nat → Int → (List (Int × Int × UInt64 × UInt64 × Unit)) → Bj
| 0, _, _ => none
| q + 1, u, o => Aim Aaw (Aau a f g b q) a f g b u o
def Tg a f g b := Aau a f g b Ay
def Ack (j13 : Int → Int → LB → Int → Int → (List (Int × Int × UInt64 × UInt64 × Unit)) → Bj) (a f : Int) (g : LB) (b : Int) : Bj :=
j13 a f g b 0 (List.replicate 6 ((0 : Int), (0 : Int), (0 : UInt64), (0 : UInt64), ()))
def Ac9 := Ack Tg
abbrev Asu := Option (Int × LX × LX × Int)
def Bhe (a : Int) (b : LX) (f : Bool) : Asu :=
if f then
some (10, b, (List.replicate 16 (0 : Int32)), 0)
else
if (geq a 16) then
some (9, b, (List.replicate 16 (0 : Int32)), 0)
else
some (0, (List.replicate 16 (0 : Int32)), (List.replicate 16 (0 : Int32)), 2)
def Av8 := Bhe
def Awb (j2 : Int → LX → Bool → Asu) (a : Int) (b : LX) : Asu :=
if (geq a 8) then
j2 a b (geq a 8)
else
j2 a b (geq a 24)
def Aua := Awb Av8
def Bby (a : Int) (f : LX) : Option (Int × Int32 × Int × LX × LX × Int) :=
(Aua a f).bind fun (g, h, k, b) =>
if (Bn b 0) then
some (0, 0, 0, (List.replicate 16 (0 : Int32)), (List.replicate 16 (0 : Int32)), b)
else
some (a, 0, g, h, k, 0)
def Ym (a : UInt32) : Option Int32 :=
some (Aaa (Ad (Cg a (GI.toZ (1 : UInt64)).toNat) : Int32) (Atc (Ad (Jg a 1) : Int32)))
def Af4 (a : Int) (k : Int32) (b : Int) (f m : LX) : Option Int :=
(Aua a f).bind fun (g, n, o, h) =>
if ((Bn h 0) || (Bn g b)) then
some 8
else
some 0
def Apg (a : Int) : Option (Int × Int) :=
if (geq a 8) then
some (4, 0)
else
if (geq a 16) then
if (geq a 16) then
some (5, 0)
else
some (0, 2)
else
if (geq a 24) then
some (5, 0)
else
some (0, 2)
def Aj2 (a : Int) (b : Int32) : Option Int32 :=
(Wq (Ud a 0)).bind fun _ =>
(Wq (Ud a 0)).bind fun _ =>
some (Ad (Bdw (Ao (Fu (Ad b : Int) (GI.toZ a).toNat) (Ad b : Int)) (GI.toZ a).toNat) : Int32)
def Af1 (b : Int) (f : Int32) : Option (Int32 × Int) :=
(Apg b).bind fun (g, a) =>
if (Bn a 0) then
some (0, a)
else
(Aj2 g f).bind fun h =>
some (h, 0)
def Aes (a : Int) (b f : LX) : Option Int :=
if ((Bn a 9) && (Bn a 10)) then
some 8
else
some 0
abbrev Tx := Option (Int32 × Int)
def Ars (g : Int32) (a : Int) (b f : LX) : Tx :=
(Wq (Ud a 0)).bind fun _ =>
some ((Cg g (GI.toZ a).toNat), 0)
def Alh := Ars
def Afg (j6 : Int32 → Int → LX → LX → Tx) (bk4 : Int32 → Int → Tx) (b : LX) (a : Int) (f : LX) (g : Int32) (h : Int) : Tx :=
if (Ci h 16) then
(Al b h).bind fun m =>
(Al f h).bind fun _ =>
(Al f h).bind fun n =>
bk4 (Af g (Bp m n)) (Af h 1)
else
j6 g a b f
def Uk (b : LX) (a : Int) (f : LX) : Nat → Int32 → Int → Tx
| 0, _, _ => none
| q + 1, g, h => Afg Alh (Uk b a f q) b a f g h
def Ak2 b a f := Uk b a f Ay
def Ak9 (j4 : LX → Int → LX → Int32 → Int → Tx) (a : Int) (b f : LX) : Tx :=
(Aes a b f).bind fun k =>
if (Bn k 0) then
some (0, k)
else
(Wq (Ud (Ao a 1) 0)).bind fun _ =>
j4 b a f (Fu (1 : Int32) (GI.toZ (Ao a 1)).toNat) 0
def Amz := Ak9 Ak2
def Ama (a : Int) : Option Int32 :=
if (geq a 0) then
some 4
else
if (Ci a 4) then
some 2
else
some 1
abbrev Tn := Option (Int × LX × LX × Int)
def Bap (g : Int) (b f : LX) : Tn :=
some (g, b, f, 0)
def Art := Bap
def Afb (j6 : Int → LX → LX → Tn) (bk4 : Int → LX → Tn) (h : Int32) (f : LX) (g a : Int) (b : LX) : Tn :=
if (Ci a 16) then
(Al f a).bind fun m =>
if (geq m 0) then
bk4 (Af a 1) b
else
if ((Ci m 0) == (Ci h 0)) then
(Al b a).bind fun _ =>
(Al b a).bind fun o =>
(Ama a).bind fun p =>
(Al b a).bind fun _ =>
(Sa b a (Af o p)).bind fun u =>
bk4 (Af a 1) u
else
(Al b a).bind fun _ =>
(Al b a).bind fun v =>
(Ama a).bind fun w =>
(Al b a).bind fun _ =>
(Sa b a (Ao v w)).bind fun y =>
bk4 (Af a 1) y
else
j6 g b f
def Un (h : Int32) (f : LX) (g : Int) : Nat → Int → LX → Tn
| 0, _, _ => none
| q + 1, a, b => Afb Art (Un h f g q) h f g a b
def Arl h f g := Un h f g Ay
def Ak8 (j4 : Int32 → LX → Int → Int → LX → Tn) (g : Int) (k f : LX) (h : Int32) : Tn :=
(Aes g k f).bind fun n =>
if (Bn n 0) then
some (0, (List.replicate 16 (0 : Int32)), (List.replicate 16 (0 : Int32)), n)
else
if (geq h 0) then
some (g, k, f, 0)
else
j4 h f g 0 k
def Ams := Ak8 Arl
abbrev Apl := Option (Int × LX × LX × Int)
def Aub (g : Int32) (b : Int) (f a : LX) : Apl :=
(Al (Vn a 1 ((16 : Int) - (1 : Int)) (Alq a 0 ((16 : Int) - (0 : Int)))) 0).bind fun _ =>
(Sa (Vn a 1 ((16 : Int) - (1 : Int)) (Alq a 0 ((16 : Int) - (0 : Int)))) 0 g).bind fun k =>
some (b, f, k, 0)
def Am1 := Aub
def Ahw (j2 : Int32 → Int → LX → LX → Apl) (b : Int) (f a : LX) (g : Int32) : Apl :=
(Aes b f a).bind fun h =>
if (Bn h 0) then
some (0, (List.replicate 16 (0 : Int32)), (List.replicate 16 (0 : Int32)), h)
else
(
(vwI 16 1 16).bind fun _ =>
(vwI 16 0 16).bind fun _ =>
j2 g b f a)
def Aqq := Ahw Am1
def Asf (a : Int) (b f : LX) (g h : Int32) : Option (Int × LX × LX) :=
(Ams a b f h).bind fun (k, m, n, v) =>
(Aqq k m n g).bind fun (o, p, u, w) =>
some (o, p, u)
def Aox (b : Int) (f g : LX) (a : Int32) : Option (Int32 × Int × LX × LX × Int) :=
(Amz b f g).bind fun (h, k) =>
if (Bn k 0) then
some (0, 0, (List.replicate 16 (0 : Int32)), (List.replicate 16 (0 : Int32)), k)
else
(Asf b f g (Af a h) a).bind fun (m, n, o) =>
some ((Af a h), m, n, o, 0)
def Kn (a : Int) (b : Int32) (f : Int) (g h : LX) (o : Int32) : Option (Int32 × Int × Int32 × Int × LX × LX × Int) :=
(Af4 a b f g h).bind fun k =>
if (Bn k 0) then
some (0, 0, 0, 0, (List.replicate 16 (0 : Int32)), (List.replicate 16 (0 : Int32)), k)
else
(Af1 a b).bind fun (m, y) =>
(Aox f g h o).bind fun (n, p, u, v, w) =>
(
some ((Af n m), a, (Af n m), p, u, v, w))
def Aqp (a : Int) (b : LX) : Option Int :=
if ((Ci a 1) || (Gf a 6)) then
some 2
else
if (Gf (Ac b) 4000) then
some 4
else
(Wq (Bn a 0)).bind fun _ =>
if (Bn (Lk (Ac b) a) 0) then
some 2
else
some 0
def Gl (a : LX) : Option (LX) :=
(
(Db ([] : LX) a).bind fun b =>
some b)
abbrev Fm := Option (LX × Int)
def Bdg (f : LX) : Fm :=
some (f, 0)
def As4 := Bdg
def Atp (bk12 : Int → LX → Fm) (b a : Int) (h : LX) : Fm :=
bk12 (Af a b) h
def Anl bk12 := Atp bk12
def Ah2 (j20 : Int → LX → Fm) (bk18 : Int → LX → Fm) (b a g : Int) (h : LX) : Fm :=
if (Ud g 0) then
(Wq (decide (0 ≤ (Af g 1) ∧ (Af g 1) < ((Af a b) - a)))).bind fun _ =>
(Wq (decide (0 ≤ g ∧ g < ((Af a b) - a)))).bind fun _ =>
(Al h (a + (Af g 1))).bind fun o =>
(Al h (a + g)).bind fun p =>
(Wq (decide (0 ≤ g ∧ g < ((Af a b) - a)))).bind fun _ =>
(Sa h (a + g) (Ao o p)).bind fun u =>
bk18 (Ao g 1) u
else
j20 a h
def Yp (bk12 : Int → LX → Fm) (b a : Int) : Nat → Int → LX → Fm
| 0, _, _ => none
| q + 1, g, h => Ah2 (Anl bk12 b) (Yp bk12 b a q) b a g h
def Anv bk12 b a := Yp bk12 b a Ay
def Am8 (j18 : Int → Int → LX → Fm) (b a : Int) (k : LX) : Fm :=
j18 a (Ao (Ao ((Af a b) - a) 1) 1) k
def Ahu bk12 b := Am8 (Anv bk12 b) b
def Amu (j17 : Int → LX → Fm) (j22 : LX → Fm) (b a : Int) (f : LX) : Fm :=
if (Ci a (Ac f)) then
(vwI (Ac f) a (Af a b)).bind fun _ =>
if (Gf (Ao ((Af a b) - a) 1) 0) then
(Wq (decide (0 ≤ (Ao ((Af a b) - a) 1) ∧ (Ao ((Af a b) - a) 1) < ((Af a b) - a)))).bind fun _ =>
Option.bind (Wq (decide (0 ≤ (Ao (Ao ((Af a b) - a) 1) 1) ∧ (Ao (Ao ((Af a b) - a) 1) 1) < ((Af a b) - a)))) fun _ =>
(Al f (a + (Ao ((Af a b) - a) 1))).bind fun v =>
(Al f (a + (Ao (Ao ((Af a b) - a) 1) 1))).bind fun w =>
(Wq (decide (0 ≤ (Ao ((Af a b) - a) 1) ∧ (Ao ((Af a b) - a) 1) < ((Af a b) - a)))).bind fun _ =>
(Sa f (a + (Ao ((Af a b) - a) 1)) (Af v (Cn w 2))).bind fun y =>
j17 a y
else
j17 a f
else
j22 f
def Sm (b : Int) : Nat → Int → LX → Fm
| 0, _, _ => none
| q + 1, a, f => Amu (Ahu (Sm b q) b) As4 b a f
def Am9 b := Sm b Ay
def Apj (j12 : Int → Int → LX → Fm) (b : Int) (m : LX) : Fm :=
(Aqp b m).bind fun n =>
if (Bn n 0) then
some (([] : LX), n)
else
(Gl m).bind fun aa =>
j12 b 0 aa
def As2 := Apj Am9
def Aw1 : Option Int :=
some 0
def Apv := Aw1
def Ab6 (j6 : Option Int) (bk4 : Int → Option Int) (b f : Int32) (a : LX) (g : Int) : Option Int :=
if (Ci g (Ac a)) then
(Al a g).bind fun h =>
if ((Ci h b) || (Gf h f)) then
some 16
else
bk4 (Af g 1)
else
j6
def Ri (b f : Int32) (a : LX) : Nat → Int → Option Int
| 0, _ => none
| q + 1, g => Ab6 Apv (Ri b f a q) b f a g
def Apy b f a := Ri b f a Ay
def Ail (j4 : Int32 → Int32 → LX → Int → Option Int) (m : Int) (a : LX) : Option Int :=
(Agl m).bind fun (b, f, k) =>
if (Bn k 0) then
some k
else
if (Gf (Ac a) 4000) then
some 4
else
j4 b f a 0
def Afw := Ail Apy
abbrev Bo := Option (LX × Int)
def Ahp (a b : Int) (k : LX) : Bo :=
(As2 a k).bind fun (ah, af) =>
if (Bn af 0) then
some (([] : LX), af)
else
(Afw b ah).bind fun ae =>
if (Bn ae 0) then
some (([] : LX), ae)
else
some (ah, 0)
def Lf := Ahp
def Ahm (bk13 : Int → (List (Int × Int32 × (Int × LX × LX × Unit) × Unit)) → LX → Bo) (a : Int) (f : LU) (b g : Int) (w : Int32) (u : Int) (h : List (Int × Int32 × (Int × LX × LX × Unit) × Unit)) (k : LX) (y : Int) (v : Int32) (aa : Int) (ab ac : LX) : Bo :=
if (Bn u 0) then
some (([] : LX), u)
else
(Sa h (Lk g a) (y, v, (aa, ab, ac, ()), ())).bind fun ai =>
(Db k ([w] : LX)).bind fun aj =>
bk13 (Af g 1) ai aj
def Zi bk13 := Ahm bk13
def Kz (j16 : Int → Int32 → Int → (List (Int × Int32 × (Int × LX × LX × Unit) × Unit)) → LX → Int → Int32 → Int → LX → LX → Bo) (j18 : Int → Int → LX → Bo) (f : LU) (a b g : Int) (h : List (Int × Int32 × (Int × LX × LX × Unit) × Unit)) (k : LX) : Bo :=
if (Ci g (Ac f)) then
(Al f g).bind fun ag =>
(Wq (Bn a 0)).bind fun _ =>
(Al h (Lk g a)).bind fun _ =>
(
(Al h (Lk g a)).bind fun m =>
(
(Ym ag).bind fun ae =>
(
(Kn m.1 m.2.1 m.2.2.1.1 m.2.2.1.2.1 m.2.2.1.2.2.1 ae).bind fun (w, y, v, aa, ab, ac, u) =>
j16 g w u h k y v aa ab ac)))
else
j18 a b k
def Ib (f : LU) (a b : Int) : Nat → Int → (List (Int × Int32 × (Int × LX × LX × Unit) × Unit)) → LX → Bo
| 0, _, _, _ => none
| q + 1, g, h, k => Kz (Zi (Ib f a b q) a f b) Lf f a b g h k
def Ahf f a b := Ib f a b Ay
def Ahl (j13 : LU → Int → Int → Int → (List (Int × Int32 × (Int × LX × LX × Unit) × Unit)) → LX → Bo) (f : LU) (a b : Int) (n : List (Int × Int32 × (Int × LX × LX × Unit) × Unit)) : Bo :=
j13 f a b 0 n ([] : LX)
def Zm := Ahl Ahf
def Ahd (j12 : LU → Int → Int → (List (Int × Int32 × (Int × LX × LX × Unit) × Unit)) → Bo) (bk10 : Int → (List (Int × Int32 × (Int × LX × LX × Unit) × Unit)) → Bo) (f : LU) (a b : Int) (o : LX) (p : Int) (n : List (Int × Int32 × (Int × LX × LX × Unit) × Unit)) : Bo :=
if (Ci p 6) then
(Bby b o).bind fun (ak, af, ae, al, am, v) =>
(Al n p).bind fun _ =>
(Sa n p (ak, af, (ae, al, am, ()), ())).bind fun an =>
bk10 (Af p 1) an
else
j12 f a b n
def Zc (f : LU) (a b : Int) (o : LX) : Nat → Int → (List (Int × Int32 × (Int × LX × LX × Unit) × Unit)) → Bo
| 0, _, _ => none
| q + 1, p, n => Ahd Zm (Zc f a b o q) f a b o p n
def Qk f a b o := Zc f a b o Ay
def Aar (j10 : LU → Int → Int → LX → Int → (List (Int × Int32 × (Int × LX × LX × Unit) × Unit)) → Bo) (a b : Int) (o : LX) (f : LU) : Bo :=
j10 f a b o 0 (List.replicate 6 ((0 : Int), (0 : Int32), ((0 : Int), (List.replicate 16 (0 : Int32)), (List.replicate 16 (0 : Int32)), ()), ()))
def Ug := Aar Qk
def Wy (a h : Int) (u : LX) (f : Int) (v : LB) : Option (LX × Int) :=
(Afa a h).bind fun k =>
if (Bn k 0) then
some (([] : LX), k)
else
if (Ci f 1) then
some (([] : LX), 2)
else
(Wq (Bn a 0)).bind fun _ =>
if (Gf f (Cn 4000 a)) then
some (([] : LX), 2)
else
(Ac2 v).bind fun (w, m) =>
if (Bn m 0) then
some (([] : LX), m)
else
(Bc4 w).bind fun (n, b, o) =>
if (Bn o 0) then
some (([] : LX), o)
else
(Ac9 a f n b).bind fun (y, g, p) =>
if (Bn p 0) then
some (([] : LX), p)
else
if (Ud (Ao b g) 8) then
some (([] : LX), 12)
else
(Adg n b g (Ao b g)).bind fun (aa, ab) =>
if ((Bn ab 0) || (Bn aa 0)) then
some (([] : LX), 12)
else
(Ug a h u y).bind fun (ac, ad) =>
some (ac, ad)
abbrev Cj := Option (LB × Int)
def Awf (g : LB) : Cj :=
some (g, 0)
def Aok := Awf
def Aom (bk16 : Int → LB → Cj) (b : Int) (a : LX) (f : Int) (h : LB) : Cj :=
bk16 (Af f 1) h
def Agv bk16 := Aom bk16
def Aan (j28 : Int → LB → Cj) (bk26 : Int → LB → Cj) (b : Int) (a : LX) (k : Int32) (f m : Int) (h : LB) : Cj :=
if (Ci m (Cn b 8)) then
(Wq (Ud (Bp 8 m) 0)).bind fun _ =>
(Db h ([(Ad (Cg k (GI.toZ (Bp 8 m)).toNat) : UInt8)] : LB)).bind fun p =>
bk26 (Af m 1) p
else
j28 f h
def Io (bk16 : Int → LB → Cj) (b : Int) (a : LX) (k : Int32) (f : Int) : Nat → Int → LB → Cj
| 0, _, _ => none
| q + 1, m, h => Aan (Agv bk16 b a) (Io bk16 b a k f q) b a k f m h
def Ag1 bk16 b a k f := Io bk16 b a k f Ay
def Ago (j26 : Int32 → Int → Int → LB → Cj) (b : Int) (a : LX) (f : Int) (g : LB) (k : Int32) : Cj :=
j26 k f 0 g
def Kq bk16 b a := Ago (Ag1 bk16 b a) b a
def Aak (j25 : Int → LB → Int32 → Cj) (j30 : LB → Cj) (b : Int) (a : LX) (f : Int) (g : LB) : Cj :=
if (Ci f (Ac a)) then
(Al a f).bind fun n =>
if (geq b 8) then
j25 f g (Af n 128)
else
j25 f g n
else
j30 g
def Ey (b : Int) (a : LX) : Nat → Int → LB → Cj
| 0, _, _ => none
| q + 1, f, g => Aak (Kq (Ey b a q) b a) Aok b a f g
def Aod b a := Ey b a Ay
def Aix (j16 : Int → LX → Int → LB → Cj) (b : Int) (a : LX) : Cj :=
(Afw b a).bind fun o =>
if (Bn o 0) then
some (([] : LB), o)
else
j16 b a 0 ([] : LB)
def Wx := Aix Aod
def Zs : Option Int :=
some (-1 : Int)
def Lu := Zs
def Df (j6 : Option Int) (bk4 : Int → Option Int) (a : LI) (b f : Int) : Option Int :=
if (Ci f (Ac a)) then
(Al a f).bind fun g =>
if (geq b g) then
some f
else
bk4 (Af f 1)
else
j6
def Bg (a : LI) (b : Int) : Nat → Int → Option Int
| 0, _ => none
| q + 1, f => Df Lu (Bg a b q) a b f
def Gk a b := Bg a b Ay
def Gi (j4 : LI → Int → Int → Option Int) (a : LI) (b : Int) : Option Int :=
j4 a b 0
def Hy := Gi Gk
def Gp (a : LI) (b : Int) : Option Bool :=
(Hy a b).bind fun f =>
some (Ud f 0)
def Pz (a : Int) : Option Bool :=
(Gp ([(4 : Int), (12 : Int), (16 : Int), (22 : Int), (24 : Int), (26 : Int), (38 : Int)] : LI) a).bind fun b =>
some b
def Ake (bi : Bool) : Option Int :=
if (!bi) then
some 8
else
some 0
def Bc := Ake
def Ab4 (j22 : Bool → Option Int) : Option Int :=
j22 ((true == true) && ((geq (0 : Int) (0 : Int)) && true))
def Wb := Ab4 Bc
def Acw (j22 : Bool → Option Int) (bj : Bool) (bk : Int) : Option Int :=
j22 ((bj == true) && ((geq bk 0) && true))
def Dd := Acw Bc
def Acg (j13 : Bool → Int → Option Int) (g ak : LB) (ae af aa ag ab b : Int) (m : Bool) (n : Int) (f : LI) (h : LB) : Option Int :=
(Mk ae af aa ag ab g).bind fun dm =>
(Ag dm).bind fun (dn, am) =>
j13 dn am
def Wd := Acg Dd
def Aci (j22 : Bool → Option Int) (bl : Bool) (bm : Int) : Option Int :=
j22 ((bl == true) && ((geq bm 0) && true))
def Ho := Aci Bc
def Ac1 (j25 : Bool → Int → Option Int) (g a : LB) (k p o u v b : Int) (m : Bool) (n : Int) (f : LI) (h : LB) (bg : Int) : Option Int :=
(Ct k p o u v).bind fun (dp, bh) =>
if (Bn bh 0) then
(Ag bh).bind fun (an, bn) =>
j25 an bn
else
(Bb a bg (Ac a)).bind fun dq =>
(Ajl dq (Ac dp)).bind fun (dr, aa) =>
if (geq aa 24) then
j25 true 0
else
if (Bn aa 0) then
(Ag aa).bind fun (ds, ab) =>
j25 ds ab
else
(Bb a (Af (Af bg (Bp 4 (Ac dr))) 4) (Ac a)).bind fun fc =>
j25 false 0
def Hz := Ac1 Ho
def Acz (j25 : Bool → Int → Option Int) (j24 : LB → LB → Int → Int → Int → Int → Int → Int → Bool → Int → LI → LB → Int → Option Int) (bd : Bool) (bc : Int) (g a : LB) (k p o u v b : Int) (m : Bool) (n : Int) (f : LI) (h : LB) : Option Int :=
if (Bn bc 0) then
(Ag bc).bind fun (dt, bh) =>
j25 dt bh
else
if (!bd) then
(Ag 26).bind fun (an, bn) =>
j25 an bn
else
j24 g a k p o u v b m n f h 8
def Ab7 := Acz Ho Hz
def Acj (j15 : Bool → Int → LB → LB → Int → Int → Int → Int → Int → Int → Bool → Int → LI → LB → Option Int) (g a : LB) (k p o u v b : Int) (m : Bool) (n : Int) (f : LI) (h : LB) : Option Int :=
(Bb a 0 8).bind fun du =>
(Ab5 du g).bind fun (bd, bc) =>
j15 bd bc g a k p o u v b m n f h
def Wh := Acj Ab7
def Adh (j22 : Bool → Option Int) (bp : Bool) (bq : Int) : Option Int :=
j22 ((bp == true) && ((geq bq 0) && true))
def Ft := Adh Bc
def Wj (j28 : Bool → Int → Option Int) (w ah : Int) (g a : LB) (k p o u v b : Int) (m : Bool) (n : Int) (ao : LX) (f : LI) (h : LB) : Option Int :=
if (Bn ah 0) then
(Ag ah).bind fun (br, bs) =>
j28 br bs
else
(Wx o ao).bind fun (bt, be) =>
if (Bn be 0) then
(Ag be).bind fun (bu, bv) =>
j28 bu bv
else
(Db h bt).bind fun dv =>
(
(Bb a w (Ac a)).bind fun dw =>
j28 false 0)
def Ac6 := Wj Ft
def Adl (j27 : Int → Int → LB → LB → Int → Int → Int → Int → Int → Int → Bool → Int → LX → LI → LB → Option Int) (w : Int) (g a : LB) (k p o u v b : Int) (m : Bool) (n : Int) (ap : LX) (ad f : LI) (h : LB) : Option Int :=
(Al ad b).bind fun _ =>
(Bb a 0 w).bind fun dx =>
(Al ad b).bind fun dy =>
(Zv k p o u v).bind fun (dz, bf) =>
(Wy dz bf ap dy dx).bind fun (ao, ah) =>
j27 w ah g a k p o u v b m n ao f h
def Wf := Adl Ac6
def Rw (j13 : Bool → Int → Option Int) (j12 : LB → LB → Int → Int → Int → Int → Int → Int → Bool → Int → LI → LB → Option Int) (j25 : Bool → Int → Option Int) (j23 : LB → LB → Int → Int → Int → Int → Int → Int → Bool → Int → LI → LB → Option Int) (j24 : LB → LB → Int → Int → Int → Int → Int → Int → Bool → Int → LI → LB → Int → Option Int) (j28 : Bool → Int → Option Int) (j26 : Int → LB → LB → Int → Int → Int → Int → Int → Int → Bool → Int → LX → LI → LI → LB → Option Int) (j22 : Bool → Option Int) (j21 : Option Int) (aq ar : LB) (au av aw ax ay : Int) (az : LI) (ai : Int) (aj : LB) (ac : Bool) (y : Int) : Option Int :=
if (Gf (Ac aq) 64) then
some 8
else
if ((geq y 0) && (!ac)) then
(Cf aq ar au av aw ax ay az ai aj ac y).bind fun (g, a, k, p, o, u, v, f, b, h, m, n) =>
(Yq aq ar au av aw ax ay az ai aj ac y).bind fun bw =>
if bw then
if (geq k 0) then
(Jq a).bind fun (al, ba) =>
if (geq ba 24) then
j13 true 0
else
if (Bn ba 0) then
(Ag ba).bind fun (bx, bz) =>
j13 bx bz
else
(Bb a al (Ac a)).bind fun da =>
(Pk da).bind fun an =>
if an then
j13 true 0
else
(Bb a al (Ac a)).bind fun db =>
(Pg db).bind fun (ae, af, aa, ag, ab, bb) =>
if (geq bb 24) then
j13 true 0
else
if (Bn bb 0) then
(Ag bb).bind fun (dc, dd) =>
j13 dc dd
else
(
(Bb a (Af al 22) (Ac a)).bind fun ak =>
(
j12 g ak ae af aa ag ab b m n f h))
else
if (geq (Ac f) 0) then
if (geq k 2) then
if (Ci (Ac a) 8) then
j25 true 0
else
j23 g a k p o u v b m n f h
else
j24 g a k p o u v b m n f h 0
else
if (Ci b (Ac f)) then
(Al f b).bind fun _ =>
(Al f b).bind fun w =>
if (Ci (Ac a) w) then
j28 true 0
else
(Abe g).bind fun (ap, am) =>
if (Bn am 0) then
(Ag am).bind fun (de, df) =>
j28 de df
else
(Ct k p o u v).bind fun (ad, dg) =>
if ((Bn dg 0) || (Ud b (Ac ad))) then
(Ag 8).bind fun (dh, di) =>
j28 dh di
else
j26 w g a k p o u v b m n ap ad f h
else
if (Gf (Ac a) 4000) then
(Ag 38).bind fun (dj, bf) =>
j22 ((dj == true) && ((geq bf 0) && true))
else
j21
else
j22 false
else
if ((geq (Ac ar) 0) && (geq (Ac az) 0)) then
if ((((geq au 0) && ((geq av 0) && ((geq aw 0) && ((geq ax 0) && ((geq ay 0) && true))))) && (geq ai 0)) && (gle (Ac aj) 12000)) then
if (geq y 0) then
j22 true
else
if (!ac) then
(Pz y).bind fun dk =>
j22 dk
else
j22 false
else
j22 false
else
if ((false && (geq ai 0)) && (gle (Ac aj) 12000)) then
if (geq y 0) then
j22 true
else
if (!ac) then
(Pz y).bind fun dl =>
j22 dl
else
j22 false
else
j22 false
def Jj := Rw Dd Wd Ho Wh Hz Ft Wf Bc Wb
def Pm (f g : LB) (h k m n o : Int) (p : LI) (u : Int) (v : LB) (b : Bool) (a : Int) : Option (LB × LB × Int × Int × Int × Int × Int × LI × Int × LB × Bool × Int × Int) :=
(Jj f g h k m n o p u v b a).bind fun w =>
if (Bn w 0) then
some (([] : LB), ([] : LB), 0, 0, 0, 0, 0, ([] : LI), 0, ([] : LB), false, 0, w)
else
if (Bn a 0) then
(
(
(Cf f g h k m n o p u v b a).bind fun (y, aa, ab, ac, ad, ae, af, ag, ah, ai, aj, ak) =>
(
some (y, aa, ab, ac, ad, ae, af, ag, ah, ai, aj, ak, a))))
else
if b then
(Cf f g h k m n o p u v b a).bind fun (al, am, an, ao, ap, aq, ar, au, av, aw, ax, ay) =>
some (al, am, an, ao, ap, aq, ar, au, av, aw, ax, ay, 36)
else
(Cf f g h k m n o p u v b a).bind fun (az, ba, bb, bc, bd, be, bf, bg, bh, bi, bj, bk) =>
some (az, ba, bb, bc, bd, be, bf, bg, bh, bi, bj, bk, 0)
def Am2 (b g : LB) (h k m n o : Int) (p : LI) (u : Int) (f : LB) (v : Bool) (w a : Int) : Option (LB × LB × Int × Int × Int × Int × Int × LI × Int × LB × Bool × Int × Int) :=
some (b, ([] : LB), 0, 0, 0, 0, 0, ([] : LI), 0, f, false, a, a)
abbrev pushdec_Feed_O := Option (LB × LB × Int × Int × Int × Int × Int × LI × Int × LB × Bool × Int × Int)
def Ae2 (bk37 : LB → Int → Int → Int → Int → Int → Int → LI → LB → pushdec_Feed_O) (a : LB) (b : Bool) (f : Int) (ar : LB) (au av aw ax ay az : Int) (bh : Bool) (be : Int) (ba : LI) (bb : LB) : pushdec_Feed_O :=
if bh then
(Cf a ar au av aw ax ay ba az bb b f).bind fun (fh, fi, fj, bc, bi, ai, fk, fl, fm, fn, fo, aj) =>
some (fh, fi, fj, bc, bi, ai, fk, fl, fm, fn, fo, aj, 0)
else
if (Bn be 0) then
(Am2 a ar au av aw ax ay ba az bb b f be).bind fun (fp, fq, fs, ft, fu, fv, fw, fx, fy, fz, ga, gb, gc) =>
some (fp, fq, fs, ft, fu, fv, fw, fx, fy, fz, ga, gb, gc)
else
bk37 ar au av aw ax ay az ba bb
def Bi bk37 := Ae2 bk37
def Aly (j71 : LB → Int → Int → Int → Int → Int → Int → Bool → Int → LI → LB → pushdec_Feed_O) (a : LB) (b : Bool) (f : Int) (g : LB) (m p o u v h : Int) (k : LI) (n : LB) : pushdec_Feed_O :=
j71 g m p o u v h true 0 k n
def Ys bk37 a b f := Aly (Bi bk37 a b f) a b f
def Amb (j71 : LB → Int → Int → Int → Int → Int → Int → Bool → Int → LI → LB → pushdec_Feed_O) (a : LB) (b : Bool) (f h : Int) (k : LI) (n : LB) (bj : Bool) (bk : Int) (bl : LB) (bm bn bp bq br : Int) : pushdec_Feed_O :=
j71 bl bm bn bp bq br h bj bk k n
def Ma bk37 a b f := Amb (Bi bk37 a b f) a b f
def Aep (j62 : Int → LI → LB → Bool → Int → LB → Int → Int → Int → Int → Int → pushdec_Feed_O) (a : LB) (b : Bool) (f : Int) (af : LB) (ab ac y ad aa h : Int) (k : LI) (n : LB) : pushdec_Feed_O :=
(Mk ab ac y ad aa a).bind fun gd =>
(Ag gd).bind fun (ge, ak) =>
j62 h k n ge ak af ab ac y ad aa
def Rz bk37 a b f := Aep (Ma bk37 a b f) a b f
def Amj (j71 : LB → Int → Int → Int → Int → Int → Int → Bool → Int → LI → LB → pushdec_Feed_O) (a : LB) (b : Bool) (f m p o u v h : Int) (n : LB) (bs : Bool) (bt : Int) (bu : LB) (bv : LI) : pushdec_Feed_O :=
j71 bu m p o u v h bs bt bv n
def Iz bk37 a b f := Amj (Bi bk37 a b f) a b f
def Aet (j75 : Int → Int → Int → Int → Int → Int → LB → Bool → Int → LB → LI → pushdec_Feed_O) (a : LB) (b : Bool) (f : Int) (g : LB) (m p o u v h : Int) (k : LI) (n : LB) (bf : Int) : pushdec_Feed_O :=
(Ct m p o u v).bind fun (gf, bg) =>
if (Bn bg 0) then
(Ag bg).bind fun (al, bw) =>
j75 m p o u v h n al bw g k
else
(Bb g bf (Ac g)).bind fun gg =>
(Ajl gg (Ac gf)).bind fun (dw, y) =>
if (geq y 24) then
j75 m p o u v h n true 0 g k
else
if (Bn y 0) then
(Ag y).bind fun (gh, aa) =>
j75 m p o u v h n gh aa g k
else
(Bb g (Af (Af bf (Bp 4 (Ac dw))) 4) (Ac g)).bind fun gi =>
j75 m p o u v h n false 0 gi dw
def Jh bk37 a b f := Aet (Iz bk37 a b f) a b f
def Aei (j75 : Int → Int → Int → Int → Int → Int → LB → Bool → Int → LB → LI → pushdec_Feed_O) (j74 : LB → Int → Int → Int → Int → Int → Int → LI → LB → Int → pushdec_Feed_O) (a : LB) (b : Bool) (f : Int) (bd : Bool) (aq : Int) (g : LB) (m p o u v h : Int) (k : LI) (n : LB) : pushdec_Feed_O :=
if (Bn aq 0) then
(Ag aq).bind fun (gj, bg) =>
j75 m p o u v h n gj bg g k
else
if (!bd) then
(Ag 26).bind fun (al, bw) =>
j75 m p o u v h n al bw g k
else
j74 g m p o u v h k n 8
def Ae5 bk37 a b f := Aei (Iz bk37 a b f) (Jh bk37 a b f) a b f
def Aen (j64 : Bool → Int → LB → Int → Int → Int → Int → Int → Int → LI → LB → pushdec_Feed_O) (a : LB) (b : Bool) (f : Int) (g : LB) (m p o u v h : Int) (k : LI) (n : LB) : pushdec_Feed_O :=
(Bb g 0 8).bind fun gk =>
(Ab5 gk a).bind fun (bd, aq) =>
j64 bd aq g m p o u v h k n
def Rg bk37 a b f := Aen (Ae5 bk37 a b f) a b f
def Al6 (j71 : LB → Int → Int → Int → Int → Int → Int → Bool → Int → LI → LB → pushdec_Feed_O) (a : LB) (b : Bool) (f m p o u v : Int) (k : LI) (bx : Bool) (bz : Int) (da : LB) (db : Int) (dc : LB) : pushdec_Feed_O :=
j71 da m p o u v db bx bz k dc
def Lz bk37 a b f := Al6 (Bi bk37 a b f) a b f
def Yl (j78 : Int → Int → Int → Int → Int → LI → Bool → Int → LB → Int → LB → pushdec_Feed_O) (a : LB) (b : Bool) (f w ag : Int) (g : LB) (m p o u v h : Int) (am : LX) (k : LI) (n : LB) : pushdec_Feed_O :=
if (Bn ag 0) then
(Ag ag).bind fun (dd, de) =>
j78 m p o u v k dd de g h n
else
(Wx o am).bind fun (df, aj) =>
if (Bn aj 0) then
(Ag aj).bind fun (dg, dh) =>
j78 m p o u v k dg dh g h n
else
(Db n df).bind fun di =>
(
(Bb g w (Ac g)).bind fun dj =>
j78 m p o u v k false 0 dj (Af h 1) di)
def Aef bk37 a b f := Yl (Lz bk37 a b f) a b f
def Aeo (j77 : Int → Int → LB → Int → Int → Int → Int → Int → Int → LX → LI → LB → pushdec_Feed_O) (a : LB) (b : Bool) (f w : Int) (g : LB) (m p o u v h : Int) (an : LX) (ae k : LI) (n : LB) : pushdec_Feed_O :=
(Al ae h).bind fun _ =>
(Bb g 0 w).bind fun gl =>
(Al ae h).bind fun gm =>
(Zv m p o u v).bind fun (bi, ai) =>
(Wy bi ai an gm gl).bind fun (am, ag) =>
j77 w ag g m p o u v h am k n
def Qv bk37 a b f := Aeo (Aef bk37 a b f) a b f
def Gz (j62 : Int → LI → LB → Bool → Int → LB → Int → Int → Int → Int → Int → pushdec_Feed_O) (j61 : LB → Int → Int → Int → Int → Int → Int → LI → LB → pushdec_Feed_O) (j75 : Int → Int → Int → Int → Int → Int → LB → Bool → Int → LB → LI → pushdec_Feed_O) (j73 : LB → Int → Int → Int → Int → Int → Int → LI → LB → pushdec_Feed_O) (j74 : LB → Int → Int → Int → Int → Int → Int → LI → LB → Int → pushdec_Feed_O) (j78 : Int → Int → Int → Int → Int → LI → Bool → Int → LB → Int → LB → pushdec_Feed_O) (j76 : Int → LB → Int → Int → Int → Int → Int → Int → LX → LI → LI → LB → pushdec_Feed_O) (j71 : LB → Int → Int → Int → Int → Int → Int → Bool → Int → LI → LB → pushdec_Feed_O) (j70 : LB → Int → Int → Int → Int → Int → Int → LI → LB → pushdec_Feed_O) (a : LB) (b : Bool) (f : Int) (g : LB) (m p o u v h : Int) (k : LI) (n : LB) : pushdec_Feed_O :=
if (geq m 0) then
(Jq g).bind fun (ah, ao) =>
if (geq ao 24) then
j62 h k n true 0 g m p o u v
else
if (Bn ao 0) then
(Ag ao).bind fun (dk, dl) =>
j62 h k n dk dl g m p o u v
else
(Bb g ah (Ac g)).bind fun dm =>
(Pk dm).bind fun al =>
if al then
j62 h k n true 0 g m p o u v
else
(Bb g ah (Ac g)).bind fun dn =>
(Pg dn).bind fun (ab, ac, y, ad, aa, ap) =>
if (geq ap 24) then
j62 h k n true 0 g m p o u v
else
if (Bn ap 0) then
(Ag ap).bind fun (dp, dq) =>
j62 h k n dp dq g m p o u v
else
(
(Bb g (Af ah 22) (Ac g)).bind fun af =>
(
j61 af ab ac y ad aa h k n))
else
if (geq (Ac k) 0) then
if (geq m 2) then
if (Ci (Ac g) 8) then
j75 m p o u v h n true 0 g k
else
j73 g m p o u v h k n
else
j74 g m p o u v h k n 0
else
if (Ci h (Ac k)) then
(Al k h).bind fun _ =>
(Al k h).bind fun w =>
if (Ci (Ac g) w) then
j78 m p o u v k true 0 g h n
else
(Abe a).bind fun (an, ak) =>
if (Bn ak 0) then
(Ag ak).bind fun (dr, ds) =>
j78 m p o u v k dr ds g h n
else
(Ct m p o u v).bind fun (ae, dt) =>
if ((Bn dt 0) || (Ud h (Ac ae))) then
(Ag 8).bind fun (du, bc) =>
j78 m p o u v k du bc g h n
else
j76 w g m p o u v h an ae k n
else
if (Gf (Ac g) 4000) then
(Ag 38).bind fun (dv, ai) =>
j71 g m p o u v h dv ai k n
else
j70 g m p o u v h k n
def Au (a : LB) (b : Bool) (f : Int) : Nat → LB → Int → Int → Int → Int → Int → Int → LI → LB → pushdec_Feed_O
| 0, _, _, _, _, _, _, _, _, _ => none
| q + 1, g, m, p, o, u, v, h, k, n => Gz (Ma (Au a b f q) a b f) (Rz (Au a b f q) a b f) (Iz (Au a b f q) a b f) (Rg (Au a b f q) a b f) (Jh (Au a b f q) a b f) (Lz (Au a b f q) a b f) (Qv (Au a b f q) a b f) (Bi (Au a b f q) a b f) (Ys (Au a b f q) a b f) a b f g m p o u v h k n
def Al9 a b f := Au a b f Ay
def Ahc (j37 : LB → Bool → Int → LB → Int → Int → Int → Int → Int → Int → LI → LB → pushdec_Feed_O) (gn go : LB) (gp gq gr gs gt : Int) (gu : LI) (gv : Int) (gw : LB) (gx : Bool) (gy : Int) (gz : LB) : pushdec_Feed_O :=
(Pm gn go gp gq gr gs gt gu gv gw gx gy).bind fun (a, dx, dy, dz, fa, fb, fc, fd, fe, ff, b, f, fg) =>
if (Bn fg 0) then
some (a, dx, dy, dz, fa, fb, fc, fd, fe, ff, b, f, fg)
else
(Db dx gz).bind fun ha =>
j37 a b f ha dy dz fa fb fc fe fd ff
def Ahv := Ahc Al9
def Fq (f g b a h : Int) : Option Bool :=
if ((((geq f 1) || (geq f 2)) && (Ud g 1)) && (gle g 6)) then
some ((((((geq b 8) || (geq b 16)) || (geq b 24)) && (Ud a 1)) && (gle a 1048576)) && (Ud h 1))
else
some (((false && (Ud a 1)) && (gle a 1048576)) && (Ud h 1))
def Pe (a : Int) : Option Int :=
some (Arb 1 (Cn (Bp 256 a) 245))
def Nc (a : LI) : Option (LI) :=
some a
def Iv := Nc
def Ge (j6 : LI → Option (LI)) (bk4 : Int → LI → Option (LI)) (b f : Int) (a : LI) : Option (LI) :=
if (Gf f 0) then
(Pe b).bind fun g =>
(Db a ([(Fv f g)] : LI)).bind fun h =>
(Pe b).bind fun k =>
bk4 (Ao f k) h
else
j6 a
def Cw (b : Int) : Nat → Int → LI → Option (LI)
| 0, _, _ => none
| q + 1, f, a => Ge Iv (Cw b q) b f a
def Vv b := Cw b Ay
def Vj (j4 : Int → Int → LI → Option (LI)) (b m : Int) : Option (LI) :=
j4 b m ([] : LI)
def Jc := Vj Vv
def Ht (h a k f b : Int) : Option Bool :=
(
(Wq (Bn a 0)).bind fun _ =>
(
if (Gf b (Cn 4000 a)) then
some true
else
(Jc f b).bind fun g =>
some (Gf (Ac g) 1000)))
def Gv (a b f g h : Int) : Option Int :=
(Fq a b f g h).bind fun k =>
if (!k) then
some 8
else
(Ht a b f g h).bind fun m =>
if m then
some 8
else
some 0
def Gw (a f g h k : Int) (b : LB) : Option Int :=
if ((b == ([] : LB)) != (geq a 1)) then
some 26
else
some 0
def Ab1 (b : Int) : Option Int :=
if (Gf b 100000) then
some 8
else
some 0
def Tr := Ab1
def Ad0 (bk6 : Int → Int → Option Int) (a : LI) (b f : Int) : Option Int :=
(Al a f).bind fun g =>
bk6 (Af b g) (Af f 1)
def Vt bk6 := Ad0 bk6
def Nf (j8 : Int → Int → Option Int) (j10 : Int → Option Int) (a : LI) (b f : Int) : Option Int :=
if (Ci f (Ac a)) then
(Al a f).bind fun h =>
if (Ci h 5) then
some 8
else
(Al a f).bind fun k =>
if (Gf k 100000) then
some 8
else
j8 b f
else
j10 b
def Gc (a : LI) : Nat → Int → Int → Option Int
| 0, _, _ => none
| q + 1, b, f => Nf (Vt (Gc a q) a) Tr a b f
def Uu a := Gc a Ay
def Nb (j6 : LI → Int → Int → Option Int) (a : LI) : Option Int :=
if ((Ci (Ac a) 1) || (Gf (Ac a) 1000)) then
some 8
else
j6 a 0 0
def Ew := Nb Uu
def Di (g h k a b : Int) : Option (LI) :=
(Jc a b).bind fun f =>
some f
def Jf (f a b g h : Int) : Option (Int × Int) :=
some (a, b)
def Zj (a b : Int) : Option Int :=
some (Cn (Bp a b) 8)
def Agm (k a b f g h : Int) : Option Int :=
(Jf a b f g h).bind fun (p, u) =>
(Zj p u).bind fun v =>
some (Bp k v)
def Xb := Agm
def Pd (j6 : Int → Int → Int → Int → Int → Int → Option Int) (bk4 : Int → Int → Option Int) (n a b f g h : Int) (m : LI) (k o : Int) : Option Int :=
if (Ci o n) then
(Al m o).bind fun _ =>
(Al m o).bind fun w =>
bk4 (Af k w) (Af o 1)
else
j6 k a b f g h
def Hg (n a b f g h : Int) (m : LI) : Nat → Int → Int → Option Int
| 0, _, _ => none
| q + 1, k, o => Pd Xb (Hg n a b f g h m q) n a b f g h m k o
def Afq n a b f g h m := Hg n a b f g h m Ay
def Xo (j4 : Int → Int → Int → Int → Int → Int → LI → Int → Int → Option Int) (a b f g h n : Int) : Option Int :=
(Di a b f g h).bind fun m =>
j4 n a b f g h m 0 0
def Ok := Xo Afq
abbrev Et := Option (Int × Int)
def Aop (a : Int) : Et :=
some (a, 0)
def Aea := Aop
def Mv (j6 : Int → Et) (bk4 : Int → Int → Et) (b : LB) (a f : Int) : Et :=
if (Ci f 4) then
(Al b f).bind fun g =>
if (Ud g 128) then
some (0, 12)
else
(Al b f).bind fun h =>
bk4 (Af (Bp 128 a) (Ad h : Int)) (Af f 1)
else
j6 a
def Gd (b : LB) : Nat → Int → Int → Et
| 0, _, _ => none
| q + 1, a, f => Mv Aea (Gd b q) b a f
def Uq b := Gd b Ay
def Vq (j4 : LB → Int → Int → Et) (b : LB) : Et :=
if (Bn (Ac b) 4) then
some (0, 2)
else
j4 b 0 0
def Tt := Vq Uq
abbrev Fp := Option (Int × Int)
def Af7 (a : LB) (g : Int) : Fp :=
if (Gf g 4000) then
some (0, 4)
else
if (Ci (Ac a) g) then
some (0, 24)
else
(Al a 5).bind fun h =>
if (geq h 16) then
(Bb a (Ao g 10) g).bind fun k =>
(Bb a 3 10).bind fun m =>
(Db ([51, 68, 73] : LB) m).bind fun n =>
if (k != n) then
some (0, 12)
else
some (g, 0)
else
some (g, 0)
def Pa := Af7
def Ws (j6 : LB → Int → Fp) (a : LB) (b : Int) : Fp :=
(Al a 5).bind fun o =>
if (geq o 16) then
j6 a (Af (Af 10 b) 10)
else
j6 a (Af 10 b)
def Oc := Ws Pa
def Xm (j5 : LB → Int → Fp) (a : LB) : Fp :=
if (Ci (Ac a) 10) then
some (0, 24)
else
(Bb a 6 10).bind fun p =>
(Tt p).bind fun (b, f) =>
(Al a 3).bind fun u =>
if (Ci u 2) then
if true then
if true then
if (true || (Bn f 0)) then
some (0, 12)
else
j5 a b
else
(Al a 5).bind fun v =>
if (Bn v 0) then
(Al a 5).bind fun w =>
if (Bn w 16) then
if (true || (Bn f 0)) then
some (0, 12)
else
j5 a b
else
(Al a 3).bind fun y =>
if ((Bn y 4) || (Bn f 0)) then
some (0, 12)
else
j5 a b
else
if (false || (Bn f 0)) then
some (0, 12)
else
j5 a b
else
(Al a 4).bind fun aa =>
if (Bn aa 0) then
if (true || (Bn f 0)) then
some (0, 12)
else
j5 a b
else
(Al a 5).bind fun ab =>
if (Bn ab 0) then
(Al a 5).bind fun ac =>
if (Bn ac 16) then
if (true || (Bn f 0)) then
some (0, 12)
else
j5 a b
else
(Al a 3).bind fun ad =>
if ((Bn ad 4) || (Bn f 0)) then
some (0, 12)
else
j5 a b
else
if (false || (Bn f 0)) then
some (0, 12)
else
j5 a b
else
(Al a 3).bind fun ae =>
if (Gf ae 4) then
if true then
if (true || (Bn f 0)) then
some (0, 12)
else
j5 a b
else
(Al a 5).bind fun af =>
if (Bn af 0) then
(Al a 5).bind fun ag =>
if (Bn ag 16) then
if (true || (Bn f 0)) then
some (0, 12)
else
j5 a b
else
(Al a 3).bind fun ah =>
if ((Bn ah 4) || (Bn f 0)) then
some (0, 12)
else
j5 a b
else
if (false || (Bn f 0)) then
some (0, 12)
else
j5 a b
else
(Al a 4).bind fun ai =>
if (Bn ai 0) then
if (true || (Bn f 0)) then
some (0, 12)
else
j5 a b
else
(Al a 5).bind fun aj =>
if (Bn aj 0) then
(Al a 5).bind fun ak =>
if (Bn ak 16) then
if (true || (Bn f 0)) then
some (0, 12)
else
j5 a b
else
(Al a 3).bind fun al =>
if ((Bn al 4) || (Bn f 0)) then
some (0, 12)
else
j5 a b
else
if (false || (Bn f 0)) then
some (0, 12)
else
j5 a b
def Ye := Xm Oc
def Yf (j4 : LB → Fp) (a : LB) : Fp :=
if (Ci (Ac a) 3) then
some (0, 6)
else
(Bb a 0 3).bind fun am =>
if (am != ([73, 68, 51] : LB)) then
some (0, 6)
else
j4 a
def Wl := Yf Ye
def Aje (a : UInt64) : Option UInt64 :=
some a
def Aas := Aje
def Th (j6 : UInt64 → Option UInt64) (bk4 : UInt64 → Int → Option UInt64) (b : LB) (a : UInt64) (f : Int) : Option UInt64 :=
if (Ud f 0) then
(Al b f).bind fun g =>
bk4 (Af (Bp 256 a) (Ad g : UInt64)) (Ao f 1)
else
j6 a
def Je (b : LB) : Nat → UInt64 → Int → Option UInt64
| 0, _, _ => none
| q + 1, a, f => Th Aas (Je b q) b a f
def Aa3 b := Je b Ay
def Aao (j4 : LB → UInt64 → Int → Option UInt64) (b : LB) : Option UInt64 :=
j4 b 0 (Ao (Ac b) 1)
def Ak := Aao Aa3
def Kh (b : LB) : Option (Int × Int × Bool) :=
(Bb b 12 16).bind fun g =>
(Ak g).bind fun a =>
(Bb b 16 20).bind fun h =>
(Ak h).bind fun f =>
if (((Ci a 32) || (Gf a 3032)) || (Gf f 1000)) then
some (0, 0, false)
else
some ((Ao (Ad a : Int) 32), (Ad f : Int), true)
def Abn (a : LB) : Option (LB) :=
some a
def Qx := Abn
def Kb (j6 : LB → Option (LB)) (bk4 : UInt64 → Int → LB → Option (LB)) (b : Int) (f : UInt64) (g : Int) (a : LB) : Option (LB) :=
if (Ci g b) then
(Db a ([(Ad (Abu f 256) : UInt8)] : LB)).bind fun h =>
bk4 (Cn f 256) (Af g 1) h
else
j6 a
def Eh (b : Int) : Nat → UInt64 → Int → LB → Option (LB)
| 0, _, _, _ => none
| q + 1, f, g, a => Kb Qx (Eh b q) b f g a
def Rk b := Eh b Ay
def Qz (j4 : Int → UInt64 → Int → LB → Option (LB)) (k : UInt64) (b : Int) : Option (LB) :=
j4 b k 0 ([] : LB)
def Cr := Qz Rk
def Lw (a b : Int) (f : UInt64) : Option (LB) :=
(Cr 2000 4).bind fun g =>
(Db ([(65 : UInt8), (80 : UInt8), (69 : UInt8), (84 : UInt8), (65 : UInt8), (71 : UInt8), (69 : UInt8), (88 : UInt8)] : LB) g).bind fun h =>
(Cr (Ad (Af a 32) : UInt64) 4).bind fun k =>
(Db h k).bind fun m =>
(Cr (Ad b : UInt64) 4).bind fun n =>
(Db m n).bind fun o =>
(Cr f 4).bind fun p =>
(Db o p).bind fun u =>
(mkI (8 : Int) (0 : UInt8)).bind fun v =>
(Db u v).bind fun w =>
some w
def Pf (a b : Int) : Option (LB) :=
(Lw a b 2684354560).bind fun f =>
some f
def De (a b : Int) (f : Bool) : Option (LB) :=
if f then
(Lw a b 2147483648).bind fun g =>
some g
else
(Lw a b 0).bind fun h =>
some h
abbrev Jr := Option (Int × Int)
def Adw (a : LB) (b f : Int) : Jr :=
if (Ci (Ac a) (Af 64 b)) then
some (0, 24)
else
(Bb a (Ao (Af 64 b) 32) (Af 64 b)).bind fun g =>
(De b f true).bind fun h =>
if (g != h) then
some (0, 12)
else
some ((Af 64 b), 0)
def Vm := Adw
def Vu (j4 : LB → Int → Int → Jr) (a : LB) : Jr :=
if (Ci (Ac a) 32) then
some (0, 24)
else
(Bb a 0 32).bind fun k =>
(Kh k).bind fun (b, f, m) =>
if (!m) then
some (0, 12)
else
(Bb a 0 32).bind fun n =>
(Pf b f).bind fun o =>
if (n != o) then
some (0, 12)
else
j4 a b f
def Vo := Vu Vm
def Uy (j3 : LB → Jr) (a : LB) : Jr :=
if (Ci (Ac a) 8) then
some (0, 6)
else
(Bb a 0 8).bind fun p =>
if (p != ([65, 80, 69, 84, 65, 71, 69, 88] : LB)) then
some (0, 6)
else
j3 a
def Tj := Uy Vo
abbrev Er := Option (LI × Int)
def Adx (bk6 : Int → LI → Er) (a : LB) (b : Int) (f : LI) (g h : Int) : Er :=
if (geq h 6) then
some (f, 0)
else
if (Bn h 0) then
some (([] : LI), h)
else
if (Gf (Af b g) 4000) then
some (([] : LI), 4)
else
(Db f ([g] : LI)).bind fun m =>
bk6 (Af b g) m
def Iw bk6 := Adx bk6
def Ng (j9 : Int → LI → Int → Int → Er) (a : LB) (b : Int) (f : LI) : Er :=
(Bb a b (Ac a)).bind fun n =>
(Wl n).bind fun (o, k) =>
if (geq k 6) then
(Bb a b (Ac a)).bind fun p =>
(Tj p).bind fun (u, v) =>
j9 b f u v
else
j9 b f o k
def Iu (a : LB) : Nat → Int → LI → Er
| 0, _, _ => none
| q + 1, b, f => Ng (Iw (Iu a q) a) a b f
def Ad6 a := Iu a Ay
def Ad5 (j6 : LB → Int → LI → Er) (a : LB) : Er :=
j6 a 0 ([] : LI)
def Aa2 := Ad5 Ad6
abbrev Ex := Option (Int × Int)
def Ad4 (a b : Int) : Ex :=
some (b, a)
def Uw := Ad4
def Nd (j6 : Int → Int → Ex) (bk4 : Int → Int → Ex) (a : Int) (f : LI) (b g : Int) : Ex :=
if (Ci g (Ac f)) then
(Al f g).bind fun _ =>
(Al f g).bind fun h =>
bk4 (Af b h) (Af g 1)
else
j6 a b
def Ga (a : Int) (f : LI) : Nat → Int → Int → Ex
| 0, _, _ => none
| q + 1, b, g => Nd Uw (Ga a f q) a f b g
def Mq a f := Ga a f Ay
def Uv (j4 : Int → LI → Int → Int → Ex) (k : LB) : Ex :=
(Aa2 k).bind fun (f, a) =>
j4 a f 0 0
def Mn := Uv Mq
def Kx (a b : LB) : Option Bool :=
if (Ci (Ac a) (Ac b)) then
(Bb b 0 (Ac a)).bind fun f =>
some (a == f)
else
some false
def Af3 (a : UInt32) (b : Bool) : Option UInt32 :=
if b then
some (Aaa (Cn a 2) 3988292384)
else
some (Cn a 2)
def Xw := Af3
def Yh (j2 : UInt32 → Bool → Option UInt32) (a : UInt32) (f : Int) : Option UInt32 :=
if (geq f 1) then
j2 a (!(geq (Abu a 2) 1))
else
j2 a (geq (Abu a 2) 1)
def Vy := Yh Xw
def Afu (a : UInt32) : Option UInt32 :=
some a
def Yc := Afu
def Ox (j6 : UInt32 → Option UInt32) (bk4 : UInt32 → UInt8 → Int → Option UInt32) (a : UInt32) (b : UInt8) (f : Int) : Option UInt32 :=
if (Ci f 8) then
(Vy a (Ad (Abu b 2) : Int)).bind fun g =>
bk4 g (Cn b 2) (Af f 1)
else
j6 a
def He : Nat → UInt32 → UInt8 → Int → Option UInt32
| 0, _, _, _ => none
| q + 1, a, b, f => Ox Yc (He q) a b f
def Afl := He Ay
def Afk (j4 : UInt32 → UInt8 → Int → Option UInt32) (h : UInt32) (k : UInt8) : Option UInt32 :=
j4 h k 0
def Ac4 := Afk Afl
def Adm (a : UInt32) : Option UInt32 :=
some a
def Tc := Adm
def Lp (j6 : UInt32 → Option UInt32) (bk4 : UInt32 → Int → Option UInt32) (b : LB) (a : UInt32) (f : Int) : Option UInt32 :=
if (Ci f (Ac b)) then
(Al b f).bind fun g =>
(Ac4 a g).bind fun h =>
bk4 h (Af f 1)
else
j6 a
def Fc (b : LB) : Nat → UInt32 → Int → Option UInt32
| 0, _, _ => none
| q + 1, a, f => Lp Tc (Fc b q) b a f
def Tv b := Fc b Ay
def Ts (j4 : LB → UInt32 → Int → Option UInt32) (k : UInt32) (b : LB) : Option UInt32 :=
j4 b k 0
def Ze := Ts Tv
def Nw (a : LB) : Option UInt32 :=
(Ze 4294967295 a).bind fun b =>
some (Ao 4294967295 b)
abbrev Fk := Option (Int × Int × Int × Int × Int × Int)
def Aft (k h g f b : UInt64) : Fk :=
(Fq (Ad k : Int) (Ad h : Int) (Ad g : Int) (Ad f : Int) (Ad b : Int)).bind fun v =>
if (!v) then
some (0, 0, 0, 0, 0, 12)
else
(Ht (Ad k : Int) (Ad h : Int) (Ad g : Int) (Ad f : Int) (Ad b : Int)).bind fun w =>
if w then
some (0, 0, 0, 0, 0, 4)
else
some ((Ad k : Int), (Ad h : Int), (Ad g : Int), (Ad f : Int), (Ad b : Int), 0)
def Xz := Aft
def Pj (j6 : UInt64 → UInt64 → UInt64 → UInt64 → UInt64 → Fk) (a : LB) : Fk :=
(Bb a 4 6).bind fun u =>
(Bb a 6 8).bind fun p =>
(Bb a 8 10).bind fun o =>
(Bb a 10 14).bind fun n =>
(Bb a 14 18).bind fun m =>
(
(Ak u).bind fun k =>
(
(Ak p).bind fun h =>
(
(Ak o).bind fun g =>
(
(Ak n).bind fun f =>
(
(Ak m).bind fun b =>
(
j6 k h g f b))))))
def Xr := Pj Xz
def Xf (j5 : LB → Fk) (a : LB) : Fk :=
if (Ci (Ac a) 22) then
some (0, 0, 0, 0, 0, 24)
else
(Bb a 18 22).bind fun y =>
(Bb a 0 18).bind fun aa =>
(Ak y).bind fun ab =>
(Nw aa).bind fun ac =>
if (Bn ab (Ad ac : UInt64)) then
some (0, 0, 0, 0, 0, 22)
else
j5 a
def Xc := Xf Xr
def Xg (j4 : LB → Fk) (a : LB) : Fk :=
(Bb a 0 (Fv 4 (Ac a))).bind fun ad =>
(Bb ([84, 84, 65, 49] : LB) 0 (Fv 4 (Ac a))).bind fun ae =>
if (ad != ae) then
some (0, 0, 0, 0, 0, 12)
else
j4 a
def Oz := Xg Xc
abbrev Tu := Option (Int × Int × Int × Int × Int × Int × Int)
def Abj (b : Int) (a : LB) : Tu :=
(Oz a).bind fun (k, m, n, o, p, h) =>
if (geq h 24) then
some (0, 0, 0, 0, 0, 0, (-1 : Int))
else
some ((Af b 22), k, m, n, o, p, h)
def Rm := Abj
def Rb (j2 : Int → LB → Tu) (f : LB) : Tu :=
(Mn f).bind fun (b, g) =>
if (geq g 24) then
some (0, 0, 0, 0, 0, 0, (-1 : Int))
else
if (Bn g 0) then
some (0, 0, 0, 0, 0, 0, g)
else
(Bb f b (Ac f)).bind fun a =>
(Kx a ([73, 68, 51] : LB)).bind fun u =>
if u then
some (0, 0, 0, 0, 0, 0, (-1 : Int))
else
(Kx a ([65, 80, 69, 84, 65, 71, 69, 88] : LB)).bind fun v =>
if v then
some (0, 0, 0, 0, 0, 0, (-1 : Int))
else
j2 b a
def Jo := Rb Rm
def Af6 (a : UInt64) (b : Bool) : Option UInt64 :=
if b then
some (Aaa (Bp a 2) 4823603603198064275)
else
some (Bp a 2)
def Nz := Af6
def Wt (j2 : UInt64 → Bool → Option UInt64) (a : UInt64) (f : Int) : Option UInt64 :=
if (geq f 1) then
j2 a (!(Ud a 9223372036854775808))
else
j2 a (Ud a 9223372036854775808)
def Vw := Wt Nz
def Af5 (a : UInt64) : Option UInt64 :=
some a
def Xs := Af5
def Oo (j6 : UInt64 → Option UInt64) (bk4 : UInt64 → Int → Option UInt64) (b : UInt8) (a : UInt64) (f : Int) : Option UInt64 :=
if (Gf f 0) then
(Wq (Bn f 0)).bind fun _ =>
(Vw a (Lk (Cn (Ad b : Int) f) 2)).bind fun g =>
bk4 g (Cn f 2)
else
j6 a
def Ha (b : UInt8) : Nat → UInt64 → Int → Option UInt64
| 0, _, _ => none
| q + 1, a, f => Oo Xs (Ha b q) b a f
def Agi b := Ha b Ay
def Afo (j4 : UInt8 → UInt64 → Int → Option UInt64) (h : UInt64) (b : UInt8) : Option UInt64 :=
j4 b h 128
def Ab8 := Afo Agi
def Ab2 (a : UInt64) : Option UInt64 :=
some a
def Sk := Ab2
def Lo (j6 : UInt64 → Option UInt64) (bk4 : UInt64 → Int → Option UInt64) (b : LB) (a : UInt64) (f : Int) : Option UInt64 :=
if (Ci f (Ac b)) then
(Al b f).bind fun g =>
(Ab8 a g).bind fun h =>
bk4 h (Af f 1)
else
j6 a
def Fb (b : LB) : Nat → UInt64 → Int → Option UInt64
| 0, _, _ => none
| q + 1, a, f => Lo Sk (Fb b q) b a f
def Ado b := Fb b Ay
def Ac7 (j4 : LB → UInt64 → Int → Option UInt64) (k : UInt64) (b : LB) : Option UInt64 :=
j4 b k 0
def Qe := Ac7 Ado
def Adi (a : LB) : Option UInt64 :=
(Qe 0 a).bind fun b =>
some b
def Ou (a : LB) : Option (LB) :=
(Adi a).bind fun b =>
(Cr b 8).bind fun f =>
some f
abbrev Cy := Option (LI × Int)
def Agj (f : LI) : Cy :=
(Ew f).bind fun h =>
if (Bn h 0) then
some (([] : LI), 12)
else
some (f, 0)
def Od := Agj
def Oy (j8 : LI → Cy) (bk6 : Int → LI → Cy) (b : LB) (a g : Int) (f : LI) : Cy :=
if (Ci g a) then
(Bb b (Bp 4 g) (Af (Bp 4 g) 4)).bind fun k =>
(Ak k).bind fun m =>
(Db f ([(Ad m : Int)] : LI)).bind fun n =>
bk6 (Af g 1) n
else
j8 f
def Hi (b : LB) (a : Int) : Nat → Int → LI → Cy
| 0, _, _ => none
| q + 1, g, f => Oy Od (Hi b a q) b a g f
def Xx b a := Hi b a Ay
def Wu (j6 : LB → Int → Int → LI → Cy) (b : LB) (a : Int) : Cy :=
j6 b a 0 ([] : LI)
def Yi := Wu Xx
def Yg (j5 : LB → Int → Cy) (b : LB) (a : Int) : Cy :=
if ((Ci a 1) || (Gf a 1000)) then
some (([] : LI), 2)
else
if (Ci (Ac b) (Af (Bp 4 a) 4)) then
some (([] : LI), 24)
else
(Bb b (Bp 4 a) (Af (Bp 4 a) 4)).bind fun o =>
(Bb b 0 (Bp 4 a)).bind fun p =>
(Ak o).bind fun u =>
(Nw p).bind fun v =>
if (Bn u (Ad v : UInt64)) then
some (([] : LI), 22)
else
j5 b a
def Wm := Yg Yi
abbrev It := Option (Int × LI × Int)
def Acy (b g : Int) (h : LI) : It :=
if (geq g 24) then
some (0, ([] : LI), (-1 : Int))
else
some ((Af (Af b (Bp 4 (Ac h))) 4), h, g)
def Uc := Acy
def Tq (j4 : Int → Int → LI → It) (a : LB) (f k m n o b : Int) : It :=
(Bb a b (Ac a)).bind fun p =>
(Di f k m n o).bind fun u =>
(Wm p (Ac u)).bind fun (h, g) =>
j4 b g h
def Fe := Tq Uc
def Ln (j3 : LB → Int → Int → Int → Int → Int → Int → It) (a : LB) (f k m n o : Int) (v : LB) : It :=
if (geq f 2) then
if (Ci (Ac a) 8) then
some (0, ([] : LI), (-1 : Int))
else
(Bb a 0 8).bind fun w =>
(Ou v).bind fun y =>
if (w != y) then
some (0, ([] : LI), 26)
else
j3 a f k m n o 8
else
j3 a f k m n o 0
def Kw := Ln Fe
def Acp (b : UInt64) (a : LB) : Option (UInt64 × Int) :=
if (Gf (Ac a) 100000) then
some (0, 4)
else
(Qe b a).bind fun f =>
some (f, 0)
def Ae4 (a : LB) : Option (UInt64 × Int) :=
(Acp 0 a).bind fun (b, f) =>
some (b, f)
def Ard (a : LX) : Option (LX) :=
some a
def Ahe := Ard
def Ai6 (bk6 : UInt64 → Int → LX → Option (LX)) (b : UInt64) (f : Int) (a : LX) (g : Int32) : Option (LX) :=
(Al a f).bind fun _ =>
(Sa a f g).bind fun h =>
bk6 (Cn b 256) (Af f 1) h
def Sn bk6 := Ai6 bk6
def Sr (j8 : UInt64 → Int → LX → Int32 → Option (LX)) (j10 : LX → Option (LX)) (b : UInt64) (f : Int) (a : LX) : Option (LX) :=
if (Ci f 8) then
if (Gf (Ad (Abu b 256) : Int32) 127) then
j8 b f a (Ao (Ad (Abu b 256) : Int32) 256)
else
j8 b f a (Ad (Abu b 256) : Int32)
else
j10 a
def Gt : Nat → UInt64 → Int → LX → Option (LX)
| 0, _, _, _ => none
| q + 1, b, f, a => Sr (Sn (Gt q)) Ahe b f a
def Ajk := Gt Ay
def Ajv (j6 : UInt64 → Int → LX → Option (LX)) (k : UInt64) : Option (LX) :=
j6 k 0 (List.replicate 16 (0 : Int32))
def Agz := Ajv Ajk
def Wp (a : LB) : Option (LX × Int) :=
if (Gf (Ac a) 64) then
some (([(0 : Int32), (0 : Int32), (0 : Int32), (0 : Int32), (0 : Int32), (0 : Int32), (0 : Int32), (0 : Int32), (0 : Int32), (0 : Int32), (0 : Int32), (0 : Int32), (0 : Int32), (0 : Int32), (0 : Int32), (0 : Int32)] : LX), 2)
else
(Ae4 a).bind fun (b, g) =>
(Agz b).bind fun f =>
some (f, 0)
def Kl (a : Int) : Option Int :=
if (geq a 8) then
some 128
else
if (geq a 16) then
some 32768
else
if (geq a 24) then
some 8388608
else
some 0
def Sy (a b : Int) : Option Int :=
if ((Ci a 1) || (Gf a 6)) then
some 2
else
(Kl b).bind fun f =>
if (geq f 0) then
some 2
else
some 0
def Ja (a f b : Int) : Option Int :=
(Sy a f).bind fun g =>
if ((Bn g 0) || (Ci b 1)) then
some 2
else
(Wq (Bn a 0)).bind fun _ =>
if (Gf b (Cn 4000 a)) then
some 2
else
some 0
def Ql (b : LB) : Option (LB) :=
(Nw b).bind fun a =>
(Db ([] : LB) b).bind fun f =>
(Db f ([(Ad a : UInt8), (Ad (Cg a (GI.toZ (8 : UInt64)).toNat) : UInt8), (Ad (Cg a (GI.toZ (16 : UInt64)).toNat) : UInt8), (Ad (Cg a (GI.toZ (24 : UInt64)).toNat) : UInt8)] : LB)).bind fun g =>
some g
def Ld (a : LB) : Option Int :=
if (Ci (Ac a) 5) then
some 24
else
if (Gf (Ac a) 41254) then
some 4
else
(Bb a 0 (Ao (Ac a) 4)).bind fun b =>
(Ql b).bind fun f =>
if (f != a) then
some 22
else
some 0
def Iy : Option (Int × Int × UInt64 × UInt64) :=
some (10, 10, 16384, 16384)
def Aoq (a : UInt64) : Option UInt64 :=
some a
def Adv := Aoq
def Mw (j6 : UInt64 → Option UInt64) (bk4 : UInt64 → Int → Option UInt64) (b : Int) (a : UInt64) (f : Int) : Option UInt64 :=
if (Ci f b) then
bk4 (Bp a 2) (Af f 1)
else
j6 a
def Gh (b : Int) : Nat → UInt64 → Int → Option UInt64
| 0, _, _ => none
| q + 1, a, f => Mw Adv (Gh b q) b a f
def Aeb b := Gh b Ay
def Aec (j4 : Int → UInt64 → Int → Option UInt64) (b : Int) : Option UInt64 :=
j4 b 1 0
def Dm := Aec Aeb
def Qw (a g : Int) (h k : UInt64) (b : UInt32) : Option Bool :=
(Dm a).bind fun f =>
some (Ci (Ad b : UInt64) f)
def Kk (a g : Int) (h k : UInt64) (b : UInt32) : Option UInt32 :=
(Dm a).bind fun f =>
some (Ad (Ao (Ad b : UInt64) f) : UInt32)
abbrev Zg := Option (Int × UInt64)
def Agf (b : Int) (a f : UInt64) : Zg :=
if (Ci b 24) then
(Dm (Af b 5)).bind fun g =>
if (Gf (Ao (Af a f) (Cn a 16)) g) then
some ((Af b 1), (Ao (Af a f) (Cn a 16)))
else
some (b, (Ao (Af a f) (Cn a 16)))
else
some (b, (Ao (Af a f) (Cn a 16)))
def Om := Agf
def Xt (j2 : Int → UInt64 → UInt64 → Zg) (b : Int) (a f : UInt64) : Zg :=
if (Gf b 0) then
(Dm (Af b 4)).bind fun h =>
if (Ci (Ao (Af a f) (Cn a 16)) h) then
some ((Ao b 1), (Ao (Af a f) (Cn a 16)))
else
j2 b a f
else
j2 b a f
def Hs := Xt Om
abbrev Ve := Option (Int × Int × UInt64 × UInt64)
def Adk (h : UInt32) (f a : Int) (g b : UInt64) (o : Int) (p : UInt64) : Ve :=
(Hs f g (Ad h : UInt64)).bind fun (aa, ab) =>
some (aa, o, ab, p)
def Lt := Adk
def Lr (j2 : UInt32 → Int → Int → UInt64 → UInt64 → Int → UInt64 → Ve) (f a : Int) (g b : UInt64) (h : UInt32) : Ve :=
(Qw f a g b h).bind fun u =>
if (!u) then
(
(
(Kk f a g b h).bind fun k =>
(Hs a b (Ad k : UInt64)).bind fun (m, n) =>
j2 h f a g b m n))
else
j2 h f a g b a b
def Qp := Lr Lt
abbrev Dx := Option (Int × Int × UInt64 × UInt64)
def An4 (a b : Int) (f g : UInt64) : Dx :=
some (a, b, f, g)
def Adb := An4
def Te (j6 : Int → Int → UInt64 → UInt64 → Dx) (bk4 : Int → Int → Int → UInt64 → UInt64 → Dx) (h : Int) (k : LU) (m a b : Int) (f g : UInt64) : Dx :=
if (Ci m (Ac k)) then
(Al k m).bind fun n =>
(Qp a b f g n).bind fun (o, p, u, v) =>
bk4 (Af m h) o p u v
else
j6 a b f g
def Hv (h : Int) (k : LU) : Nat → Int → Int → Int → UInt64 → UInt64 → Dx
| 0, _, _, _, _, _ => none
| q + 1, m, a, b, f, g => Te Adb (Hv h k q) h k m a b f g
def Adj h k := Hv h k Ay
def Tm (j4 : Int → LU → Int → Int → Int → UInt64 → UInt64 → Dx) (h : Int) (k : LU) : Dx :=
(Iy).bind fun (w, y, aa, ab) =>
(Wq (Bn h 0)).bind fun _ =>
j4 h k (Lk (Ac k) h) w y aa ab
def Le := Tm Adj
def Air (a : Int) : Option Int :=
some (Lk a 2)
def Aa1 := Air
def Td (j6 : Int → Option Int) (bk4 : Int → Int → Option Int) (b a f : Int) : Option Int :=
if (Ci f (Lk b 8)) then
bk4 (Cn a 2) (Af f 1)
else
j6 a
def Jb (b : Int) : Nat → Int → Int → Option Int
| 0, _, _ => none
| q + 1, a, f => Td Aa1 (Jb b q) b a f
def Aax b := Jb b Ay
def Aa4 (j4 : Int → Int → Int → Option Int) (g : LB) (k b : Int) : Option Int :=
(Al g (Cn b 8)).bind fun h =>
j4 b (Ad h : Int) 0
def Ij := Aa4 Aax
abbrev Dl := Option (LB × Int)
def Ahj (b g a : Int) (f : LB) : Dl :=
(Al f (Cn a 8)).bind fun _ =>
(Al f (Cn a 8)).bind fun m =>
(Al f (Cn a 8)).bind fun _ =>
(Sa f (Cn a 8) (Af m (Ad (Bp b g) : UInt8))).bind fun n =>
some (n, (Af a 1))
def Qr := Ahj
def Qi (j8 : Int → Int → Int → LB → Dl) (bk6 : Int → Int → Dl) (b a : Int) (f : LB) (g h : Int) : Dl :=
if (Ci h (Lk a 8)) then
bk6 (Bp g 2) (Af h 1)
else
j8 b g a f
def Ie (b a : Int) (f : LB) : Nat → Int → Int → Dl
| 0, _, _ => none
| q + 1, g, h => Qi Qr (Ie b a f q) b a f g h
def Zb b a f := Ie b a f Ay
def Zo (j6 : Int → Int → LB → Int → Int → Dl) (b a : Int) (f : LB) : Dl :=
j6 b a f 1 0
def Qt := Zo Zb
def Zn (j5 : Int → Int → LB → Dl) (k : LB) (a b : Int) : Dl :=
if (geq (Lk a 8) 0) then
(Db k ([(0 : UInt8)] : LB)).bind fun o =>
j5 b a o
else
j5 b a k
def Rp := Zn Qt
abbrev Dn := Option (LB × Int)
def Al2 (a : Int) (b : LB) : Dn :=
some (b, a)
def Aa9 := Al2
def Ke (j6 : Int → LB → Dn) (bk4 : Int → Int → LB → Dn) (f : Int) (g : LB) (h k a : Int) (b : LB) : Dn :=
if (Ci k f) then
(Ij g h k).bind fun m =>
(Rp b a m).bind fun (n, o) =>
bk4 (Af k 1) o n
else
j6 a b
def Ee (f : Int) (g : LB) (h : Int) : Nat → Int → Int → LB → Dn
| 0, _, _, _ => none
| q + 1, k, a, b => Ke Aa9 (Ee f g h q) f g h k a b
def Abt f g h := Ee f g h Ay
def Aba (j4 : Int → LB → Int → Int → Int → LB → Dn) (g : LB) (h p f : Int) : Dn :=
j4 f g h p 0 ([] : LB)
def Xl := Aba Abt
def Aos (a : UInt64) : Option UInt64 :=
some a
def Ad3 := Aos
def Na (j6 : UInt64 → Option UInt64) (bk4 : UInt64 → Int → Option UInt64) (b : Int) (f : LB) (g : Int) (a : UInt64) (h : Int) : Option UInt64 :=
if (Ud h 0) then
(Ij f g (Af b h)).bind fun k =>
bk4 (Af (Bp 2 a) (Ad k : UInt64)) (Ao h 1)
else
j6 a
def Fx (b : Int) (f : LB) (g : Int) : Nat → UInt64 → Int → Option UInt64
| 0, _, _ => none
| q + 1, a, h => Na Ad3 (Fx b f g q) b f g a h
def Uz b f g := Fx b f g Ay
def Vh (j4 : Int → LB → Int → UInt64 → Int → Option UInt64) (f : LB) (g b m : Int) : Option UInt64 :=
j4 b f g 0 (Ao m 1)
def Mo := Vh Uz
abbrev Gu := Option (Int × Int)
def Aho (b a : Int) (g : LB) (f : Int) : Gu :=
if (geq a 48) then
some (a, (Af b a))
else
if (Ud (Af b a) f) then
some ((-1 : Int), 0)
else
some (a, (Af (Af b a) 1))
def Qf := Aho
def Qj (j6 : Int → Int → LB → Int → Gu) (bk4 : Int → Gu) (b : Int) (g : LB) (f a : Int) : Gu :=
if ((Ci (Af b a) f) && (Ci a 48)) then
(Ij g f (Af b a)).bind fun h =>
if (geq h 1) then
bk4 (Af a 1)
else
j6 b a g f
else
j6 b a g f
def If (b : Int) (g : LB) (f : Int) : Nat → Int → Gu
| 0, _ => none
| q + 1, a => Qj Qf (If b g f q) b g f a
def Ahg b g f := If b g f Ay
def Ahh (j4 : Int → LB → Int → Int → Gu) (g : LB) (f b : Int) : Gu :=
j4 b g f 0
def Ae3 := Ahh Ahg
def Wk (b : UInt32) (f : Int) : Option Int :=
(Dm f).bind fun a =>
(Wq (Bn a 0)).bind fun _ =>
some (Ad (Fv 48 (Cn (Ad b : UInt64) a)) : Int)
abbrev Aav := Option (UInt32 × Int × Int)
def Zf (g a b : Int) (h : LB) (f k : Int) : Aav :=
if ((Ci a 0) || (Ci (Ao f b) k)) then
some (0, 0, 24)
else
(Mo h f b k).bind fun m =>
if (Ci a 48) then
(Dm g).bind fun o =>
some ((Ad (Af (Bp (Ad a : UInt64) o) m) : UInt32), (Af b k), 0)
else
(Wk (Ad m : UInt32) g).bind fun p =>
if (Ci p a) then
some (0, 0, 12)
else
some ((Ad m : UInt32), (Af b k), 0)
def Qu := Zf
def Zp (j2 : Int → Int → Int → LB → Int → Int → Aav) (h : LB) (f n g : Int) : Aav :=
if (Ud n f) then
some (0, 0, 24)
else
(Ae3 h f n).bind fun (a, b) =>
if (geq a 48) then
j2 g a b h f 32
else
j2 g a b h f g
def Yo := Zp Qu
def Yr (g : LB) (b a f n : Int) (v w : UInt64) : Option (UInt32 × Int × Int) :=
if (Ud a b) then
some (0, 0, 24)
else
(Ij g b a).bind fun o =>
if (geq o 0) then
if (Ci (Ao (Ao b a) 1) f) then
some (0, 0, 24)
else
(Mo g b (Af a 1) f).bind fun p =>
some ((Ad p : UInt32), (Af (Af a 1) f), 0)
else
(Yo g b (Af a 1) n).bind fun (h, u, k) =>
if (Bn k 0) then
some (0, 0, k)
else
(Dm f).bind fun m =>
if (Gf (Af (Ad h : UInt64) m) 4294967295) then
some (0, 0, 12)
else
some ((Ad (Af (Ad h : UInt64) m) : UInt32), u, 0)
abbrev Be := Option (LU × Int)
def Aov (b : LU) : Be :=
some (b, 0)
def Ad9 := Aov
def Mr (j18 : LU → Be) (bk16 : Int → Be) (a : LB) (b : LU) (m : Int) : Be :=
if (Ci m (Bp 8 (Ac a))) then
(Ij a (Bp 8 (Ac a)) m).bind fun n =>
if (Bn n 0) then
some (b, 12)
else
bk16 (Af m 1)
else
j18 b
def Gb (a : LB) (b : LU) : Nat → Int → Be
| 0, _ => none
| q + 1, m => Mr Ad9 (Gb a b q) a b m
def Vl a b := Gb a b Ay
def Ux (j16 : LB → LU → Int → Be) (f : Int) (a : LB) (b : LU) : Be :=
if (Gf (Ao (Bp 8 (Ac a)) f) 7) then
some (b, 12)
else
j16 a b f
def Mu := Ux Vl
def Ad7 (bk10 : Int → Int → LU → Be) (g h : Int) (a : LB) (f k : Int) (b : LU) (o p : Int) (u v : UInt64) : Be :=
(Xl a (Bp 8 (Ac a)) f (Fv (Af f 81) (Bp 8 (Ac a)))).bind fun (y, aa) =>
(Yr y aa 0 o p u v).bind fun (ab, ac, w) =>
if (Bn w 0) then
some (b, w)
else
(Db b ([ab] : LU)).bind fun ad =>
bk10 (Af f ac) (Af k 1) ad
def Fy bk10 := Ad7 bk10
def Vs (j13 : Int → Int → LU → Int → Int → UInt64 → UInt64 → Be) (j15 : Int → LB → LU → Be) (g h : Int) (a : LB) (f k : Int) (b : LU) : Be :=
if (Ci k (Bp h g)) then
(Iy).bind fun (n, ae, af, ag) =>
if (Ud k g) then
(Le g b).bind fun (ah, ai, aj, ak) =>
j13 f k b ah ai aj ak
else
j13 f k b n ae af ag
else
j15 f a b
def Cx (g h : Int) (a : LB) : Nat → Int → Int → LU → Be
| 0, _, _, _ => none
| q + 1, f, k, b => Vs (Fy (Cx g h a q) g h a) Mu g h a f k b
def Aee g h a := Cx g h a Ay
def Xv (j10 : Int → Int → LB → Int → Int → LU → Be) (g h : Int) (a : LB) : Be :=
j10 g h a 0 0 ([] : LU)
def Wg := Xv Aee
def Ais (a : Int) : Option (Int × Int) :=
if (geq a 8) then
some (4, 0)
else
if ((geq a 16) || (geq a 24)) then
some (5, 0)
else
some (0, 2)
def Al7 (a : Int) (b : LX) : Option (Int × LX × LX × Int) :=
(Ais a).bind fun (g, f) =>
if (Bn f 0) then
some (0, (List.replicate 16 (0 : Int32)), (List.replicate 16 (0 : Int32)), 2)
else
if (geq a 16) then
some (9, b, (List.replicate 16 (0 : Int32)), 0)
else
some (10, b, (List.replicate 16 (0 : Int32)), 0)
def Ael (a : Int) (b : LX) : Option (Int × Int32 × Int × LX × LX × Int) :=
(Al7 a b).bind fun (f, g, h, k) =>
if (Bn k 0) then
some (0, 0, 0, (List.replicate 16 (0 : Int32)), (List.replicate 16 (0 : Int32)), 2)
else
some (a, 0, f, g, h, 0)
def Kj (a : UInt32) : Option Int32 :=
if (geq (Abu a 2) 0) then
some (Ad (Cn a 2) : Int32)
else
some (Ad (Cn (Atc (Af (Ad a : Int) 1)) 2) : Int32)
def Bw (a : Int) : Option Int32 :=
some (Ad (Ad (Ad a : UInt64) : UInt32) : Int32)
def Ahk (a : Int) : Option Int32 :=
some (Ad a : Int32)
def Zq := Ahk
def Qs (j6 : Int → Option Int32) (bk4 : Int → Int → Option Int32) (h : Int) (f g : LX) (a b : Int) : Option Int32 :=
if (Ci b 16) then
(Al f b).bind fun _ =>
(Al g b).bind fun _ =>
(Al f b).bind fun k =>
(Al g b).bind fun m =>
(Bw (Bp (Ad k : Int) (Ad m : Int))).bind fun n =>
(Bw (Af a (Ad n : Int))).bind fun o =>
bk4 (Ad o : Int) (Af b 1)
else
j6 a
def Ii (h : Int) (f g : LX) : Nat → Int → Int → Option Int32
| 0, _, _ => none
| q + 1, a, b => Qs Zq (Ii h f g q) h f g a b
def Ahn h f g := Ii h f g Ay
def Ahi (j4 : Int → LX → LX → Int → Int → Option Int32) (h : Int) (f g : LX) : Option Int32 :=
j4 h f g 0 0
def Aeq := Ahi Ahn
def Afm (b : Int) (f g : LX) (a : Int) : Option Int32 :=
(Aeq b f g).bind fun k =>
(Bw (Af (Ad k : Int) (Cn a 2))).bind fun h =>
(Wq (Bn a 0)).bind fun _ =>
(Wq (Bn a 0)).bind fun _ =>
if (Ci (Lk (Ad h : Int) a) 0) then
some (Ad (Ao (Cn (Ad h : Int) a) 1) : Int32)
else
some (Ad (Cn (Ad h : Int) a) : Int32)
def On := Afm
def Ww (j2 : Int → LX → LX → Int → Option Int32) (b : Int) (f g : LX) : Option Int32 :=
if (geq b 9) then
j2 b f g 512
else
j2 b f g 1024
def Vx := Ww On
def Wa (a : Int) : Option Int32 :=
if (geq a 0) then
some 4
else
if (gle a 3) then
some 2
else
some 1
def Of (a : Int32) : Option Int32 :=
if (Ci a 0) then
some (-1 : Int32)
else
if (Gf a 0) then
some 1
else
some 0
abbrev Dp := Option (Int × LX × LX)
def Amk (g : Int) (b a : LX) : Dp :=
some (g, b, a)
def Abi := Amk
def Kg (j6 : Int → LX → LX → Dp) (bk4 : Int → LX → Dp) (h : Int32) (g : Int) (a : LX) (f : Int) (b : LX) : Dp :=
if (Ci f 16) then
(Al b f).bind fun _ =>
(Al a f).bind fun _ =>
(Al b f).bind fun k =>
(Al a f).bind fun m =>
(Wa f).bind fun n =>
(Of m).bind fun o =>
(Of h).bind fun p =>
(Al b f).bind fun _ =>
(Sa b f (Af k (Bp (Bp n o) p))).bind fun u =>
bk4 (Af f 1) u
else
j6 g b a
def Eg (h : Int32) (g : Int) (a : LX) : Nat → Int → LX → Dp
| 0, _, _ => none
| q + 1, f, b => Kg Abi (Eg h g a q) h g a f b
def Abm h g a := Eg h g a Ay
def Abo (j4 : Int32 → Int → LX → Int → LX → Dp) (g : Int) (v a : LX) (h : Int32) : Dp :=
j4 h g a 0 v
def Xn := Abo Abm
abbrev Ea := Option (Int × LX × LX)
def Ab9 (b : Int32) (f : Int) (g a : LX) : Ea :=
(Al a 0).bind fun _ =>
(Sa a 0 b).bind fun k =>
some (f, g, k)
def Ub := Ab9
def Lm (j6 : Int32 → Int → LX → LX → Ea) (bk4 : Int → LX → Ea) (b : Int32) (f : Int) (g : LX) (h : Int) (a : LX) : Ea :=
if (Gf h 0) then
(Al a (Ao h 1)).bind fun _ =>
(Al a (Ao h 1)).bind fun m =>
(Al a h).bind fun _ =>
(Sa a h m).bind fun n =>
bk4 (Ao h 1) n
else
j6 b f g a
def Ff (b : Int32) (f : Int) (g : LX) : Nat → Int → LX → Ea
| 0, _, _ => none
| q + 1, h, a => Lm Ub (Ff b f g q) b f g h a
def Adr b f g := Ff b f g Ay
def Ade (j4 : Int32 → Int → LX → Int → LX → Ea) (f : Int) (g o : LX) (b : Int32) : Ea :=
j4 b f g 15 o
def Zl := Ade Adr
def Ny (a : Int) (b f : LX) (g : Int32) : Option (Int32 × Int × LX × LX) :=
(Vx a b f).bind fun k =>
(Bw (Af (Ad g : Int) (Ad k : Int))).bind fun h =>
(Xn a b f g).bind fun (m, n, o) =>
(Zl m n o h).bind fun (p, u, v) =>
some (h, p, u, v)
def Abv (b : Int32) (a : Int) : Option Int32 :=
(Wq (Bn a 0)).bind fun _ =>
(Wq (Bn a 0)).bind fun _ =>
if (Ci (Lk (Bp (Ao a 1) (Ad b : Int)) a) 0) then
some (Ad (Ao (Cn (Bp (Ao a 1) (Ad b : Int)) a) 1) : Int32)
else
some (Ad (Cn (Bp (Ao a 1) (Ad b : Int)) a) : Int32)
def Lq := Abv
def Ti (j2 : Int32 → Int → Option Int32) (f : Int) (b : Int32) : Option Int32 :=
if (geq f 5) then
j2 b 32
else
j2 b 16
def La := Ti Lq
def Qn (b : Int) (a : Int32) (h : Int) (k m : LX) : Option Int :=
if (geq b 8) then
(La 4 a).bind fun f =>
some (Ad f : Int)
else
(La 5 a).bind fun g =>
some (Ad g : Int)
def Hj (a : Int) (k : Int32) (b : Int) (f g : LX) (m : Int32) : Option (Int32 × Int × Int32 × Int × LX × LX) :=
(Ny b f g m).bind fun (n, o, p, u) =>
(Qn a k b f g).bind fun v =>
(Bw (Af (Ad n : Int) v)).bind fun h =>
some (h, a, h, o, p, u)
def Mp (a : Int) (b : LX) : Option Int :=
if ((Ci a 1) || (Gf a 6)) then
some 2
else
if (Gf (Ac b) 4000) then
some 4
else
(Wq (Bn a 0)).bind fun _ =>
if (Gf (Lk (Ac b) a) 0) then
some 2
else
some 0
def Alv (b : LX) : Option (LX) :=
some b
def Abp := Alv
def Kf (j8 : LX → Option (LX)) (bk6 : Int → LX → Option (LX)) (a : LX) (f : Int) (b : LX) : Option (LX) :=
if (Ud f 0) then
(Al b (Af f 1)).bind fun _ =>
(Al a f).bind fun m =>
(Al b (Af f 1)).bind fun n =>
(Bw (Ao (Ad n : Int) (Ad m : Int))).bind fun o =>
(Al b f).bind fun _ =>
(Sa b f o).bind fun p =>
bk6 (Ao f 1) p
else
j8 b
def Ej (a : LX) : Nat → Int → LX → Option (LX)
| 0, _, _ => none
| q + 1, f, b => Kf Abp (Ej a q) a f b
def Abk a := Ej a Ay
def Rh (j6 : LX → Int → LX → Option (LX)) (a g : LX) : Option (LX) :=
j6 a (Ao (Ac a) 2) g
def Ki := Rh Abk
def Rq (j5 : LX → LX → Option (LX)) (a : LX) : Option (LX) :=
(mkI (Ac a) (0 : Int32)).bind fun k =>
(Wq (geq (Ac a) (Ac a))).bind fun _ =>
(Al a (Ao (Ac a) 1)).bind fun u =>
(Al k (Ao (Ac a) 1)).bind fun _ =>
(Sa k (Ao (Ac a) 1) u).bind fun h =>
if (Gf (Ac a) 1) then
(Al a (Ao (Ac a) 1)).bind fun v =>
(Al a (Ao (Ac a) 2)).bind fun w =>
(Bw (Af (Ad v : Int) (Cn (Ad w : Int) 2))).bind fun y =>
(Al h (Ao (Ac a) 1)).bind fun _ =>
(Sa h (Ao (Ac a) 1) y).bind fun aa =>
j5 a aa
else
j5 a h
def Oa := Rq Ki
abbrev Fo := Option (LX × Int)
def Apb (f : LX) : Fo :=
some (f, 0)
def Agn := Apb
def Ya (j6 : LX → Fo) (bk4 : Int → LX → Fo) (a : Int) (b : LX) (g : Int) (f : LX) : Fo :=
if (Ci g (Ac b)) then
(Bb b g (Af g a)).bind fun h =>
(Oa h).bind fun k =>
(Db f k).bind fun m =>
bk4 (Af g a) m
else
j6 f
def Js (a : Int) (b : LX) : Nat → Int → LX → Fo
| 0, _, _ => none
| q + 1, g, f => Ya Agn (Js a b q) a b g f
def Agb a b := Js a b Ay
def Wz (j4 : Int → LX → Int → LX → Fo) (a : Int) (b : LX) : Fo :=
(Mp a b).bind fun n =>
if (Bn n 0) then
(Mp a b).bind fun o =>
some (([] : LX), o)
else
j4 a b 0 ([] : LX)
def Vz := Wz Agb
def Aa6 (a f : Int) (w : LX) : Option (LX) :=
(Vz a w).bind fun (aj, ai) =>
some aj
def Jw := Aa6
def Abd (bk18 : Int → LX → Option (LX)) (b : LU) (a f : Int) (g : LX) (h : Int) (m : LX) : Option (LX) :=
bk18 (Af h 1) m
def Rt bk18 := Abd bk18
def Abl (bk26 : Int → LX → Int → Int32 → Int → LX → LX → Option (LX)) (b : LU) (h a f : Int) (g : LX) (k : Int) (af : LX) (y : Int) (aa : Int32) (ab : Int) (ac ad : LX) : Option (LX) :=
bk26 (Af k a) af y aa ab ac ad
def Re bk26 := Abl bk26
def Rv (j30 : Int → LX → Int → Int32 → Int → LX → LX → Option (LX)) (b : LU) (h a f : Int) (g : LX) (k : Int) (ae : Int32) (m : LX) (n : Int) (o : Int32) (p : Int) (u v : LX) (y : Int) (aa : Int32) (ab : Int) (ac ad : LX) : Option (LX) :=
(Al m k).bind fun _ =>
(Sa m k ae).bind fun af =>
j30 k af y aa ab ac ad
def Ry bk26 b h a f g := Rv (Re bk26 b h a f g) b h a f g
def Jy (j29 : Int → Int32 → LX → Int → Int32 → Int → LX → LX → Int → Int32 → Int → LX → LX → Option (LX)) (j32 : Int → LX → Option (LX)) (b : LU) (a f : Int) (g : LX) (h k : Int) (m : LX) (n : Int) (o : Int32) (p : Int) (u v : LX) : Option (LX) :=
if (Ci k (Ac b)) then
(Al b k).bind fun ah =>
(
(Kj ah).bind fun ag =>
(
(Hj n o p u v ag).bind fun (ae, y, aa, ab, ac, ad) =>
j29 k ae m n o p u v y aa ab ac ad))
else
j32 h m
def Hb (bk18 : Int → LX → Option (LX)) (b : LU) (a f : Int) (g : LX) (h : Int) : Nat → Int → LX → Int → Int32 → Int → LX → LX → Option (LX)
| 0, _, _, _, _, _, _, _ => none
| q + 1, k, m, n, o, p, u, v => Jy (Ry (Hb bk18 b a f g h q) b h a f g) (Rt bk18 b a f g) b a f g h k m n o p u v
def Ro bk18 b a f g h := Hb bk18 b a f g h Ay
def Jv (j26 : Int → Int → LX → Int → Int32 → Int → LX → LX → Option (LX)) (j34 : Int → Int → LX → Option (LX)) (b : LU) (a f : Int) (g : LX) (h : Int) (w : LX) : Option (LX) :=
if (Ci h a) then
(Ael f g).bind fun (ak, ai, al, am, an, aq) =>
j26 h h w ak ai al am an
else
j34 a f w
def Cz (b : LU) (a f : Int) (g : LX) : Nat → Int → LX → Option (LX)
| 0, _, _ => none
| q + 1, h, w => Jv (Ro (Cz b a f g q) b a f g) Jw b a f g h w
def Rc b a f g := Cz b a f g Ay
def Sp (j18 : LU → Int → Int → LX → Int → LX → Option (LX)) (a f : Int) (g : LX) (b : LU) : Option (LX) :=
(mkI (Ac b) (0 : Int32)).bind fun ao =>
(Wq (geq (Ac b) (Ac b))).bind fun _ =>
j18 b a f g 0 ao
def Ih := Sp Rc
def Aou : Option Int :=
some 0
def Ad8 := Aou
def Cv (j6 : Option Int) (bk4 : Int → Option Int) (a : LX) (b f : Int) : Option Int :=
if (Ci f (Ac a)) then
(Al a f).bind fun g =>
if (Ci (Ad g : Int) (Atc b)) then
some 16
else
(Al a f).bind fun h =>
if (Ud (Ad h : Int) b) then
some 16
else
bk4 (Af f 1)
else
j6
def Bd (a : LX) (b : Int) : Nat → Int → Option Int
| 0, _ => none
| q + 1, f => Cv Ad8 (Bd a b q) a b f
def Ad2 a b := Bd a b Ay
def Gg (j4 : LX → Int → Int → Option Int) (k : Int) (a : LX) : Option Int :=
(Kl k).bind fun b =>
if (geq b 0) then
some 2
else
if (Gf (Ac a) 4000) then
some 4
else
j4 a b 0
def Bf := Gg Ad2
def Kv (g f : Int) (a : LX) : Option (LX × Int) :=
(Bf f a).bind fun b =>
if (Bn b 0) then
some (([] : LX), b)
else
some (a, 0)
abbrev Ur := Option (LX × Int)
def Dk (f a b : Int) (g : LX) (h : LU) : Ur :=
if (Bn f 0) then
some (([] : LX), f)
else
(
(
(Ih a b g h).bind fun m =>
(Kv a b m).bind fun (n, o) =>
some (n, o)))
def Fa := Dk
def Lh (j2 : Int → Int → Int → LX → LU → Ur) (a b : Int) (g : LX) (p : Int) (k : LB) : Ur :=
(Ja a b p).bind fun y =>
if (Bn y 0) then
some (([] : LX), 2)
else
(Ld k).bind fun aa =>
if (Bn aa 0) then
(Ld k).bind fun ab =>
some (([] : LX), ab)
else
(Bb k 0 (Ao (Ac k) 4)).bind fun ac =>
(Wg a p ac).bind fun (h, f) =>
j2 f a b g h
def Ig := Lh Fa
def Yz (a b : Int) : Option (LB) :=
if (geq a 24) then
(Db ([(Ad (Lk b 256) : UInt8), (Ad (Lk (Cn b 256) 256) : UInt8)] : LB) ([(Ad (Cn b 65536) : UInt8)] : LB)).bind fun g =>
some g
else
some ([(Ad (Lk b 256) : UInt8), (Ad (Lk (Cn b 256) 256) : UInt8)] : LB)
def Ic := Yz
def Zh (j2 : Int → Int → Option (LB)) (a : Int) (f : Int32) : Option (LB) :=
if (geq a 8) then
some ([(Ad (Af (Ad f : Int) 128) : UInt8)] : LB)
else
if (Ci (Ad f : Int) 0) then
(Kl a).bind fun h =>
j2 a (Af (Ad f : Int) (Bp 2 h))
else
j2 a (Ad f : Int)
def Yt := Zh Ic
abbrev Ep := Option (LB × Int)
def Aor (b : LB) : Ep :=
some (b, 0)
def Ady := Aor
def Mz (j6 : LB → Ep) (bk4 : Int → LB → Ep) (f : Int) (a : LX) (g : Int) (b : LB) : Ep :=
if (Ci g (Ac a)) then
(Al a g).bind fun h =>
(Yt f h).bind fun k =>
(Db b k).bind fun m =>
bk4 (Af g 1) m
else
j6 b
def Fz (f : Int) (a : LX) : Nat → Int → LB → Ep
| 0, _, _ => none
| q + 1, g, b => Mz Ady (Fz f a q) f a g b
def Adz f a := Fz f a Ay
def Vd (j4 : Int → LX → Int → LB → Ep) (f : Int) (a : LX) : Ep :=
(Bf f a).bind fun n =>
if (Bn n 0) then
(Bf f a).bind fun o =>
some (([] : LB), o)
else
j4 f a 0 ([] : LB)
def Tf := Vd Adz
abbrev Up := Option (LB × Int)
def Sf (o : LX) (f : Int) (p g : LB) (h k a m n : Int) (u : LI) (b : Int) (v : LB) (w : Bool) (y : Int) : Up :=
if (Bn f 0) then
some (([] : LB), f)
else
(Tf a o).bind fun (ac, ai) =>
some (ac, 0)
def Li := Sf
def Ll (j2 : LX → Int → LB → LB → Int → Int → Int → Int → Int → LI → Int → LB → Bool → Int → Up) (p g : LB) (h k a m n : Int) (u : LI) (b : Int) (v : LB) (w : Bool) (y : Int) : Up :=
(Al u b).bind fun aa =>
if (Ci (Ac g) aa) then
some (([] : LB), (-1 : Int))
else
(Wp p).bind fun (ad, aj) =>
(Bb g 0 aa).bind fun ae =>
(Jf h k a m n).bind fun (af, ag) =>
(Di h k a m n).bind fun ab =>
(Al ab b).bind fun _ =>
(Al ab b).bind fun ah =>
(Ig af ag ad ah ae).bind fun (o, f) =>
j2 o f p g h k a m n u b v w y
def Lg := Ll Li
abbrev Ky := Option (LB × LB × Int × Int × Int × Int × Int × LI × Int × LB × Bool × Int × Int)
def Em (g a : LB) (m o p u v : Int) (b : LI) (f : Int) (n : LB) (h : Bool) (k : Int) : Ky :=
if (geq (Ac b) 0) then
(Kw a m o p u v g).bind fun (ag, ak, w) =>
if (Bn w 0) then
some (g, a, m, o, p, u, v, b, f, n, h, k, w)
else
(Bb a ag (Ac a)).bind fun al =>
some (g, al, m, o, p, u, v, ak, f, n, h, k, 0)
else
if (geq f (Ac b)) then
if (Gf (Ac a) 4000) then
some (g, a, m, o, p, u, v, b, f, n, h, k, 38)
else
some (g, a, m, o, p, u, v, b, f, n, h, k, (-1 : Int))
else
(Lg g a m o p u v b f n h k).bind fun (am, y) =>
if (Bn y 0) then
some (g, a, m, o, p, u, v, b, f, n, h, k, y)
else
(Db ([] : LB) n).bind fun an =>
(Db an am).bind fun ah =>
(
(
(
(Al b f).bind fun ad =>
(
(Bb a ad (Ac a)).bind fun ae =>
some (g, ae, m, o, p, u, v, b, (Af f 1), ah, h, k, 0)))))
def Gy := Em
def Xq (g af : LB) (aa w ab ac y : Int) (b : LI) (f : Int) (n : LB) (h : Bool) (k : Int) : Ky :=
(Gw aa w ab ac y g).bind fun aw =>
some (g, af, aa, w, ab, ac, y, b, f, n, h, k, aw)
def Ot := Xq
def Cq (j3 : LB → LB → Int → Int → Int → Int → Int → LI → Int → LB → Bool → Int → Ky) (j4 : LB → LB → Int → Int → Int → Int → Int → LI → Int → LB → Bool → Int → Ky) (g a : LB) (m o p u v : Int) (b : LI) (f : Int) (n : LB) (h : Bool) (k : Int) : Ky :=
if (geq m 0) then
(Jo a).bind fun (ag, aa, w, ab, ac, y, ai) =>
if (Bn ai 0) then
some (g, a, m, o, p, u, v, b, f, n, h, k, ai)
else
(
(Bb a ag (Ac a)).bind fun af =>
(
j3 g af aa w ab ac y b f n h k))
else
j4 g a m o p u v b f n h k
def cadenzaref37_take := Cq Ot Gy
def Ad1 (o p : LB) (b f g h k : Int) (m : LI) (a : Int) (n : LB) (u : Bool) (v : Int) : Option Bool :=
(cadenzaref37_take o p b f g h k m a n u v).bind fun (af, ag, ah, ai, aj, ak, al, am, an, ao, ap, aq, w) =>
some (geq w (-1 : Int))
def Bu := Ad1
def Vi (j4 : LB → LB → Int → Int → Int → Int → Int → LI → Int → LB → Bool → Int → Option Bool) (o p : LB) (b f g h k : Int) (m : LI) (a : Int) (n : LB) (u : Bool) (v : Int) : Option Bool :=
if (geq (Ac m) 0) then
if ((Bn a 0) || (Gf (Ac n) 0)) then
some false
else
j4 o p b f g h k m a n u v
else
(Ew m).bind fun y =>
if (Bn y 0) then
if ((true || (Ci a 0)) || (Gf a (Ac m))) then
some false
else
(Ok b f g h k a).bind fun aa =>
if (Gf (Ac n) aa) then
some false
else
j4 o p b f g h k m a n u v
else
(Di b f g h k).bind fun ab =>
if (((Bn (Ac m) (Ac ab)) || (Ci a 0)) || (Gf a (Ac m))) then
some false
else
(Ok b f g h k a).bind fun ac =>
if (Gf (Ac n) ac) then
some false
else
j4 o p b f g h k m a n u v
def Ut := Vi Bu
def Vg (j4 : LB → LB → Int → Int → Int → Int → Int → LI → Int → LB → Bool → Int → Option Bool) (j3 : LB → LB → Int → Int → Int → Int → Int → LI → Int → LB → Bool → Int → Option Bool) (o p : LB) (b f g h k : Int) (m : LI) (a : Int) (n : LB) (u : Bool) (v : Int) : Option Bool :=
if ((geq b 0) && ((geq f 0) && ((geq g 0) && ((geq h 0) && ((geq k 0) && true))))) then
if (((Gf (Ac m) 0) || (Bn a 0)) || (Gf (Ac n) 0)) then
some false
else
j4 o p b f g h k m a n u v
else
(Gv b f g h k).bind fun ad =>
if (Bn ad 0) then
some false
else
(Gw b f g h k o).bind fun ae =>
if (Bn ae 0) then
some false
else
j3 o p b f g h k m a n u v
def Mj := Vg Bu Ut
def Oh (a : Int) : Option Bool :=
some (((((((geq a 4) || (geq a 12)) || (geq a 16)) || (geq a 22)) || (geq a 24)) || (geq a 26)) || (geq a 38))
def Ix (h k : LB) (m n o p u : Int) (v : LI) (f : Int) (g : LB) (b : Bool) (a : Int) : Option Int :=
if (Gf (Ac h) 64) then
some 8
else
if ((geq a 0) && (!b)) then
(Mj h k m n o p u v f g b a).bind fun w =>
if (!w) then
some 8
else
some 0
else
if ((geq (Ac k) 0) && (geq (Ac v) 0)) then
if ((!(((geq m 0) && ((geq n 0) && ((geq o 0) && ((geq p 0) && ((geq u 0) && true))))) && (geq f 0))) || (Gf (Ac g) 12000)) then
some 8
else
if (Bn a 0) then
if b then
some 8
else
(Oh a).bind fun y =>
if (!y) then
some 8
else
some 0
else
some 0
else
if ((!(false && (geq f 0))) || (Gf (Ac g) 12000)) then
some 8
else
if (Bn a 0) then
if b then
some 8
else
(Oh a).bind fun aa =>
if (!aa) then
some 8
else
some 0
else
some 0
def Jp (f g : LB) (h k m n o : Int) (p : LI) (u : Int) (v : LB) (b : Bool) (a : Int) : Option Int :=
if (Bn a 0) then
some a
else
if b then
some 36
else
some 0
def Hp (a m : LB) (n o p u v : Int) (w : LI) (y : Int) (b : LB) (aa : Bool) (ab : Int) : Option (LB × LB × Int × Int × Int × Int × Int × LI × Int × LB × Bool × Int) :=
(
(
(Db ([] : LB) b).bind fun f =>
some (a, ([] : LB), 0, 0, 0, 0, 0, ([] : LI), 0, f, false, 0)))
def Lb (b f : LB) (g h k m n : Int) (o : LI) (p : Int) (u : LB) (v : Bool) (w a : Int) : Option (LB × LB × Int × Int × Int × Int × Int × LI × Int × LB × Bool × Int × Int) :=
(Hp b f g h k m n o p u v w).bind fun (y, aa, ab, ac, ad, ae, af, ag, ah, ai, aj, ak) =>
some (y, aa, ab, ac, ad, ae, af, ag, ah, ai, aj, a, a)
abbrev Lc := Option (LB × LB × Int × Int × Int × Int × Int × LI × Int × LB × Bool × Int × Int)
def Xy (bk3 : LB → LB → Int → Int → Int → Int → Int → LI → Int → LB → Bool → Int → Lc) (a b : LB) (f g h k m : Int) (n : LI) (o : Int) (p : LB) (u : Bool) (v : Int) : Lc :=
(cadenzaref37_take a b f g h k m n o p u v).bind fun (bb, bc, bd, be, bf, bg, bh, bi, bj, bk, bl, bm, w) =>
if (geq w (-1 : Int)) then
(Fs a b f g h k m n o p u v).bind fun (bn, bp, bq, br, bs, bt, bu, bv, bw, bx, bz, da) =>
some (bn, bp, bq, br, bs, bt, bu, bv, bw, bx, bz, da, 0)
else
if (Bn w 0) then
(Lb a b f g h k m n o p u v w).bind fun (db, dc, dd, de, df, dg, dh, di, dj, dk, dl, dm, dn) =>
some (db, dc, dd, de, df, dg, dh, di, dj, dk, dl, dm, dn)
else
bk3 bb bc bd be bf bg bh bi bj bk bl bm
def Jn : Nat → LB → LB → Int → Int → Int → Int → Int → LI → Int → LB → Bool → Int → Lc
| 0, _, _, _, _, _, _, _, _, _, _, _, _ => none
| q + 1, a, b, f, g, h, k, m, n, o, p, u, v => Xy (Jn q) a b f g h k m n o p u v
def Agh := Jn Ay
def Yb (j3 : LB → LB → Int → Int → Int → Int → Int → LI → Int → LB → Bool → Int → Lc) (al am : LB) (an ao ap aq ar : Int) (au : LI) (av : Int) (aw : LB) (ax : Bool) (ay : Int) (dp : LB) : Lc :=
(Ix al am an ao ap aq ar au av aw ax ay).bind fun az =>
if (Bn az 0) then
some (([] : LB), ([] : LB), 0, 0, 0, 0, 0, ([] : LI), 0, ([] : LB), false, 0, az)
else
(Fs al am an ao ap aq ar au av aw ax ay).bind fun (y, aa, ab, ac, ad, ae, af, ag, ah, ai, aj, ak) =>
(Jp y aa ab ac ad ae af ag ah ai aj ak).bind fun ba =>
if (Bn ba 0) then
some (y, aa, ab, ac, ad, ae, af, ag, ah, ai, aj, ak, ba)
else
(Db aa dp).bind fun dq =>
j3 y dq ab ac ad ae af ag ah ai aj ak
def Wi := Yb Agh
abbrev Ash := Option (Int × Int)
def Avx (a : LB) : Ash :=
(Bb a (Ao (Ac a) 32) (Ac a)).bind fun g =>
(Ah8 g 0).bind fun (f, y, h) =>
if h then
if (Ci (Ao (Ac a) 32) f) then
some (0, 24)
else
some ((Af f 32), 0)
else
(Bb a (Ao (Ac a) 32) (Ac a)).bind fun k =>
(Ah8 k 2147483648).bind fun (b, m, n) =>
if (!n) then
some (0, 12)
else
if (Ci (Ac a) (Af b 64)) then
some (0, 24)
else
(Bb a (Ao (Ac a) (Af b 64)) (Af (Ao (Ac a) (Af b 64)) 32)).bind fun o =>
(Aqo b m 2684354560).bind fun p =>
(Il o p).bind fun u =>
if (!u) then
some (0, 12)
else
some ((Af b 64), 0)
def Apz := Avx
def Ao5 (j2 : LB → Ash) (a : LB) : Ash :=
if (Ci (Ao (Ac a) 32) 0) then
some (0, 6)
else
(Bb a (Ao (Ac a) 32) (Ac a)).bind fun v =>
(Kr v ([(65 : UInt8), (80 : UInt8), (69 : UInt8), (84 : UInt8), (65 : UInt8), (71 : UInt8), (69 : UInt8), (88 : UInt8)] : LB)).bind fun w =>
if (!w) then
some (0, 6)
else
j2 a
def Ati := Ao5 Apz
abbrev Eo := Option (Int × Int)
def Auq (a : Int) : Eo :=
some (a, 0)
def Alz := Auq
def Amg (bk8 : Int → LB → Eo) (a : Int) (g : LB) : Eo :=
bk8 (Af a 1) g
def Aez bk8 := Amg bk8
def Aeh (j12 : Int → LB → Eo) (a f : Int) (b : LB) : Eo :=
if (geq f 0) then
some (0, 38)
else
(Bb b 0 (Ao (Ac b) f)).bind fun g =>
j12 a g
def Ae0 bk8 := Aeh (Aez bk8)
def Ag9 (j11 : Int → Int → LB → Eo) (j14 : Int → Eo) (a : Int) (b : LB) : Eo :=
if (Gf (Ac b) 0) then
(Ati b).bind fun (f, k) =>
j11 a f b
else
j14 a
def Uf : Nat → Int → LB → Eo
| 0, _, _ => none
| q + 1, a, b => Ag9 (Ae0 (Uf q)) Alz a b
def Aoe := Uf Ay
def Agy (j8 : Int → LB → Eo) (h : LB) : Eo :=
if (Gf (Ac h) 4000) then
some (0, 38)
else
j8 0 h
def Ahq := Agy Aoe
def Ab0 (p a : LB) (g u v w y : Int) (b : LI) (h : Int) (aa : LB) (ab : Bool) (ac : Int) : Option Int :=
if (geq g 0) then
(Jq a).bind fun (k, f) =>
if (Bn f 0) then
some f
else
(Bb a k (Ac a)).bind fun m =>
(Pg m).bind fun (ad, ae, af, ag, ah, n) =>
some n
else
if ((Ci h (Ac b)) || (geq (Ac b) 0)) then
some 24
else
(Ahq a).bind fun (ai, o) =>
some o
def Adf (aa ab : LB) (ac ad ae af ag : Int) (ah : LI) (ai : Int) (aj : LB) (ak : Bool) (al : Int) : Option (LB × LB × Int × Int × Int × Int × Int × LI × Int × LB × Bool × Int × Int) :=
(Pm aa ab ac ad ae af ag ah ai aj ak al).bind fun (a, f, g, h, k, m, n, o, p, b, u, v, w) =>
if (Bn w 0) then
some (a, f, g, h, k, m, n, o, p, b, u, v, w)
else
(Ab0 a f g h k m n o p b u v).bind fun y =>
if (Bn y 0) then
(Am2 a f g h k m n o p b u v y).bind fun (am, an, ao, ap, aq, ar, au, av, aw, ax, ay, az, ba) =>
some (am, an, ao, ap, aq, ar, au, av, aw, ax, ay, az, ba)
else
some (a, ([] : LB), 0, 0, 0, 0, 0, ([] : LI), 0, b, true, 0, 0)
abbrev Fl := Option (Int × Int)
def Xj (a : LB) (f g : Int) (b h : LB) (k : Int) : Fl :=
if (Ci (Ac a) k) then
some (0, 24)
else
if (b == h) then
(Bb a (Ao (Ac a) k) (Af (Ao (Ac a) k) 32)).bind fun o =>
(Pf f g).bind fun p =>
if (o != p) then
some (0, 12)
else
some (k, 0)
else
some (k, 0)
def Oj := Xj
def Pb (j6 : LB → Int → Int → LB → LB → Int → Fl) (a : LB) (f g : Int) (b h : LB) : Fl :=
if (b == h) then
j6 a f g b h (Af (Af 32 f) 32)
else
j6 a f g b h (Af 32 f)
def Og := Pb Oj
def Pc (j5 : LB → Int → Int → LB → LB → Fl) (a : LB) : Fl :=
(Bb a (Ao (Ac a) 32) (Ac a)).bind fun b =>
(Kh b).bind fun (f, g, n) =>
if (!n) then
some (0, 12)
else
(De f g true).bind fun h =>
(
if (!(b == h)) then
(De f g false).bind fun m =>
if (b != m) then
some (0, 12)
else
j5 a f g b h
else
j5 a f g b h)
def Xp := Pc Og
def Wr (j4 : LB → Fl) (a : LB) : Fl :=
if (Ci (Ac a) 32) then
some (0, 6)
else
(Bb a (Ao (Ac a) 32) (Af (Ao (Ac a) 32) 8)).bind fun u =>
if (u != ([65, 80, 69, 84, 65, 71, 69, 88] : LB)) then
some (0, 6)
else
j4 a
def Wn := Wr Xp
abbrev Dy := Option (Int × Int)
def Ang (a : Int) : Dy :=
some (a, 0)
def Acu := Ang
def To (j6 : Int → Dy) (bk4 : LB → Int → Dy) (b : LB) (a : Int) : Dy :=
if (Gf (Ac b) 0) then
(Wn b).bind fun (g, h) =>
if (Bn h 0) then
some (0, 38)
else
(Bb b 0 (Ao (Ac b) g)).bind fun k =>
bk4 k (Af a 1)
else
j6 a
def Hw : Nat → LB → Int → Dy
| 0, _, _ => none
| q + 1, b, a => To Acu (Hw q) b a
def Ac5 := Hw Ay
def Ua (j4 : LB → Int → Dy) (f : LB) : Dy :=
if (Gf (Ac f) 4000) then
some (0, 38)
else
j4 f 0
def Qg := Ua Ac5
def Qo (p a : LB) (g u v w y : Int) (b : LI) (h : Int) (aa : LB) (ab : Bool) (ac : Int) : Option Int :=
if (geq g 0) then
(Mn a).bind fun (k, f) =>
if (Bn f 0) then
some f
else
(Bb a k (Ac a)).bind fun m =>
(Oz m).bind fun (ad, ae, af, ag, ah, n) =>
some n
else
if ((geq (Ac b) 0) || (Ci h (Ac b))) then
some 24
else
(Qg a).bind fun (ai, o) =>
if (Bn o 0) then
some 38
else
some 0
def Qh (w y : LB) (aa ab ac ad ae : Int) (af : LI) (ag : Int) (ah : LB) (ai : Bool) (aj : Int) : Option (LB × LB × Int × Int × Int × Int × Int × LI × Int × LB × Bool × Int × Int) :=
(Ix w y aa ab ac ad ae af ag ah ai aj).bind fun ak =>
if (Bn ak 0) then
some (([] : LB), ([] : LB), 0, 0, 0, 0, 0, ([] : LI), 0, ([] : LB), false, 0, ak)
else
(Fs w y aa ab ac ad ae af ag ah ai aj).bind fun (a, b, f, g, h, k, m, n, o, p, u, v) =>
(Jp a b f g h k m n o p u v).bind fun al =>
if (Bn al 0) then
some (a, b, f, g, h, k, m, n, o, p, u, v, al)
else
(Qo a b f g h k m n o p u v).bind fun am =>
if (Bn am 0) then
(Lb a b f g h k m n o p u v am).bind fun (an, ao, ap, aq, ar, au, av, aw, ax, ay, az, ba, bb) =>
some (an, ao, ap, aq, ar, au, av, aw, ax, ay, az, ba, bb)
else
(Hp a b f g h k m n o p u v).bind fun (bc, bd, be, bf, bg, bh, bi, bj, bk, bl, bn, bm) =>
some (bc, bd, be, bf, bg, bh, bi, bj, bk, bl, true, bm, 0)
def Aff (f g : LB) (h k m n o : Int) (p : LI) (u : Int) (v : LB) (w : Bool) (y b : Int) : Option (LB × LB × Int × Int × Int × Int × Int × LI × Int × LB × Bool × Int × LB × Int) :=
(Jj f g h k m n o p u v w y).bind fun aa =>
if (Bn aa 0) then
some (([] : LB), ([] : LB), 0, 0, 0, 0, 0, ([] : LI), 0, ([] : LB), false, 0, ([] : LB), aa)
else
if (Ci b 0) then
some (([] : LB), ([] : LB), 0, 0, 0, 0, 0, ([] : LI), 0, ([] : LB), false, 0, ([] : LB), 2)
else
(Cf f g h k m n o p u v w y).bind fun (ab, ac, ad, ae, af, ag, ah, ai, aj, a, ak, al) =>
(Bb a 0 (Fv b (Ac a))).bind fun am =>
(Hc am).bind fun an =>
(Bb a (Fv b (Ac a)) (Ac a)).bind fun ao =>
some (ab, ac, ad, ae, af, ag, ah, ai, aj, ao, ak, al, an, 0)
def So (f g : LB) (h k m n o : Int) (p : LI) (u : Int) (v : LB) (w : Bool) (y b : Int) : Option (LB × LB × Int × Int × Int × Int × Int × LI × Int × LB × Bool × Int × LB × Int) :=
(Ix f g h k m n o p u v w y).bind fun aa =>
if (Bn aa 0) then
some (([] : LB), ([] : LB), 0, 0, 0, 0, 0, ([] : LI), 0, ([] : LB), false, 0, ([] : LB), aa)
else
if (Ci b 0) then
some (([] : LB), ([] : LB), 0, 0, 0, 0, 0, ([] : LI), 0, ([] : LB), false, 0, ([] : LB), 2)
else
(Fs f g h k m n o p u v w y).bind fun (ab, ac, ad, ae, af, ag, ah, ai, aj, a, ak, al) =>
(Bb a 0 (Fv b (Ac a))).bind fun am =>
(Bb a (Fv b (Ac a)) (Ac a)).bind fun an =>
some (ab, ac, ad, ae, af, ag, ah, ai, aj, an, ak, al, am, 0)
def Ali : Option Bool :=
some true
def Zw := Ali
def Jl (j6 : Option Bool) (bk4 : Int → Option Bool) (a b : LI) (f : Int) : Option Bool :=
if (Ci f (Ac a)) then
(Al a f).bind fun g =>
(Al b f).bind fun h =>
if (Bn g h) then
some false
else
bk4 (Af f 1)
else
j6
def Ds (a b : LI) : Nat → Int → Option Bool
| 0, _ => none
| q + 1, f => Jl Zw (Ds a b q) a b f
def Aab a b := Ds a b Ay
def Pq (j4 : LI → LI → Int → Option Bool) (a b : LI) : Option Bool :=
if (Bn (Ac a) (Ac b)) then
some false
else
j4 a b 0
def Ms := Pq Aab
def Cs (o p : LB) (u v w y aa : Int) (ab : LI) (a : Int) (b : LB) (f : Bool) (g : Int) (ac ad : LB) (ae af ag ah ai : Int) (aj : LI) (h : Int) (k : LB) (m : Bool) (n : Int) : Option Bool :=
if (((o == ac) && (p == ad)) && ((geq u ae) && ((geq v af) && ((geq w ag) && ((geq y ah) && ((geq aa ai) && true)))))) then
(Ms ab aj).bind fun ak =>
some ((((ak && (geq a h)) && (b == k)) && (f == m)) && (geq g n))
else
some ((((false && (geq a h)) && (b == k)) && (f == m)) && (geq g n))
def Ue (w : LB) (al : Int) (a b : LB) (f g h k m : Int) (n : LI) (o : Int) (p : LB) (u : Bool) (v : Int) : Option Bool :=
(Fs a b f g h k m n o p u v).bind fun (y, aa, ab, ac, ad, ae, af, ag, ah, ai, aj, ak) =>
(Ahv y aa ab ac ad ae af ag ah ai aj ak w).bind fun (bt, bu, bv, bw, bx, bz, da, db, dc, dd, de, df, dg) =>
(Wi a b f g h k m n o p u v w).bind fun (dh, di, dj, dk, dl, dm, dn, dp, dq, dr, ds, dt, du) =>
(Adf y aa ab ac ad ae af ag ah ai aj ak).bind fun (dv, dw, dx, dy, dz, fa, fb, fc, fd, fe, ff, fg, aq) =>
(Qh a b f g h k m n o p u v).bind fun (fh, fi, fj, fk, fl, fm, fn, fo, fp, fq, fs, ft, ar) =>
(Aff y aa ab ac ad ae af ag ah ai aj ak al).bind fun (au, av, aw, ax, ay, az, ba, bb, bc, bd, be, bf, am, an) =>
(So a b f g h k m n o p u v al).bind fun (bg, bh, bi, bj, bk, bl, bm, bn, bp, bq, br, bs, ao, ap) =>
(Cs bt bu bv bw bx bz da db dc dd de df dh di dj dk dl dm dn dp dq dr ds dt).bind fun fu =>
if (fu && (geq dg du)) then
(Cs dv dw dx dy dz fa fb fc fd fe ff fg fh fi fj fk fl fm fn fo fp fq fs ft).bind fun fv =>
if (fv && (geq aq ar)) then
(Cs au av aw ax ay az ba bb bc bd be bf bg bh bi bj bk bl bm bn bp bq br bs).bind fun fw =>
if ((fw && (am == ao)) && (geq an ap)) then
(Cs y aa ab ac ad ae af ag ah ai aj ak a b f g h k m n o p u v).bind fun fx =>
some fx
else
some false
else
if ((false && (am == ao)) && (geq an ap)) then
(Cs y aa ab ac ad ae af ag ah ai aj ak a b f g h k m n o p u v).bind fun fy =>
some fy
else
some false
else
if (false && (geq aq ar)) then
(Cs au av aw ax ay az ba bb bc bd be bf bg bh bi bj bk bl bm bn bp bq br bs).bind fun fz =>
if ((fz && (am == ao)) && (geq an ap)) then
(Cs y aa ab ac ad ae af ag ah ai aj ak a b f g h k m n o p u v).bind fun ga =>
some ga
else
some false
else
if ((false && (am == ao)) && (geq an ap)) then
(Cs y aa ab ac ad ae af ag ah ai aj ak a b f g h k m n o p u v).bind fun gb =>
some gb
else
some false
def Ko := Ue
def Km (j2 : LB → Int → LB → LB → Int → Int → Int → Int → Int → LI → Int → LB → Bool → Int → Option Bool) (a b : LB) (f g h k m : Int) (n : LI) (o : Int) (p : LB) (u : Bool) (v : Int) (w : LB) (al : Int) : Option Bool :=
(Tk a b f g h k m n o p u v).bind fun gc =>
if gc then
some true
else
(We w).bind fun gd =>
if gd then
some true
else
j2 w al a b f g h k m n o p u v
def Nj := Km Ko
end Go.Pl
