/- A part of the proof of a statement of this seat (see the text that ends in Proof): DuPure. No conditions of its own. -/
import Derived.Test.YtneipcijjnibdaaGreatDoorDuBA
set_option linter.unusedVariables false
namespace Go.Pl
open Go Go.Lv
abbrev LB := List UInt8
abbrev LI := List Int
abbrev LX := List Int32
abbrev LU := List UInt32
abbrev LQ := List UInt64
def Adh (a b f : Int) (g : LX) : Option (Int × Int) :=
some (a, b)
abbrev Qe := Option (Int32 × Int32 × Int)
def Alm (a : Int) (b : Bool) : Qe :=
if b then
(Dr (Et (Ae a 1) 0)).bind fun _ =>
some ((Atr (Ef (1 : Int32) (GI.toZ (Ae a 1)).toNat)), (Ae (Ef (1 : Int32) (GI.toZ (Ae a 1)).toNat) 1), 0)
else
some (0, 0, 2)
def Ym := Alm
def Yd (j2 : Int → Bool → Qe) (a : Int) : Qe :=
if (geq a 8) then
j2 a (geq a 8)
else
if (geq a 16) then
j2 a (geq a 16)
else
j2 a (geq a 24)
def Yh := Yd Ym
def Kf (a b : Int) : Option Int :=
(Yh b).bind fun (g, h, f) =>
if (((Bf f 0) || (Bl a 1)) || (En a 6)) then
some 2
else
some 0
def Sn (a : Int) : Option (Int × Int) :=
if ((Bl a 1) || (En a 1048576)) then
some (0, 2)
else
some ((Amn 1 (Hj (Cc 256 a) 245)), 0)
def Ki (g b : Int) : Option (Int × Int) :=
(Sn g).bind fun (a, f) =>
if (Bf f 0) then
some (0, f)
else
if ((Bl b 1) || (En b 4000)) then
some (0, 2)
else
(Dr (Bf a 0)).bind fun _ =>
if (En (Hj (Ae (Aa b a) 1) a) 1000) then
some (0, 4)
else
some ((Hj (Ae (Aa b a) 1) a), 0)
def Anj (a g f : Int) (h : LX) (b : Int) : Option Int :=
(Adh a g f h).bind fun (k, m) =>
(Kf k m).bind fun n =>
if ((Bf n 0) || (Bl b 1)) then
some 8
else
(Dr (Bf a 0)).bind fun _ =>
if (En b (Hj 4000 a)) then
some 8
else
(Ki f b).bind fun (p, o) =>
if (Bf o 0) then
some 8
else
some 0
def Ajw : Option Int :=
some 0
def Aav := Ajw
def Zk (j6 : Option Int) (bk4 : Int → Option Int) (b f : Int32) (a : LX) (g : Int) : Option Int :=
if (Bl g (Ac a)) then
(Ah a g).bind fun h =>
if ((Bl h b) || (En h f)) then
some 16
else
bk4 (Aa g 1)
else
j6
def Mu (b f : Int32) (a : LX) : Nat → Int → Option Int
| 0, _ => none
| q + 1, g => Zk Aav (Mu b f a q) b f a g
def Ws b f a := Mu b f a Ce
def Ys (j4 : Int32 → Int32 → LX → Int → Option Int) (m : Int) (a : LX) : Option Int :=
(Yh m).bind fun (b, f, k) =>
if (Bf k 0) then
some k
else
if (En (Ac a) 4000) then
some 4
else
j4 b f a 0
def Kr := Ys Ws
def Jq (a f h : Int) (b : LX) : Option Int :=
if (Bl a 1) then
some 8
else
(Dr (Bf a 0)).bind fun _ =>
if (Bf (Ev (Ac b) a) 0) then
some 8
else
(Dr (Bf a 0)).bind fun _ =>
(Anj a f h b (Hj (Ac b) a)).bind fun g =>
if (Bf g 0) then
some g
else
(Kr f b).bind fun k =>
if (Bf k 0) then
some 8
else
some 0
abbrev Qa := Option (Int × Int × Int × Int × Int × Int)
def Alx (h : LB) (a b f : Int) (g : LX) : Qa :=
if (h != ([] : LB)) then
some (2, a, b, f, (Hj (Ac g) a), 0)
else
some (1, a, b, f, (Hj (Ac g) a), 0)
def Xt := Alx
def Mi (j2 : LB → Int → Int → Int → LX → Qa) (a b f : Int) (g : LX) (h : LB) : Qa :=
(Jq a b f g).bind fun k =>
if (Bf k 0) then
some (0, 0, 0, 0, 0, k)
else
if (En (Ac h) 64) then
some (0, 0, 0, 0, 0, 2)
else
(Dr (Bf a 0)).bind fun _ =>
(
j2 h a b f g)
def Ahx := Mi Xt
abbrev As := Option (UInt64 × Int)
def Ai8 (h : UInt64) : As :=
some (h, 0)
def Xu := Ai8
def Yn (j30 : UInt64 → As) (h b : UInt64) (a : LB) (f : LQ) : As :=
j30 h
def Wb := Yn Xu
def Ww (j29 : UInt64 → UInt64 → LB → LQ → As) (bk27 : UInt64 → Int → As) (a : LB) (b : UInt64) (f : LQ) (h : UInt64) (m : Int) : As :=
if (Bl m (Ac a)) then
(Ah a m).bind fun p =>
Option.bind (Ah f (GI.toZ (Vs (Ak (Bj h (GI.toZ (56 : UInt64)).toNat) : UInt8) p))) fun _ =>
Option.bind (Ah f (GI.toZ (Vs (Ak (Bj h (GI.toZ (56 : UInt64)).toNat) : UInt8) p))) fun u =>
bk27 (Vs (Ef h (GI.toZ (8 : UInt64)).toNat) u) (Aa m 1)
else
j29 h b a f
def Nk (a : LB) (b : UInt64) (f : LQ) : Nat → UInt64 → Int → As
| 0, _, _ => none
| q + 1, h, m => Ww Wb (Nk a b f q) a b f h m
def Wc a b f := Nk a b f Ce
def Aap (j27 : LB → UInt64 → LQ → UInt64 → Int → As) (b : UInt64) (a : LB) (f : LQ) : As :=
j27 a b f b 0
def Aam := Aap Wc
def Akt (bk16 : Int → LQ → As) (b : UInt64) (a : LB) (g : Int) (o : LQ) : As :=
bk16 (Aa g 1) o
def Vv bk16 := Akt bk16
def Yy (j24 : Int → LQ → As) (b : UInt64) (a : LB) (g : Int) (k : UInt64) (f : LQ) : As :=
(Ah f g).bind fun _ =>
(Fh f g k).bind fun o =>
j24 g o
def Zg bk16 b a := Yy (Vv bk16 b a) b a
def Yz (j23 : Int → UInt64 → LQ → As) (bk21 : UInt64 → Int → As) (b : UInt64) (a : LB) (g : Int) (f : LQ) (k : UInt64) (n : Int) : As :=
if (Bl n 8) then
bk21 (Vs (Ef k (GI.toZ (1 : UInt64)).toNat) (Cc 4823603603198064275 (Bj k (GI.toZ (63 : UInt64)).toNat))) (Aa n 1)
else
j23 g k f
def Nu (bk16 : Int → LQ → As) (b : UInt64) (a : LB) (g : Int) (f : LQ) : Nat → UInt64 → Int → As
| 0, _, _ => none
| q + 1, k, n => Yz (Zg bk16 b a) (Nu bk16 b a g f q) b a g f k n
def Vz bk16 b a g f := Nu bk16 b a g f Ce
def Xz (j21 : Int → LQ → UInt64 → Int → As) (j26 : UInt64 → LB → LQ → As) (b : UInt64) (a : LB) (g : Int) (f : LQ) : As :=
if (Bl g 256) then
j21 g f (Ef (Ak g : UInt64) (GI.toZ (56 : UInt64)).toNat) 0
else
j26 b a f
def Ml (b : UInt64) (a : LB) : Nat → Int → LQ → As
| 0, _, _ => none
| q + 1, g, f => Xz (Vz (Ml b a q) b a) Aam b a g f
def Zd b a := Ml b a Ce
def Acr (j16 : UInt64 → LB → Int → LQ → As) (b : UInt64) (a : LB) : As :=
if (En (Ac a) 100000) then
some (0, 4)
else
j16 b a 0 (List.replicate 256 (0 : UInt64))
def Als := Acr Zd
def Agr (a : LB) : Option (UInt64 × Int) :=
(Als 0 a).bind fun (b, f) =>
some (b, f)
def Arc (a : LX) : Option (LX) :=
some a
def Ala := Arc
def Ajv (j6 : LX → Option (LX)) (bk4 : Int → LX → Option (LX)) (f : UInt64) (b : Int) (a : LX) : Option (LX) :=
if (Bl b 8) then
(Dr (Et (Cc 8 b) 0)).bind fun _ =>
(Ah a b).bind fun _ =>
(Fh a b (Ak (Ak (Bj f (GI.toZ (Cc 8 b)).toNat) : Int8) : Int32)).bind fun g =>
bk4 (Aa b 1) g
else
j6 a
def Acy (f : UInt64) : Nat → Int → LX → Option (LX)
| 0, _, _ => none
| q + 1, b, a => Ajv Ala (Acy f q) f b a
def Aki f := Acy f Ce
def Alw (j4 : UInt64 → Int → LX → Option (LX)) (f : UInt64) : Option (LX) :=
j4 f 0 (List.replicate 16 (0 : Int32))
def Asl := Alw Aki
def Ls (a : LB) : Option (LX × Int) :=
if (En (Ac a) 64) then
some (([(0 : Int32), (0 : Int32), (0 : Int32), (0 : Int32), (0 : Int32), (0 : Int32), (0 : Int32), (0 : Int32), (0 : Int32), (0 : Int32), (0 : Int32), (0 : Int32), (0 : Int32), (0 : Int32), (0 : Int32), (0 : Int32)] : LX), 2)
else
(Agr a).bind fun (f, b) =>
if (Bf b 0) then
some (([(0 : Int32), (0 : Int32), (0 : Int32), (0 : Int32), (0 : Int32), (0 : Int32), (0 : Int32), (0 : Int32), (0 : Int32), (0 : Int32), (0 : Int32), (0 : Int32), (0 : Int32), (0 : Int32), (0 : Int32), (0 : Int32)] : LX), b)
else
(Asl f).bind fun g =>
some (g, 0)
def Ui (a b : UInt64) : Option (UInt64 × UInt64) :=
some ((Aa (Aa (Cc (Bj a (GI.toZ (32 : UInt64)).toNat) (Bj b (GI.toZ (32 : UInt64)).toNat)) (Bj (Aa (Cc (Bj a (GI.toZ (32 : UInt64)).toNat) (Cj b 4294967295)) (Bj (Cc (Cj a 4294967295) (Cj b 4294967295)) (GI.toZ (32 : UInt64)).toNat)) (GI.toZ (32 : UInt64)).toNat)) (Bj (Aa (Cj (Aa (Cc (Bj a (GI.toZ (32 : UInt64)).toNat) (Cj b 4294967295)) (Bj (Cc (Cj a 4294967295) (Cj b 4294967295)) (GI.toZ (32 : UInt64)).toNat)) 4294967295) (Cc (Cj a 4294967295) (Bj b (GI.toZ (32 : UInt64)).toNat))) (GI.toZ (32 : UInt64)).toNat)), (Cc a b))
def Ab0 (a b : UInt64) : Option (UInt64 × UInt64) :=
(Ui a b).bind fun (f, g) =>
some (f, g)
def Oo (a : LI) : Option (LI) :=
some a
def Gs := Oo
def Eh (j10 : LI → Option (LI)) (bk8 : Int → LI → Option (LI)) (b : Int) (a : LI) : Option (LI) :=
if (Bl b (Ac a)) then
(
(vwI (Ac a) b (Ac a)).bind fun _ =>
(vwI (Ac a) 0 b).bind fun _ =>
bk8 (Aa b (Acf ((Ac a) - b) (Vr a 0 (b - (0 : Int))).length)) (Hc a b ((Ac a) - b) (Vr a 0 (b - (0 : Int)))))
else
j10 a
def Ej : Nat → Int → LI → Option (LI)
| 0, _, _ => none
| q + 1, b, a => Eh Gs (Ej q) b a
def Hn := Ej Ce
def Hu (j8 : Int → LI → Option (LI)) (f : LI) (g : UInt64) : Option (LI) :=
(mkI (Ak g : Int) (0 : Int)).bind fun k =>
(Dr (geq (Ak g : Int) (Ak g : Int))).bind fun _ =>
j8 (Acf (Ac k) f.length) (Asp k f)
def Hh := Hu Hn
def Hs (j7 : LI → UInt64 → Option (LI)) (f : LI) (h : Int) : Option (LI) :=
(Ab0 (Ak (Ac f) : UInt64) (Ak h : UInt64)).bind fun (m, g) =>
if ((En m 0) || (En g 9223372036854775807)) then
none
else
j7 f g
def Hf := Hs Hh
def Hr (j6 : LI → Int → Option (LI)) (f : LI) (h : Int) : Option (LI) :=
if (Bl h 0) then
none
else
j6 f h
def Jk := Hr Hf
def On (f : LI) : Option (LI) :=
some f
def Gw := On
def Gt (j16 : LI → Option (LI)) (bk14 : Int → LI → Option (LI)) (a : List LI) (g : Int) (f : LI) : Option (LI) :=
if (Bl g (Ac a)) then
(Ah a g).bind fun o =>
(Dp f o).bind fun p =>
bk14 (Aa g 1) p
else
j16 f
def Ec (a : List LI) : Nat → Int → LI → Option (LI)
| 0, _, _ => none
| q + 1, g, f => Gt Gw (Ec a q) a g f
def Gn a := Ec a Ce
def Gu (j14 : (List LI) → Int → LI → Option (LI)) (a : List LI) (k : LI) : Option (LI) :=
j14 a 0 k
def Gm := Gu Gn
def Gv (j13 : (List LI) → LI → Option (LI)) (b : Int) (a : List LI) : Option (LI) :=
if (En (Ae b (Ae (0 : Int) (0 : Int))) 0) then
(vwI 0 0 0).bind fun _ =>
(mkI (Ae b (Ae (0 : Int) (0 : Int))) (0 : Int)).bind fun u =>
(Dp ([] : LI) u).bind fun m =>
(vwI (Ac m) 0 0).bind fun _ =>
j13 a (Vr m 0 ((0 : Int) - (0 : Int)))
else
j13 a ([] : LI)
def Gq := Gv Gm
def Gp (j12 : Int → (List LI) → Option (LI)) (a : List LI) (b : Int) : Option (LI) :=
if (Bl b 0) then
none
else
j12 b a
def Gx := Gp Gq
def Hk (j11 : (List LI) → Int → Option (LI)) (bk9 : Int → Int → Option (LI)) (a : List LI) (b h : Int) : Option (LI) :=
if (Bl h (Ac a)) then
(Ah a h).bind fun n =>
if (Bl (Aa b (Ac n)) 0) then
none
else
bk9 (Aa b (Ac n)) (Aa h 1)
else
j11 a b
def Ei (a : List LI) : Nat → Int → Int → Option (LI)
| 0, _, _ => none
| q + 1, b, h => Hk Gx (Ei a q) a b h
def Hv a := Ei a Ce
def Hq (j9 : (List LI) → Int → Int → Option (LI)) (a : List LI) : Option (LI) :=
j9 a 0 0
def Jm := Hq Hv
def Xo (a b : LI) : Option (LI) :=
(Jm ([a, b] : List LI)).bind fun f =>
some f
def Kt (a b : Int) : Option (LI × Int) :=
(Ki a b).bind fun (f, g) =>
if (Bf g 0) then
some (([] : LI), g)
else
(Sn a).bind fun (h, n) =>
(Jk ([h] : LI) (Ae f 1)).bind fun k =>
(Xo k ([(Ae b (Cc (Ae f 1) h))] : LI)).bind fun m =>
some (m, 0)
def Abw (a f : Int) (b : LX) : Option Int :=
(Kf a f).bind fun g =>
if (Bf g 0) then
some g
else
(Kr f b).bind fun h =>
if (Bf h 0) then
some h
else
if (geq (Ac b) 0) then
some 2
else
(Dr (Bf a 0)).bind fun _ =>
if (Bf (Ev (Ac b) a) 0) then
some 2
else
some 0
def Agj (a : Int) (b : LX) : Option Int :=
if ((Bl a 1) || (En a 6)) then
some 2
else
if (En (Ac b) 4000) then
some 4
else
(Dr (Bf a 0)).bind fun _ =>
if (Bf (Ev (Ac b) a) 0) then
some 2
else
some 0
def Cf (a : LX) : Option (LX) :=
(
(Dp ([] : LX) a).bind fun b =>
some b)
abbrev Cu := Option (LX × Int)
def Ao5 (f : LX) : Cu :=
some (f, 0)
def Ahr := Ao5
def Aqh (bk12 : Int → LX → Cu) (b a : Int) (k : LX) : Cu :=
bk12 (Aa a b) k
def Aic bk12 := Aqh bk12
def Ahq (j20 : Int → LX → Cu) (b a : Int) (g : LX) : Cu :=
if (En (Ae ((Aa a b) - a) 1) 0) then
(Dr (decide (0 ≤ (Ae ((Aa a b) - a) 1) ∧ (Ae ((Aa a b) - a) 1) < ((Aa a b) - a)))).bind fun _ =>
Option.bind (Dr (decide (0 ≤ (Ae (Ae ((Aa a b) - a) 1) 1) ∧ (Ae (Ae ((Aa a b) - a) 1) 1) < ((Aa a b) - a)))) fun _ =>
(Ah g (a + (Ae ((Aa a b) - a) 1))).bind fun m =>
(Ah g (a + (Ae (Ae ((Aa a b) - a) 1) 1))).bind fun n =>
(Dr (decide (0 ≤ (Ae ((Aa a b) - a) 1) ∧ (Ae ((Aa a b) - a) 1) < ((Aa a b) - a)))).bind fun _ =>
(Fh g (a + (Ae ((Aa a b) - a) 1)) (Ae m (Hj n 2))).bind fun o =>
j20 a o
else
j20 a g
def Agz bk12 b := Ahq (Aic bk12 b) b
def Ahj (j19 : Int → LX → Cu) (bk17 : Int → LX → Cu) (b a h : Int) (g : LX) : Cu :=
if (Bl h (Ae ((Aa a b) - a) 1)) then
(Dr (decide (0 ≤ (Aa h 1) ∧ (Aa h 1) < ((Aa a b) - a)))).bind fun _ =>
(Dr (decide (0 ≤ h ∧ h < ((Aa a b) - a)))).bind fun _ =>
(Ah g (a + (Aa h 1))).bind fun m =>
(Ah g (a + h)).bind fun n =>
(Dr (decide (0 ≤ h ∧ h < ((Aa a b) - a)))).bind fun _ =>
(Fh g (a + h) (Ae m n)).bind fun o =>
bk17 (Aa h 1) o
else
j19 a g
def Wl (bk12 : Int → LX → Cu) (b a : Int) : Nat → Int → LX → Cu
| 0, _, _ => none
| q + 1, h, g => Ahj (Agz bk12 b) (Wl bk12 b a q) b a h g
def Ah8 bk12 b a := Wl bk12 b a Ce
def Ahp (j17 : Int → Int → LX → Cu) (j22 : LX → Cu) (b a : Int) (f : LX) : Cu :=
if (Bl a (Ac f)) then
(vwI (Ac f) a (Aa a b)).bind fun _ =>
j17 a 0 f
else
j22 f
def Ze (b : Int) : Nat → Int → LX → Cu
| 0, _, _ => none
| q + 1, a, f => Ahp (Ah8 (Ze b q) b) Ahr b a f
def Ahc b := Ze b Ce
def Ajc (j12 : Int → Int → LX → Cu) (b : Int) (p : LX) : Cu :=
(Agj b p).bind fun u =>
if (Bf u 0) then
some (([] : LX), u)
else
(Cf p).bind fun v =>
j12 b 0 v
def Asq := Ajc Ahc
abbrev Adk := Option (Int × LX × LX × Int)
def Aqu (a : Int) (b : LX) (f : Bool) : Adk :=
if f then
some (10, b, (List.replicate 16 (0 : Int32)), 0)
else
if (geq a 16) then
some (9, b, (List.replicate 16 (0 : Int32)), 0)
else
some (0, (List.replicate 16 (0 : Int32)), (List.replicate 16 (0 : Int32)), 2)
def Aha := Aqu
def Ag6 (j2 : Int → LX → Bool → Adk) (a : Int) (b : LX) : Adk :=
if (geq a 8) then
j2 a b (geq a 8)
else
j2 a b (geq a 24)
def Aj0 := Ag6 Aha
def Agx (a : Int) (f : LX) : Option (Int × Int32 × Int × LX × LX × Int) :=
(Aj0 a f).bind fun (g, h, k, b) =>
if (Bf b 0) then
some (0, 0, 0, (List.replicate 16 (0 : Int32)), (List.replicate 16 (0 : Int32)), b)
else
some (a, 0, g, h, k, 0)
def Km (a : Int) (k : Int32) (b : Int) (f m : LX) : Option Int :=
(Aj0 a f).bind fun (g, n, o, h) =>
if ((Bf h 0) || (Bf g b)) then
some 8
else
some 0
def Ahb (a : Int) : Option (Int × Int) :=
if (geq a 8) then
some (4, 0)
else
if (geq a 16) then
if (geq a 16) then
some (5, 0)
else
some (0, 2)
else
if (geq a 24) then
some (5, 0)
else
some (0, 2)
def Ag2 (a : Int) (b : Int32) : Option Int32 :=
(Dr (Et a 0)).bind fun _ =>
(Dr (Et a 0)).bind fun _ =>
some (Ak (Att (Ae (Ef (Ak b : Int) (GI.toZ a).toNat) (Ak b : Int)) (GI.toZ a).toNat) : Int32)
def Ko (b : Int) (f : Int32) : Option (Int32 × Int) :=
(Ahb b).bind fun (g, a) =>
if (Bf a 0) then
some (0, a)
else
(Ag2 g f).bind fun h =>
some (h, 0)
def Nf (a : Int) (b f : LX) : Option Int :=
if ((Bf a 9) && (Bf a 10)) then
some 8
else
some 0
abbrev Fb := Option (Int32 × Int)
def Ame (g : Int32) (a : Int) (b f : LX) : Fb :=
(Dr (Et a 0)).bind fun _ =>
some ((Bj g (GI.toZ a).toNat), 0)
def Acq := Ame
def Abf (j6 : Int32 → Int → LX → LX → Fb) (bk4 : Int32 → Int → Fb) (b : LX) (a : Int) (f : LX) (g : Int32) (h : Int) : Fb :=
if (Bl h 16) then
(Ah b h).bind fun m =>
(Ah f h).bind fun _ =>
(Ah f h).bind fun n =>
bk4 (Aa g (Cc m n)) (Aa h 1)
else
j6 g a b f
def Qf (b : LX) (a : Int) (f : LX) : Nat → Int32 → Int → Fb
| 0, _, _ => none
| q + 1, g, h => Abf Acq (Qf b a f q) b a f g h
def Ach b a f := Qf b a f Ce
def Abj (j4 : LX → Int → LX → Int32 → Int → Fb) (a : Int) (b f : LX) : Fb :=
(Nf a b f).bind fun k =>
if (Bf k 0) then
some (0, k)
else
(Dr (Et (Ae a 1) 0)).bind fun _ =>
j4 b a f (Ef (1 : Int32) (GI.toZ (Ae a 1)).toNat) 0
def Adg := Abj Ach
def Agg (a : Int) : Option Int32 :=
if (geq a 0) then
some 4
else
if (Bl a 4) then
some 2
else
some 1
abbrev Fa := Option (Int × LX × LX × Int)
def Amf (g : Int) (b f : LX) : Fa :=
some (g, b, f, 0)
def Ab7 := Amf
def Ab1 (j6 : Int → LX → LX → Fa) (bk4 : Int → LX → Fa) (h : Int32) (f : LX) (g a : Int) (b : LX) : Fa :=
if (Bl a 16) then
(Ah f a).bind fun m =>
if (geq m 0) then
bk4 (Aa a 1) b
else
if ((Bl m 0) == (Bl h 0)) then
(Ah b a).bind fun _ =>
(Ah b a).bind fun o =>
(Agg a).bind fun p =>
(Ah b a).bind fun _ =>
(Fh b a (Aa o p)).bind fun u =>
bk4 (Aa a 1) u
else
(Ah b a).bind fun _ =>
(Ah b a).bind fun v =>
(Agg a).bind fun w =>
(Ah b a).bind fun _ =>
(Fh b a (Ae v w)).bind fun y =>
bk4 (Aa a 1) y
else
j6 g b f
def Qj (h : Int32) (f : LX) (g : Int) : Nat → Int → LX → Fa
| 0, _, _ => none
| q + 1, a, b => Ab1 Ab7 (Qj h f g q) h f g a b
def Abv h f g := Qj h f g Ce
def Abm (j4 : Int32 → LX → Int → Int → LX → Fa) (g : Int) (k f : LX) (h : Int32) : Fa :=
(Nf g k f).bind fun n =>
if (Bf n 0) then
some (0, (List.replicate 16 (0 : Int32)), (List.replicate 16 (0 : Int32)), n)
else
if (geq h 0) then
some (g, k, f, 0)
else
j4 h f g 0 k
def Ai7 := Abm Abv
abbrev Wu := Option (Int × LX × LX × Int)
def Aor (g : Int32) (b : Int) (f a : LX) : Wu :=
(Ah (Hc a 1 ((16 : Int) - (1 : Int)) (Vr a 0 ((16 : Int) - (0 : Int)))) 0).bind fun _ =>
(Fh (Hc a 1 ((16 : Int) - (1 : Int)) (Vr a 0 ((16 : Int) - (0 : Int)))) 0 g).bind fun k =>
some (b, f, k, 0)
def Aen := Aor
def Sr (j2 : Int32 → Int → LX → LX → Wu) (b : Int) (f a : LX) (g : Int32) : Wu :=
(Nf b f a).bind fun h =>
if (Bf h 0) then
some (0, (List.replicate 16 (0 : Int32)), (List.replicate 16 (0 : Int32)), h)
else
(
(vwI 16 1 16).bind fun _ =>
(vwI 16 0 16).bind fun _ =>
j2 g b f a)
def Amv := Sr Aen
def Adn (a : Int) (b f : LX) (g h : Int32) : Option (Int × LX × LX) :=
(Ai7 a b f h).bind fun (k, m, n, v) =>
(Amv k m n g).bind fun (o, p, u, w) =>
some (o, p, u)
def Yk (b : Int) (f g : LX) (a : Int32) : Option (Int32 × Int × LX × LX × Int) :=
(Adg b f g).bind fun (h, k) =>
if (Bf k 0) then
some (0, 0, (List.replicate 16 (0 : Int32)), (List.replicate 16 (0 : Int32)), k)
else
(Adn b f g a (Ae a h)).bind fun (m, n, o) =>
some ((Ae a h), m, n, o, 0)
def Kc (a : Int) (b : Int32) (f : Int) (g h : LX) (k : Int32) : Option (Int32 × Int × Int32 × Int × LX × LX × Int) :=
(Km a b f g h).bind fun m =>
if (Bf m 0) then
some (0, 0, 0, 0, (List.replicate 16 (0 : Int32)), (List.replicate 16 (0 : Int32)), m)
else
(Ko a b).bind fun (n, y) =>
(Yk f g h (Ae k n)).bind fun (o, p, u, v, w) =>
(
some (o, a, k, p, u, v, w))
def Amp (a : Int32) : Option UInt32 :=
some (Vs (Ef (Ak a : UInt32) (GI.toZ (1 : UInt64)).toNat) (Ak (Bj a (GI.toZ (31 : UInt64)).toNat) : UInt32))
abbrev Bc := Option (LU × Int)
def Ade (k : LU) : Bc :=
some (k, 0)
def Mn := Ade
def Mk (j12 : LU → Bc) (bk10 : Int → (List (Int × Int32 × (Int × LX × LX × Unit) × Unit)) → LU → Bc) (b : LX) (a f g : Int) (o : List (Int × Int32 × (Int × LX × LX × Unit) × Unit)) (k : LU) : Bc :=
if (Bl g (Ac b)) then
(Ah b g).bind fun _ =>
(Ah b g).bind fun ac =>
(Dr (Bf a 0)).bind fun _ =>
(Ah o (Ev g a)).bind fun _ =>
(Ah o (Ev g a)).bind fun p =>
(Kc p.1 p.2.1 p.2.2.1.1 p.2.2.1.2.1 p.2.2.1.2.2.1 ac).bind fun (u, ad, ae, v, af, ag, w) =>
if (Bf w 0) then
some (([] : LU), w)
else
(Fh o (Ev g a) (ad, ae, (v, af, ag, ()), ())).bind fun ah =>
(Amp u).bind fun ai =>
(Dp k ([ai] : LU)).bind fun aj =>
bk10 (Aa g 1) ah aj
else
j12 k
def Ig (b : LX) (a f : Int) : Nat → Int → (List (Int × Int32 × (Int × LX × LX × Unit) × Unit)) → LU → Bc
| 0, _, _, _ => none
| q + 1, g, o, k => Mk Mn (Ig b a f q) b a f g o k
def Mz b a f := Ig b a f Ce
def Pa (j10 : LX → Int → Int → Int → (List (Int × Int32 × (Int × LX × LX × Unit) × Unit)) → LU → Bc) (a f : Int) (b : LX) (h : List (Int × Int32 × (Int × LX × LX × Unit) × Unit)) : Bc :=
j10 b a f 0 h ([] : LU)
def Pk := Pa Mz
def Ou (j9 : Int → Int → LX → (List (Int × Int32 × (Int × LX × LX × Unit) × Unit)) → Bc) (bk7 : Int → (List (Int × Int32 × (Int × LX × LX × Unit) × Unit)) → Bc) (a f : Int) (m b : LX) (n : Int) (h : List (Int × Int32 × (Int × LX × LX × Unit) × Unit)) : Bc :=
if (Bl n 6) then
(Agx f m).bind fun (ak, al, u, am, an, v) =>
(Ah h n).bind fun _ =>
(Fh h n (ak, al, (u, am, an, ()), ())).bind fun ao =>
bk7 (Aa n 1) ao
else
j9 a f b h
def Jb (a f : Int) (m b : LX) : Nat → Int → (List (Int × Int32 × (Int × LX × LX × Unit) × Unit)) → Bc
| 0, _, _ => none
| q + 1, n, h => Ou Pk (Jb a f m b q) a f m b n h
def Pn a f m b := Jb a f m b Ce
def Pd (j7 : Int → Int → LX → LX → Int → (List (Int × Int32 × (Int × LX × LX × Unit) × Unit)) → Bc) (a f : Int) (m y : LX) : Bc :=
(Abw a f y).bind fun aa =>
if (Bf aa 0) then
some (([] : LU), aa)
else
(Asq a y).bind fun (b, ab) =>
if (Bf ab 0) then
some (([] : LU), ab)
else
j7 a f m b 0 (List.replicate 6 ((0 : Int), (0 : Int32), ((0 : Int), (List.replicate 16 (0 : Int32)), (List.replicate 16 (0 : Int32)), ()), ()))
def Vw := Pd Pn
def Adq : Option (Int × Int × UInt64 × UInt64) :=
some (10, 10, 16384, 16384)
abbrev Cy := Option ((List (Int × Int × UInt64 × UInt64 × Unit)))
def Aes (a : List (Int × Int × UInt64 × UInt64 × Unit)) : Cy :=
some a
def Pc := Aes
def Pg (j6 : (List (Int × Int × UInt64 × UInt64 × Unit)) → Cy) (bk4 : Int → (List (Int × Int × UInt64 × UInt64 × Unit)) → Cy) (b : Int) (a : List (Int × Int × UInt64 × UInt64 × Unit)) : Cy :=
if (Bl b 6) then
(Adq).bind fun (f, g, h, k) =>
(Ah a b).bind fun _ =>
(Fh a b (f, g, h, k, ())).bind fun m =>
bk4 (Aa b 1) m
else
j6 a
def Jf : Nat → Int → (List (Int × Int × UInt64 × UInt64 × Unit)) → Cy
| 0, _, _ => none
| q + 1, b, a => Pg Pc (Jf q) b a
def Ps := Jf Ce
def Oz (j4 : Int → (List (Int × Int × UInt64 × UInt64 × Unit)) → Cy) : Cy :=
j4 0 (List.replicate 6 ((0 : Int), (0 : Int), (0 : UInt64), (0 : UInt64), ()))
def Aah := Oz Ps
def Dy (b : LB) (a : Int) : Option Int :=
if (((Bl a 0) || (En a 330000)) || (Bf (Ac b) (Att (Aa a 7) (GI.toZ (3 : UInt64)).toNat))) then
some 8
else
if (En (Cj a 7) 0) then
(Ah b (Ae (Ac b) 1)).bind fun f =>
(Dr (Et (Cj a 7) 0)).bind fun _ =>
if (Bf (Bj f (GI.toZ (Cj a 7)).toNat) 0) then
some 8
else
some 0
else
some 0
def Amj (a b : Int) (f g : UInt64) : Option Int :=
if (!((geq (Cx (Amn a 0) 24) a) && ((geq (Cx (Amn b 0) 24) b) && ((geq (Cx f 68719476735) f) && ((geq (Cx g 68719476735) g) && true))))) then
some 8
else
some 0
def Aby := Amj
def Qm (j4 : Int → Int → UInt64 → UInt64 → Option Int) (a b : Int) (f g : UInt64) : Option Int :=
(
(
j4 a b f g))
def Acj := Qm Aby
def Pu (j3 : Int → Int → UInt64 → UInt64 → Option Int) (a b : Int) (f g : UInt64) : Option Int :=
(
(
j3 a b f g))
def Ac6 := Pu Acj
def Rs (a f : Int) (g h : UInt64) (b : UInt32) : Option (Int × UInt32) :=
(Dr (Et a 0)).bind fun _ =>
if (geq (Bj b (GI.toZ a).toNat) 0) then
some (0, b)
else
(Dr (Et a 0)).bind fun _ =>
some (1, (Ae b (Ef (1 : UInt32) (GI.toZ a).toNat)))
def Cs (a : LB) : Option (LB) :=
(
(Dp ([] : LB) a).bind fun b =>
some b)
def Age (a : LB) (b : Int) : Option (LB × Int) :=
(Cs a).bind fun f =>
some (f, b)
abbrev Bi := Option (LB × Int × Int)
def Aog (f : Int) (o : LB) : Bi :=
some (o, f, 0)
def Aff := Aog
def Aod (bk15 : UInt64 → Int → Int → LB → Bi) (b : UInt64) (a : Int) (m : UInt64) (h f : Int) (w : LB) : Bi :=
(Dr (Et (Cx h (Ae 8 (Cj f 7))) 0)).bind fun _ =>
bk15 (Bj m (GI.toZ (Cx h (Ae 8 (Cj f 7)))).toNat) (Ae h (Cx h (Ae 8 (Cj f 7)))) (Aa f (Cx h (Ae 8 (Cj f 7)))) w
def Afp bk15 := Aod bk15
def Aem (j19 : UInt64 → Int → Int → LB → Bi) (b : UInt64) (a : Int) (m : UInt64) (h f : Int) (u : LB) : Bi :=
(Ah u (Ae (Ac u) 1)).bind fun _ =>
(Dr (Et (Cx h (Ae 8 (Cj f 7))) 0)).bind fun _ =>
(Dr (Et (Cj f 7) 0)).bind fun _ =>
(Ah u (Ae (Ac u) 1)).bind fun ad =>
(Ah u (Ae (Ac u) 1)).bind fun _ =>
Option.bind (Fh u (Ae (Ac u) 1) (gor ad (Ef (Ak (Cj m (Ae (Ef (1 : UInt64) (GI.toZ (Cx h (Ae 8 (Cj f 7)))).toNat) 1)) : UInt8) (GI.toZ (Cj f 7)).toNat))) fun w =>
j19 m h f w
def Aez bk15 b a := Aem (Afp bk15 b a) b a
def Afj (j18 : UInt64 → Int → Int → LB → Bi) (j21 : Int → LB → Bi) (b : UInt64) (a : Int) (m : UInt64) (h f : Int) (o : LB) : Bi :=
if (En h 0) then
if (geq (Cj f 7) 0) then
(Dp o ([(0 : UInt8)] : LB)).bind fun ab =>
j18 m h f ab
else
j18 m h f o
else
j21 f o
def Td (b : UInt64) (a : Int) : Nat → UInt64 → Int → Int → LB → Bi
| 0, _, _, _, _ => none
| q + 1, m, h, f, o => Afj (Aez (Td b a q) b a) Aff b a m h f o
def Afo b a := Td b a Ce
def Anp (g : Int) (p : LB) : Bi :=
some (p, g, 0)
def Aeg := Anp
def Aop (bk22 : UInt64 → Int → Int → LB → Bi) (b : UInt64) (a : Int) (n : UInt64) (k g : Int) (y : LB) : Bi :=
(Dr (Et (Cx k (Ae 8 (Cj g 7))) 0)).bind fun _ =>
bk22 (Bj n (GI.toZ (Cx k (Ae 8 (Cj g 7)))).toNat) (Ae k (Cx k (Ae 8 (Cj g 7)))) (Aa g (Cx k (Ae 8 (Cj g 7)))) y
def Adz bk22 := Aop bk22
def Aek (j26 : UInt64 → Int → Int → LB → Bi) (b : UInt64) (a : Int) (n : UInt64) (k g : Int) (v : LB) : Bi :=
(Ah v (Ae (Ac v) 1)).bind fun _ =>
(Dr (Et (Cx k (Ae 8 (Cj g 7))) 0)).bind fun _ =>
(Dr (Et (Cj g 7) 0)).bind fun _ =>
(Ah v (Ae (Ac v) 1)).bind fun ae =>
(Ah v (Ae (Ac v) 1)).bind fun _ =>
Option.bind (Fh v (Ae (Ac v) 1) (gor ae (Ef (Ak (Cj n (Ae (Ef (1 : UInt64) (GI.toZ (Cx k (Ae 8 (Cj g 7)))).toNat) 1)) : UInt8) (GI.toZ (Cj g 7)).toNat))) fun y =>
j26 n k g y
def Afd bk22 b a := Aek (Adz bk22 b a) b a
def Afh (j25 : UInt64 → Int → Int → LB → Bi) (j28 : Int → LB → Bi) (b : UInt64) (a : Int) (n : UInt64) (k g : Int) (p : LB) : Bi :=
if (En k 0) then
if (geq (Cj g 7) 0) then
(Dp p ([(0 : UInt8)] : LB)).bind fun w =>
j25 n k g w
else
j25 n k g p
else
j28 g p
def Se (b : UInt64) (a : Int) : Nat → UInt64 → Int → Int → LB → Bi
| 0, _, _, _, _ => none
| q + 1, n, k, g, p => Afh (Afd (Se b a q) b a) Aeg b a n k g p
def Afn b a := Se b a Ce
def Aid (j15 : UInt64 → Int → UInt64 → Int → Int → LB → Bi) (j22 : UInt64 → Int → UInt64 → Int → Int → LB → Bi) (ac : LB) (aa : Int) (b : UInt64) (a : Int) : Bi :=
(Dy ac aa).bind fun af =>
if (Bf af 0) then
some (([] : LB), 0, 8)
else
if ((Bl a 0) || (En a 64)) then
some (([] : LB), 0, 2)
else
if (Bl a 64) then
(Dr (Et a 0)).bind fun _ =>
if (Bf (Bj b (GI.toZ a).toNat) 0) then
some (([] : LB), 0, 16)
else
if (En (Aa aa a) 330000) then
some (([] : LB), 0, 18)
else
(Age ac aa).bind fun (ag, ah) =>
j15 b a b a ah ag
else
if (En (Aa aa a) 330000) then
some (([] : LB), 0, 18)
else
(Age ac aa).bind fun (ab, ai) =>
j22 b a b a ai ab
def Aag := Aid Afo Afn
def Th (b : UInt32) (a : Int) : Option Bool :=
(Dr (Et a 0)).bind fun _ =>
some (Et (Bj b (GI.toZ a).toNat) 48)
def Aea (a : Int) : Option (Int × Int) :=
if ((Bl a 0) || (En a 48)) then
some (0, 2)
else
some ((Cx (Aa a 1) 48), 0)
def Ag0 (b : LB) (f a : Int) : Option (LB × Int × Int) :=
(Dy b f).bind fun g =>
if (Bf g 0) then
some (([] : LB), 0, g)
else
(Aea a).bind fun (k, h) =>
if (Bf h 0) then
some (([] : LB), 0, h)
else
(Dr (Et a 0)).bind fun _ =>
(Aag b f (Ae (Ef (1 : UInt64) (GI.toZ a).toNat) 1) k).bind fun (m, n, o) =>
some (m, n, o)
abbrev Tg := Option (LB × Int × Int)
def Amk (b : LB) (f h : Int) (k : UInt32) (m : Int) : Tg :=
(Ag0 b f h).bind fun (p, u, n) =>
if (Bf n 0) then
some (([] : LB), 0, n)
else
(Aag p u (Ak k : UInt64) m).bind fun (v, w, y) =>
some (v, w, y)
def Abg := Amk
def Abo (j2 : LB → Int → Int → UInt32 → Int → Tg) (b : LB) (f : Int) (g : UInt32) (a : Int) : Tg :=
(Dy b f).bind fun o =>
if (Bf o 0) then
some (([] : LB), 0, o)
else
if ((Bl a 0) || (En a 24)) then
some (([] : LB), 0, 2)
else
(Dr (Et a 0)).bind fun _ =>
(Dr (Et a 0)).bind fun _ =>
(Th g a).bind fun aa =>
if aa then
j2 b f 48 g 32
else
j2 b f (Ak (Bj g (GI.toZ a).toNat) : Int) (Cj g (Ae (Ef (1 : UInt32) (GI.toZ a).toNat) 1)) a
def Al9 := Abo Abg
abbrev Cp := Option (LB × Int × Int × Int × UInt64 × UInt64 × Int)
def Nh (k u n : Int) (a : UInt64) (b : UInt32) (o : UInt64) (m : LB) : Cp :=
(
(
some (m, k, u, n, (Aa a (Ae (Ak b : UInt64) (Bj a (GI.toZ (4 : UInt64)).toNat))), o, 0)))
def Zx := Nh
def Acu (j10 : Int → Int → Int → UInt64 → UInt32 → UInt64 → LB → Cp) (b : UInt32) (k n : Int) (a o : UInt64) (m : LB) (u : Int) : Cp :=
j10 k u n a b o m
def Acn := Acu Zx
def Acd (j9 : UInt32 → Int → Int → UInt64 → UInt64 → LB → Int → Cp) (b : UInt32) (f : Int) (a : UInt64) (k : Int) (m : LB) (n : Int) (o : UInt64) : Cp :=
if (En f 0) then
(Dr (Et f 0)).bind fun _ =>
if (Bl (Aa a (Ae (Ak b : UInt64) (Bj a (GI.toZ (4 : UInt64)).toNat))) (Ef (16 : UInt64) (GI.toZ f).toNat)) then
j9 b k n a o m (Ae f 1)
else
if (Bl f 24) then
(Dr (Et f 0)).bind fun _ =>
if (En (Aa a (Ae (Ak b : UInt64) (Bj a (GI.toZ (4 : UInt64)).toNat))) (Ef (32 : UInt64) (GI.toZ f).toNat)) then
j9 b k n a o m (Aa f 1)
else
j9 b k n a o m f
else
j9 b k n a o m f
else
if (Bl f 24) then
(Dr (Et f 0)).bind fun _ =>
if (En (Aa a (Ae (Ak b : UInt64) (Bj a (GI.toZ (4 : UInt64)).toNat))) (Ef (32 : UInt64) (GI.toZ f).toNat)) then
j9 b k n a o m (Aa f 1)
else
j9 b k n a o m f
else
j9 b k n a o m f
def Abs := Acd Acn
def Ab3 (j8 : UInt32 → Int → UInt64 → Int → LB → Int → UInt64 → Cp) (b : UInt32) (f h : Int) (a g : UInt64) (y k : Int) (m : LB) : Cp :=
if (Bf y 0) then
some (([] : LB), 0, 0, 0, 0, 0, y)
else
(Rs f h a g b).bind fun (ag, p) =>
if (geq ag 1) then
if (En h 0) then
(Dr (Et h 0)).bind fun _ =>
if (Bl (Aa g (Ae (Ak p : UInt64) (Bj g (GI.toZ (4 : UInt64)).toNat))) (Ef (16 : UInt64) (GI.toZ h).toNat)) then
j8 b f a k m (Ae h 1) (Aa g (Ae (Ak p : UInt64) (Bj g (GI.toZ (4 : UInt64)).toNat)))
else
if (Bl h 24) then
(Dr (Et h 0)).bind fun _ =>
if (En (Aa g (Ae (Ak p : UInt64) (Bj g (GI.toZ (4 : UInt64)).toNat))) (Ef (32 : UInt64) (GI.toZ h).toNat)) then
j8 b f a k m (Aa h 1) (Aa g (Ae (Ak p : UInt64) (Bj g (GI.toZ (4 : UInt64)).toNat)))
else
j8 b f a k m h (Aa g (Ae (Ak p : UInt64) (Bj g (GI.toZ (4 : UInt64)).toNat)))
else
j8 b f a k m h (Aa g (Ae (Ak p : UInt64) (Bj g (GI.toZ (4 : UInt64)).toNat)))
else
if (Bl h 24) then
(Dr (Et h 0)).bind fun _ =>
if (En (Aa g (Ae (Ak p : UInt64) (Bj g (GI.toZ (4 : UInt64)).toNat))) (Ef (32 : UInt64) (GI.toZ h).toNat)) then
j8 b f a k m (Aa h 1) (Aa g (Ae (Ak p : UInt64) (Bj g (GI.toZ (4 : UInt64)).toNat)))
else
j8 b f a k m h (Aa g (Ae (Ak p : UInt64) (Bj g (GI.toZ (4 : UInt64)).toNat)))
else
j8 b f a k m h (Aa g (Ae (Ak p : UInt64) (Bj g (GI.toZ (4 : UInt64)).toNat)))
else
j8 b f a k m h g
def Acv := Ab3 Abs
def Aci (j7 : UInt32 → Int → Int → UInt64 → UInt64 → Int → Int → LB → Cp) (b : UInt32) (v : LB) (w f h : Int) (a g : UInt64) : Cp :=
(Rs f h a g b).bind fun (ad, ae) =>
(Aag v w (Ak ad : UInt64) 1).bind fun (aa, ab, ac) =>
if ((geq ac 0) && (geq ad 0)) then
(Aag aa ab (Ak ae : UInt64) f).bind fun (ah, ai, aj) =>
j7 b f h a g aj ai ah
else
if (geq ac 0) then
(Al9 aa ab ae h).bind fun (ak, al, am) =>
j7 b f h a g am al ak
else
j7 b f h a g ac ab aa
def Ab4 := Aci Acv
def Acm (j6 : UInt32 → LB → Int → Int → Int → UInt64 → UInt64 → Cp) (v : LB) (w f h : Int) (a g : UInt64) (b : UInt32) : Cp :=
(Dy v w).bind fun an =>
if (Bf an 0) then
some (([] : LB), 0, 0, 0, 0, 0, 8)
else
(Ac6 f h a g).bind fun ao =>
if (Bf ao 0) then
some (([] : LB), 0, 0, 0, 0, 0, 8)
else
j6 b v w f h a g
def Aj3 := Acm Ab4
abbrev Ar := Option (UInt32 × Int)
def Aj1 (h : UInt32) : Ar :=
some (h, 0)
def Yx := Aj1
def Wy (j30 : UInt32 → Ar) (bk28 : UInt32 → Int → Ar) (a : LB) (b : LU) (h : UInt32) (m : Int) : Ar :=
if (Bl m (Ac a)) then
(Ah a m).bind fun p =>
(Ah b (GI.toZ (Vs (Ak h : UInt8) p))).bind fun _ =>
(Ah b (GI.toZ (Vs (Ak h : UInt8) p))).bind fun u =>
bk28 (Vs (Bj h (GI.toZ (8 : UInt64)).toNat) u) (Aa m 1)
else
j30 h
def Nx (a : LB) (b : LU) : Nat → UInt32 → Int → Ar
| 0, _, _ => none
| q + 1, h, m => Wy Yx (Nx a b q) a b h m
def Za a b := Nx a b Ce
def Xf (j28 : LB → LU → UInt32 → Int → Ar) (f : UInt32) (a : LB) (b : LU) : Ar :=
j28 a b f 0
def Zi := Xf Za
def Zh (j27 : UInt32 → LB → LU → Ar) (f : UInt32) (a : LB) (b : LU) : Ar :=
j27 f a b
def Yl := Zh Zi
def Alg (bk16 : Int → LU → Ar) (f : UInt32) (a : LB) (g : Int) (o : LU) : Ar :=
bk16 (Aa g 1) o
def Vx bk16 := Alg bk16
def Xy (j24 : Int → LU → Ar) (f : UInt32) (a : LB) (g : Int) (k : UInt32) (b : LU) : Ar :=
(Ah b g).bind fun _ =>
(Fh b g k).bind fun o =>
j24 g o
def Wi bk16 f a := Xy (Vx bk16 f a) f a
def Xi (j23 : Int → UInt32 → LU → Ar) (bk21 : UInt32 → Int → Ar) (f : UInt32) (a : LB) (g : Int) (b : LU) (k : UInt32) (n : Int) : Ar :=
if (Bl n 8) then
bk21 (Vs (Bj k (GI.toZ (1 : UInt64)).toNat) (Cc 3988292384 (Cj k 1))) (Aa n 1)
else
j23 g k b
def Np (bk16 : Int → LU → Ar) (f : UInt32) (a : LB) (g : Int) (b : LU) : Nat → UInt32 → Int → Ar
| 0, _, _ => none
| q + 1, k, n => Xi (Wi bk16 f a) (Np bk16 f a g b q) f a g b k n
def Xb bk16 f a g b := Np bk16 f a g b Ce
def Aab (j21 : Int → LU → UInt32 → Int → Ar) (j26 : UInt32 → LB → LU → Ar) (f : UInt32) (a : LB) (g : Int) (b : LU) : Ar :=
if (Bl g 256) then
j21 g b (Ak g : UInt32) 0
else
j26 f a b
def Nj (f : UInt32) (a : LB) : Nat → Int → LU → Ar
| 0, _, _ => none
| q + 1, g, b => Aab (Xb (Nj f a q) f a) Yl f a g b
def Xm f a := Nj f a Ce
def Aca (j16 : UInt32 → LB → Int → LU → Ar) (f : UInt32) (a : LB) : Ar :=
if (En (Ac a) 100000) then
some (0, 4)
else
j16 f a 0 (List.replicate 256 (0 : UInt32))
def Akl := Aca Xm
def Jr (b : LB) : Option (UInt32 × Int) :=
(Akl 4294967295 b).bind fun (f, a) =>
if (Bf a 0) then
some (0, a)
else
some ((Awl f), 0)
def Atl (b : UInt64) (a : Int) : Option Bool :=
if (geq a 8) then
some true
else
(Dr (Et (Cc 8 a) 0)).bind fun _ =>
some (geq (Bj b (GI.toZ (Cc 8 a)).toNat) 0)
abbrev Ij := Option (LB × Int)
def Aqc (a : LB) : Ij :=
some (a, 0)
def Aht := Aqc
def Ahz (j6 : LB → Ij) (bk4 : Int → LB → Ij) (f : UInt64) (g : LB) (b : Int) (a : LB) : Ij :=
if (Bl b (Ac g)) then
(Dr (Et (Cc 8 b) 0)).bind fun _ =>
(Ah a b).bind fun _ =>
(Fh a b (Ak (Bj f (GI.toZ (Cc 8 b)).toNat) : UInt8)).bind fun k =>
bk4 (Aa b 1) k
else
j6 a
def Xa (f : UInt64) (g : LB) : Nat → Int → LB → Ij
| 0, _, _ => none
| q + 1, b, a => Ahz Aht (Xa f g q) f g b a
def Ag8 f g := Xa f g Ce
def Ah7 (j4 : UInt64 → LB → Int → LB → Ij) (f : UInt64) (h : Int) : Ij :=
if ((Bl h 1) || (En h 8)) then
some (([] : LB), 2)
else
(Atl f h).bind fun m =>
if (!m) then
some (([] : LB), 16)
else
(mkI h (0 : UInt8)).bind fun g =>
(Dr (geq h h)).bind fun _ =>
j4 f g 0 g
def Kj := Ah7 Ag8
def Lo (f : LB) : Option (LB) :=
some f
def Fs := Lo
def Fk (j16 : LB → Option (LB)) (bk14 : Int → LB → Option (LB)) (a : List LB) (g : Int) (f : LB) : Option (LB) :=
if (Bl g (Ac a)) then
(Ah a g).bind fun o =>
(Dp f o).bind fun p =>
bk14 (Aa g 1) p
else
j16 f
def Dn (a : List LB) : Nat → Int → LB → Option (LB)
| 0, _, _ => none
| q + 1, g, f => Fk Fs (Dn a q) a g f
def Fo a := Dn a Ce
def Fl (j14 : (List LB) → Int → LB → Option (LB)) (a : List LB) (k : LB) : Option (LB) :=
j14 a 0 k
def Fp := Fl Fo
def Fq (j13 : (List LB) → LB → Option (LB)) (b : Int) (a : List LB) : Option (LB) :=
if (En (Ae b (Ae (0 : Int) (0 : Int))) 0) then
(vwI 0 0 0).bind fun _ =>
(mkI (Ae b (Ae (0 : Int) (0 : Int))) (0 : UInt8)).bind fun u =>
(Dp ([] : LB) u).bind fun m =>
(vwI (Ac m) 0 0).bind fun _ =>
j13 a (Vr m 0 ((0 : Int) - (0 : Int)))
else
j13 a ([] : LB)
def Fm := Fq Fp
def Fu (j12 : Int → (List LB) → Option (LB)) (a : List LB) (b : Int) : Option (LB) :=
if (Bl b 0) then
none
else
j12 b a
def Ft := Fu Fm
def Gi (j11 : (List LB) → Int → Option (LB)) (bk9 : Int → Int → Option (LB)) (a : List LB) (b h : Int) : Option (LB) :=
if (Bl h (Ac a)) then
(Ah a h).bind fun n =>
if (Bl (Aa b (Ac n)) 0) then
none
else
bk9 (Aa b (Ac n)) (Aa h 1)
else
j11 a b
def Dt (a : List LB) : Nat → Int → Int → Option (LB)
| 0, _, _ => none
| q + 1, b, h => Gi Ft (Dt a q) a b h
def Gc a := Dt a Ce
def Gf (j9 : (List LB) → Int → Int → Option (LB)) (a : List LB) : Option (LB) :=
j9 a 0 0
def Io := Gf Gc
abbrev Am := Option (LB × Int)
def Ads (u : Int) (p : LB) : Am :=
(Jr p).bind fun (af, ac) =>
if (Bf ac 0) then
some (([] : LB), ac)
else
(Kj (Ak af : UInt64) 4).bind fun (m, h) =>
if (Bf h 0) then
some (([] : LB), h)
else
(Io ([p, m] : List LB)).bind fun ag =>
some (ag, 0)
def Mt := Ads
def Ada (bk27 : Int → (List (Int × Int × UInt64 × UInt64 × Unit)) → Int → LB → Am) (a : LU) (b f g : Int) (k : List (Int × Int × UInt64 × UInt64 × Unit)) (n : Int) (v : LB) : Am :=
bk27 (Aa g 1) k n v
def Nm bk27 := Ada bk27
def Adw (bk44 : Int → Int → LB → Am) (h : Int) (a : LU) (g b f : Int) (k : List (Int × Int × UInt64 × UInt64 × Unit)) (m : LB) (o n : Int) (aa : LB) : Am :=
bk44 (Aa o 1) (Aa n 1) aa
def Ns bk44 := Adw bk44
def Nv (j48 : Int → Int → LB → Am) (h : Int) (a : LU) (g b f : Int) (k : List (Int × Int × UInt64 × UInt64 × Unit)) (m : LB) (o n : Int) (y : LB) : Am :=
(Ah m (Hj o 8)).bind fun _ =>
(Ah m (Hj o 8)).bind fun ah =>
(Dr (Et (Ev o 8) 0)).bind fun _ =>
(Ah y (Hj n 8)).bind fun _ =>
(Dr (Et (Ev n 8) 0)).bind fun _ =>
(Ah y (Hj n 8)).bind fun ai =>
(Ah y (Hj n 8)).bind fun _ =>
Option.bind (Fh y (Hj n 8) (gor ai (Ef (Cj (Bj ah (GI.toZ (Ev o 8)).toNat) 1) (GI.toZ (Ev n 8)).toNat))) fun aa =>
j48 o n aa
def Og bk44 h a g b f k m := Nv (Ns bk44 h a g b f k m) h a g b f k m
def Oe (j47 : Int → Int → LB → Am) (j50 : Int → (List (Int × Int × UInt64 × UInt64 × Unit)) → Int → LB → Am) (a : LU) (b f h g : Int) (k : List (Int × Int × UInt64 × UInt64 × Unit)) (m : LB) (o n : Int) (v : LB) : Am :=
if (Bl o h) then
if (geq (Ev n 8) 0) then
(Dp v ([(0 : UInt8)] : LB)).bind fun aj =>
j47 o n aj
else
j47 o n v
else
j50 g k n v
def Ib (bk27 : Int → (List (Int × Int × UInt64 × UInt64 × Unit)) → Int → LB → Am) (a : LU) (b f h g : Int) (k : List (Int × Int × UInt64 × UInt64 × Unit)) (m : LB) : Nat → Int → Int → LB → Am
| 0, _, _, _ => none
| q + 1, o, n, v => Oe (Og (Ib bk27 a b f h g k m q) h a g b f k m) (Nm bk27 a b f) a b f h g k m o n v
def Md bk27 a b f h g k m := Ib bk27 a b f h g k m Ce
def Mo (j44 : Int → Int → (List (Int × Int × UInt64 × UInt64 × Unit)) → LB → Int → Int → LB → Am) (j52 : Int → LB → Am) (a : LU) (b f g : Int) (w : List (Int × Int × UInt64 × UInt64 × Unit)) (u : Int) (p : LB) : Am :=
if (Bl g (Ac a)) then
(Ah a g).bind fun _ =>
(Ah a g).bind fun ak =>
(Dr (Bf b 0)).bind fun _ =>
(Ah w (Ev g b)).bind fun _ =>
(Ah w (Ev g b)).bind fun ab =>
(Aj3 ([] : LB) 0 ab.1 ab.2.1 ab.2.2.1 ab.2.2.2.1 ak).bind fun (m, h, al, am, an, ao, ad) =>
if (Bf ad 0) then
some (([] : LB), ad)
else
(Dr (Bf b 0)).bind fun _ =>
(Ah w (Ev g b)).bind fun _ =>
(Fh w (Ev g b) (al, am, an, ao, ())).bind fun k =>
j44 h g k m 0 u p
else
j52 u p
def Ic (a : LU) (b f : Int) : Nat → Int → (List (Int × Int × UInt64 × UInt64 × Unit)) → Int → LB → Am
| 0, _, _, _, _ => none
| q + 1, g, w, u, p => Mo (Md (Ic a b f q) a b f) Mt a b f g w u p
def Ma a b f := Ic a b f Ce
def Pe (j27 : LU → Int → Int → Int → (List (Int × Int × UInt64 × UInt64 × Unit)) → Int → LB → Am) (b f : Int) (ap aq : LX) : Am :=
(Vw b f ap aq).bind fun (a, ae) =>
if (Bf ae 0) then
some (([] : LB), ae)
else
(Aah).bind fun ar =>
j27 a b f 0 ar 0 ([] : LB)
def Je := Pe Ma
def Ge (a : Int) (b : LX) : LI → Int → Option (List LX)
  | [], _ => some []
  | n :: l, x => Option.bind (Eb b x (Aa x (Cc n a))) fun p => Option.bind (Ge a b l (Aa x (Cc n a))) fun ps => some (p :: ps)
def Kg (a f : Int) (t : LX) : List LX → List LB → Option (List LB × Int)
  | [], o => some (o, 0)
  | x :: xs, o => Option.bind (Je a f t x) fun y =>
    if (Bf y.2 0) = true then some ([], y.2)
    else Option.bind (Dp o [y.1]) fun o' => Kg a f t xs o'
def Zn (a h : Int) (b : LX) : Option (List LX) :=
  Option.bind (Dr (Bf a 0)) fun _ => Option.bind (Kt h (Hj (Ac b) a)) fun l => Option.bind (Dr (decide (Ac l.1 ≤ 17179869184))) fun _ => Ge a b l.1 0
def Xc (a f h : Int) (b : LX) (p : LB) : Option (List LB × Int) :=
  Option.bind (Jq a f h b) fun e =>
    if (Bf e 0) = true then some ([], e)
    else Option.bind (Ls p) fun t =>
      if (Bf t.2 0) = true then some ([], t.2)
      else Option.bind (Zn a h b) fun xs => Kg a f t.1 xs []
def Agn (b f a g h : Int) : Option Bool :=
some (((((((geq b 1) || (geq b 2)) && (En f 0)) && (gle f 6)) && (En g 0)) && (gle g 1048576)) && (En h 0))
def Qw := Agn
def Rf (j2 : Int → Int → Int → Int → Int → Option Bool) (b f a g h : Int) : Option Bool :=
if (geq a 8) then
if (geq a 8) then
j2 b f a g h
else
some false
else
if (geq a 16) then
if (geq a 16) then
j2 b f a g h
else
some false
else
if (geq a 24) then
j2 b f a g h
else
some false
def Pv := Rf Qw
def Xw (k a m f b : Int) : Option Bool :=
(Dr (Bf a 0)).bind fun _ =>
if (En b (Hj 4000 a)) then
some false
else
(Ki f b).bind fun (g, h) =>
some ((geq h 0) && (gle g 1000))
def Te (a b f g h : Int) : Option Int :=
(Pv a b f g h).bind fun k =>
if (!k) then
some 8
else
(Xw a b f g h).bind fun m =>
if (!m) then
some 8
else
some 0
abbrev Ds := Option (LB × Int)
def Aik (a : LB) : Ds :=
(Jr a).bind fun (u, aa) =>
(Kj (Ak u : UInt64) 4).bind fun (n, v) =>
(Dp a n).bind fun o =>
some (o, 0)
def Un := Aik
def Tv (j6 : LB → Ds) (bk4 : Int → LB → Ds) (b f g h k m : Int) (a : LB) : Ds :=
if (Bl m 5) then
(Ah ([b, f, g, h, k] : LI) m).bind fun w =>
(Ah ([(2 : Int), (2 : Int), (2 : Int), (4 : Int), (4 : Int)] : LI) m).bind fun y =>
(Kj (Ak w : UInt64) y).bind fun (n, v) =>
(Dp a n).bind fun o =>
bk4 (Aa m 1) o
else
j6 a
def Ky (b f g h k : Int) : Nat → Int → LB → Ds
| 0, _, _ => none
| q + 1, m, a => Tv Un (Ky b f g h k q) b f g h k m a
def Uv b f g h k := Ky b f g h k Ce
def Tq (j4 : Int → Int → Int → Int → Int → Int → LB → Ds) (b f g h k : Int) : Ds :=
(Te b f g h k).bind fun p =>
if (Bf p 0) then
some (([] : LB), p)
else
j4 b f g h k 0 ([(84 : UInt8), (84 : UInt8), (65 : UInt8), (49 : UInt8)] : LB)
def Ae9 := Tq Uv
def Anf (a : LB) : Option (UInt64 × Int) :=
if (En (Ac a) 64) then
some (0, 2)
else
(Agr a).bind fun (b, f) =>
some (b, 0)
def Sf (b : LB) : Option (LB × Int) :=
(Anf b).bind fun (f, a) =>
if (Bf a 0) then
some (([] : LB), a)
else
(Kj f 8).bind fun (g, h) =>
some (g, h)
def Amc : Option Int :=
some 0
def Aan := Amc
def Xj (j6 : Option Int) (bk4 : Int → Int → Option Int) (a : LI) (f b : Int) : Option Int :=
if (Bl b (Ac a)) then
(Ah a b).bind fun g =>
if ((Bl g 5) || (En g f)) then
some 8
else
bk4 (Ae f g) (Aa b 1)
else
j6
def Nq (a : LI) : Nat → Int → Int → Option Int
| 0, _, _ => none
| q + 1, f, b => Xj Aan (Nq a q) a f b
def Aar a := Nq a Ce
def Ye (j4 : LI → Int → Int → Option Int) (a : LI) : Option Int :=
if ((geq (Ac a) 0) || (En (Ac a) 1000)) then
some 8
else
j4 a 100000 0
def Ox := Ye Aar
abbrev Cd := Option (LB × Int)
def Aim (g : LB) : Cd :=
some (g, 0)
def Ul := Aim
def Ub (j14 : LB → Cd) (b : LB) : Cd :=
(Jr b).bind fun (m, u) =>
(Kj (Ak m : UInt64) 4).bind fun (n, v) =>
(Dp b n).bind fun g =>
j14 g
def Ts := Ub Ul
def Aig (bk8 : Int → LB → Cd) (a : LI) (f : Int) (h : LB) : Cd :=
bk8 (Aa f 1) h
def Uy bk8 := Aig bk8
def Zs (j11 : Int → LB → Cd) (j13 : LB → Cd) (a : LI) (f : Int) (b : LB) : Cd :=
if (Bl f (Ac a)) then
(Ah a f).bind fun o =>
(Kj (Ak o : UInt64) 4).bind fun (p, w) =>
(Dp b p).bind fun h =>
j11 f h
else
j13 b
def Mq (a : LI) : Nat → Int → LB → Cd
| 0, _, _ => none
| q + 1, f, b => Zs (Uy (Mq a q) a) Ts a f b
def Yv a := Mq a Ce
def Aac (j8 : LI → Int → LB → Cd) (a : LI) : Cd :=
(Ox a).bind fun k =>
if (Bf k 0) then
some (([] : LB), k)
else
j8 a 0 ([] : LB)
def Ahe := Aac Yv
def Acs (a : LB) : Option Int :=
some (Ac a)
def Ak7 (a : LB) : Option (LB) :=
some a
def Zf := Ak7
def Xr (j6 : LB → Option (LB)) (bk4 : Int → LB → Option (LB)) (b : List LB) (f : Int) (a : LB) : Option (LB) :=
if (Bl f (Ac b)) then
(Ah b f).bind fun g =>
(Dp a g).bind fun h =>
bk4 (Aa f 1) h
else
j6 a
def Of (b : List LB) : Nat → Int → LB → Option (LB)
| 0, _, _ => none
| q + 1, f, a => Xr Zf (Of b q) b f a
def We b := Of b Ce
def Yf (j4 : (List LB) → Int → LB → Option (LB)) (b : List LB) : Option (LB) :=
j4 b 0 ([] : LB)
def Ah0 := Yf We
abbrev Bn := Option (LB × Int)
def Aih (k : Int) (a : List LB) (b f n : LB) : Bn :=
if (Bf k 0) then
some (([] : LB), k)
else
(Dp ([b, f, n] : List LB) a).bind fun m =>
(Ah0 m).bind fun ad =>
some (ad, 0)
def Uz := Aih
def Ue (j14 : Int → (List LB) → LB → LB → LB → Bn) (h : LI) (a : List LB) (b f : LB) : Bn :=
(Ahe h).bind fun (n, k) =>
j14 k a b f n
def Um := Ue Uz
def Ais (bk9 : Int → LI → Bn) (a : List LB) (b f : LB) (g : Int) (m : LI) : Bn :=
bk9 (Aa g 1) m
def Vl bk9 := Ais bk9
def Vy (j11 : Int → LI → Bn) (j13 : LI → (List LB) → LB → LB → Bn) (a : List LB) (b f : LB) (g : Int) (h : LI) : Bn :=
if (Bl g (Ac a)) then
(Ah a g).bind fun _ =>
(Ah a g).bind fun ae =>
(Acs ae).bind fun k =>
(Ah h g).bind fun _ =>
(Fh h g k).bind fun m =>
j11 g m
else
j13 h a b f
def Nw (a : List LB) (b f : LB) : Nat → Int → LI → Bn
| 0, _, _ => none
| q + 1, g, h => Vy (Vl (Nw a b f q) a b f) Um a b f g h
def Wj a b f := Nw a b f Ce
def Wd (j9 : (List LB) → LB → LB → Int → LI → Bn) (a : List LB) (b f : LB) : Bn :=
(mkI (Ac a) (0 : Int)).bind fun af =>
(Dr (geq (Ac a) (Ac a))).bind fun _ =>
j9 a b f 0 af
def Zo := Wd Wj
def Zl (j8 : (List LB) → LB → LB → Bn) (p u v : Int) (w : LX) (o : LB) : Bn :=
(Ahx p u v w o).bind fun (y, ag, ah, ai, aj, aa) =>
if (Bf aa 0) then
some (([] : LB), aa)
else
(Xc p u v w o).bind fun (a, ab) =>
if (Bf ab 0) then
some (([] : LB), ab)
else
(Ae9 y ag ah ai aj).bind fun (b, ac) =>
if (Bf ac 0) then
some (([] : LB), ac)
else
if (geq y 2) then
(Sf o).bind fun (ak, al) =>
j8 a b ak
else
j8 a b ([] : LB)
def Ag9 := Zl Zo
def Mm : Option (LB × Bool) :=
(Ag9 1 8 1 ([(1 : Int32), (2 : Int32)] : LX) ([] : LB)).bind fun (a, b) =>
some (a, ((geq b 0) && (geq (Ac a) 46)))
def Fx (a b : LB) : Option Bool :=
some (a == b)
def Fe (b a : LB) : Option Bool :=
if (Et (Ac b) (Ac a)) then
(Eb b 0 (Ac a)).bind fun f =>
(Fx f a).bind fun g =>
some g
else
some false
abbrev Dl := Option (Int × Int)
def Ago (b : Int) : Dl :=
some (b, 0)
def Rq := Ago
def Qp (j6 : Int → Dl) (bk4 : Int → Int → Dl) (a : LB) (b f : Int) : Dl :=
if (Bl f (Ac a)) then
(Ah a f).bind fun g =>
if (En g 127) then
some (0, 12)
else
bk4 (gor (Ef b (GI.toZ (7 : UInt64)).toNat) (Ak g : Int)) (Aa f 1)
else
j6 b
def Jz (a : LB) : Nat → Int → Int → Dl
| 0, _, _ => none
| q + 1, b, f => Qp Rq (Jz a q) a b f
def Rl a := Jz a Ce
def Qo (j4 : LB → Int → Int → Dl) (a : LB) : Dl :=
if (Bf (Ac a) 4) then
some (0, 2)
else
j4 a 0 0
def Aco := Qo Rl
abbrev Ct := Option (Int × Int)
def Ain (a : LB) (b : UInt8) (h : Int) : Ct :=
if (En h 4000) then
some (0, 4)
else
if (Bl (Ac a) h) then
some (0, 24)
else
if (geq b 16) then
(Eb a (Ae h 10) h).bind fun k =>
(Eb k 0 3).bind fun u =>
if (u != ([51, 68, 73] : LB)) then
some (0, 12)
else
(Eb k 3 (Ac k)).bind fun v =>
(Eb a 3 10).bind fun w =>
(Fx v w).bind fun y =>
if (!y) then
some (0, 12)
else
some (h, 0)
else
some (h, 0)
def Vn := Ain
def Tt (j8 : LB → UInt8 → Int → Ct) (a : LB) (g : Int) (b : UInt8) : Ct :=
if (geq b 16) then
j8 a b (Aa (Aa g 10) 10)
else
j8 a b (Aa g 10)
def Vi := Tt Vn
def Tx (j7 : LB → Int → UInt8 → Ct) (a : LB) (g : Int) (b : UInt8) (m : Bool) : Ct :=
if m then
some (0, 12)
else
j7 a g b
def Uj := Tx Vi
def Tu (j6 : LB → Int → UInt8 → Bool → Ct) (a : LB) (f b : UInt8) : Ct :=
(Eb a 6 10).bind fun aa =>
(Aco aa).bind fun (g, ab) =>
if (Bf ab 0) then
if true then
j6 a g b true
else
if (geq b 0) then
j6 a g b (!((Et f 2) && (gle f 4)))
else
if (geq b 16) then
j6 a g b (!(geq f 4))
else
j6 a g b (!false)
else
(Ah a 4).bind fun ac =>
if (Bf ac 0) then
j6 a g b true
else
if (geq b 0) then
j6 a g b (!((Et f 2) && (gle f 4)))
else
if (geq b 16) then
j6 a g b (!(geq f 4))
else
j6 a g b (!false)
def Uq := Tu Uj
def Kz (j5 : LB → UInt8 → UInt8 → Ct) (a : LB) : Ct :=
(Fe a ([(73 : UInt8), (68 : UInt8), (51 : UInt8)] : LB)).bind fun n =>
if (!n) then
some (0, 6)
else
if (Bl (Ac a) 10) then
some (0, 24)
else
(Ah a 3).bind fun f =>
(Ah a 5).bind fun b =>
(
(
(
j5 a f b)))
def Ad4 := Kz Uq
abbrev Ie := Option (UInt64 × Int)
def Ap5 (b : UInt64) : Ie :=
some (b, 0)
def Ahm := Ap5
def Ahv (j6 : UInt64 → Ie) (bk4 : UInt64 → Int → Ie) (a : LB) (b : UInt64) (f : Int) : Ie :=
if (Bl f (Ac a)) then
(Ah a f).bind fun g =>
(Dr (Et (Cc 8 f) 0)).bind fun _ =>
bk4 (gor b (Ef (Ak g : UInt64) (GI.toZ (Cc 8 f)).toNat)) (Aa f 1)
else
j6 b
def Ya (a : LB) : Nat → UInt64 → Int → Ie
| 0, _, _ => none
| q + 1, b, f => Ahv Ahm (Ya a q) a b f
def Ahi a := Ya a Ce
def Ahh (j4 : LB → UInt64 → Int → Ie) (a : LB) : Ie :=
if ((Bl (Ac a) 1) || (En (Ac a) 8)) then
some (0, 2)
else
j4 a 0 0
def Ajh := Ahh Ahi
def Ai4 (f : LB) (a b : Int) : Option (UInt64 × Int) :=
if (((Bl b 1) || (En b 8)) || (Bl a 0)) then
some (0, 2)
else
if (En a (Ae (Ac f) b)) then
some (0, 24)
else
(Eb f a (Aa a b)).bind fun g =>
(Ajh g).bind fun (h, k) =>
some (h, k)
def Art (g : LB) : Option (LB) :=
some g
def Ajt := Art
def Ajb (j6 : LB → Option (LB)) (bk4 : Int → LB → Option (LB)) (a b : Int) (f : UInt64) (h : Int) (g : LB) : Option (LB) :=
if (Bl h (Ac ([(2000 : UInt64), (Ak (Aa a 32) : UInt64), (Ak b : UInt64), f, (0 : UInt64), (0 : UInt64)] : LQ))) then
(Ah ([(2000 : UInt64), (Ak (Aa a 32) : UInt64), (Ak b : UInt64), f, (0 : UInt64), (0 : UInt64)] : LQ) h).bind fun _ =>
(Ah ([(2000 : UInt64), (Ak (Aa a 32) : UInt64), (Ak b : UInt64), f, (0 : UInt64), (0 : UInt64)] : LQ) h).bind fun k =>
(Kj k 4).bind fun (m, o) =>
(Dp g m).bind fun n =>
bk4 (Aa h 1) n
else
j6 g
def Acw (a b : Int) (f : UInt64) : Nat → Int → LB → Option (LB)
| 0, _, _ => none
| q + 1, h, g => Ajb Ajt (Acw a b f q) a b f h g
def Ai5 a b f := Acw a b f Ce
def Alv (j4 : Int → Int → UInt64 → Int → LB → Option (LB)) (a b : Int) (f : UInt64) : Option (LB) :=
j4 a b f 0 ([(65 : UInt8), (80 : UInt8), (69 : UInt8), (84 : UInt8), (65 : UInt8), (71 : UInt8), (69 : UInt8), (88 : UInt8)] : LB)
def Aiu := Alv Ai5
def Aax (b : LB) (g : UInt64) : Option (Int × Int × Bool) :=
(Ai4 b 12 4).bind fun (a, m) =>
(Ai4 b 16 4).bind fun (f, n) =>
if (((Bl a 32) || (En a 3032)) || (En f 1000)) then
some (0, 0, false)
else
(Aiu (Ae (Ak a : Int) 32) (Ak f : Int) g).bind fun h =>
(Fx b h).bind fun k =>
some ((Ae (Ak a : Int) 32), (Ak f : Int), k)
def Amz (a : LB) : Option (Int × Int) :=
(Fe a ([(65 : UInt8), (80 : UInt8), (69 : UInt8), (84 : UInt8), (65 : UInt8), (71 : UInt8), (69 : UInt8), (88 : UInt8)] : LB)).bind fun f =>
if (!f) then
some (0, 6)
else
if (Bl (Ac a) 32) then
some (0, 24)
else
(Eb a 0 32).bind fun g =>
(Aax g 2684354560).bind fun (b, h, k) =>
if (!k) then
some (0, 12)
else
if (Bl (Ac a) (Aa b 64)) then
some (0, 24)
else
(Eb a (Ae (Aa b 64) 32) (Aa b 64)).bind fun m =>
(Aiu b h 2147483648).bind fun n =>
(Fx m n).bind fun o =>
if (!o) then
some (0, 12)
else
some ((Aa b 64), 0)
def Kb (a : LB) : Option (Int × Int) :=
(Ad4 a).bind fun (f, b) =>
if (Bf b 6) then
some (f, b)
else
(Amz a).bind fun (g, h) =>
some (g, h)
def Ke (b : List UInt8) : Nat → Int → Option (Int × Int)
  | 0, _ => none
  | q + 1, x => Option.bind (Eb b x (Ac b)) fun s => Option.bind (Kb s) fun r =>
    if geq r.2 (6 : Int) = true then some (x, 0)
    else if (geq r.2 (0 : Int) && En (Aa x r.1) (4000 : Int)) = true then some (0, 4)
    else if Bf r.2 (0 : Int) = true then some (0, r.2)
    else Ke b q (Aa x r.1)
def Fw (b : List UInt8) : Option (Int × Int) := Ke b Ce 0
def Er (b a : LB) : Option Bool :=
if (Et (Ac b) (Ac a)) then
(Eb b 0 (Ac a)).bind fun f =>
some (f == a)
else
some false
def Pb (a b : LB) : Option Bool :=
(Er a b).bind fun f =>
some f
abbrev Em := Option (Int × Int × Int × Int × Int × Int)
def Akh (a : LI) : Em :=
(Ah a 0).bind fun _ =>
(Ah a 0).bind fun h =>
(Ah a 1).bind fun _ =>
(Ah a 1).bind fun k =>
(Ah a 2).bind fun _ =>
(Ah a 2).bind fun m =>
(Ah a 3).bind fun _ =>
(Ah a 3).bind fun n =>
(Ah a 4).bind fun _ =>
(Ah a 4).bind fun o =>
(Pv h k m n o).bind fun p =>
if (!p) then
some (0, 0, 0, 0, 0, 12)
else
(Xw h k m n o).bind fun u =>
if (!u) then
some (0, 0, 0, 0, 0, 4)
else
some (h, k, m, n, o, 0)
def Zt := Akh
def Aae (j6 : LI → Em) (bk4 : Int → Int → LI → Em) (b : LB) (g f : Int) (a : LI) : Em :=
if (Bl f 5) then
(Ah ([(2 : Int), (2 : Int), (2 : Int), (4 : Int), (4 : Int)] : LI) f).bind fun h =>
(Ai4 b g h).bind fun (v, ae) =>
(Ah a f).bind fun _ =>
(Fh a f (Ak v : Int)).bind fun w =>
bk4 (Aa g h) (Aa f 1) w
else
j6 a
def Om (b : LB) : Nat → Int → Int → LI → Em
| 0, _, _, _ => none
| q + 1, g, f, a => Aae Zt (Om b q) b g f a
def Zm b := Om b Ce
def Wm (j4 : LB → Int → Int → LI → Em) (b : LB) : Em :=
(Eb b 0 (Cx 4 (Ac b))).bind fun y =>
(Pb ([84, 84, 65, 49] : LB) y).bind fun aa =>
if (!aa) then
some (0, 0, 0, 0, 0, 12)
else
if (Bl (Ac b) 22) then
some (0, 0, 0, 0, 0, 24)
else
(Ai4 b 18 4).bind fun (ab, af) =>
(Eb b 0 18).bind fun ac =>
(Jr ac).bind fun (ad, ag) =>
if (Bf (Ak ad : UInt64) ab) then
some (0, 0, 0, 0, 0, 22)
else
j4 b 4 0 (List.replicate 5 (0 : Int))
def Ot := Wm Zm
def Ht (g h k a b : Int) : Option (LI × Int) :=
(Te g h k a b).bind fun f =>
if (Bf f 0) then
some (([] : LI), f)
else
(Kt a b).bind fun (m, n) =>
some (m, n)
def Yi (f : LB) : Option (Int × Int × Int × Int × Int × Int × Int × Int × Int × Int × LI × Int) :=
if (En (Ac f) 100000) then
some (0, 0, 0, 0, 0, 0, 0, 0, 0, 0, ([] : LI), 4)
else
(Fw f).bind fun (a, n) =>
if (Bf n 0) then
some (0, 0, 0, 0, 0, 0, 0, 0, 0, 0, ([] : LI), n)
else
(Eb f a (Ac f)).bind fun u =>
(Ot u).bind fun (b, g, h, k, m, o) =>
if (Bf o 0) then
some (b, g, h, k, m, 0, 0, 0, 0, 0, ([] : LI), o)
else
(Ht b g h k m).bind fun (p, v) =>
if (geq b 2) then
some (b, g, h, k, m, a, (Aa a 22), (Aa (Aa a 22) 8), 0, 0, p, 0)
else
some (b, g, h, k, m, a, (Aa a 22), (Aa a 22), 0, 0, p, 0)
def Rz (a f : LB) : Option (Bool × Int) :=
(Sf f).bind fun (b, g) =>
if ((Bf g 0) || (Bf (Ac a) (Ac b))) then
some (false, 2)
else
(Fx a b).bind fun h =>
some (h, 0)
abbrev Ex := Option (LI × Int)
def Amh (a : LI) : Ex :=
(Ox a).bind fun k =>
if (Bf k 0) then
some (([] : LI), 12)
else
some (a, 0)
def Ab2 := Amh
def Acb (j6 : LI → Ex) (bk4 : Int → LI → Ex) (b : LB) (f : LI) (g : Int) (a : LI) : Ex :=
if (Bl g (Ac f)) then
(Ai4 b (Cc 4 g) 4).bind fun (k, u) =>
(Ah a g).bind fun _ =>
(Fh a g (Ak k : Int)).bind fun m =>
bk4 (Aa g 1) m
else
j6 a
def Qd (b : LB) (f : LI) : Nat → Int → LI → Ex
| 0, _, _ => none
| q + 1, g, a => Acb Ab2 (Qd b f q) b f g a
def Abt b f := Qd b f Ce
def Abp (j4 : LB → LI → Int → LI → Ex) (b : LB) (h : Int) : Ex :=
if ((Bl h 1) || (En h 1000)) then
some (([] : LI), 2)
else
if (Bl (Ac b) (Aa (Cc 4 h) 4)) then
some (([] : LI), 24)
else
(Ai4 b (Cc 4 h) 4).bind fun (n, v) =>
(Eb b 0 (Cc 4 h)).bind fun o =>
(Jr o).bind fun (p, w) =>
if (Bf (Ak p : UInt64) n) then
some (([] : LI), 22)
else
(mkI h (0 : Int)).bind fun f =>
(Dr (geq h h)).bind fun _ =>
j4 b f 0 f
def Ti := Abp Abt
def Yj (a : LB) : Option (LB × Int) :=
if (Bl (Ac a) 5) then
some (([] : LB), 24)
else
if (En (Ac a) 41254) then
some (([] : LB), 4)
else
(Eb a 0 (Ae (Ac a) 4)).bind fun f =>
(Jr f).bind fun (g, b) =>
if (Bf b 0) then
some (([] : LB), b)
else
(Eb a (Ae (Ac a) 4) (Ac a)).bind fun h =>
(Ajh h).bind fun (k, m) =>
if ((Bf m 0) || (Bf k (Ak g : UInt64))) then
some (([] : LB), 22)
else
(Eb a 0 (Ae (Ac a) 4)).bind fun n =>
some (n, 0)
def As3 (a : LB) : Option (LB × Int × Int) :=
if (En (Ac a) 41250) then
some (([] : LB), 0, 4)
else
(Cs a).bind fun b =>
some (b, (Cc 8 (Ac a)), 0)
def Ao9 (g : UInt64) : Option UInt64 :=
some g
def Aia := Ao9
def Ah5 (j6 : UInt64 → Option UInt64) (bk4 : UInt64 → Int → Option UInt64) (b f : Int) (h : LB) (k : Int) (g : UInt64) (a : Int) : Option UInt64 :=
if (Bl a f) then
(Ah h (Att (Aa b a) (GI.toZ (3 : UInt64)).toNat)).bind fun m =>
(Dr (Et (Cj (Aa b a) 7) 0)).bind fun _ =>
(Dr (Et (Cx (Ae f a) (Ae 8 (Cj (Aa b a) 7))) 0)).bind fun _ =>
(Dr (Et a 0)).bind fun _ =>
bk4 (gor g (Ef (Ak (Cj (Bj m (GI.toZ (Cj (Aa b a) 7)).toNat) (Ae (Ef (1 : UInt8) (GI.toZ (Cx (Ae f a) (Ae 8 (Cj (Aa b a) 7)))).toNat) 1)) : UInt64) (GI.toZ a).toNat)) (Aa a (Cx (Ae f a) (Ae 8 (Cj (Aa b a) 7))))
else
j6 g
def Zb (b f : Int) (h : LB) (k : Int) : Nat → UInt64 → Int → Option UInt64
| 0, _, _ => none
| q + 1, g, a => Ah5 Aia (Zb b f h k q) b f h k g a
def Aib b f h k := Zb b f h k Ce
def Ahk (j4 : Int → Int → LB → Int → UInt64 → Int → Option UInt64) (h : LB) (k b f : Int) : Option UInt64 :=
j4 b f h k 0 0
def Al2 := Ahk Aib
abbrev Bq := Option (LB × Int × Int)
def Aot (o : Int) (p : LB) : Bq :=
some (p, o, 0)
def Aew := Aot
def Anv (bk27 : Int → Int → LB → Bq) (a : Int) (g : LB) (f b h : Int) (u : LB) : Bq :=
bk27 (Aa b 64) h u
def Ad3 bk27 := Anv bk27
def An4 (bk44 : UInt64 → Int → Int → LB → Bq) (a b : Int) (g : LB) (f : Int) (k n : UInt64) (m h : Int) (w : LB) : Bq :=
(Dr (Et (Cx m (Ae 8 (Cj h 7))) 0)).bind fun _ =>
bk44 (Bj n (GI.toZ (Cx m (Ae 8 (Cj h 7)))).toNat) (Ae m (Cx m (Ae 8 (Cj h 7)))) (Aa h (Cx m (Ae 8 (Cj h 7)))) w
def Ae7 bk44 := An4 bk44
def Ad8 (j48 : UInt64 → Int → Int → LB → Bq) (a b : Int) (g : LB) (f : Int) (k n : UInt64) (m h : Int) (v : LB) : Bq :=
(Ah v (Ae (Ac v) 1)).bind fun _ =>
(Dr (Et (Cx m (Ae 8 (Cj h 7))) 0)).bind fun _ =>
(Dr (Et (Cj h 7) 0)).bind fun _ =>
(Ah v (Ae (Ac v) 1)).bind fun aa =>
(Ah v (Ae (Ac v) 1)).bind fun _ =>
Option.bind (Fh v (Ae (Ac v) 1) (gor aa (Ef (Ak (Cj n (Ae (Ef (1 : UInt64) (GI.toZ (Cx m (Ae 8 (Cj h 7)))).toNat) 1)) : UInt8) (GI.toZ (Cj h 7)).toNat))) fun w =>
j48 n m h w
def Afl bk44 a b g f k := Ad8 (Ae7 bk44 a b g f k) a b g f k
def Ae8 (j47 : UInt64 → Int → Int → LB → Bq) (j50 : Int → Int → LB → Bq) (a : Int) (g : LB) (f b : Int) (k n : UInt64) (m h : Int) (u : LB) : Bq :=
if (En m 0) then
if (geq (Cj h 7) 0) then
(Dp u ([(0 : UInt8)] : LB)).bind fun ab =>
j47 n m h ab
else
j47 n m h u
else
j50 b h u
def Ta (bk27 : Int → Int → LB → Bq) (a : Int) (g : LB) (f b : Int) (k : UInt64) : Nat → UInt64 → Int → Int → LB → Bq
| 0, _, _, _, _ => none
| q + 1, n, m, h, u => Ae8 (Afl (Ta bk27 a g f b k q) a b g f k) (Ad3 bk27 a g f) a g f b k n m h u
def Ad0 bk27 a g f b k := Ta bk27 a g f b k Ce
def Ad6 (j44 : Int → UInt64 → UInt64 → Int → Int → LB → Bq) (j52 : Int → LB → Bq) (a : Int) (g : LB) (f b o : Int) (p : LB) : Bq :=
if (Bl b a) then
(Al2 g f b (Cx 64 (Ae a b))).bind fun k =>
j44 b k k (Cx 64 (Ae a b)) o p
else
j52 o p
def Sa (a : Int) (g : LB) (f : Int) : Nat → Int → Int → LB → Bq
| 0, _, _, _ => none
| q + 1, b, o, p => Ad6 (Ad0 (Sa a g f q) a g f) Aew a g f b o p
def Aee a g f := Sa a g f Ce
def Ahg (j27 : Int → LB → Int → Int → Int → LB → Bq) (g : LB) (f y a : Int) : Bq :=
(Dy g f).bind fun ac =>
if (Bf ac 0) then
some (([] : LB), 0, 8)
else
if (((Bl y 0) || (En y a)) || (En a f)) then
some (([] : LB), 0, 2)
else
j27 a g f y 0 ([] : LB)
def Ajz := Ahg Aee
def Mx (g : LB) (b f a : Int) : Option (UInt64 × Int) :=
(Dy g b).bind fun h =>
if (Bf h 0) then
some (0, 8)
else
if (((Bl a 0) || (En a 64)) || (Bl f 0)) then
some (0, 2)
else
if (En f (Ae b a)) then
some (0, 24)
else
(Al2 g b f a).bind fun k =>
some (k, 0)
def Gy (a : UInt64) : Option Int :=
if (geq a 0) then
some 64
else
(Ah ([(0 : UInt8), (1 : UInt8), (56 : UInt8), (2 : UInt8), (57 : UInt8), (49 : UInt8), (28 : UInt8), (3 : UInt8), (61 : UInt8), (58 : UInt8), (42 : UInt8), (50 : UInt8), (38 : UInt8), (29 : UInt8), (17 : UInt8), (4 : UInt8), (62 : UInt8), (47 : UInt8), (59 : UInt8), (36 : UInt8), (45 : UInt8), (43 : UInt8), (51 : UInt8), (22 : UInt8), (53 : UInt8), (39 : UInt8), (33 : UInt8), (30 : UInt8), (24 : UInt8), (18 : UInt8), (12 : UInt8), (5 : UInt8), (63 : UInt8), (55 : UInt8), (48 : UInt8), (27 : UInt8), (60 : UInt8), (41 : UInt8), (37 : UInt8), (16 : UInt8), (46 : UInt8), (35 : UInt8), (44 : UInt8), (21 : UInt8), (52 : UInt8), (32 : UInt8), (23 : UInt8), (11 : UInt8), (54 : UInt8), (26 : UInt8), (40 : UInt8), (15 : UInt8), (34 : UInt8), (20 : UInt8), (31 : UInt8), (10 : UInt8), (25 : UInt8), (14 : UInt8), (19 : UInt8), (9 : UInt8), (13 : UInt8), (8 : UInt8), (7 : UInt8), (6 : UInt8)] : LB) (GI.toZ (Bj (Cc (Cj a (Atr a)) 285870213051353865) (GI.toZ (58 : UInt64)).toNat))).bind fun b =>
some (Ak b : Int)
abbrev Cr := Option (Int × Int × Int)
def Alz : Cr :=
some (0, 0, 24)
def Vu := Alz
def Abx (j10 : Cr) : Cr :=
j10
def Abl := Abx Vu
def Abi (j9 : Cr) (f a : Int) : Cr :=
if (geq f 48) then
some (f, (Aa 0 (Aa a f)), 0)
else
j9
def Ab6 := Abi Abl
def Abz (j8 : Int → Int → Cr) (f b a : Int) : Cr :=
if (Bl f (Cx 48 (Ae b a))) then
some (f, (Aa (Aa (0 : Int) (1 : Int)) (Aa a f)), 0)
else
j8 f a
def Abr := Abz Ab6
def Abq (j7 : Int → Int → Int → Cr) (h : Int) (k : UInt64) (a : Int) (g : LB) (b : Int) : Cr :=
if (Bf h 0) then
some (0, 0, h)
else
(Gy (Awl k)).bind fun f =>
j7 f b a
def Acg := Abq Abr
def Qh (j6 : Int → UInt64 → Int → LB → Int → Cr) (g : LB) (b a : Int) : Cr :=
(Dy g b).bind fun m =>
if (Bf m 0) then
some (0, 0, m)
else
if (Bl a 0) then
some (0, 0, 2)
else
if (Et a b) then
some (0, 0, 24)
else
(
(
(Mx g b a (Cx 48 (Ae b a))).bind fun (k, h) =>
j6 h k a g b))
def Ak6 := Qh Acg
abbrev Xe := Option (UInt32 × Int × Int)
def An7 (a b f : Int) (g : LB) (h k : Int) : Xe :=
(Mx g h b k).bind fun (m, n) =>
if (Bf n 0) then
some (0, 0, n)
else
if (Bl f 48) then
(Dr (Et a 0)).bind fun _ =>
some ((gor (Ef (Ak f : UInt32) (GI.toZ a).toNat) (Ak m : UInt32)), (Aa b k), 0)
else
(Th (Ak m : UInt32) a).bind fun u =>
if (!u) then
some (0, 0, 12)
else
some ((Ak m : UInt32), (Aa b k), 0)
def Aep := An7
def Aej (j2 : Int → Int → Int → LB → Int → Int → Xe) (g : LB) (h v a : Int) : Xe :=
(Dy g h).bind fun o =>
if (Bf o 0) then
some (0, 0, o)
else
if ((Bl a 0) || (En a 24)) then
some (0, 0, 2)
else
(Ak6 g h v).bind fun (f, b, p) =>
if (Bf p 0) then
some (0, 0, p)
else
if (geq f 48) then
j2 a b f g h 32
else
j2 a b f g h a
def Am7 := Aej Aep
abbrev De := Option (UInt32 × Int × Int × Int × UInt64 × UInt64 × Int)
def Ami (f : UInt32) (k w m : Int) (a n : UInt64) : De :=
some (f, k, w, m, (Aa a (Ae (Ak f : UInt64) (Bj a (GI.toZ (4 : UInt64)).toNat))), n, 0)
def Acp := Ami
def Afx (j10 : UInt32 → Int → Int → Int → UInt64 → UInt64 → De) (f : UInt32) (k m : Int) (a n : UInt64) (w : Int) : De :=
j10 f k w m a n
def Ae6 := Afx Acp
def Afw (j9 : UInt32 → Int → Int → UInt64 → UInt64 → Int → De) (f : UInt32) (k b : Int) (a : UInt64) (m : Int) (n : UInt64) : De :=
if (En b 0) then
(Dr (Et b 0)).bind fun _ =>
if (Bl (Aa a (Ae (Ak f : UInt64) (Bj a (GI.toZ (4 : UInt64)).toNat))) (Ef (16 : UInt64) (GI.toZ b).toNat)) then
j9 f k m a n (Ae b 1)
else
if (Bl b 24) then
(Dr (Et b 0)).bind fun _ =>
if (En (Aa a (Ae (Ak f : UInt64) (Bj a (GI.toZ (4 : UInt64)).toNat))) (Ef (32 : UInt64) (GI.toZ b).toNat)) then
j9 f k m a n (Aa b 1)
else
j9 f k m a n b
else
j9 f k m a n b
else
if (Bl b 24) then
(Dr (Et b 0)).bind fun _ =>
if (En (Aa a (Ae (Ak f : UInt64) (Bj a (GI.toZ (4 : UInt64)).toNat))) (Ef (32 : UInt64) (GI.toZ b).toNat)) then
j9 f k m a n (Aa b 1)
else
j9 f k m a n b
else
j9 f k m a n b
def Afz := Afw Ae6
def Afc (j8 : UInt32 → Int → Int → UInt64 → Int → UInt64 → De) (b h : Int) (a g : UInt64) (f : UInt32) (k : Int) : De :=
(Rs b h a g f).bind fun (ad, o) =>
if (geq ad 1) then
if (En h 0) then
(Dr (Et h 0)).bind fun _ =>
if (Bl (Aa g (Ae (Ak o : UInt64) (Bj g (GI.toZ (4 : UInt64)).toNat))) (Ef (16 : UInt64) (GI.toZ h).toNat)) then
j8 f k b a (Ae h 1) (Aa g (Ae (Ak o : UInt64) (Bj g (GI.toZ (4 : UInt64)).toNat)))
else
if (Bl h 24) then
(Dr (Et h 0)).bind fun _ =>
if (En (Aa g (Ae (Ak o : UInt64) (Bj g (GI.toZ (4 : UInt64)).toNat))) (Ef (32 : UInt64) (GI.toZ h).toNat)) then
j8 f k b a (Aa h 1) (Aa g (Ae (Ak o : UInt64) (Bj g (GI.toZ (4 : UInt64)).toNat)))
else
j8 f k b a h (Aa g (Ae (Ak o : UInt64) (Bj g (GI.toZ (4 : UInt64)).toNat)))
else
j8 f k b a h (Aa g (Ae (Ak o : UInt64) (Bj g (GI.toZ (4 : UInt64)).toNat)))
else
if (Bl h 24) then
(Dr (Et h 0)).bind fun _ =>
if (En (Aa g (Ae (Ak o : UInt64) (Bj g (GI.toZ (4 : UInt64)).toNat))) (Ef (32 : UInt64) (GI.toZ h).toNat)) then
j8 f k b a (Aa h 1) (Aa g (Ae (Ak o : UInt64) (Bj g (GI.toZ (4 : UInt64)).toNat)))
else
j8 f k b a h (Aa g (Ae (Ak o : UInt64) (Bj g (GI.toZ (4 : UInt64)).toNat)))
else
j8 f k b a h (Aa g (Ae (Ak o : UInt64) (Bj g (GI.toZ (4 : UInt64)).toNat)))
else
j8 f k b a h g
def Afr := Afc Afz
def Ad9 (j7 : Int → Int → UInt64 → UInt64 → UInt32 → Int → De) (p : Int) (u : LB) (v b h : Int) (a g : UInt64) : De :=
(Mx u v p 1).bind fun (ae, aa) =>
if (Bf aa 0) then
some (0, 0, 0, 0, 0, 0, aa)
else
if (geq ae 0) then
(Mx u v (Aa p 1) b).bind fun (af, ab) =>
if (Bf ab 0) then
some (0, 0, 0, 0, 0, 0, ab)
else
j7 b h a g (Ak af : UInt32) (Aa (Aa p 1) b)
else
(Am7 u v (Aa p 1) h).bind fun (y, ag, ac) =>
if (Bf ac 0) then
some (0, 0, 0, 0, 0, 0, ac)
else
(Dr (Et b 0)).bind fun _ =>
if (Bl (Aa y (Ef (1 : UInt32) (GI.toZ b).toNat)) y) then
some (0, 0, 0, 0, 0, 0, 12)
else
j7 b h a g (Aa y (Ef (1 : UInt32) (GI.toZ b).toNat)) ag
def Ael := Ad9 Afr
def Aey (j6 : Int → LB → Int → Int → Int → UInt64 → UInt64 → De) (u : LB) (v p b h : Int) (a g : UInt64) : De :=
(Dy u v).bind fun ah =>
if (Bf ah 0) then
some (0, 0, 0, 0, 0, 0, 8)
else
(Ac6 b h a g).bind fun ai =>
if (Bf ai 0) then
some (0, 0, 0, 0, 0, 0, 8)
else
j6 p u v b h a g
def Qx := Aey Ael
abbrev Aq := Option (LU × Int × Int)
def Ac9 (k : Int) (m : LU) : Aq :=
some (m, k, 0)
def My := Ac9
def Adb (bk16 : Int → Int → (List (Int × Int × UInt64 × UInt64 × Unit)) → LU → Aq) (a f : Int) (g : LB) (b k v : Int) (w : UInt32) (h : Int) (ag : List (Int × Int × UInt64 × UInt64 × Unit)) (m : LU) : Aq :=
(Dp m ([w] : LU)).bind fun ak =>
bk16 (Aa k v) (Aa h 1) ag ak
def Mr bk16 := Adb bk16
def Oa (j22 : Int → Int → UInt32 → Int → (List (Int × Int × UInt64 × UInt64 × Unit)) → LU → Aq) (a f : Int) (g : LB) (b k h y : Int) (w : UInt32) (v : Int) (n : List (Int × Int × UInt64 × UInt64 × Unit)) (m : LU) (aa ab : Int) (ac ad : UInt64) : Aq :=
if (Bf y 0) then
some (([] : LU), 0, y)
else
(Dr (Bf a 0)).bind fun _ =>
(Ah n (Ev h a)).bind fun _ =>
(Fh n (Ev h a) (aa, ab, ac, ad, ())).bind fun ag =>
j22 k v w h ag m
def Oi bk16 a f g b := Oa (Mr bk16 a f g b) a f g b
def Ih (j21 : Int → Int → Int → UInt32 → Int → (List (Int × Int × UInt64 × UInt64 × Unit)) → LU → Int → Int → UInt64 → UInt64 → Aq) (j24 : Int → LU → Aq) (a f : Int) (g : LB) (b k h : Int) (n : List (Int × Int × UInt64 × UInt64 × Unit)) (m : LU) : Aq :=
if (Bl h (Cc f a)) then
(Ajz g b k (Cx (Aa k 81) b)).bind fun (ah, ae, af) =>
if (Bf af 0) then
some (([] : LU), 0, af)
else
(Dr (Bf a 0)).bind fun _ =>
(Ah n (Ev h a)).bind fun _ =>
(
(
(Ah n (Ev h a)).bind fun p =>
(
(Qx ah ae 0 p.1 p.2.1 p.2.2.1 p.2.2.2.1).bind fun (w, v, aa, ab, ac, ad, y) =>
j21 k h y w v n m aa ab ac ad)))
else
j24 k m
def Ik (a f : Int) (g : LB) (b : Int) : Nat → Int → Int → (List (Int × Int × UInt64 × UInt64 × Unit)) → LU → Aq
| 0, _, _, _, _ => none
| q + 1, k, h, n, m => Ih (Oi (Ik a f g b q) a f g b) My a f g b k h n m
def Ms a f g b := Ik a f g b Ce
def Ng (j16 : Int → Int → LB → Int → Int → Int → (List (Int × Int × UInt64 × UInt64 × Unit)) → LU → Aq) (a f : Int) (g : LB) (b : Int) (o : List (Int × Int × UInt64 × UInt64 × Unit)) : Aq :=
j16 a f g b 0 0 o ([] : LU)
def Me := Ng Ms
def Mc (j15 : Int → Int → LB → Int → (List (Int × Int × UInt64 × UInt64 × Unit)) → Aq) (bk13 : Int → (List (Int × Int × UInt64 × UInt64 × Unit)) → Aq) (a f : Int) (g : LB) (b u : Int) (o : List (Int × Int × UInt64 × UInt64 × Unit)) : Aq :=
if (Bl u 6) then
(Adq).bind fun (al, ae, af, am) =>
(Ah o u).bind fun _ =>
(Fh o u (al, ae, af, am, ())).bind fun an =>
bk13 (Aa u 1) an
else
j15 a f g b o
def If (a f : Int) (g : LB) (b : Int) : Nat → Int → (List (Int × Int × UInt64 × UInt64 × Unit)) → Aq
| 0, _, _ => none
| q + 1, u, o => Mc Me (If a f g b q) a f g b u o
def Lz a f g b := If a f g b Ce
def Pj (j13 : Int → Int → LB → Int → Int → (List (Int × Int × UInt64 × UInt64 × Unit)) → Aq) (a f : Int) (g : LB) (b : Int) : Aq :=
j13 a f g b 0 (List.replicate 6 ((0 : Int), (0 : Int), (0 : UInt64), (0 : UInt64), ()))
def Zq := Pj Lz
def Js (a : UInt32) : Option Int32 :=
some (Vs (Ak (Bj a (GI.toZ (1 : UInt64)).toNat) : Int32) (Atr (Ak (Cj a 1) : Int32)))
def Aj8 (b : Int) (f g : LX) (a : Int32) : Option (Int32 × Int × LX × LX × Int) :=
(Adg b f g).bind fun (h, k) =>
if (Bf k 0) then
some (0, 0, (List.replicate 16 (0 : Int32)), (List.replicate 16 (0 : Int32)), k)
else
(Adn b f g (Aa a h) a).bind fun (m, n, o) =>
some ((Aa a h), m, n, o, 0)
def Ek (a : Int) (b : Int32) (f : Int) (g h : LX) (o : Int32) : Option (Int32 × Int × Int32 × Int × LX × LX × Int) :=
(Km a b f g h).bind fun k =>
if (Bf k 0) then
some (0, 0, 0, 0, (List.replicate 16 (0 : Int32)), (List.replicate 16 (0 : Int32)), k)
else
(Ko a b).bind fun (m, y) =>
(Aj8 f g h o).bind fun (n, p, u, v, w) =>
(
some ((Aa n m), a, (Aa n m), p, u, v, w))
abbrev Cb := Option (LX × Int)
def Aou (f : LX) : Cb :=
some (f, 0)
def Ad1 := Aou
def Ant (bk12 : Int → LX → Cb) (b a : Int) (h : LX) : Cb :=
bk12 (Aa a b) h
def Afs bk12 := Ant bk12
def Aex (j20 : Int → LX → Cb) (bk18 : Int → LX → Cb) (b a g : Int) (h : LX) : Cb :=
if (Et g 0) then
(Dr (decide (0 ≤ (Aa g 1) ∧ (Aa g 1) < ((Aa a b) - a)))).bind fun _ =>
(Dr (decide (0 ≤ g ∧ g < ((Aa a b) - a)))).bind fun _ =>
(Ah h (a + (Aa g 1))).bind fun o =>
(Ah h (a + g)).bind fun p =>
(Dr (decide (0 ≤ g ∧ g < ((Aa a b) - a)))).bind fun _ =>
(Fh h (a + g) (Ae o p)).bind fun u =>
bk18 (Ae g 1) u
else
j20 a h
def Rr (bk12 : Int → LX → Cb) (b a : Int) : Nat → Int → LX → Cb
| 0, _, _ => none
| q + 1, g, h => Aex (Afs bk12 b) (Rr bk12 b a q) b a g h
def Ad7 bk12 b a := Rr bk12 b a Ce
def Aeb (j18 : Int → Int → LX → Cb) (b a : Int) (k : LX) : Cb :=
j18 a (Ae (Ae ((Aa a b) - a) 1) 1) k
def Afv bk12 b := Aeb (Ad7 bk12 b) b
def Afk (j17 : Int → LX → Cb) (j22 : LX → Cb) (b a : Int) (f : LX) : Cb :=
if (Bl a (Ac f)) then
(vwI (Ac f) a (Aa a b)).bind fun _ =>
if (En (Ae ((Aa a b) - a) 1) 0) then
(Dr (decide (0 ≤ (Ae ((Aa a b) - a) 1) ∧ (Ae ((Aa a b) - a) 1) < ((Aa a b) - a)))).bind fun _ =>
Option.bind (Dr (decide (0 ≤ (Ae (Ae ((Aa a b) - a) 1) 1) ∧ (Ae (Ae ((Aa a b) - a) 1) 1) < ((Aa a b) - a)))) fun _ =>
(Ah f (a + (Ae ((Aa a b) - a) 1))).bind fun v =>
(Ah f (a + (Ae (Ae ((Aa a b) - a) 1) 1))).bind fun w =>
(Dr (decide (0 ≤ (Ae ((Aa a b) - a) 1) ∧ (Ae ((Aa a b) - a) 1) < ((Aa a b) - a)))).bind fun _ =>
(Fh f (a + (Ae ((Aa a b) - a) 1)) (Aa v (Hj w 2))).bind fun y =>
j17 a y
else
j17 a f
else
j22 f
def Sp (b : Int) : Nat → Int → LX → Cb
| 0, _, _ => none
| q + 1, a, f => Afk (Afv (Sp b q) b) Ad1 b a f
def Ae0 b := Sp b Ce
def Ag4 (j12 : Int → Int → LX → Cb) (b : Int) (m : LX) : Cb :=
(Agj b m).bind fun n =>
if (Bf n 0) then
some (([] : LX), n)
else
(Cf m).bind fun aa =>
j12 b 0 aa
def Ap6 := Ag4 Ae0
abbrev Au := Option (LX × Int)
def Abb (a b : Int) (k : LX) : Au :=
(Ap6 a k).bind fun (ah, af) =>
if (Bf af 0) then
some (([] : LX), af)
else
(Kr b ah).bind fun ae =>
if (Bf ae 0) then
some (([] : LX), ae)
else
some (ah, 0)
def Lj := Abb
def Aa8 (bk13 : Int → (List (Int × Int32 × (Int × LX × LX × Unit) × Unit)) → LX → Au) (a : Int) (f : LU) (b g : Int) (w : Int32) (u : Int) (h : List (Int × Int32 × (Int × LX × LX × Unit) × Unit)) (k : LX) (y : Int) (v : Int32) (aa : Int) (ab ac : LX) : Au :=
if (Bf u 0) then
some (([] : LX), u)
else
(Fh h (Ev g a) (y, v, (aa, ab, ac, ()), ())).bind fun ai =>
(Dp k ([w] : LX)).bind fun aj =>
bk13 (Aa g 1) ai aj
def Lh bk13 := Aa8 bk13
def Hb (j16 : Int → Int32 → Int → (List (Int × Int32 × (Int × LX × LX × Unit) × Unit)) → LX → Int → Int32 → Int → LX → LX → Au) (j18 : Int → Int → LX → Au) (f : LU) (a b g : Int) (h : List (Int × Int32 × (Int × LX × LX × Unit) × Unit)) (k : LX) : Au :=
if (Bl g (Ac f)) then
(Ah f g).bind fun ag =>
(Dr (Bf a 0)).bind fun _ =>
(Ah h (Ev g a)).bind fun _ =>
(
(Ah h (Ev g a)).bind fun m =>
(
(Js ag).bind fun ae =>
(
(Ek m.1 m.2.1 m.2.2.1.1 m.2.2.1.2.1 m.2.2.1.2.2.1 ae).bind fun (w, y, v, aa, ab, ac, u) =>
j16 g w u h k y v aa ab ac)))
else
j18 a b k
def Gz (f : LU) (a b : Int) : Nat → Int → (List (Int × Int32 × (Int × LX × LX × Unit) × Unit)) → LX → Au
| 0, _, _, _ => none
| q + 1, g, h, k => Hb (Lh (Gz f a b q) a f b) Lj f a b g h k
def Lm f a b := Gz f a b Ce
def Lk (j13 : LU → Int → Int → Int → (List (Int × Int32 × (Int × LX × LX × Unit) × Unit)) → LX → Au) (f : LU) (a b : Int) (n : List (Int × Int32 × (Int × LX × LX × Unit) × Unit)) : Au :=
j13 f a b 0 n ([] : LX)
def Ln := Lk Lm
def Ll (j12 : LU → Int → Int → (List (Int × Int32 × (Int × LX × LX × Unit) × Unit)) → Au) (bk10 : Int → (List (Int × Int32 × (Int × LX × LX × Unit) × Unit)) → Au) (f : LU) (a b : Int) (o : LX) (p : Int) (n : List (Int × Int32 × (Int × LX × LX × Unit) × Unit)) : Au :=
if (Bl p 6) then
(Agx b o).bind fun (ak, af, ae, al, am, v) =>
(Ah n p).bind fun _ =>
(Fh n p (ak, af, (ae, al, am, ()), ())).bind fun an =>
bk10 (Aa p 1) an
else
j12 f a b n
def He (f : LU) (a b : Int) (o : LX) : Nat → Int → (List (Int × Int32 × (Int × LX × LX × Unit) × Unit)) → Au
| 0, _, _ => none
| q + 1, p, n => Ll Ln (He f a b o q) f a b o p n
def Li f a b o := He f a b o Ce
def Oh (j10 : LU → Int → Int → LX → Int → (List (Int × Int32 × (Int × LX × LX × Unit) × Unit)) → Au) (a b : Int) (o : LX) (f : LU) : Au :=
j10 f a b o 0 (List.replicate 6 ((0 : Int), (0 : Int32), ((0 : Int), (List.replicate 16 (0 : Int32)), (List.replicate 16 (0 : Int32)), ()), ()))
def Tn := Oh Li
def Mp (a h : Int) (u : LX) (f : Int) (v : LB) : Option (LX × Int) :=
(Kf a h).bind fun k =>
if (Bf k 0) then
some (([] : LX), k)
else
if (Bl f 1) then
some (([] : LX), 2)
else
(Dr (Bf a 0)).bind fun _ =>
if (En f (Hj 4000 a)) then
some (([] : LX), 2)
else
(Yj v).bind fun (w, m) =>
if (Bf m 0) then
some (([] : LX), m)
else
(As3 w).bind fun (n, b, o) =>
if (Bf o 0) then
some (([] : LX), o)
else
(Zq a f n b).bind fun (y, g, p) =>
if (Bf p 0) then
some (([] : LX), p)
else
if (Et (Ae b g) 8) then
some (([] : LX), 12)
else
(Mx n b g (Ae b g)).bind fun (aa, ab) =>
if ((Bf ab 0) || (Bf aa 0)) then
some (([] : LX), 12)
else
(Tn a h u y).bind fun (ac, ad) =>
some (ac, ad)
abbrev Adm := Option (Int × Int)
def Aqi (a : LB) : Adm :=
(Eb a (Ae (Ac a) 32) (Ac a)).bind fun g =>
(Aax g 0).bind fun (f, y, h) =>
if h then
if (Bl (Ae (Ac a) 32) f) then
some (0, 24)
else
some ((Aa f 32), 0)
else
(Eb a (Ae (Ac a) 32) (Ac a)).bind fun k =>
(Aax k 2147483648).bind fun (b, m, n) =>
if (!n) then
some (0, 12)
else
if (Bl (Ac a) (Aa b 64)) then
some (0, 24)
else
(Eb a (Ae (Ac a) (Aa b 64)) (Aa (Ae (Ac a) (Aa b 64)) 32)).bind fun o =>
(Aiu b m 2684354560).bind fun p =>
(Fx o p).bind fun u =>
if (!u) then
some (0, 12)
else
some ((Aa b 64), 0)
def Ahl := Aqi
def Aie (j2 : LB → Adm) (a : LB) : Adm :=
if (Bl (Ae (Ac a) 32) 0) then
some (0, 6)
else
(Eb a (Ae (Ac a) 32) (Ac a)).bind fun v =>
(Fe v ([(65 : UInt8), (80 : UInt8), (69 : UInt8), (84 : UInt8), (65 : UInt8), (71 : UInt8), (69 : UInt8), (88 : UInt8)] : LB)).bind fun w =>
if (!w) then
some (0, 6)
else
j2 a
def Aqf := Aie Ahl
abbrev Bw := Option (Int × Int)
def Af9 (a : Int) : Bw :=
some (a, 0)
def Rc := Af9
def Af8 (bk8 : Int → LB → Bw) (a : Int) (g : LB) : Bw :=
bk8 (Aa a 1) g
def Rm bk8 := Af8 bk8
def Ri (j12 : Int → LB → Bw) (a f : Int) (b : LB) : Bw :=
if (geq f 0) then
some (0, 38)
else
(Eb b 0 (Ae (Ac b) f)).bind fun g =>
j12 a g
def Rj bk8 := Ri (Rm bk8)
def Ug (j11 : Int → Int → LB → Bw) (j14 : Int → Bw) (a : Int) (b : LB) : Bw :=
if (En (Ac b) 0) then
(Aqf b).bind fun (f, k) =>
j11 a f b
else
j14 a
def Ld : Nat → Int → LB → Bw
| 0, _, _ => none
| q + 1, a, b => Ug (Rj (Ld q)) Rc a b
def Tp := Ld Ce
def Tw (j8 : Int → LB → Bw) (h : LB) : Bw :=
if (En (Ac h) 4000) then
some (0, 38)
else
j8 0 h
def Afg := Tw Tp
abbrev Ap := Option (Int × Int × Int × LX × Int)
def Alf (a : LB) (aa b f h : Int) (ad : LX) : Ap :=
(Eb a aa (Ac a)).bind fun aq =>
(Afg aq).bind fun (bb, ar) =>
if (Bf ar 0) then
some (0, 0, 0, ([] : LX), 38)
else
some (b, f, h, ad, 0)
def Xs := Alf
def Ajk (bk21 : Int → Int → LX → Ap) (a : LB) (w : LI) (m b f h o p n g y ab : Int) (ac : LX) (k : LI) (aa aj ak ae : Int) (am ad : LX) : Ap :=
if (Bf ak 0) then
some (0, 0, 0, ([] : LX), ak)
else
(Dp ad am).bind fun au =>
bk21 (Aa aa aj) (Aa ae 1) au
def Aas bk21 := Ajk bk21
def Xn (j24 : Int → Int → Int → Int → LX → LX → Ap) (j26 : LB → Int → Int → Int → Int → LX → Ap) (a : LB) (w : LI) (m b f h o p n g y ab : Int) (ac : LX) (k : LI) (aa ae : Int) (ad : LX) : Ap :=
if (Bl ae (Ac w)) then
(Ah w ae).bind fun _ =>
(Ah w ae).bind fun aj =>
if (Bl (Ac a) (Aa aa aj)) then
some (0, 0, 0, ([] : LX), 24)
else
(Ah k ae).bind fun _ =>
(Eb a aa (Aa aa aj)).bind fun av =>
(Ah k ae).bind fun aw =>
(Mp b f ac aw av).bind fun (am, ak) =>
j24 aa aj ak ae am ad
else
j26 a aa b f h ad
def Nc (a : LB) (w : LI) (m b f h o p n g y ab : Int) (ac : LX) (k : LI) : Nat → Int → Int → LX → Ap
| 0, _, _, _ => none
| q + 1, aa, ae, ad => Xn (Aas (Nc a w m b f h o p n g y ab ac k q) a w m b f h o p n g y ab ac k) Xs a w m b f h o p n g y ab ac k aa ae ad
def Yr a w m b f h o p n g y ab ac k := Nc a w m b f h o p n g y ab ac k Ce
def Xd (j21 : LB → LI → Int → Int → Int → Int → Int → Int → Int → Int → Int → Int → LX → LI → Int → Int → LX → Ap) (a u : LB) (m b f h o p n g : Int) (k : LI) (an y ab : Int) (w : LI) : Ap :=
if (Bf an 0) then
some (0, 0, 0, ([] : LX), an)
else
(Ls u).bind fun (ac, bc) =>
j21 a w m b f h o p n g y ab ac k y 0 ([] : LX)
def Iw := Xd Yr
def Aal (j20 : LB → LB → Int → Int → Int → Int → Int → Int → Int → Int → LI → Int → Int → Int → LI → Ap) (a u : LB) (v : LI) (m b f h o p n g af : Int) (k : LI) : Ap :=
j20 a u m b f h o p n g k 0 (Aa (Aa g (Cc 4 (Ac v))) 4) af v
def Wv := Aal Iw
def Zu (j19 : LB → LB → LI → Int → Int → Int → Int → Int → Int → Int → Int → Int → LI → Ap) (bk17 : Int → Int → Ap) (v : LI) (a u : LB) (m b f h o p n g : Int) (k : LI) (ag af : Int) : Ap :=
if (Bl ag (Ac v)) then
(Ah v ag).bind fun _ =>
(Ah v ag).bind fun ax =>
bk17 (Aa ag 1) (Aa af ax)
else
j19 a u v m b f h o p n g af k
def Ny (v : LI) (a u : LB) (m b f h o p n g : Int) (k : LI) : Nat → Int → Int → Ap
| 0, _, _ => none
| q + 1, ag, af => Zu Wv (Ny v a u m b f h o p n g k q) v a u m b f h o p n g k ag af
def Yg v a u m b f h o p n g k := Ny v a u m b f h o p n g k Ce
def Aao (j20 : LB → LB → Int → Int → Int → Int → Int → Int → Int → Int → LI → Int → Int → Int → LI → Ap) (j17 : LI → LB → LB → Int → Int → Int → Int → Int → Int → Int → Int → LI → Int → Int → Ap) (al : Int) (a u : LB) (m b f h o p n g ah ai : Int) (v k : LI) : Ap :=
if (Bf al 0) then
j20 a u m b f h o p n g k al ah ai ([] : LI)
else
j17 v a u m b f h o p n g k 0 (Aa (Aa g (Cc 4 (Ac v))) 4)
def Yc := Aao Iw Yg
def Wp (j20 : LB → LB → Int → Int → Int → Int → Int → Int → Int → Int → LI → Int → Int → Int → LI → Ap) (j16 : Int → LB → LB → Int → Int → Int → Int → Int → Int → Int → Int → Int → Int → LI → LI → Ap) (a u : LB) (m b f h o p n g ah ai : Int) (k : LI) : Ap :=
if (Bl (Ac a) g) then
j20 a u m b f h o p n g k 24 ah ai ([] : LI)
else
(Eb a g (Ac a)).bind fun ay =>
(Ti ay (Ac k)).bind fun (v, al) =>
j16 al a u m b f h o p n g ah ai v k
def Zj := Wp Iw Yc
def Wa (j15 : LB → LB → Int → Int → Int → Int → Int → Int → Int → Int → Int → Int → LI → Ap) (a u : LB) (m b f h o p n g ah ai : Int) (k : LI) (ao : Int) : Ap :=
if (Bf ao 0) then
some (0, 0, 0, ([] : LX), ao)
else
j15 a u m b f h o p n g ah ai k
def Wh := Wa Zj
def Abk (j14 : LB → LB → Int → Int → Int → Int → Int → Int → Int → Int → Int → Int → LI → Int → Ap) (a u : LB) : Ap :=
if (En (Ac u) 64) then
some (0, 0, 0, ([] : LX), 2)
else
(Yi a).bind fun (m, b, f, h, o, p, n, g, ah, ai, k, ap) =>
if (Bf ap 0) then
some (0, 0, 0, ([] : LX), ap)
else
if ((u == ([] : LB)) != (geq m 1)) then
j14 a u m b f h o p n g ah ai k 26
else
if (geq m 1) then
j14 a u m b f h o p n g ah ai k 0
else
if (Bl (Ac a) g) then
j14 a u m b f h o p n g ah ai k 24
else
(Eb a n g).bind fun az =>
(Rz az u).bind fun (ba, bd) =>
if (!ba) then
j14 a u m b f h o p n g ah ai k 26
else
j14 a u m b f h o p n g ah ai k 0
def Amb := Abk Wh
def Zw (a b : LB) : Option Int :=
(Amb a b).bind fun (g, h, k, m, f) =>
some f
abbrev Bh := Option (Int × Int × Int × Int × Int × Int)
def Aij (a : LB) (k m n o p f g b aa y : Int) (h : LI) : Bh :=
if (Bl (Ac a) y) then
some (0, 0, 0, 0, 0, 24)
else
some (f, g, b, aa, y, 0)
def Uo := Aij
def Vh (j12 : LB → Int → Int → Int → Int → Int → Int → Int → Int → Int → Int → LI → Bh) (a : LB) (k m n o p f g b : Int) (h : LI) (ae aa y : Int) : Bh :=
if (Bf ae 0) then
some (0, 0, 0, 0, 0, ae)
else
j12 a k m n o p f g b aa y h
def Hw := Vh Uo
def Up (j11 : LB → Int → Int → Int → Int → Int → Int → Int → Int → LI → Int → Int → Int → Bh) (a : LB) (u : LI) (k m n o p f g b v : Int) (h : LI) : Bh :=
j11 a k m n o p f g b h 0 (Aa (Aa b (Cc 4 (Ac u))) 4) v
def Va := Up Hw
def Aak (j10 : LB → LI → Int → Int → Int → Int → Int → Int → Int → Int → Int → LI → Bh) (bk8 : Int → Int → Bh) (u : LI) (a : LB) (k m n o p f g b : Int) (h : LI) (w v : Int) : Bh :=
if (Bl w (Ac u)) then
(Ah u w).bind fun _ =>
(Ah u w).bind fun ag =>
bk8 (Aa w 1) (Aa v ag)
else
j10 a u k m n o p f g b v h
def Nz (u : LI) (a : LB) (k m n o p f g b : Int) (h : LI) : Nat → Int → Int → Bh
| 0, _, _ => none
| q + 1, w, v => Aak Va (Nz u a k m n o p f g b h q) u a k m n o p f g b h w v
def Wg u a k m n o p f g b h := Nz u a k m n o p f g b h Ce
def Wz (j11 : LB → Int → Int → Int → Int → Int → Int → Int → Int → LI → Int → Int → Int → Bh) (j8 : LI → LB → Int → Int → Int → Int → Int → Int → Int → Int → LI → Int → Int → Bh) (ab : Int) (a : LB) (k m n o p f g b ac ad : Int) (u h : LI) : Bh :=
if (Bf ab 0) then
j11 a k m n o p f g b h ab ac ad
else
j8 u a k m n o p f g b h 0 (Aa (Aa b (Cc 4 (Ac u))) 4)
def Yo := Wz Hw Wg
def Xp (j11 : LB → Int → Int → Int → Int → Int → Int → Int → Int → LI → Int → Int → Int → Bh) (j7 : Int → LB → Int → Int → Int → Int → Int → Int → Int → Int → Int → Int → LI → LI → Bh) (a : LB) : Bh :=
(Yi a).bind fun (k, m, n, o, p, f, g, b, ac, ad, h, af) =>
if (Bf af 0) then
some (0, 0, 0, 0, 0, af)
else
if (Bl (Ac a) b) then
j11 a k m n o p f g b h 24 ac ad
else
(Eb a b (Ac a)).bind fun ah =>
(Ti ah (Ac h)).bind fun (u, ab) =>
j7 ab a k m n o p f g b ac ad u h
def Ah9 := Xp Hw Yo
abbrev Ql := Option (Int × Int × Int × Int × Int × Int × LI × Int)
def Ajx (a : LB) (b f g h k n : Int) : Ql :=
(Ht b f g h k).bind fun (ab, p) =>
if (Bf p 0) then
some (0, 0, 0, 0, 0, 0, ([] : LI), p)
else
(Eb a n (Ac a)).bind fun ac =>
(Ti ac (Ac ab)).bind fun (u, v) =>
if (Bf v 0) then
some (0, 0, 0, 0, 0, 0, ([] : LI), v)
else
some (b, f, g, h, k, (Aa (Aa n (Cc 4 (Ac u))) 4), u, 0)
def Zp := Ajx
def Aai (j2 : LB → Int → Int → Int → Int → Int → Int → Ql) (a o : LB) : Ql :=
if (En (Ac o) 64) then
some (0, 0, 0, 0, 0, 0, ([] : LI), 2)
else
if (En (Ac a) 100000) then
some (0, 0, 0, 0, 0, 0, ([] : LI), 4)
else
(Fw a).bind fun (m, w) =>
if (Bf w 0) then
some (0, 0, 0, 0, 0, 0, ([] : LI), w)
else
(Eb a m (Ac a)).bind fun ad =>
(Ot ad).bind fun (b, f, g, h, k, y) =>
if (Bf y 0) then
some (0, 0, 0, 0, 0, 0, ([] : LI), y)
else
if ((o == ([] : LB)) != (geq b 1)) then
some (0, 0, 0, 0, 0, 0, ([] : LI), 26)
else
if (o != ([] : LB)) then
if (Bl (Ac a) (Aa (Aa m 22) 8)) then
some (0, 0, 0, 0, 0, 0, ([] : LI), 24)
else
(Eb a (Aa m 22) (Aa (Aa m 22) 8)).bind fun ae =>
(Rz ae o).bind fun (af, aa) =>
if (Bf aa 0) then
some (0, 0, 0, 0, 0, 0, ([] : LI), aa)
else
if (!af) then
some (0, 0, 0, 0, 0, 0, ([] : LI), 26)
else
j2 a b f g h k (Aa (Aa m 22) 8)
else
j2 a b f g h k (Aa m 22)
def Pf := Aai Zp
abbrev El := Option (Int × Int)
def Ajy (k f a b g h : Int) : El :=
some ((Hj (Cc (Cc k a) b) 8), 0)
def Aaa := Ajy
def Yp (j6 : Int → Int → Int → Int → Int → Int → El) (bk4 : Int → Int → El) (n f a b g h : Int) (m : LI) (k o : Int) : El :=
if (Bl o n) then
(Ah m o).bind fun _ =>
(Ah m o).bind fun p =>
bk4 (Aa k p) (Aa o 1)
else
j6 k f a b g h
def Mj (n f a b g h : Int) (m : LI) : Nat → Int → Int → El
| 0, _, _ => none
| q + 1, k, o => Yp Aaa (Mj n f a b g h m q) n f a b g h m k o
def Zz n f a b g h m := Mj n f a b g h m Ce
def Wt (j4 : Int → Int → Int → Int → Int → Int → LI → Int → Int → El) (f a b g h n : Int) : El :=
(Ht f a b g h).bind fun (m, u) =>
if ((Bf u 0) || (En n (Ac m))) then
some (0, 8)
else
j4 n f a b g h m 0 0
def Zr := Wt Zz
abbrev Dw := Option (Int × UInt8 × Int × Int × Int)
def Aii : Dw :=
some (0, 6, 0, 0, 0)
def Vp := Aii
def Ut (j6 : Dw) (bk4 : Int → Int → Dw) (a : Int) (b : LI) (g h k m n o p f : Int) : Dw :=
if (Bl f (Ac b)) then
(Ah b f).bind fun _ =>
(Ah b f).bind fun v =>
if (Bl a (Aa p v)) then
(Zr g h k m n f).bind fun (ad, ae) =>
some (0, 5, f, ad, ae)
else
bk4 (Aa p v) (Aa f 1)
else
j6
def La (a : Int) (b : LI) (g h k m n o : Int) : Nat → Int → Int → Dw
| 0, _, _ => none
| q + 1, p, f => Ut Vp (La a b g h k m n o q) a b g h k m n o p f
def Ux a b g h k m n o := La a b g h k m n o Ce
def To (j4 : Int → LI → Int → Int → Int → Int → Int → Int → Int → Int → Dw) (u w : LB) (a : Int) : Dw :=
(Zw u w).bind fun y =>
if (Bf y 0) then
some (0, 0, 0, 0, y)
else
if ((Bl a 0) || (Et a (Ac u))) then
some (0, 0, 0, 0, 2)
else
(Ah9 u).bind fun (af, ag, ah, aa, ai, ab) =>
if (Bf ab 0) then
some (0, 0, 0, 0, ab)
else
(Pf u w).bind fun (g, h, k, m, n, o, b, ac) =>
if (Bf ac 0) then
some (0, 0, 0, 0, ac)
else
if (Bl a af) then
some (0, 1, 0, 0, 0)
else
if (Bl a ag) then
some (0, 2, 0, 0, 0)
else
if (Bl a ah) then
some (0, 3, 0, 0, 0)
else
if (Bl a aa) then
some (0, 4, 0, 0, 0)
else
j4 a b g h k m n o aa 0
def Ad5 := To Ux
def Eg (a : LB) : Option (LB) :=
(
(Dp ([] : LB) a).bind fun b =>
some b)
def Is (f : LB) (a : Int) (g : UInt8) : Option (LB × Int) :=
if (((Bl a 0) || (Et a (Ac f))) || (geq g 0)) then
some (([] : LB), 2)
else
(Eg f).bind fun b =>
(Ah b a).bind fun _ =>
(Ah b a).bind fun h =>
(Ah b a).bind fun _ =>
(Fh b a (Vs h g)).bind fun k =>
some (k, 0)
def Aft (a n : LB) (b : Int) : Option UInt8 :=
if (En (Ac a) 100000) then
some 0
else
(Fw a).bind fun (f, g) =>
if (Bf g 0) then
some 1
else
(Eb a f (Ac a)).bind fun h =>
(Ot h).bind fun (k, o, p, u, v, m) =>
if (Bf m 0) then
some 2
else
if (geq b 26) then
if (geq b 26) then
some 3
else
some 4
else
if ((geq k 2) && (Bl (Ae (Ac a) f) 30)) then
some 3
else
some 4
abbrev Ch := Option (LI × Int)
def Aei (f : LI) : Ch :=
some (f, 0)
def Oq := Aei
def Agi (bk6 : Int → Int → LI → Ch) (a : LI) (b g h : Int) (k : LI) : Ch :=
bk6 (Aa b 1) (Aa g h) k
def Ro bk6 := Agi bk6
def Rb (j8 : Int → Int → Int → LI → Ch) (j10 : LI → Ch) (a : LI) (b g : Int) (f : LI) : Ch :=
if (Bl b (Ac a)) then
(Ah a b).bind fun h =>
(Dp f ([(Aa g h)] : LI)).bind fun k =>
j8 b g h k
else
j10 f
def Jw (a : LI) : Nat → Int → Int → LI → Ch
| 0, _, _, _ => none
| q + 1, b, g, f => Rb (Ro (Jw a q) a) Oq a b g f
def Qy a := Jw a Ce
def Qq (j6 : LI → Int → Int → LI → Ch) (a : LI) : Ch :=
(Ox a).bind fun m =>
if (Bf m 0) then
some (([] : LI), m)
else
j6 a 0 0 ([(0 : Int)] : LI)
def Ace := Qq Qy
abbrev Bd := Option (LB × Int)
def Aip (g : LB) : Bd :=
some (g, 0)
def Vj := Aip
def Aio (bk16 : Int → LB → Bd) (b : Int) (a : LX) (f : Int) (h : LB) : Bd :=
bk16 (Aa f 1) h
def Tl bk16 := Aio bk16
def Ud (j28 : Int → LB → Bd) (bk26 : Int → LB → Bd) (b : Int) (a : LX) (k : Int32) (f m : Int) (h : LB) : Bd :=
if (Bl m (Hj b 8)) then
(Dr (Et (Cc 8 m) 0)).bind fun _ =>
(Dp h ([(Ak (Bj k (GI.toZ (Cc 8 m)).toNat) : UInt8)] : LB)).bind fun p =>
bk26 (Aa m 1) p
else
j28 f h
def Lg (bk16 : Int → LB → Bd) (b : Int) (a : LX) (k : Int32) (f : Int) : Nat → Int → LB → Bd
| 0, _, _ => none
| q + 1, m, h => Ud (Tl bk16 b a) (Lg bk16 b a k f q) b a k f m h
def Vg bk16 b a k f := Lg bk16 b a k f Ce
def Vk (j26 : Int32 → Int → Int → LB → Bd) (b : Int) (a : LX) (f : Int) (g : LB) (k : Int32) : Bd :=
j26 k f 0 g
def Vo bk16 b a := Vk (Vg bk16 b a) b a
def Vf (j25 : Int → LB → Int32 → Bd) (j30 : LB → Bd) (b : Int) (a : LX) (f : Int) (g : LB) : Bd :=
if (Bl f (Ac a)) then
(Ah a f).bind fun n =>
if (geq b 8) then
j25 f g (Aa n 128)
else
j25 f g n
else
j30 g
def Lc (b : Int) (a : LX) : Nat → Int → LB → Bd
| 0, _, _ => none
| q + 1, f, g => Vf (Vo (Lc b a q) b a) Vj b a f g
def Uc b a := Lc b a Ce
def Vt (j16 : Int → LX → Int → LB → Bd) (b : Int) (a : LX) : Bd :=
(Kr b a).bind fun o =>
if (Bf o 0) then
some (([] : LB), o)
else
j16 b a 0 ([] : LB)
def Ah6 := Vt Uc
abbrev Bm := Option (LB × Int)
def Aiq (a ac : Int) : Bm :=
if (Bf ac 0) then
some (([] : LB), ac)
else
if ((Bl a 0) || (Et a 0)) then
some (([] : LB), 2)
else
none
def Ur := Aiq
def Aga (ad : Int) (ae : LB) : Bm :=
some (ae, ad)
def Jv := Aga
def Uh (j10 : Int → LB → Bm) (w a h b : Int) (aa : LX) (n o p k : Int) (m : LB) (u : LX) (v f g : LI) : Bm :=
if (Bf w 0) then
j10 w ([] : LB)
else
(Ah6 b aa).bind fun (ak, al) =>
j10 al ak
def Uu := Uh Jv
def Uk (j10 : Int → LB → Bm) (j9 : Int → Int → Int → Int → LX → Int → Int → Int → Int → LB → LX → LI → LI → LI → Bm) (a k ab y : Int) (m : LB) (h b : Int) (u : LX) (n o p : Int) (g v f : LI) : Bm :=
if (En (Aa k y) (Ac m)) then
j10 24 ([] : LB)
else
(Ah g a).bind fun _ =>
(Eb m (Aa k ab) (Aa k y)).bind fun am =>
(Ah g a).bind fun an =>
(Mp h b u an am).bind fun (aa, w) =>
j9 w a h b aa n o p k m u v f g
def Us := Uk Jv Uu
def Ty (j8 : Int → Int → Int → Int → LB → Int → Int → LX → Int → Int → Int → LI → LI → LI → Bm) (a : Int) (g : LI) (n h b o p k : Int) (m : LB) (u : LX) (v f : LI) : Bm :=
if (Bf (0 : Int) (0 : Int)) then
some (([] : LB), 0)
else
if ((Bl a 0) || (Et a (Ac g))) then
some (([] : LB), 2)
else
(Ah f a).bind fun _ =>
(Ah f (Aa a 1)).bind fun _ =>
(Ah f a).bind fun ab =>
(Ah f (Aa a 1)).bind fun y =>
j8 a k ab y m h b u n o p g v f
def Tz := Ty Us
def Uf (j6 : Int → Int → Bm) (j7 : Int → LI → Int → Int → Int → Int → Int → Int → LB → LX → LI → LI → Bm) (m af : LB) (a : Int) : Bm :=
(Pf m af).bind fun (n, h, b, o, p, k, v, ag) =>
if (Bf ag 0) then
j6 a ag
else
(Ht n h b o p).bind fun (g, ah) =>
if (Bf ah 0) then
j6 a ah
else
(Ace v).bind fun (f, ai) =>
if (Bf ai 0) then
j6 a ai
else
(Ls af).bind fun (u, aj) =>
if (Bf aj 0) then
j6 a aj
else
(Ah f (Ac g)).bind fun _ =>
(Ah f (Ac g)).bind fun ao =>
j7 a g n h b o p k m u v f
def Ae4 := Uf Ur Tz
abbrev Dd := Option (Int × UInt8 × Int × Int × Int)
def Akc (b f g h k m n : Int) (a : LI) (w : Int) (y : UInt8) (aa : Int) : Dd :=
(Zr f g h k m w).bind fun (ac, ad) =>
some (b, y, aa, ac, ad)
def Zy := Akc
def Xv (j8 : Int → Int → Int → Int → Int → Int → Int → LI → Int → UInt8 → Int → Dd) (bk6 : Int → Dd) (p o : LB) (a : LI) (b : Int) (u : UInt8) (f g h k m n v : Int) : Dd :=
if (Bl v (Ac a)) then
if (geq b 0) then
j8 b f g h k m n a (Ac a) u 0
else
(Ae4 p o v).bind fun (ag, ae) =>
if (Bf ae 0) then
j8 b f g h k m n a v 5 v
else
bk6 (Aa v 1)
else
j8 b f g h k m n a (Ac a) u 0
def Mg (p o : LB) (a : LI) (b : Int) (u : UInt8) (f g h k m n : Int) : Nat → Int → Dd
| 0, _ => none
| q + 1, v => Xv Zy (Mg p o a b u f g h k m n q) p o a b u f g h k m n v
def Xx p o a b u f g h k m n := Mg p o a b u f g h k m n Ce
def Wq (j6 : LB → LB → LI → Int → UInt8 → Int → Int → Int → Int → Int → Int → Int → Dd) (p o : LB) (b f g h k m n : Int) (a : LI) (u : UInt8) : Dd :=
j6 p o a b u f g h k m n 0
def Wn := Wq Xx
def Aaj (j5 : LB → LB → Int → Int → Int → Int → Int → Int → Int → LI → UInt8 → Dd) (p o : LB) : Dd :=
if (En (Ac o) 64) then
some (0, 0, 0, 0, 2)
else
(Zw p o).bind fun b =>
(Pf p o).bind fun (f, g, h, k, m, n, a, ab) =>
if (Bf ab 0) then
(Aft p o ab).bind fun af =>
some (b, af, 0, 0, 0)
else
if (Bf b 0) then
j5 p o b f g h k m n a 6
else
j5 p o b f g h k m n a 0
def Ag5 := Aaj Wn
def Bp (a : LB) (b k : Int) (f : UInt8) (g h m : Int) : Option Bool :=
(Ad5 a ([] : LB) b).bind fun (n, o, p, u, v) =>
(Is a b 64).bind fun (w, y) =>
(Ag5 w ([] : LB)).bind fun (aa, ab, ac, ad, ae) =>
if ((((Bf v 0) || (Bf y 0)) || (Bf ae 0)) || (!((geq n k) && ((geq o f) && ((geq p g) && ((geq u h) && true)))))) then
some false
else
some ((geq aa m) && ((geq ab f) && ((geq ac g) && ((geq ad h) && true))))
def Ez : Option Bool :=
(Mm).bind fun (a, b) =>
if b then
(Bp a 5 0 2 0 0 22).bind fun f =>
if f then
(Bp a 25 0 4 0 0 22).bind fun g =>
if g then
(Bp a 41 0 5 1 1 22).bind fun h =>
some h
else
some false
else
if false then
(Bp a 41 0 5 1 1 22).bind fun k =>
some k
else
some false
else
if false then
(Bp a 25 0 4 0 0 22).bind fun m =>
if m then
(Bp a 41 0 5 1 1 22).bind fun n =>
some n
else
some false
else
if false then
(Bp a 41 0 5 1 1 22).bind fun o =>
some o
else
some false
abbrev Cq := Option (LB × Int)
def Gl (h : Bool) (f : LB) : Cq :=
if (!h) then
some (([] : LB), 2)
else
some (f, 0)
def Qs := Gl
def Tr (bk6 : Int → Bool → LB → Cq) (a : Int) (g : UInt32) (b : Int) (k : Bool) (m : LB) : Cq :=
bk6 (Aa b 1) k m
def Hy bk6 := Tr bk6
def Hx (j8 : Int → Bool → LB → Cq) (j10 : Bool → LB → Cq) (a : Int) (g : UInt32) (b : Int) (h : Bool) (f : LB) : Cq :=
if (Bl b 32) then
(Dr (Et b 0)).bind fun _ =>
if (geq (Cj (Bj g (GI.toZ b).toNat) 1) 1) then
if (Bl (Aa a b) (Cc 8 (Ac f))) then
(Ah f (Hj (Aa a b) 8)).bind fun _ =>
(Dr (Et (Ev (Aa a b) 8) 0)).bind fun _ =>
(Ah f (Hj (Aa a b) 8)).bind fun o =>
(Ah f (Hj (Aa a b) 8)).bind fun _ =>
(Fh f (Hj (Aa a b) 8) (Vs o (Ef (1 : UInt8) (GI.toZ (Ev (Aa a b) 8)).toNat))).bind fun p =>
j8 b true p
else
j8 b h f
else
j8 b h f
else
j10 h f
def Dj (a : Int) (g : UInt32) : Nat → Int → Bool → LB → Cq
| 0, _, _, _ => none
| q + 1, b, h, f => Hx (Hy (Dj a g q) a g) Qs a g b h f
def Kv a g := Dj a g Ce
def Lf (j6 : Int → UInt32 → Int → Bool → LB → Cq) (n : LB) (a : Int) (g : UInt32) : Cq :=
if ((Bl a 0) || (Et a (Cc 8 (Ac n)))) then
some (([] : LB), 2)
else
(Eg n).bind fun u =>
j6 a g 0 false u
def Gk := Lf Kv
def Gh (a : LB) (f : Int) (g : UInt32) (b : Bool) : Option Bool :=
(Gk a f g).bind fun (n, o) =>
if (Bf o 0) then
some (b && (geq o 2))
else
(Gk n f g).bind fun (p, u) =>
some (((b && (geq u 0)) && (p == a)) && (n != a))
def Cm := Gh
def Dv (j2 : LB → Int → UInt32 → Bool → Option Bool) (a : LB) (h : Int) (k : UInt8) (f : Int) (g : UInt32) : Option Bool :=
(Ez).bind fun b =>
if ((En (Ac a) 1000) || (!b)) then
some b
else
(Is a h k).bind fun (m, v) =>
if (geq v 0) then
(Is m h k).bind fun (w, y) =>
(Gk a (Cc 8 h) (Ak k : UInt32)).bind fun (aa, ab) =>
if (((((Bf y 0) || (Bf ab 0)) || (w != a)) || (aa != m)) || (m == a)) then
some false
else
j2 a f g b
else
if (((Et h 0) && (Bl h (Ac a))) && (Bf k 0)) then
some false
else
j2 a f g b
def Dh := Dv Cm
end Go.Pl
