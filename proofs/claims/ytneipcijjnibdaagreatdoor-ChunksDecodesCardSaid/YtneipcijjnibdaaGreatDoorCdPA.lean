/- A part of the proof of a statement of this seat (see the text that ends in Proof): CdPure. No conditions of its own. -/
import Derived.Test.YtneipcijjnibdaaGreatDoorCdBA
set_option linter.unusedVariables false
namespace Go.Pl
open Go Go.Lv
abbrev LB := List UInt8
abbrev LI := List Int
abbrev LX := List Int32
abbrev LU := List UInt32
abbrev LQ := List UInt64
def Ad9 (a : LB) : Option Bool :=
some (((Du (Ac a) 400) && (gle (Ac a) 100000)) || (Du (Ac a) 100100))
abbrev Ky := Option (LI × Int)
def Awi (b : LI) : Ky :=
some (b, 0)
def Anv := Awi
def Zp (j6 : LI → Ky) (bk4 : Int → Int → LI → Ky) (f : Int) (g : UInt64) (h a : Int) (b : LI) : Ky :=
if (By a f) then
if (geq a (Al f 1)) then
(Cv b ([(Al (Ae a 1) h)] : LI)).bind fun k =>
bk4 (Ae a 1) (Ae a 1) k
else
(Vf (Qq (Ig a 64) 0)).bind fun _ =>
if (geq (Hr (Ci g (GI.toZ (Ig a 64)).toNat) 1) 1) then
(Cv b ([(Al (Ae a 1) h)] : LI)).bind fun m =>
bk4 (Ae a 1) (Ae a 1) m
else
bk4 h (Ae a 1) b
else
j6 b
def Mo (f : Int) (g : UInt64) : Nat → Int → Int → LI → Ky
| 0, _, _, _ => none
| q + 1, h, a, b => Zp Anv (Mo f g q) f g h a b
def Agi f g := Mo f g Au
def Zy (j4 : Int → UInt64 → Int → Int → LI → Ky) (f : Int) (g : UInt64) : Ky :=
if ((By f 0) || (Du f 100000)) then
some (([] : LI), 2)
else
j4 f g 0 0 ([] : LI)
def Vn := Zy Agi
def Ahv (a : LB) : Option (LB × LB × Int × Int × Int × Int × Int × LI × Int × LB × Bool × Int × Int) :=
if (Du (Ac a) 64) then
some (([] : LB), ([] : LB), 0, 0, 0, 0, 0, ([] : LI), 0, ([] : LB), false, 0, 2)
else
some (a, ([] : LB), 0, 0, 0, 0, 0, ([] : LI), 0, ([] : LB), false, 0, 0)
def Jy (a : LB) : Option (LB) :=
(
(Cv ([] : LB) a).bind fun b =>
some b)
def Ey (a : LI) : Option (LI) :=
(
(Cv ([] : LI) a).bind fun b =>
some b)
def Cw (a b : LB) (f g h k m : Int) (n : LI) (o : Int) (p : LB) (u : Bool) (v : Int) : Option (LB × LB × Int × Int × Int × Int × Int × LI × Int × LB × Bool × Int) :=
(Jy b).bind fun w =>
(Jy p).bind fun y =>
(Ey n).bind fun aa =>
some (a, w, f, g, h, k, m, aa, o, y, u, v)
def Agj (b f a g h : Int) : Option Bool :=
some (((((((geq b 1) || (geq b 2)) && (Du f 0)) && (gle f 6)) && (Du g 0)) && (gle g 1048576)) && (Du h 0))
def Ml := Agj
def Zz (j2 : Int → Int → Int → Int → Int → Option Bool) (b f a g h : Int) : Option Bool :=
if (geq a 8) then
if (geq a 8) then
j2 b f a g h
else
some false
else
if (geq a 16) then
if (geq a 16) then
j2 b f a g h
else
some false
else
if (geq a 24) then
j2 b f a g h
else
some false
def Ql := Zz Ml
def Ad3 (a : Int) : Option (Int × Int) :=
if ((By a 1) || (Du a 1048576)) then
some (0, 2)
else
some ((Ate 1 (Cn (Bq 256 a) 245)), 0)
def Aa6 (g b : Int) : Option (Int × Int) :=
(Ad3 g).bind fun (a, f) =>
if (Bn f 0) then
some (0, f)
else
if ((By b 1) || (Du b 4000)) then
some (0, 2)
else
(Vf (Bn a 0)).bind fun _ =>
if (Du (Cn (Al (Ae b a) 1) a) 1000) then
some (0, 4)
else
some ((Cn (Al (Ae b a) 1) a), 0)
def Ahq (k a m f b : Int) : Option Bool :=
(Vf (Bn a 0)).bind fun _ =>
if (Du b (Cn 4000 a)) then
some false
else
(Aa6 f b).bind fun (g, h) =>
some ((geq h 0) && (gle g 1000))
def Aad (a b f g h : Int) : Option Int :=
(Ql a b f g h).bind fun k =>
if (!k) then
some 8
else
(Ahq a b f g h).bind fun m =>
if (!m) then
some 8
else
some 0
def Ah6 (a b : UInt64) : Option (UInt64 × UInt64) :=
some ((Ae (Ae (Bq (Ci a (GI.toZ (32 : UInt64)).toNat) (Ci b (GI.toZ (32 : UInt64)).toNat)) (Ci (Ae (Bq (Ci a (GI.toZ (32 : UInt64)).toNat) (Hr b 4294967295)) (Ci (Bq (Hr a 4294967295) (Hr b 4294967295)) (GI.toZ (32 : UInt64)).toNat)) (GI.toZ (32 : UInt64)).toNat)) (Ci (Ae (Hr (Ae (Bq (Ci a (GI.toZ (32 : UInt64)).toNat) (Hr b 4294967295)) (Ci (Bq (Hr a 4294967295) (Hr b 4294967295)) (GI.toZ (32 : UInt64)).toNat)) 4294967295) (Bq (Hr a 4294967295) (Ci b (GI.toZ (32 : UInt64)).toNat))) (GI.toZ (32 : UInt64)).toNat)), (Bq a b))
def Agt (a b : UInt64) : Option (UInt64 × UInt64) :=
(Ah6 a b).bind fun (f, g) =>
some (f, g)
def On (a : LI) : Option (LI) :=
some a
def Jd := On
def Gv (j10 : LI → Option (LI)) (bk8 : Int → LI → Option (LI)) (b : Int) (a : LI) : Option (LI) :=
if (By b (Ac a)) then
(
(vwI (Ac a) b (Ac a)).bind fun _ =>
(vwI (Ac a) 0 b).bind fun _ =>
bk8 (Ae b (Ako ((Ac a) - b) (Anz a 0 (b - (0 : Int))).length)) (Wl a b ((Ac a) - b) (Anz a 0 (b - (0 : Int)))))
else
j10 a
def Dv : Nat → Int → LI → Option (LI)
| 0, _, _ => none
| q + 1, b, a => Gv Jd (Dv q) b a
def Qw := Dv Au
def Qv (j8 : Int → LI → Option (LI)) (f : LI) (g : UInt64) : Option (LI) :=
(mkI (Ad g : Int) (0 : Int)).bind fun k =>
(Vf (geq (Ad g : Int) (Ad g : Int))).bind fun _ =>
j8 (Ako (Ac k) f.length) (Azd k f)
def Qn := Qv Qw
def Qy (j7 : LI → UInt64 → Option (LI)) (f : LI) (h : Int) : Option (LI) :=
(Agt (Ad (Ac f) : UInt64) (Ad h : UInt64)).bind fun (m, g) =>
if ((Du m 0) || (Du g 9223372036854775807)) then
none
else
j7 f g
def Qt := Qy Qn
def Qm (j6 : LI → Int → Option (LI)) (f : LI) (h : Int) : Option (LI) :=
if (By h 0) then
none
else
j6 f h
def Nz := Qm Qt
def Alq (f : LI) : Option (LI) :=
some f
def Aah := Alq
def Fp (j16 : LI → Option (LI)) (bk14 : Int → LI → Option (LI)) (a : List LI) (g : Int) (f : LI) : Option (LI) :=
if (By g (Ac a)) then
(Ak a g).bind fun o =>
(Cv f o).bind fun p =>
bk14 (Ae g 1) p
else
j16 f
def Dm (a : List LI) : Nat → Int → LI → Option (LI)
| 0, _, _ => none
| q + 1, g, f => Fp Aah (Dm a q) a g f
def Of a := Dm a Au
def Oi (j14 : (List LI) → Int → LI → Option (LI)) (a : List LI) (k : LI) : Option (LI) :=
j14 a 0 k
def Jc := Oi Of
def Oh (j13 : (List LI) → LI → Option (LI)) (b : Int) (a : List LI) : Option (LI) :=
if (Du (Al b (Al (0 : Int) (0 : Int))) 0) then
(vwI 0 0 0).bind fun _ =>
(mkI (Al b (Al (0 : Int) (0 : Int))) (0 : Int)).bind fun u =>
(Cv ([] : LI) u).bind fun m =>
(vwI (Ac m) 0 0).bind fun _ =>
j13 a (Anz m 0 ((0 : Int) - (0 : Int)))
else
j13 a ([] : LI)
def Od := Oh Jc
def Oc (j12 : Int → (List LI) → Option (LI)) (a : List LI) (b : Int) : Option (LI) :=
if (By b 0) then
none
else
j12 b a
def Ok := Oc Od
def Gp (j11 : (List LI) → Int → Option (LI)) (bk9 : Int → Int → Option (LI)) (a : List LI) (b h : Int) : Option (LI) :=
if (By h (Ac a)) then
(Ak a h).bind fun n =>
if (By (Ae b (Ac n)) 0) then
none
else
bk9 (Ae b (Ac n)) (Ae h 1)
else
j11 a b
def Dw (a : List LI) : Nat → Int → Int → Option (LI)
| 0, _, _ => none
| q + 1, b, h => Gp Ok (Dw a q) a b h
def Qo a := Dw a Au
def Qz (j9 : (List LI) → Int → Int → Option (LI)) (a : List LI) : Option (LI) :=
j9 a 0 0
def Nx := Qz Qo
def Akv (a b : LI) : Option (LI) :=
(Nx ([a, b] : List LI)).bind fun f =>
some f
def Al4 (a b : Int) : Option (LI × Int) :=
(Aa6 a b).bind fun (f, g) =>
if (Bn g 0) then
some (([] : LI), g)
else
(Ad3 a).bind fun (h, n) =>
(Nz ([h] : LI) (Al f 1)).bind fun k =>
(Akv k ([(Al b (Bq (Al f 1) h))] : LI)).bind fun m =>
some (m, 0)
def Cx (g h k a b : Int) : Option (LI × Int) :=
(Aad g h k a b).bind fun f =>
if (Bn f 0) then
some (([] : LI), f)
else
(Al4 a b).bind fun (m, n) =>
some (m, n)
def Mv (a f g h k : Int) (b : LB) : Option Int :=
if ((b == ([] : LB)) != (geq a 1)) then
some 26
else
some 0
def Az1 : Option Int :=
some 0
def Arq := Az1
def Adl (j6 : Option Int) (bk4 : Int → Int → Option Int) (a : LI) (f b : Int) : Option Int :=
if (By b (Ac a)) then
(Ak a b).bind fun g =>
if ((By g 5) || (Du g f)) then
some 8
else
bk4 (Al f g) (Ae b 1)
else
j6
def Tk (a : LI) : Nat → Int → Int → Option Int
| 0, _, _ => none
| q + 1, f, b => Adl Arq (Tk a q) a f b
def Ak5 a := Tk a Au
def Aez (j4 : LI → Int → Int → Option Int) (a : LI) : Option Int :=
if ((geq (Ac a) 0) || (Du (Ac a) 1000)) then
some 8
else
j4 a 100000 0
def Tq := Aez Ak5
def Ap6 (w : Int) (o p : LB) (h b f k m : Int) (g : LI) (a : Int) (n : LB) (u : Bool) (v : Int) : Option Bool :=
some (gle (Ac n) w)
def Aih := Ap6
def Abq (j8 : Int → LB → LB → Int → Int → Int → Int → Int → LI → Int → LB → Bool → Int → Option Bool) (bk6 : Int → Int → Option Bool) (y : LI) (o p : LB) (h b f k m : Int) (g : LI) (a : Int) (n : LB) (u : Bool) (v w aa : Int) : Option Bool :=
if (By aa (Ac y)) then
(Ak y aa).bind fun ac =>
bk6 (Ae w (Cn (Bq (Bq ac b) f) 8)) (Ae aa 1)
else
j8 w o p h b f k m g a n u v
def Ot (y : LI) (o p : LB) (h b f k m : Int) (g : LI) (a : Int) (n : LB) (u : Bool) (v : Int) : Nat → Int → Int → Option Bool
| 0, _, _ => none
| q + 1, w, aa => Abq Aih (Ot y o p h b f k m g a n u v q) y o p h b f k m g a n u v w aa
def Aia y o p h b f k m g a n u v := Ot y o p h b f k m g a n u v Au
def Aif (j6 : LI → LB → LB → Int → Int → Int → Int → Int → LI → Int → LB → Bool → Int → Int → Int → Option Bool) (o p : LB) (h b f k m : Int) (g : LI) (a : Int) (n : LB) (u : Bool) (v : Int) (ab : LI) : Option Bool :=
if (geq (Ac g) 0) then
some ((geq a 0) && (geq (Ac n) 0))
else
(Tq g).bind fun ad =>
if ((((Bn ad 0) || (Bn (Ac g) (Ac ab))) || (By a 0)) || (Du a (Ac ab))) then
some false
else
(Bc ab 0 a).bind fun y =>
j6 y o p h b f k m g a n u v 0 0
def Aic := Aif Aia
def Ah9 (j5 : LB → LB → Int → Int → Int → Int → Int → LI → Int → LB → Bool → Int → LI → Option Bool) (o p : LB) (h b f k m : Int) (g : LI) (a : Int) (n : LB) (u : Bool) (v : Int) : Option Bool :=
if ((geq h 0) && ((geq b 0) && ((geq f 0) && ((geq k 0) && ((geq m 0) && true))))) then
some (((geq (Ac g) 0) && (geq a 0)) && (geq (Ac n) 0))
else
(Cx h b f k m).bind fun (ab, ae) =>
if (Bn ae 0) then
some false
else
(Mv h b f k m o).bind fun af =>
if (Bn af 0) then
some false
else
j5 o p h b f k m g a n u v ab
def Zx := Ah9 Aic
def Fc (a b : LB) : Option Bool :=
some (a == b)
def Le (b a : LB) : Option Bool :=
if (Qq (Ac b) (Ac a)) then
(Bc b 0 (Ac a)).bind fun f =>
(Fc f a).bind fun g =>
some g
else
some false
abbrev Kz := Option (Int × Int)
def Awk (b : Int) : Kz :=
some (b, 0)
def Aod := Awk
def Zr (j6 : Int → Kz) (bk4 : Int → Int → Kz) (a : LB) (b f : Int) : Kz :=
if (By f (Ac a)) then
(Ak a f).bind fun g =>
if (Du g 127) then
some (0, 12)
else
bk4 (gor (Eh b (GI.toZ (7 : UInt64)).toNat) (Ad g : Int)) (Ae f 1)
else
j6 b
def Mr (a : LB) : Nat → Int → Int → Kz
| 0, _, _ => none
| q + 1, b, f => Zr Aod (Mr a q) a b f
def Af8 a := Mr a Au
def Afz (j4 : LB → Int → Int → Kz) (a : LB) : Kz :=
if (Bn (Ac a) 4) then
some (0, 2)
else
j4 a 0 0
def Ags := Afz Af8
abbrev Ic := Option (Int × Int)
def Aqc (a : LB) (b : UInt8) (h : Int) : Ic :=
if (Du h 4000) then
some (0, 4)
else
if (By (Ac a) h) then
some (0, 24)
else
if (geq b 16) then
(Bc a (Al h 10) h).bind fun k =>
(Bc k 0 3).bind fun u =>
if (u != ([51, 68, 73] : LB)) then
some (0, 12)
else
(Bc k 3 (Ac k)).bind fun v =>
(Bc a 3 10).bind fun w =>
(Fc v w).bind fun y =>
if (!y) then
some (0, 12)
else
some (h, 0)
else
some (h, 0)
def Abn := Aqc
def Aii (j8 : LB → UInt8 → Int → Ic) (a : LB) (g : Int) (b : UInt8) : Ic :=
if (geq b 16) then
j8 a b (Ae (Ae g 10) 10)
else
j8 a b (Ae g 10)
def Abj := Aii Abn
def Aim (j7 : LB → Int → UInt8 → Ic) (a : LB) (g : Int) (b : UInt8) (m : Bool) : Ic :=
if m then
some (0, 12)
else
j7 a g b
def Ain := Aim Abj
def Ail (j6 : LB → Int → UInt8 → Bool → Ic) (a : LB) (f b : UInt8) : Ic :=
(Bc a 6 10).bind fun aa =>
(Ags aa).bind fun (g, ab) =>
if (Bn ab 0) then
if true then
j6 a g b true
else
if (geq b 0) then
j6 a g b (!((Qq f 2) && (gle f 4)))
else
if (geq b 16) then
j6 a g b (!(geq f 4))
else
j6 a g b (!false)
else
(Ak a 4).bind fun ac =>
if (Bn ac 0) then
j6 a g b true
else
if (geq b 0) then
j6 a g b (!((Qq f 2) && (gle f 4)))
else
if (geq b 16) then
j6 a g b (!(geq f 4))
else
j6 a g b (!false)
def Aik := Ail Ain
def Abk (j5 : LB → UInt8 → UInt8 → Ic) (a : LB) : Ic :=
(Le a ([(73 : UInt8), (68 : UInt8), (51 : UInt8)] : LB)).bind fun n =>
if (!n) then
some (0, 6)
else
if (By (Ac a) 10) then
some (0, 24)
else
(Ak a 3).bind fun f =>
(Ak a 5).bind fun b =>
(
(
(
j5 a f b)))
def Ajl := Abk Aik
abbrev Ab8 := Option (UInt64 × Int)
def Bho (b : UInt64) : Ab8 :=
some (b, 0)
def Axm := Bho
def Alw (j6 : UInt64 → Ab8) (bk4 : UInt64 → Int → Ab8) (a : LB) (b : UInt64) (f : Int) : Ab8 :=
if (By f (Ac a)) then
(Ak a f).bind fun g =>
(Vf (Qq (Bq 8 f) 0)).bind fun _ =>
bk4 (gor b (Eh (Ad g : UInt64) (GI.toZ (Bq 8 f)).toNat)) (Ae f 1)
else
j6 b
def Ach (a : LB) : Nat → UInt64 → Int → Ab8
| 0, _, _ => none
| q + 1, b, f => Alw Axm (Ach a q) a b f
def Ari a := Ach a Au
def Arz (j4 : LB → UInt64 → Int → Ab8) (a : LB) : Ab8 :=
if ((By (Ac a) 1) || (Du (Ac a) 8)) then
some (0, 2)
else
j4 a 0 0
def Arb := Arz Ari
def Ans (f : LB) (a b : Int) : Option (UInt64 × Int) :=
if (((By b 1) || (Du b 8)) || (By a 0)) then
some (0, 2)
else
if (Du a (Al (Ac f) b)) then
some (0, 24)
else
(Bc f a (Ae a b)).bind fun g =>
(Arb g).bind fun (h, k) =>
some (h, k)
def Ay6 (b : UInt64) (a : Int) : Option Bool :=
if (geq a 8) then
some true
else
(Vf (Qq (Bq 8 a) 0)).bind fun _ =>
some (geq (Ci b (GI.toZ (Bq 8 a)).toNat) 0)
abbrev Abs := Option (LB × Int)
def Ax7 (a : LB) : Abs :=
some (a, 0)
def Ar9 := Ax7
def Al9 (j6 : LB → Abs) (bk4 : Int → LB → Abs) (f : UInt64) (g : LB) (b : Int) (a : LB) : Abs :=
if (By b (Ac g)) then
(Vf (Qq (Bq 8 b) 0)).bind fun _ =>
(Ak a b).bind fun _ =>
(Tp a b (Ad (Ci f (GI.toZ (Bq 8 b)).toNat) : UInt8)).bind fun k =>
bk4 (Ae b 1) k
else
j6 a
def Aco (f : UInt64) (g : LB) : Nat → Int → LB → Abs
| 0, _, _ => none
| q + 1, b, a => Al9 Ar9 (Aco f g q) f g b a
def Aqy f g := Aco f g Au
def Ark (j4 : UInt64 → LB → Int → LB → Abs) (f : UInt64) (h : Int) : Abs :=
if ((By h 1) || (Du h 8)) then
some (([] : LB), 2)
else
(Ay6 f h).bind fun m =>
if (!m) then
some (([] : LB), 16)
else
(mkI h (0 : UInt8)).bind fun g =>
(Vf (geq h h)).bind fun _ =>
j4 f g 0 g
def Asj := Ark Aqy
def Bcc (g : LB) : Option (LB) :=
some g
def At2 := Bcc
def Ap0 (j6 : LB → Option (LB)) (bk4 : Int → LB → Option (LB)) (a b : Int) (f : UInt64) (h : Int) (g : LB) : Option (LB) :=
if (By h (Ac ([(2000 : UInt64), (Ad (Ae a 32) : UInt64), (Ad b : UInt64), f, (0 : UInt64), (0 : UInt64)] : LQ))) then
(Ak ([(2000 : UInt64), (Ad (Ae a 32) : UInt64), (Ad b : UInt64), f, (0 : UInt64), (0 : UInt64)] : LQ) h).bind fun _ =>
(Ak ([(2000 : UInt64), (Ad (Ae a 32) : UInt64), (Ad b : UInt64), f, (0 : UInt64), (0 : UInt64)] : LQ) h).bind fun k =>
(Asj k 4).bind fun (m, o) =>
(Cv g m).bind fun n =>
bk4 (Ae h 1) n
else
j6 g
def Abt (a b : Int) (f : UInt64) : Nat → Int → LB → Option (LB)
| 0, _, _ => none
| q + 1, h, g => Ap0 At2 (Abt a b f q) a b f h g
def At8 a b f := Abt a b f Au
def Aua (j4 : Int → Int → UInt64 → Int → LB → Option (LB)) (a b : Int) (f : UInt64) : Option (LB) :=
j4 a b f 0 ([(65 : UInt8), (80 : UInt8), (69 : UInt8), (84 : UInt8), (65 : UInt8), (71 : UInt8), (69 : UInt8), (88 : UInt8)] : LB)
def As0 := Aua At8
def Aj1 (b : LB) (g : UInt64) : Option (Int × Int × Bool) :=
(Ans b 12 4).bind fun (a, m) =>
(Ans b 16 4).bind fun (f, n) =>
if (((By a 32) || (Du a 3032)) || (Du f 1000)) then
some (0, 0, false)
else
(As0 (Al (Ad a : Int) 32) (Ad f : Int) g).bind fun h =>
(Fc b h).bind fun k =>
some ((Al (Ad a : Int) 32), (Ad f : Int), k)
def Asz (a : LB) : Option (Int × Int) :=
(Le a ([(65 : UInt8), (80 : UInt8), (69 : UInt8), (84 : UInt8), (65 : UInt8), (71 : UInt8), (69 : UInt8), (88 : UInt8)] : LB)).bind fun f =>
if (!f) then
some (0, 6)
else
if (By (Ac a) 32) then
some (0, 24)
else
(Bc a 0 32).bind fun g =>
(Aj1 g 2684354560).bind fun (b, h, k) =>
if (!k) then
some (0, 12)
else
if (By (Ac a) (Ae b 64)) then
some (0, 24)
else
(Bc a (Al (Ae b 64) 32) (Ae b 64)).bind fun m =>
(As0 b h 2147483648).bind fun n =>
(Fc m n).bind fun o =>
if (!o) then
some (0, 12)
else
some ((Ae b 64), 0)
def Yj (a : LB) : Option (Int × Int) :=
(Ajl a).bind fun (f, b) =>
if (Bn b 6) then
some (f, b)
else
(Asz a).bind fun (g, h) =>
some (g, h)
def Vo (b : List UInt8) : Nat → Int → Option (Int × Int)
  | 0, _ => none
  | q + 1, x => Option.bind (Bc b x (Ac b)) fun s => Option.bind (Yj s) fun r =>
    if geq r.2 (6 : Int) = true then some (x, 0)
    else if (geq r.2 (0 : Int) && Du (Ae x r.1) (4000 : Int)) = true then some (0, 4)
    else if Bn r.2 (0 : Int) = true then some (0, r.2)
    else Vo b q (Ae x r.1)
def Kc (b : List UInt8) : Option (Int × Int) := Vo b Au 0
def Ag (a : Int) : Option (Bool × Int) :=
some (false, a)
def Fk (b a : LB) : Option Bool :=
if (Qq (Ac b) (Ac a)) then
(Bc b 0 (Ac a)).bind fun f =>
some (f == a)
else
some false
def Ia (a b : LB) : Option Bool :=
(Fk a b).bind fun f =>
some f
def Ayl : Option Bool :=
some false
def Ap8 := Ayl
def Vg (j6 : Option Bool) (bk4 : Int → Option Bool) (a : LB) (b : Int) : Option Bool :=
if (By b 2) then
(Ak ([([73, 68, 51] : LB), ([65, 80, 69, 84, 65, 71, 69, 88] : LB)] : List LB) b).bind fun f =>
if (By (Ac a) (Ac f)) then
(Ia f a).bind fun g =>
if g then
some true
else
bk4 (Ae b 1)
else
bk4 (Ae b 1)
else
j6
def Ja (a : LB) : Nat → Int → Option Bool
| 0, _ => none
| q + 1, b => Vg Ap8 (Ja a q) a b
def Aiu a := Ja a Au
def Ah8 (j4 : LB → Int → Option Bool) (a : LB) : Option Bool :=
j4 a 0
def Py := Ah8 Aiu
abbrev Bp := Option (UInt32 × Int)
def Ar0 (h : UInt32) : Bp :=
some (h, 0)
def Aln := Ar0
def Ac9 (j30 : UInt32 → Bp) (bk28 : UInt32 → Int → Bp) (a : LB) (b : LU) (h : UInt32) (m : Int) : Bp :=
if (By m (Ac a)) then
(Ak a m).bind fun p =>
(Ak b (GI.toZ (Abg (Ad h : UInt8) p))).bind fun _ =>
(Ak b (GI.toZ (Abg (Ad h : UInt8) p))).bind fun u =>
bk28 (Abg (Ci h (GI.toZ (8 : UInt64)).toNat) u) (Ae m 1)
else
j30 h
def Sg (a : LB) (b : LU) : Nat → UInt32 → Int → Bp
| 0, _, _ => none
| q + 1, h, m => Ac9 Aln (Sg a b q) a b h m
def Ale a b := Sg a b Au
def Akr (j28 : LB → LU → UInt32 → Int → Bp) (f : UInt32) (a : LB) (b : LU) : Bp :=
j28 a b f 0
def Alh := Akr Ale
def Aj7 (j27 : UInt32 → LB → LU → Bp) (f : UInt32) (a : LB) (b : LU) : Bp :=
j27 f a b
def Ac5 := Aj7 Alh
def Ard (bk16 : Int → LU → Bp) (f : UInt32) (a : LB) (g : Int) (o : LU) : Bp :=
bk16 (Ae g 1) o
def Alj bk16 := Ard bk16
def Ak1 (j24 : Int → LU → Bp) (f : UInt32) (a : LB) (g : Int) (k : UInt32) (b : LU) : Bp :=
(Ak b g).bind fun _ =>
(Tp b g k).bind fun o =>
j24 g o
def Ad0 bk16 f a := Ak1 (Alj bk16 f a) f a
def Ad7 (j23 : Int → UInt32 → LU → Bp) (bk21 : UInt32 → Int → Bp) (f : UInt32) (a : LB) (g : Int) (b : LU) (k : UInt32) (n : Int) : Bp :=
if (By n 8) then
bk21 (Abg (Ci k (GI.toZ (1 : UInt64)).toNat) (Bq 3988292384 (Hr k 1))) (Ae n 1)
else
j23 g k b
def Sk (bk16 : Int → LU → Bp) (f : UInt32) (a : LB) (g : Int) (b : LU) : Nat → UInt32 → Int → Bp
| 0, _, _ => none
| q + 1, k, n => Ad7 (Ad0 bk16 f a) (Sk bk16 f a g b q) f a g b k n
def Akz bk16 f a g b := Sk bk16 f a g b Au
def Aee (j21 : Int → LU → UInt32 → Int → Bp) (j26 : UInt32 → LB → LU → Bp) (f : UInt32) (a : LB) (g : Int) (b : LU) : Bp :=
if (By g 256) then
j21 g b (Ad g : UInt32) 0
else
j26 f a b
def Na (f : UInt32) (a : LB) : Nat → Int → LU → Bp
| 0, _, _ => none
| q + 1, g, b => Aee (Akz (Na f a q) f a) Ac5 f a g b
def Alk f a := Na f a Au
def Ams (j16 : UInt32 → LB → Int → LU → Bp) (f : UInt32) (a : LB) : Bp :=
if (Du (Ac a) 100000) then
some (0, 4)
else
j16 f a 0 (List.replicate 256 (0 : UInt32))
def Aov := Ams Alk
def Ajt (b : LB) : Option (UInt32 × Int) :=
(Aov 4294967295 b).bind fun (f, a) =>
if (Bn a 0) then
some (0, a)
else
some ((Bcf f), 0)
abbrev Qs := Option (Int × Int × Int × Int × Int × Int)
def Ar5 (a : LI) : Qs :=
(Ak a 0).bind fun _ =>
(Ak a 0).bind fun h =>
(Ak a 1).bind fun _ =>
(Ak a 1).bind fun k =>
(Ak a 2).bind fun _ =>
(Ak a 2).bind fun m =>
(Ak a 3).bind fun _ =>
(Ak a 3).bind fun n =>
(Ak a 4).bind fun _ =>
(Ak a 4).bind fun o =>
(Ql h k m n o).bind fun p =>
if (!p) then
some (0, 0, 0, 0, 0, 12)
else
(Ahq h k m n o).bind fun u =>
if (!u) then
some (0, 0, 0, 0, 0, 4)
else
some (h, k, m, n, o, 0)
def Adu := Ar5
def Adh (j6 : LI → Qs) (bk4 : Int → Int → LI → Qs) (b : LB) (g f : Int) (a : LI) : Qs :=
if (By f 5) then
(Ak ([(2 : Int), (2 : Int), (2 : Int), (4 : Int), (4 : Int)] : LI) f).bind fun h =>
(Ans b g h).bind fun (v, ae) =>
(Ak a f).bind fun _ =>
(Tp a f (Ad v : Int)).bind fun w =>
bk4 (Ae g h) (Ae f 1) w
else
j6 a
def Mz (b : LB) : Nat → Int → Int → LI → Qs
| 0, _, _, _ => none
| q + 1, g, f, a => Adh Adu (Mz b q) b g f a
def Ad5 b := Mz b Au
def Ala (j4 : LB → Int → Int → LI → Qs) (b : LB) : Qs :=
(Bc b 0 (Hq 4 (Ac b))).bind fun y =>
(Ia ([84, 84, 65, 49] : LB) y).bind fun aa =>
if (!aa) then
some (0, 0, 0, 0, 0, 12)
else
if (By (Ac b) 22) then
some (0, 0, 0, 0, 0, 24)
else
(Ans b 18 4).bind fun (ab, af) =>
(Bc b 0 18).bind fun ac =>
(Ajt ac).bind fun (ad, ag) =>
if (Bn (Ad ad : UInt64) ab) then
some (0, 0, 0, 0, 0, 22)
else
j4 b 4 0 (List.replicate 5 (0 : Int))
def Pm := Ala Ad5
abbrev Bo := Option (UInt64 × Int)
def Ar8 (h : UInt64) : Bo :=
some (h, 0)
def Aj2 := Ar8
def Akl (j30 : UInt64 → Bo) (h b : UInt64) (a : LB) (f : LQ) : Bo :=
j30 h
def Ak7 := Akl Aj2
def Aes (j29 : UInt64 → UInt64 → LB → LQ → Bo) (bk27 : UInt64 → Int → Bo) (a : LB) (b : UInt64) (f : LQ) (h : UInt64) (m : Int) : Bo :=
if (By m (Ac a)) then
(Ak a m).bind fun p =>
Option.bind (Ak f (GI.toZ (Abg (Ad (Ci h (GI.toZ (56 : UInt64)).toNat) : UInt8) p))) fun _ =>
Option.bind (Ak f (GI.toZ (Abg (Ad (Ci h (GI.toZ (56 : UInt64)).toNat) : UInt8) p))) fun u =>
bk27 (Abg (Eh h (GI.toZ (8 : UInt64)).toNat) u) (Ae m 1)
else
j29 h b a f
def Sn (a : LB) (b : UInt64) (f : LQ) : Nat → UInt64 → Int → Bo
| 0, _, _ => none
| q + 1, h, m => Aes Ak7 (Sn a b f q) a b f h m
def Akb a b f := Sn a b f Au
def Aj8 (j27 : LB → UInt64 → LQ → UInt64 → Int → Bo) (b : UInt64) (a : LB) (f : LQ) : Bo :=
j27 a b f b 0
def Aep := Aj8 Akb
def Asb (bk16 : Int → LQ → Bo) (b : UInt64) (a : LB) (g : Int) (o : LQ) : Bo :=
bk16 (Ae g 1) o
def Akx bk16 := Asb bk16
def Akp (j24 : Int → LQ → Bo) (b : UInt64) (a : LB) (g : Int) (k : UInt64) (f : LQ) : Bo :=
(Ak f g).bind fun _ =>
(Tp f g k).bind fun o =>
j24 g o
def Ac3 bk16 b a := Akp (Akx bk16 b a) b a
def Adq (j23 : Int → UInt64 → LQ → Bo) (bk21 : UInt64 → Int → Bo) (b : UInt64) (a : LB) (g : Int) (f : LQ) (k : UInt64) (n : Int) : Bo :=
if (By n 8) then
bk21 (Abg (Eh k (GI.toZ (1 : UInt64)).toNat) (Bq 4823603603198064275 (Ci k (GI.toZ (63 : UInt64)).toNat))) (Ae n 1)
else
j23 g k f
def Sm (bk16 : Int → LQ → Bo) (b : UInt64) (a : LB) (g : Int) (f : LQ) : Nat → UInt64 → Int → Bo
| 0, _, _ => none
| q + 1, k, n => Adq (Ac3 bk16 b a) (Sm bk16 b a g f q) b a g f k n
def Akc bk16 b a g f := Sm bk16 b a g f Au
def Aet (j21 : Int → LQ → UInt64 → Int → Bo) (j26 : UInt64 → LB → LQ → Bo) (b : UInt64) (a : LB) (g : Int) (f : LQ) : Bo :=
if (By g 256) then
j21 g f (Eh (Ad g : UInt64) (GI.toZ (56 : UInt64)).toNat) 0
else
j26 b a f
def Mx (b : UInt64) (a : LB) : Nat → Int → LQ → Bo
| 0, _, _ => none
| q + 1, g, f => Aet (Akc (Mx b a q) b a) Aep b a g f
def Aku b a := Mx b a Au
def Amt (j16 : UInt64 → LB → Int → LQ → Bo) (b : UInt64) (a : LB) : Bo :=
if (Du (Ac a) 100000) then
some (0, 4)
else
j16 b a 0 (List.replicate 256 (0 : UInt64))
def Aos := Amt Aku
def Aoh (a : LB) : Option (UInt64 × Int) :=
(Aos 0 a).bind fun (b, f) =>
some (b, f)
def Aw4 (a : LB) : Option (UInt64 × Int) :=
if (Du (Ac a) 64) then
some (0, 2)
else
(Aoh a).bind fun (b, f) =>
some (b, 0)
def Ajp (b : LB) : Option (LB × Int) :=
(Aw4 b).bind fun (f, a) =>
if (Bn a 0) then
some (([] : LB), a)
else
(Asj f 8).bind fun (g, h) =>
some (g, h)
def Adx (a f : LB) : Option (Bool × Int) :=
(Ajp f).bind fun (b, g) =>
if ((Bn g 0) || (Bn (Ac a) (Ac b))) then
some (false, 2)
else
(Fc a b).bind fun h =>
some (h, 0)
abbrev Uo := Option (LI × Int)
def Atv (a : LI) : Uo :=
(Tq a).bind fun k =>
if (Bn k 0) then
some (([] : LI), 12)
else
some (a, 0)
def Agw := Atv
def Agu (j6 : LI → Uo) (bk4 : Int → LI → Uo) (b : LB) (f : LI) (g : Int) (a : LI) : Uo :=
if (By g (Ac f)) then
(Ans b (Bq 4 g) 4).bind fun (k, u) =>
(Ak a g).bind fun _ =>
(Tp a g (Ad k : Int)).bind fun m =>
bk4 (Ae g 1) m
else
j6 a
def Vi (b : LB) (f : LI) : Nat → Int → LI → Uo
| 0, _, _ => none
| q + 1, g, a => Agu Agw (Vi b f q) b f g a
def Amy b f := Vi b f Au
def Am1 (j4 : LB → LI → Int → LI → Uo) (b : LB) (h : Int) : Uo :=
if ((By h 1) || (Du h 1000)) then
some (([] : LI), 2)
else
if (By (Ac b) (Ae (Bq 4 h) 4)) then
some (([] : LI), 24)
else
(Ans b (Bq 4 h) 4).bind fun (n, v) =>
(Bc b 0 (Bq 4 h)).bind fun o =>
(Ajt o).bind fun (p, w) =>
if (Bn (Ad p : UInt64) n) then
some (([] : LI), 22)
else
(mkI h (0 : Int)).bind fun f =>
(Vf (geq h h)).bind fun _ =>
j4 b f 0 f
def Ak8 := Am1 Amy
def Bky (a : LX) : Option (LX) :=
some a
def Aze := Bky
def Apf (j6 : LX → Option (LX)) (bk4 : Int → LX → Option (LX)) (f : UInt64) (b : Int) (a : LX) : Option (LX) :=
if (By b 8) then
(Vf (Qq (Bq 8 b) 0)).bind fun _ =>
(Ak a b).bind fun _ =>
(Tp a b (Ad (Ad (Ci f (GI.toZ (Bq 8 b)).toNat) : Int8) : Int32)).bind fun g =>
bk4 (Ae b 1) g
else
j6 a
def Agl (f : UInt64) : Nat → Int → LX → Option (LX)
| 0, _, _ => none
| q + 1, b, a => Apf Aze (Agl f q) f b a
def Bbj f := Agl f Au
def Bco (j4 : UInt64 → Int → LX → Option (LX)) (f : UInt64) : Option (LX) :=
j4 f 0 (List.replicate 16 (0 : Int32))
def Bfz := Bco Bbj
def Ack (a : LB) : Option (LX × Int) :=
if (Du (Ac a) 64) then
some (([(0 : Int32), (0 : Int32), (0 : Int32), (0 : Int32), (0 : Int32), (0 : Int32), (0 : Int32), (0 : Int32), (0 : Int32), (0 : Int32), (0 : Int32), (0 : Int32), (0 : Int32), (0 : Int32), (0 : Int32), (0 : Int32)] : LX), 2)
else
(Aoh a).bind fun (f, b) =>
if (Bn b 0) then
some (([(0 : Int32), (0 : Int32), (0 : Int32), (0 : Int32), (0 : Int32), (0 : Int32), (0 : Int32), (0 : Int32), (0 : Int32), (0 : Int32), (0 : Int32), (0 : Int32), (0 : Int32), (0 : Int32), (0 : Int32), (0 : Int32)] : LX), b)
else
(Bfz f).bind fun g =>
some (g, 0)
def Aa9 (f a b g h : Int) : Option (Int × Int) :=
some (a, b)
abbrev Amz := Option (Int32 × Int32 × Int)
def Bcn (a : Int) (b : Bool) : Amz :=
if b then
(Vf (Qq (Al a 1) 0)).bind fun _ =>
some ((Av1 (Eh (1 : Int32) (GI.toZ (Al a 1)).toNat)), (Al (Eh (1 : Int32) (GI.toZ (Al a 1)).toNat) 1), 0)
else
some (0, 0, 2)
def Arl := Bcn
def Aq3 (j2 : Int → Bool → Amz) (a : Int) : Amz :=
if (geq a 8) then
j2 a (geq a 8)
else
if (geq a 16) then
j2 a (geq a 16)
else
j2 a (geq a 24)
def Ag4 := Aq3 Arl
def Agy (a b : Int) : Option Int :=
(Ag4 b).bind fun (g, h, f) =>
if (((Bn f 0) || (By a 1)) || (Du a 6)) then
some 2
else
some 0
def Aeg (a : LB) : Option (LB × Int) :=
if (By (Ac a) 5) then
some (([] : LB), 24)
else
if (Du (Ac a) 41254) then
some (([] : LB), 4)
else
(Bc a 0 (Al (Ac a) 4)).bind fun f =>
(Ajt f).bind fun (g, b) =>
if (Bn b 0) then
some (([] : LB), b)
else
(Bc a (Al (Ac a) 4) (Ac a)).bind fun h =>
(Arb h).bind fun (k, m) =>
if ((Bn m 0) || (Bn k (Ad g : UInt64))) then
some (([] : LB), 22)
else
(Bc a 0 (Al (Ac a) 4)).bind fun n =>
some (n, 0)
def Ib (a : LB) : Option (LB) :=
(
(Cv ([] : LB) a).bind fun b =>
some b)
def Bfu (a : LB) : Option (LB × Int × Int) :=
if (Du (Ac a) 41250) then
some (([] : LB), 0, 4)
else
(Ib a).bind fun b =>
some (b, (Bq 8 (Ac a)), 0)
def Bbd : Option (Int × Int × UInt64 × UInt64) :=
some (10, 10, 16384, 16384)
def Va (b : LB) (a : Int) : Option Int :=
if (((By a 0) || (Du a 330000)) || (Bn (Ac b) (Aym (Ae a 7) (GI.toZ (3 : UInt64)).toNat))) then
some 8
else
if (Du (Hr a 7) 0) then
(Ak b (Al (Ac b) 1)).bind fun f =>
(Vf (Qq (Hr a 7) 0)).bind fun _ =>
if (Bn (Ci f (GI.toZ (Hr a 7)).toNat) 0) then
some 8
else
some 0
else
some 0
def Bja (g : UInt64) : Option UInt64 :=
some g
def Axo := Bja
def Arm (j6 : UInt64 → Option UInt64) (bk4 : UInt64 → Int → Option UInt64) (b f : Int) (h : LB) (k : Int) (g : UInt64) (a : Int) : Option UInt64 :=
if (By a f) then
(Ak h (Aym (Ae b a) (GI.toZ (3 : UInt64)).toNat)).bind fun m =>
(Vf (Qq (Hr (Ae b a) 7) 0)).bind fun _ =>
(Vf (Qq (Hq (Al f a) (Al 8 (Hr (Ae b a) 7))) 0)).bind fun _ =>
(Vf (Qq a 0)).bind fun _ =>
bk4 (gor g (Eh (Ad (Hr (Ci m (GI.toZ (Hr (Ae b a) 7)).toNat) (Al (Eh (1 : UInt8) (GI.toZ (Hq (Al f a) (Al 8 (Hr (Ae b a) 7)))).toNat) 1)) : UInt64) (GI.toZ a).toNat)) (Ae a (Hq (Al f a) (Al 8 (Hr (Ae b a) 7))))
else
j6 g
def Ah0 (b f : Int) (h : LB) (k : Int) : Nat → UInt64 → Int → Option UInt64
| 0, _, _ => none
| q + 1, g, a => Arm Axo (Ah0 b f h k q) b f h k g a
def Axi b f h k := Ah0 b f h k Au
def Ax8 (j4 : Int → Int → LB → Int → UInt64 → Int → Option UInt64) (h : LB) (k b f : Int) : Option UInt64 :=
j4 b f h k 0 0
def Awe := Ax8 Axi
abbrev Ea := Option (LB × Int × Int)
def Av9 (o : Int) (p : LB) : Ea :=
some (p, o, 0)
def Aph := Av9
def Au8 (bk27 : Int → Int → LB → Ea) (a : Int) (g : LB) (f b h : Int) (u : LB) : Ea :=
bk27 (Ae b 64) h u
def Ajq bk27 := Au8 bk27
def Av4 (bk44 : UInt64 → Int → Int → LB → Ea) (a b : Int) (g : LB) (f : Int) (k n : UInt64) (m h : Int) (w : LB) : Ea :=
(Vf (Qq (Hq m (Al 8 (Hr h 7))) 0)).bind fun _ =>
bk44 (Ci n (GI.toZ (Hq m (Al 8 (Hr h 7)))).toNat) (Al m (Hq m (Al 8 (Hr h 7)))) (Ae h (Hq m (Al 8 (Hr h 7)))) w
def Aps bk44 := Av4 bk44
def Ao0 (j48 : UInt64 → Int → Int → LB → Ea) (a b : Int) (g : LB) (f : Int) (k n : UInt64) (m h : Int) (v : LB) : Ea :=
(Ak v (Al (Ac v) 1)).bind fun _ =>
(Vf (Qq (Hq m (Al 8 (Hr h 7))) 0)).bind fun _ =>
(Vf (Qq (Hr h 7) 0)).bind fun _ =>
(Ak v (Al (Ac v) 1)).bind fun aa =>
(Ak v (Al (Ac v) 1)).bind fun _ =>
Option.bind (Tp v (Al (Ac v) 1) (gor aa (Eh (Ad (Hr n (Al (Eh (1 : UInt64) (GI.toZ (Hq m (Al 8 (Hr h 7)))).toNat) 1)) : UInt8) (GI.toZ (Hr h 7)).toNat))) fun w =>
j48 n m h w
def Ajm bk44 a b g f k := Ao0 (Aps bk44 a b g f k) a b g f k
def Aje (j47 : UInt64 → Int → Int → LB → Ea) (j50 : Int → Int → LB → Ea) (a : Int) (g : LB) (f b : Int) (k n : UInt64) (m h : Int) (u : LB) : Ea :=
if (Du m 0) then
if (geq (Hr h 7) 0) then
(Cv u ([(0 : UInt8)] : LB)).bind fun ab =>
j47 n m h ab
else
j47 n m h u
else
j50 b h u
def Pd (bk27 : Int → Int → LB → Ea) (a : Int) (g : LB) (f b : Int) (k : UInt64) : Nat → UInt64 → Int → Int → LB → Ea
| 0, _, _, _, _ => none
| q + 1, n, m, h, u => Aje (Ajm (Pd bk27 a g f b k q) a b g f k) (Ajq bk27 a g f) a g f b k n m h u
def Apx bk27 a g f b k := Pd bk27 a g f b k Au
def Api (j44 : Int → UInt64 → UInt64 → Int → Int → LB → Ea) (j52 : Int → LB → Ea) (a : Int) (g : LB) (f b o : Int) (p : LB) : Ea :=
if (By b a) then
(Awe g f b (Hq 64 (Al a b))).bind fun k =>
j44 b k k (Hq 64 (Al a b)) o p
else
j52 o p
def Zq (a : Int) (g : LB) (f : Int) : Nat → Int → Int → LB → Ea
| 0, _, _, _ => none
| q + 1, b, o, p => Api (Apx (Zq a g f q) a g f) Aph a g f b o p
def Apy a g f := Zq a g f Au
def Aqz (j27 : Int → LB → Int → Int → Int → LB → Ea) (g : LB) (f y a : Int) : Ea :=
(Va g f).bind fun ac =>
if (Bn ac 0) then
some (([] : LB), 0, 8)
else
if (((By y 0) || (Du y a)) || (Du a f)) then
some (([] : LB), 0, 2)
else
j27 a g f y 0 ([] : LB)
def Arx := Aqz Apy
def Atn (a b : Int) (f g : UInt64) : Option Int :=
if (!((geq (Hq (Ate a 0) 24) a) && ((geq (Hq (Ate b 0) 24) b) && ((geq (Hq f 68719476735) f) && ((geq (Hq g 68719476735) g) && true))))) then
some 8
else
some 0
def Amp := Atn
def Ag0 (j4 : Int → Int → UInt64 → UInt64 → Option Int) (a b : Int) (f g : UInt64) : Option Int :=
(
(
j4 a b f g))
def Anf := Ag0 Amp
def Agr (j3 : Int → Int → UInt64 → UInt64 → Option Int) (a b : Int) (f g : UInt64) : Option Int :=
(
(
j3 a b f g))
def Ap1 := Agr Anf
def Adt (g : LB) (b f a : Int) : Option (UInt64 × Int) :=
(Va g b).bind fun h =>
if (Bn h 0) then
some (0, 8)
else
if (((By a 0) || (Du a 64)) || (By f 0)) then
some (0, 2)
else
if (Du f (Al b a)) then
some (0, 24)
else
(Awe g b f a).bind fun k =>
some (k, 0)
def Fq (a : UInt64) : Option Int :=
if (geq a 0) then
some 64
else
(Ak ([(0 : UInt8), (1 : UInt8), (56 : UInt8), (2 : UInt8), (57 : UInt8), (49 : UInt8), (28 : UInt8), (3 : UInt8), (61 : UInt8), (58 : UInt8), (42 : UInt8), (50 : UInt8), (38 : UInt8), (29 : UInt8), (17 : UInt8), (4 : UInt8), (62 : UInt8), (47 : UInt8), (59 : UInt8), (36 : UInt8), (45 : UInt8), (43 : UInt8), (51 : UInt8), (22 : UInt8), (53 : UInt8), (39 : UInt8), (33 : UInt8), (30 : UInt8), (24 : UInt8), (18 : UInt8), (12 : UInt8), (5 : UInt8), (63 : UInt8), (55 : UInt8), (48 : UInt8), (27 : UInt8), (60 : UInt8), (41 : UInt8), (37 : UInt8), (16 : UInt8), (46 : UInt8), (35 : UInt8), (44 : UInt8), (21 : UInt8), (52 : UInt8), (32 : UInt8), (23 : UInt8), (11 : UInt8), (54 : UInt8), (26 : UInt8), (40 : UInt8), (15 : UInt8), (34 : UInt8), (20 : UInt8), (31 : UInt8), (10 : UInt8), (25 : UInt8), (14 : UInt8), (19 : UInt8), (9 : UInt8), (13 : UInt8), (8 : UInt8), (7 : UInt8), (6 : UInt8)] : LB) (GI.toZ (Ci (Bq (Hr a (Av1 a)) 285870213051353865) (GI.toZ (58 : UInt64)).toNat))).bind fun b =>
some (Ad b : Int)
abbrev Hy := Option (Int × Int × Int)
def Bam : Hy :=
some (0, 0, 24)
def Ar4 := Bam
def Aty (j10 : Hy) : Hy :=
j10
def Atu := Aty Ar4
def Am7 (j9 : Hy) (f a : Int) : Hy :=
if (geq f 48) then
some (f, (Ae 0 (Ae a f)), 0)
else
j9
def Am2 := Am7 Atu
def Amo (j8 : Int → Int → Hy) (f b a : Int) : Hy :=
if (By f (Hq 48 (Al b a))) then
some (f, (Ae (Ae (0 : Int) (1 : Int)) (Ae a f)), 0)
else
j8 f a
def Amr := Amo Am2
def Amk (j7 : Int → Int → Int → Hy) (h : Int) (k : UInt64) (a : Int) (g : LB) (b : Int) : Hy :=
if (Bn h 0) then
some (0, 0, h)
else
(Fq (Bcf k)).bind fun f =>
j7 f b a
def Aml := Amk Amr
def Aa7 (j6 : Int → UInt64 → Int → LB → Int → Hy) (g : LB) (b a : Int) : Hy :=
(Va g b).bind fun m =>
if (Bn m 0) then
some (0, 0, m)
else
if (By a 0) then
some (0, 0, 2)
else
if (Qq a b) then
some (0, 0, 24)
else
(
(
(Adt g b a (Hq 48 (Al b a))).bind fun (k, h) =>
j6 h k a g b))
def Afx := Aa7 Aml
def Apd (b : UInt32) (a : Int) : Option Bool :=
(Vf (Qq a 0)).bind fun _ =>
some (Qq (Ci b (GI.toZ a).toNat) 48)
abbrev Aq2 := Option (UInt32 × Int × Int)
def Aot (a b f : Int) (g : LB) (h k : Int) : Aq2 :=
(Adt g h b k).bind fun (m, n) =>
if (Bn n 0) then
some (0, 0, n)
else
if (By f 48) then
(Vf (Qq a 0)).bind fun _ =>
some ((gor (Eh (Ad f : UInt32) (GI.toZ a).toNat) (Ad m : UInt32)), (Ae b k), 0)
else
(Apd (Ad m : UInt32) a).bind fun u =>
if (!u) then
some (0, 0, 12)
else
some ((Ad m : UInt32), (Ae b k), 0)
def Aji := Aot
def Apq (j2 : Int → Int → Int → LB → Int → Int → Aq2) (g : LB) (h v a : Int) : Aq2 :=
(Va g h).bind fun o =>
if (Bn o 0) then
some (0, 0, o)
else
if ((By a 0) || (Du a 24)) then
some (0, 0, 2)
else
(Afx g h v).bind fun (f, b, p) =>
if (Bn p 0) then
some (0, 0, p)
else
if (geq f 48) then
j2 a b f g h 32
else
j2 a b f g h a
def Aso := Apq Aji
def Aow (a f : Int) (g h : UInt64) (b : UInt32) : Option (Int × UInt32) :=
(Vf (Qq a 0)).bind fun _ =>
if (geq (Ci b (GI.toZ a).toNat) 0) then
some (0, b)
else
(Vf (Qq a 0)).bind fun _ =>
some (1, (Al b (Eh (1 : UInt32) (GI.toZ a).toNat)))
abbrev Kg := Option (UInt32 × Int × Int × Int × UInt64 × UInt64 × Int)
def Atj (f : UInt32) (k w m : Int) (a n : UInt64) : Kg :=
some (f, k, w, m, (Ae a (Al (Ad f : UInt64) (Ci a (GI.toZ (4 : UInt64)).toNat))), n, 0)
def Am0 := Atj
def Apt (j10 : UInt32 → Int → Int → Int → UInt64 → UInt64 → Kg) (f : UInt32) (k m : Int) (a n : UInt64) (w : Int) : Kg :=
j10 f k w m a n
def Apm := Apt Am0
def Ao8 (j9 : UInt32 → Int → Int → UInt64 → UInt64 → Int → Kg) (f : UInt32) (k b : Int) (a : UInt64) (m : Int) (n : UInt64) : Kg :=
if (Du b 0) then
(Vf (Qq b 0)).bind fun _ =>
if (By (Ae a (Al (Ad f : UInt64) (Ci a (GI.toZ (4 : UInt64)).toNat))) (Eh (16 : UInt64) (GI.toZ b).toNat)) then
j9 f k m a n (Al b 1)
else
if (By b 24) then
(Vf (Qq b 0)).bind fun _ =>
if (Du (Ae a (Al (Ad f : UInt64) (Ci a (GI.toZ (4 : UInt64)).toNat))) (Eh (32 : UInt64) (GI.toZ b).toNat)) then
j9 f k m a n (Ae b 1)
else
j9 f k m a n b
else
j9 f k m a n b
else
if (By b 24) then
(Vf (Qq b 0)).bind fun _ =>
if (Du (Ae a (Al (Ad f : UInt64) (Ci a (GI.toZ (4 : UInt64)).toNat))) (Eh (32 : UInt64) (GI.toZ b).toNat)) then
j9 f k m a n (Ae b 1)
else
j9 f k m a n b
else
j9 f k m a n b
def Adi := Ao8 Apm
def Apa (j8 : UInt32 → Int → Int → UInt64 → Int → UInt64 → Kg) (b h : Int) (a g : UInt64) (f : UInt32) (k : Int) : Kg :=
(Aow b h a g f).bind fun (ad, o) =>
if (geq ad 1) then
if (Du h 0) then
(Vf (Qq h 0)).bind fun _ =>
if (By (Ae g (Al (Ad o : UInt64) (Ci g (GI.toZ (4 : UInt64)).toNat))) (Eh (16 : UInt64) (GI.toZ h).toNat)) then
j8 f k b a (Al h 1) (Ae g (Al (Ad o : UInt64) (Ci g (GI.toZ (4 : UInt64)).toNat)))
else
if (By h 24) then
(Vf (Qq h 0)).bind fun _ =>
if (Du (Ae g (Al (Ad o : UInt64) (Ci g (GI.toZ (4 : UInt64)).toNat))) (Eh (32 : UInt64) (GI.toZ h).toNat)) then
j8 f k b a (Ae h 1) (Ae g (Al (Ad o : UInt64) (Ci g (GI.toZ (4 : UInt64)).toNat)))
else
j8 f k b a h (Ae g (Al (Ad o : UInt64) (Ci g (GI.toZ (4 : UInt64)).toNat)))
else
j8 f k b a h (Ae g (Al (Ad o : UInt64) (Ci g (GI.toZ (4 : UInt64)).toNat)))
else
if (By h 24) then
(Vf (Qq h 0)).bind fun _ =>
if (Du (Ae g (Al (Ad o : UInt64) (Ci g (GI.toZ (4 : UInt64)).toNat))) (Eh (32 : UInt64) (GI.toZ h).toNat)) then
j8 f k b a (Ae h 1) (Ae g (Al (Ad o : UInt64) (Ci g (GI.toZ (4 : UInt64)).toNat)))
else
j8 f k b a h (Ae g (Al (Ad o : UInt64) (Ci g (GI.toZ (4 : UInt64)).toNat)))
else
j8 f k b a h (Ae g (Al (Ad o : UInt64) (Ci g (GI.toZ (4 : UInt64)).toNat)))
else
j8 f k b a h g
def Ajr := Apa Adi
def Apb (j7 : Int → Int → UInt64 → UInt64 → UInt32 → Int → Kg) (p : Int) (u : LB) (v b h : Int) (a g : UInt64) : Kg :=
(Adt u v p 1).bind fun (ae, aa) =>
if (Bn aa 0) then
some (0, 0, 0, 0, 0, 0, aa)
else
if (geq ae 0) then
(Adt u v (Ae p 1) b).bind fun (af, ab) =>
if (Bn ab 0) then
some (0, 0, 0, 0, 0, 0, ab)
else
j7 b h a g (Ad af : UInt32) (Ae (Ae p 1) b)
else
(Aso u v (Ae p 1) h).bind fun (y, ag, ac) =>
if (Bn ac 0) then
some (0, 0, 0, 0, 0, 0, ac)
else
(Vf (Qq b 0)).bind fun _ =>
if (By (Ae y (Eh (1 : UInt32) (GI.toZ b).toNat)) y) then
some (0, 0, 0, 0, 0, 0, 12)
else
j7 b h a g (Ae y (Eh (1 : UInt32) (GI.toZ b).toNat)) ag
def Apz := Apb Ajr
def Aon (j6 : Int → LB → Int → Int → Int → UInt64 → UInt64 → Kg) (u : LB) (v p b h : Int) (a g : UInt64) : Kg :=
(Va u v).bind fun ah =>
if (Bn ah 0) then
some (0, 0, 0, 0, 0, 0, 8)
else
(Ap1 b h a g).bind fun ai =>
if (Bn ai 0) then
some (0, 0, 0, 0, 0, 0, 8)
else
j6 p u v b h a g
def Af9 := Aon Apz
abbrev Bk := Option (LU × Int × Int)
def Aux (k : Int) (m : LU) : Bk :=
some (m, k, 0)
def Akt := Aux
def Aj5 (bk16 : Int → Int → (List (Int × Int × UInt64 × UInt64 × Unit)) → LU → Bk) (a f : Int) (g : LB) (b k v : Int) (w : UInt32) (h : Int) (ag : List (Int × Int × UInt64 × UInt64 × Unit)) (m : LU) : Bk :=
(Cv m ([w] : LU)).bind fun ak =>
bk16 (Ae k v) (Ae h 1) ag ak
def Ab6 bk16 := Aj5 bk16
def Tv (j22 : Int → Int → UInt32 → Int → (List (Int × Int × UInt64 × UInt64 × Unit)) → LU → Bk) (a f : Int) (g : LB) (b k h y : Int) (w : UInt32) (v : Int) (n : List (Int × Int × UInt64 × UInt64 × Unit)) (m : LU) (aa ab : Int) (ac ad : UInt64) : Bk :=
if (Bn y 0) then
some (([] : LU), 0, y)
else
(Vf (Bn a 0)).bind fun _ =>
(Ak n (Ig h a)).bind fun _ =>
(Tp n (Ig h a) (aa, ab, ac, ad, ())).bind fun ag =>
j22 k v w h ag m
def Uh bk16 a f g b := Tv (Ab6 bk16 a f g b) a f g b
def Ua (j21 : Int → Int → Int → UInt32 → Int → (List (Int × Int × UInt64 × UInt64 × Unit)) → LU → Int → Int → UInt64 → UInt64 → Bk) (j24 : Int → LU → Bk) (a f : Int) (g : LB) (b k h : Int) (n : List (Int × Int × UInt64 × UInt64 × Unit)) (m : LU) : Bk :=
if (By h (Bq f a)) then
(Arx g b k (Hq (Ae k 81) b)).bind fun (ah, ae, af) =>
if (Bn af 0) then
some (([] : LU), 0, af)
else
(Vf (Bn a 0)).bind fun _ =>
(Ak n (Ig h a)).bind fun _ =>
(
(
(Ak n (Ig h a)).bind fun p =>
(
(Af9 ah ae 0 p.1 p.2.1 p.2.2.1 p.2.2.2.1).bind fun (w, v, aa, ab, ac, ad, y) =>
j21 k h y w v n m aa ab ac ad)))
else
j24 k m
def My (a f : Int) (g : LB) (b : Int) : Nat → Int → Int → (List (Int × Int × UInt64 × UInt64 × Unit)) → LU → Bk
| 0, _, _, _, _ => none
| q + 1, k, h, n, m => Ua (Uh (My a f g b q) a f g b) Akt a f g b k h n m
def Alb a f g b := My a f g b Au
def Ak0 (j16 : Int → Int → LB → Int → Int → Int → (List (Int × Int × UInt64 × UInt64 × Unit)) → LU → Bk) (a f : Int) (g : LB) (b : Int) (o : List (Int × Int × UInt64 × UInt64 × Unit)) : Bk :=
j16 a f g b 0 0 o ([] : LU)
def Ab5 := Ak0 Alb
def Akg (j15 : Int → Int → LB → Int → (List (Int × Int × UInt64 × UInt64 × Unit)) → Bk) (bk13 : Int → (List (Int × Int × UInt64 × UInt64 × Unit)) → Bk) (a f : Int) (g : LB) (b u : Int) (o : List (Int × Int × UInt64 × UInt64 × Unit)) : Bk :=
if (By u 6) then
(Bbd).bind fun (al, ae, af, am) =>
(Ak o u).bind fun _ =>
(Tp o u (al, ae, af, am, ())).bind fun an =>
bk13 (Ae u 1) an
else
j15 a f g b o
def Abr (a f : Int) (g : LB) (b : Int) : Nat → Int → (List (Int × Int × UInt64 × UInt64 × Unit)) → Bk
| 0, _, _ => none
| q + 1, u, o => Akg Ab5 (Abr a f g b q) a f g b u o
def Uf a f g b := Abr a f g b Au
def Ads (j13 : Int → Int → LB → Int → Int → (List (Int × Int × UInt64 × UInt64 × Unit)) → Bk) (a f : Int) (g : LB) (b : Int) : Bk :=
j13 a f g b 0 (List.replicate 6 ((0 : Int), (0 : Int), (0 : UInt64), (0 : UInt64), ()))
def Ad8 := Ads Uf
abbrev Aun := Option (Int × LX × LX × Int)
def Bio (a : Int) (b : LX) (f : Bool) : Aun :=
if f then
some (10, b, (List.replicate 16 (0 : Int32)), 0)
else
if (geq a 16) then
some (9, b, (List.replicate 16 (0 : Int32)), 0)
else
some (0, (List.replicate 16 (0 : Int32)), (List.replicate 16 (0 : Int32)), 2)
def Ax2 := Bio
def Axk (j2 : Int → LX → Bool → Aun) (a : Int) (b : LX) : Aun :=
if (geq a 8) then
j2 a b (geq a 8)
else
j2 a b (geq a 24)
def Au5 := Axk Ax2
def Bdv (a : Int) (f : LX) : Option (Int × Int32 × Int × LX × LX × Int) :=
(Au5 a f).bind fun (g, h, k, b) =>
if (Bn b 0) then
some (0, 0, 0, (List.replicate 16 (0 : Int32)), (List.replicate 16 (0 : Int32)), b)
else
some (a, 0, g, h, k, 0)
def Zo (a : UInt32) : Option Int32 :=
some (Abg (Ad (Ci a (GI.toZ (1 : UInt64)).toNat) : Int32) (Av1 (Ad (Hr a 1) : Int32)))
def Ahy (a : Int) (k : Int32) (b : Int) (f m : LX) : Option Int :=
(Au5 a f).bind fun (g, n, o, h) =>
if ((Bn h 0) || (Bn g b)) then
some 8
else
some 0
def Ar3 (a : Int) : Option (Int × Int) :=
if (geq a 8) then
some (4, 0)
else
if (geq a 16) then
if (geq a 16) then
some (5, 0)
else
some (0, 2)
else
if (geq a 24) then
some (5, 0)
else
some (0, 2)
def Al7 (a : Int) (b : Int32) : Option Int32 :=
(Vf (Qq a 0)).bind fun _ =>
(Vf (Qq a 0)).bind fun _ =>
some (Ad (Aym (Al (Eh (Ad b : Int) (GI.toZ a).toNat) (Ad b : Int)) (GI.toZ a).toNat) : Int32)
def Ahb (b : Int) (f : Int32) : Option (Int32 × Int) :=
(Ar3 b).bind fun (g, a) =>
if (Bn a 0) then
some (0, a)
else
(Al7 g f).bind fun h =>
some (h, 0)
def Agk (a : Int) (b f : LX) : Option Int :=
if ((Bn a 9) && (Bn a 10)) then
some 8
else
some 0
abbrev Um := Option (Int32 × Int)
def Atp (g : Int32) (a : Int) (b f : LX) : Um :=
(Vf (Qq a 0)).bind fun _ =>
some ((Ci g (GI.toZ a).toNat), 0)
def Ana := Atp
def Agz (j6 : Int32 → Int → LX → LX → Um) (bk4 : Int32 → Int → Um) (b : LX) (a : Int) (f : LX) (g : Int32) (h : Int) : Um :=
if (By h 16) then
(Ak b h).bind fun m =>
(Ak f h).bind fun _ =>
(Ak f h).bind fun n =>
bk4 (Ae g (Bq m n)) (Ae h 1)
else
j6 g a b f
def Vj (b : LX) (a : Int) (f : LX) : Nat → Int32 → Int → Um
| 0, _, _ => none
| q + 1, g, h => Agz Ana (Vj b a f q) b a f g h
def Am3 b a f := Vj b a f Au
def Am4 (j4 : LX → Int → LX → Int32 → Int → Um) (a : Int) (b f : LX) : Um :=
(Agk a b f).bind fun k =>
if (Bn k 0) then
some (0, k)
else
(Vf (Qq (Al a 1) 0)).bind fun _ =>
j4 b a f (Eh (1 : Int32) (GI.toZ (Al a 1)).toNat) 0
def Ap4 := Am4 Am3
def Aol (a : Int) : Option Int32 :=
if (geq a 0) then
some 4
else
if (By a 4) then
some 2
else
some 1
abbrev Uy := Option (Int × LX × LX × Int)
def Bc0 (g : Int) (b f : LX) : Uy :=
some (g, b, f, 0)
def At0 := Bc0
def Agq (j6 : Int → LX → LX → Uy) (bk4 : Int → LX → Uy) (h : Int32) (f : LX) (g a : Int) (b : LX) : Uy :=
if (By a 16) then
(Ak f a).bind fun m =>
if (geq m 0) then
bk4 (Ae a 1) b
else
if ((By m 0) == (By h 0)) then
(Ak b a).bind fun _ =>
(Ak b a).bind fun o =>
(Aol a).bind fun p =>
(Ak b a).bind fun _ =>
(Tp b a (Ae o p)).bind fun u =>
bk4 (Ae a 1) u
else
(Ak b a).bind fun _ =>
(Ak b a).bind fun v =>
(Aol a).bind fun w =>
(Ak b a).bind fun _ =>
(Tp b a (Al v w)).bind fun y =>
bk4 (Ae a 1) y
else
j6 g b f
def Vl (h : Int32) (f : LX) (g : Int) : Nat → Int → LX → Uy
| 0, _, _ => none
| q + 1, a, b => Agq At0 (Vl h f g q) h f g a b
def Ato h f g := Vl h f g Au
def Amx (j4 : Int32 → LX → Int → Int → LX → Uy) (g : Int) (k f : LX) (h : Int32) : Uy :=
(Agk g k f).bind fun n =>
if (Bn n 0) then
some (0, (List.replicate 16 (0 : Int32)), (List.replicate 16 (0 : Int32)), n)
else
if (geq h 0) then
some (g, k, f, 0)
else
j4 h f g 0 k
def Aoy := Amx Ato
abbrev Ar6 := Option (Int × LX × LX × Int)
def Avg (g : Int32) (b : Int) (f a : LX) : Ar6 :=
(Ak (Wl a 1 ((16 : Int) - (1 : Int)) (Anz a 0 ((16 : Int) - (0 : Int)))) 0).bind fun _ =>
(Tp (Wl a 1 ((16 : Int) - (1 : Int)) (Anz a 0 ((16 : Int) - (0 : Int)))) 0 g).bind fun k =>
some (b, f, k, 0)
def Ao5 := Avg
def Ajg (j2 : Int32 → Int → LX → LX → Ar6) (b : Int) (f a : LX) (g : Int32) : Ar6 :=
(Agk b f a).bind fun h =>
if (Bn h 0) then
some (0, (List.replicate 16 (0 : Int32)), (List.replicate 16 (0 : Int32)), h)
else
(
(vwI 16 1 16).bind fun _ =>
(vwI 16 0 16).bind fun _ =>
j2 g b f a)
def As1 := Ajg Ao5
def Auz (a : Int) (b f : LX) (g h : Int32) : Option (Int × LX × LX) :=
(Aoy a b f h).bind fun (k, m, n, v) =>
(As1 k m n g).bind fun (o, p, u, w) =>
some (o, p, u)
def Asn (b : Int) (f g : LX) (a : Int32) : Option (Int32 × Int × LX × LX × Int) :=
(Ap4 b f g).bind fun (h, k) =>
if (Bn k 0) then
some (0, 0, (List.replicate 16 (0 : Int32)), (List.replicate 16 (0 : Int32)), k)
else
(Auz b f g (Ae a h) a).bind fun (m, n, o) =>
some ((Ae a h), m, n, o, 0)
def Lc (a : Int) (b : Int32) (f : Int) (g h : LX) (o : Int32) : Option (Int32 × Int × Int32 × Int × LX × LX × Int) :=
(Ahy a b f g h).bind fun k =>
if (Bn k 0) then
some (0, 0, 0, 0, (List.replicate 16 (0 : Int32)), (List.replicate 16 (0 : Int32)), k)
else
(Ahb a b).bind fun (m, y) =>
(Asn f g h o).bind fun (n, p, u, v, w) =>
(
some ((Ae n m), a, (Ae n m), p, u, v, w))
def As9 (a : Int) (b : LX) : Option Int :=
if ((By a 1) || (Du a 6)) then
some 2
else
if (Du (Ac b) 4000) then
some 4
else
(Vf (Bn a 0)).bind fun _ =>
if (Bn (Ig (Ac b) a) 0) then
some 2
else
some 0
def Gq (a : LX) : Option (LX) :=
(
(Cv ([] : LX) a).bind fun b =>
some b)
abbrev Fw := Option (LX × Int)
def Bf9 (f : LX) : Fw :=
some (f, 0)
def Au2 := Bf9
def Ave (bk12 : Int → LX → Fw) (b a : Int) (h : LX) : Fw :=
bk12 (Ae a b) h
def Apn bk12 := Ave bk12
def Ajs (j20 : Int → LX → Fw) (bk18 : Int → LX → Fw) (b a g : Int) (h : LX) : Fw :=
if (Qq g 0) then
(Vf (decide (0 ≤ (Ae g 1) ∧ (Ae g 1) < ((Ae a b) - a)))).bind fun _ =>
(Vf (decide (0 ≤ g ∧ g < ((Ae a b) - a)))).bind fun _ =>
(Ak h (a + (Ae g 1))).bind fun o =>
(Ak h (a + g)).bind fun p =>
(Vf (decide (0 ≤ g ∧ g < ((Ae a b) - a)))).bind fun _ =>
(Tp h (a + g) (Al o p)).bind fun u =>
bk18 (Al g 1) u
else
j20 a h
def Zu (bk12 : Int → LX → Fw) (b a : Int) : Nat → Int → LX → Fw
| 0, _, _ => none
| q + 1, g, h => Ajs (Apn bk12 b) (Zu bk12 b a q) b a g h
def Apv bk12 b a := Zu bk12 b a Au
def Ap2 (j18 : Int → Int → LX → Fw) (b a : Int) (k : LX) : Fw :=
j18 a (Al (Al ((Ae a b) - a) 1) 1) k
def Ajf bk12 b := Ap2 (Apv bk12 b) b
def Ao7 (j17 : Int → LX → Fw) (j22 : LX → Fw) (b a : Int) (f : LX) : Fw :=
if (By a (Ac f)) then
(vwI (Ac f) a (Ae a b)).bind fun _ =>
if (Du (Al ((Ae a b) - a) 1) 0) then
(Vf (decide (0 ≤ (Al ((Ae a b) - a) 1) ∧ (Al ((Ae a b) - a) 1) < ((Ae a b) - a)))).bind fun _ =>
Option.bind (Vf (decide (0 ≤ (Al (Al ((Ae a b) - a) 1) 1) ∧ (Al (Al ((Ae a b) - a) 1) 1) < ((Ae a b) - a)))) fun _ =>
(Ak f (a + (Al ((Ae a b) - a) 1))).bind fun v =>
(Ak f (a + (Al (Al ((Ae a b) - a) 1) 1))).bind fun w =>
(Vf (decide (0 ≤ (Al ((Ae a b) - a) 1) ∧ (Al ((Ae a b) - a) 1) < ((Ae a b) - a)))).bind fun _ =>
(Tp f (a + (Al ((Ae a b) - a) 1)) (Ae v (Cn w 2))).bind fun y =>
j17 a y
else
j17 a f
else
j22 f
def Tu (b : Int) : Nat → Int → LX → Fw
| 0, _, _ => none
| q + 1, a, f => Ao7 (Ajf (Tu b q) b) Au2 b a f
def Apj b := Tu b Au
def Ars (j12 : Int → Int → LX → Fw) (b : Int) (m : LX) : Fw :=
(As9 b m).bind fun n =>
if (Bn n 0) then
some (([] : LX), n)
else
(Gq m).bind fun aa =>
j12 b 0 aa
def Avd := Ars Apj
def Bbx : Option Int :=
some 0
def Aqx := Bbx
def Aew (j6 : Option Int) (bk4 : Int → Option Int) (b f : Int32) (a : LX) (g : Int) : Option Int :=
if (By g (Ac a)) then
(Ak a g).bind fun h =>
if ((By h b) || (Du h f)) then
some 16
else
bk4 (Ae g 1)
else
j6
def To (b f : Int32) (a : LX) : Nat → Int → Option Int
| 0, _ => none
| q + 1, g => Aew Aqx (To b f a q) b f a g
def Aqw b f a := To b f a Au
def Aj3 (j4 : Int32 → Int32 → LX → Int → Option Int) (m : Int) (a : LX) : Option Int :=
(Ag4 m).bind fun (b, f, k) =>
if (Bn k 0) then
some k
else
if (Du (Ac a) 4000) then
some 4
else
j4 b f a 0
def Ahk := Aj3 Aqw
abbrev Br := Option (LX × Int)
def Ajd (a b : Int) (k : LX) : Br :=
(Avd a k).bind fun (ah, af) =>
if (Bn af 0) then
some (([] : LX), af)
else
(Ahk b ah).bind fun ae =>
if (Bn ae 0) then
some (([] : LX), ae)
else
some (ah, 0)
def Lo := Ajd
def Aiy (bk13 : Int → (List (Int × Int32 × (Int × LX × LX × Unit) × Unit)) → LX → Br) (a : Int) (f : LU) (b g : Int) (w : Int32) (u : Int) (h : List (Int × Int32 × (Int × LX × LX × Unit) × Unit)) (k : LX) (y : Int) (v : Int32) (aa : Int) (ab ac : LX) : Br :=
if (Bn u 0) then
some (([] : LX), u)
else
(Tp h (Ig g a) (y, v, (aa, ab, ac, ()), ())).bind fun ai =>
(Cv k ([w] : LX)).bind fun aj =>
bk13 (Ae g 1) ai aj
def Aan bk13 := Aiy bk13
def Li (j16 : Int → Int32 → Int → (List (Int × Int32 × (Int × LX × LX × Unit) × Unit)) → LX → Int → Int32 → Int → LX → LX → Br) (j18 : Int → Int → LX → Br) (f : LU) (a b g : Int) (h : List (Int × Int32 × (Int × LX × LX × Unit) × Unit)) (k : LX) : Br :=
if (By g (Ac f)) then
(Ak f g).bind fun ag =>
(Vf (Bn a 0)).bind fun _ =>
(Ak h (Ig g a)).bind fun _ =>
(
(Ak h (Ig g a)).bind fun m =>
(
(Zo ag).bind fun ae =>
(
(Lc m.1 m.2.1 m.2.2.1.1 m.2.2.1.2.1 m.2.2.1.2.2.1 ae).bind fun (w, y, v, aa, ab, ac, u) =>
j16 g w u h k y v aa ab ac)))
else
j18 a b k
def Is (f : LU) (a b : Int) : Nat → Int → (List (Int × Int32 × (Int × LX × LX × Unit) × Unit)) → LX → Br
| 0, _, _, _ => none
| q + 1, g, h, k => Li (Aan (Is f a b q) a f b) Lo f a b g h k
def Ajb f a b := Is f a b Au
def Ai4 (j13 : LU → Int → Int → Int → (List (Int × Int32 × (Int × LX × LX × Unit) × Unit)) → LX → Br) (f : LU) (a b : Int) (n : List (Int × Int32 × (Int × LX × LX × Unit) × Unit)) : Br :=
j13 f a b 0 n ([] : LX)
def Aao := Ai4 Ajb
def Ai7 (j12 : LU → Int → Int → (List (Int × Int32 × (Int × LX × LX × Unit) × Unit)) → Br) (bk10 : Int → (List (Int × Int32 × (Int × LX × LX × Unit) × Unit)) → Br) (f : LU) (a b : Int) (o : LX) (p : Int) (n : List (Int × Int32 × (Int × LX × LX × Unit) × Unit)) : Br :=
if (By p 6) then
(Bdv b o).bind fun (ak, af, ae, al, am, v) =>
(Ak n p).bind fun _ =>
(Tp n p (ak, af, (ae, al, am, ()), ())).bind fun an =>
bk10 (Ae p 1) an
else
j12 f a b n
def Aax (f : LU) (a b : Int) (o : LX) : Nat → Int → (List (Int × Int32 × (Int × LX × LX × Unit) × Unit)) → Br
| 0, _, _ => none
| q + 1, p, n => Ai7 Aao (Aax f a b o q) f a b o p n
def Rb f a b o := Aax f a b o Au
def Ab7 (j10 : LU → Int → Int → LX → Int → (List (Int × Int32 × (Int × LX × LX × Unit) × Unit)) → Br) (a b : Int) (o : LX) (f : LU) : Br :=
j10 f a b o 0 (List.replicate 6 ((0 : Int), (0 : Int32), ((0 : Int), (List.replicate 16 (0 : Int32)), (List.replicate 16 (0 : Int32)), ()), ()))
def Ve := Ab7 Rb
def Ys (a h : Int) (u : LX) (f : Int) (v : LB) : Option (LX × Int) :=
(Agy a h).bind fun k =>
if (Bn k 0) then
some (([] : LX), k)
else
if (By f 1) then
some (([] : LX), 2)
else
(Vf (Bn a 0)).bind fun _ =>
if (Du f (Cn 4000 a)) then
some (([] : LX), 2)
else
(Aeg v).bind fun (w, m) =>
if (Bn m 0) then
some (([] : LX), m)
else
(Bfu w).bind fun (n, b, o) =>
if (Bn o 0) then
some (([] : LX), o)
else
(Ad8 a f n b).bind fun (y, g, p) =>
if (Bn p 0) then
some (([] : LX), p)
else
if (Qq (Al b g) 8) then
some (([] : LX), 12)
else
(Adt n b g (Al b g)).bind fun (aa, ab) =>
if ((Bn ab 0) || (Bn aa 0)) then
some (([] : LX), 12)
else
(Ve a h u y).bind fun (ac, ad) =>
some (ac, ad)
abbrev Cm := Option (LB × Int)
def Ayh (g : LB) : Cm :=
some (g, 0)
def Aqh := Ayh
def Aqb (bk16 : Int → LB → Cm) (b : Int) (a : LX) (f : Int) (h : LB) : Cm :=
bk16 (Ae f 1) h
def Ait bk16 := Aqb bk16
def Abh (j28 : Int → LB → Cm) (bk26 : Int → LB → Cm) (b : Int) (a : LX) (k : Int32) (f m : Int) (h : LB) : Cm :=
if (By m (Cn b 8)) then
(Vf (Qq (Bq 8 m) 0)).bind fun _ =>
(Cv h ([(Ad (Ci k (GI.toZ (Bq 8 m)).toNat) : UInt8)] : LB)).bind fun p =>
bk26 (Ae m 1) p
else
j28 f h
def Ix (bk16 : Int → LB → Cm) (b : Int) (a : LX) (k : Int32) (f : Int) : Nat → Int → LB → Cm
| 0, _, _ => none
| q + 1, m, h => Abh (Ait bk16 b a) (Ix bk16 b a k f q) b a k f m h
def Ais bk16 b a k f := Ix bk16 b a k f Au
def Aib (j26 : Int32 → Int → Int → LB → Cm) (b : Int) (a : LX) (f : Int) (g : LB) (k : Int32) : Cm :=
j26 k f 0 g
def Lb bk16 b a := Aib (Ais bk16 b a) b a
def Abl (j25 : Int → LB → Int32 → Cm) (j30 : LB → Cm) (b : Int) (a : LX) (f : Int) (g : LB) : Cm :=
if (By f (Ac a)) then
(Ak a f).bind fun n =>
if (geq b 8) then
j25 f g (Ae n 128)
else
j25 f g n
else
j30 g
def Ff (b : Int) (a : LX) : Nat → Int → LB → Cm
| 0, _, _ => none
| q + 1, f, g => Abl (Lb (Ff b a q) b a) Aqh b a f g
def Aqm b a := Ff b a Au
def Akw (j16 : Int → LX → Int → LB → Cm) (b : Int) (a : LX) : Cm :=
(Ahk b a).bind fun o =>
if (Bn o 0) then
some (([] : LB), o)
else
j16 b a 0 ([] : LB)
def Zm := Akw Aqm
def Abb : Option Int :=
some (-1 : Int)
def Mj := Abb
def Dg (j6 : Option Int) (bk4 : Int → Option Int) (a : LI) (b f : Int) : Option Int :=
if (By f (Ac a)) then
(Ak a f).bind fun g =>
if (geq b g) then
some f
else
bk4 (Ae f 1)
else
j6
def Bi (a : LI) (b : Int) : Nat → Int → Option Int
| 0, _ => none
| q + 1, f => Dg Mj (Bi a b q) a b f
def Gw a b := Bi a b Au
def Gs (j4 : LI → Int → Int → Option Int) (a : LI) (b : Int) : Option Int :=
j4 a b 0
def Hv := Gs Gw
def Gt (a : LI) (b : Int) : Option Bool :=
(Hv a b).bind fun f =>
some (Qq f 0)
def Qr (a : Int) : Option Bool :=
(Gt ([(4 : Int), (12 : Int), (16 : Int), (22 : Int), (24 : Int), (26 : Int), (38 : Int)] : LI) a).bind fun b =>
some b
def Alu (bi : Bool) : Option Int :=
if (!bi) then
some 8
else
some 0
def Bd := Alu
def Ad2 (j22 : Bool → Option Int) : Option Int :=
j22 ((true == true) && ((geq (0 : Int) (0 : Int)) && true))
def Xg := Ad2 Bd
def Aev (j22 : Bool → Option Int) (bj : Bool) (bk : Int) : Option Int :=
j22 ((bj == true) && ((geq bk 0) && true))
def Df := Aev Bd
def Adc (j13 : Bool → Int → Option Int) (g ak : LB) (ae af aa ag ab b : Int) (m : Bool) (n : Int) (f : LI) (h : LB) : Option Int :=
(Mv ae af aa ag ab g).bind fun dm =>
(Ag dm).bind fun (dn, am) =>
j13 dn am
def Xf := Adc Df
def Adg (j22 : Bool → Option Int) (bl : Bool) (bm : Int) : Option Int :=
j22 ((bl == true) && ((geq bm 0) && true))
def Ii := Adg Bd
def Ac8 (j25 : Bool → Int → Option Int) (g a : LB) (k p o u v b : Int) (m : Bool) (n : Int) (f : LI) (h : LB) (bg : Int) : Option Int :=
(Cx k p o u v).bind fun (dp, bh) =>
if (Bn bh 0) then
(Ag bh).bind fun (an, bn) =>
j25 an bn
else
(Bc a bg (Ac a)).bind fun dq =>
(Ak8 dq (Ac dp)).bind fun (dr, aa) =>
if (geq aa 24) then
j25 true 0
else
if (Bn aa 0) then
(Ag aa).bind fun (ds, ab) =>
j25 ds ab
else
(Bc a (Ae (Ae bg (Bq 4 (Ac dr))) 4) (Ac a)).bind fun fc =>
j25 false 0
def Ie := Ac8 Ii
def Aeb (j25 : Bool → Int → Option Int) (j24 : LB → LB → Int → Int → Int → Int → Int → Int → Bool → Int → LI → LB → Int → Option Int) (bd : Bool) (bc : Int) (g a : LB) (k p o u v b : Int) (m : Bool) (n : Int) (f : LI) (h : LB) : Option Int :=
if (Bn bc 0) then
(Ag bc).bind fun (dt, bh) =>
j25 dt bh
else
if (!bd) then
(Ag 26).bind fun (an, bn) =>
j25 an bn
else
j24 g a k p o u v b m n f h 8
def Adj := Aeb Ii Ie
def Adm (j15 : Bool → Int → LB → LB → Int → Int → Int → Int → Int → Int → Bool → Int → LI → LB → Option Int) (g a : LB) (k p o u v b : Int) (m : Bool) (n : Int) (f : LI) (h : LB) : Option Int :=
(Bc a 0 8).bind fun du =>
(Adx du g).bind fun (bd, bc) =>
j15 bd bc g a k p o u v b m n f h
def Xw := Adm Adj
def Ady (j22 : Bool → Option Int) (bp : Bool) (bq : Int) : Option Int :=
j22 ((bp == true) && ((geq bq 0) && true))
def Fz := Ady Bd
def Xj (j28 : Bool → Int → Option Int) (w ah : Int) (g a : LB) (k p o u v b : Int) (m : Bool) (n : Int) (ao : LX) (f : LI) (h : LB) : Option Int :=
if (Bn ah 0) then
(Ag ah).bind fun (br, bs) =>
j28 br bs
else
(Zm o ao).bind fun (bt, be) =>
if (Bn be 0) then
(Ag be).bind fun (bu, bv) =>
j28 bu bv
else
(Cv h bt).bind fun dv =>
(
(Bc a w (Ac a)).bind fun dw =>
j28 false 0)
def Ac7 := Xj Fz
def Adk (j27 : Int → Int → LB → LB → Int → Int → Int → Int → Int → Int → Bool → Int → LX → LI → LB → Option Int) (w : Int) (g a : LB) (k p o u v b : Int) (m : Bool) (n : Int) (ap : LX) (ad f : LI) (h : LB) : Option Int :=
(Ak ad b).bind fun _ =>
(Bc a 0 w).bind fun dx =>
(Ak ad b).bind fun dy =>
(Aa9 k p o u v).bind fun (dz, bf) =>
(Ys dz bf ap dy dx).bind fun (ao, ah) =>
j27 w ah g a k p o u v b m n ao f h
def Xn := Adk Ac7
def Aae (j13 : Bool → Int → Option Int) (j12 : LB → LB → Int → Int → Int → Int → Int → Int → Bool → Int → LI → LB → Option Int) (j25 : Bool → Int → Option Int) (j23 : LB → LB → Int → Int → Int → Int → Int → Int → Bool → Int → LI → LB → Option Int) (j24 : LB → LB → Int → Int → Int → Int → Int → Int → Bool → Int → LI → LB → Int → Option Int) (j28 : Bool → Int → Option Int) (j26 : Int → LB → LB → Int → Int → Int → Int → Int → Int → Bool → Int → LX → LI → LI → LB → Option Int) (j22 : Bool → Option Int) (j21 : Option Int) (aq ar : LB) (au av aw ax ay : Int) (az : LI) (ai : Int) (aj : LB) (ac : Bool) (y : Int) : Option Int :=
if (Du (Ac aq) 64) then
some 8
else
if ((geq y 0) && (!ac)) then
(Cw aq ar au av aw ax ay az ai aj ac y).bind fun (g, a, k, p, o, u, v, f, b, h, m, n) =>
(Zx aq ar au av aw ax ay az ai aj ac y).bind fun bw =>
if bw then
if (geq k 0) then
(Kc a).bind fun (al, ba) =>
if (geq ba 24) then
j13 true 0
else
if (Bn ba 0) then
(Ag ba).bind fun (bx, bz) =>
j13 bx bz
else
(Bc a al (Ac a)).bind fun da =>
(Py da).bind fun an =>
if an then
j13 true 0
else
(Bc a al (Ac a)).bind fun db =>
(Pm db).bind fun (ae, af, aa, ag, ab, bb) =>
if (geq bb 24) then
j13 true 0
else
if (Bn bb 0) then
(Ag bb).bind fun (dc, dd) =>
j13 dc dd
else
(
(Bc a (Ae al 22) (Ac a)).bind fun ak =>
(
j12 g ak ae af aa ag ab b m n f h))
else
if (geq (Ac f) 0) then
if (geq k 2) then
if (By (Ac a) 8) then
j25 true 0
else
j23 g a k p o u v b m n f h
else
j24 g a k p o u v b m n f h 0
else
if (By b (Ac f)) then
(Ak f b).bind fun _ =>
(Ak f b).bind fun w =>
if (By (Ac a) w) then
j28 true 0
else
(Ack g).bind fun (ap, am) =>
if (Bn am 0) then
(Ag am).bind fun (de, df) =>
j28 de df
else
(Cx k p o u v).bind fun (ad, dg) =>
if ((Bn dg 0) || (Qq b (Ac ad))) then
(Ag 8).bind fun (dh, di) =>
j28 dh di
else
j26 w g a k p o u v b m n ap ad f h
else
if (Du (Ac a) 4000) then
(Ag 38).bind fun (dj, bf) =>
j22 ((dj == true) && ((geq bf 0) && true))
else
j21
else
j22 false
else
if ((geq (Ac ar) 0) && (geq (Ac az) 0)) then
if ((((geq au 0) && ((geq av 0) && ((geq aw 0) && ((geq ax 0) && ((geq ay 0) && true))))) && (geq ai 0)) && (gle (Ac aj) 12000)) then
if (geq y 0) then
j22 true
else
if (!ac) then
(Qr y).bind fun dk =>
j22 dk
else
j22 false
else
j22 false
else
if ((false && (geq ai 0)) && (gle (Ac aj) 12000)) then
if (geq y 0) then
j22 true
else
if (!ac) then
(Qr y).bind fun dl =>
j22 dl
else
j22 false
else
j22 false
def Vm := Aae Df Xf Ii Xw Ie Fz Xn Bd Xg
def Qk (f g : LB) (h k m n o : Int) (p : LI) (u : Int) (v : LB) (b : Bool) (a : Int) : Option (LB × LB × Int × Int × Int × Int × Int × LI × Int × LB × Bool × Int × Int) :=
(Vm f g h k m n o p u v b a).bind fun w =>
if (Bn w 0) then
some (([] : LB), ([] : LB), 0, 0, 0, 0, 0, ([] : LI), 0, ([] : LB), false, 0, w)
else
if (Bn a 0) then
(
(
(Cw f g h k m n o p u v b a).bind fun (y, aa, ab, ac, ad, ae, af, ag, ah, ai, aj, ak) =>
(
some (y, aa, ab, ac, ad, ae, af, ag, ah, ai, aj, ak, a))))
else
if b then
(Cw f g h k m n o p u v b a).bind fun (al, am, an, ao, ap, aq, ar, au, av, aw, ax, ay) =>
some (al, am, an, ao, ap, aq, ar, au, av, aw, ax, ay, 36)
else
(Cw f g h k m n o p u v b a).bind fun (az, ba, bb, bc, bd, be, bf, bg, bh, bi, bj, bk) =>
some (az, ba, bb, bc, bd, be, bf, bg, bh, bi, bj, bk, 0)
def Apu (b g : LB) (h k m n o : Int) (p : LI) (u : Int) (f : LB) (v : Bool) (w a : Int) : Option (LB × LB × Int × Int × Int × Int × Int × LI × Int × LB × Bool × Int × Int) :=
some (b, ([] : LB), 0, 0, 0, 0, 0, ([] : LI), 0, f, false, a, a)
abbrev pushdec_Feed_O := Option (LB × LB × Int × Int × Int × Int × Int × LI × Int × LB × Bool × Int × Int)
def Af5 (bk37 : LB → Int → Int → Int → Int → Int → Int → LI → LB → pushdec_Feed_O) (a : LB) (b : Bool) (f : Int) (ar : LB) (au av aw ax ay az : Int) (bh : Bool) (be : Int) (ba : LI) (bb : LB) : pushdec_Feed_O :=
if bh then
(Cw a ar au av aw ax ay ba az bb b f).bind fun (fh, fi, fj, bc, bi, ai, fk, fl, fm, fn, fo, aj) =>
some (fh, fi, fj, bc, bi, ai, fk, fl, fm, fn, fo, aj, 0)
else
if (Bn be 0) then
(Apu a ar au av aw ax ay ba az bb b f be).bind fun (fp, fq, fs, ft, fu, fv, fw, fx, fy, fz, ga, gb, gc) =>
some (fp, fq, fs, ft, fu, fv, fw, fx, fy, fz, ga, gb, gc)
else
bk37 ar au av aw ax ay az ba bb
def Bl bk37 := Af5 bk37
def Anl (j71 : LB → Int → Int → Int → Int → Int → Int → Bool → Int → LI → LB → pushdec_Feed_O) (a : LB) (b : Bool) (f : Int) (g : LB) (m p o u v h : Int) (k : LI) (n : LB) : pushdec_Feed_O :=
j71 g m p o u v h true 0 k n
def Aac bk37 a b f := Anl (Bl bk37 a b f) a b f
def An7 (j71 : LB → Int → Int → Int → Int → Int → Int → Bool → Int → LI → LB → pushdec_Feed_O) (a : LB) (b : Bool) (f h : Int) (k : LI) (n : LB) (bj : Bool) (bk : Int) (bl : LB) (bm bn bp bq br : Int) : pushdec_Feed_O :=
j71 bl bm bn bp bq br h bj bk k n
def Mn bk37 a b f := An7 (Bl bk37 a b f) a b f
def Af1 (j62 : Int → LI → LB → Bool → Int → LB → Int → Int → Int → Int → Int → pushdec_Feed_O) (a : LB) (b : Bool) (f : Int) (af : LB) (ab ac y ad aa h : Int) (k : LI) (n : LB) : pushdec_Feed_O :=
(Mv ab ac y ad aa a).bind fun gd =>
(Ag gd).bind fun (ge, ak) =>
j62 h k n ge ak af ab ac y ad aa
def Ti bk37 a b f := Af1 (Mn bk37 a b f) a b f
def Anh (j71 : LB → Int → Int → Int → Int → Int → Int → Bool → Int → LI → LB → pushdec_Feed_O) (a : LB) (b : Bool) (f m p o u v h : Int) (n : LB) (bs : Bool) (bt : Int) (bu : LB) (bv : LI) : pushdec_Feed_O :=
j71 bu m p o u v h bs bt bv n
def Js bk37 a b f := Anh (Bl bk37 a b f) a b f
def Afv (j75 : Int → Int → Int → Int → Int → Int → LB → Bool → Int → LB → LI → pushdec_Feed_O) (a : LB) (b : Bool) (f : Int) (g : LB) (m p o u v h : Int) (k : LI) (n : LB) (bf : Int) : pushdec_Feed_O :=
(Cx m p o u v).bind fun (gf, bg) =>
if (Bn bg 0) then
(Ag bg).bind fun (al, bw) =>
j75 m p o u v h n al bw g k
else
(Bc g bf (Ac g)).bind fun gg =>
(Ak8 gg (Ac gf)).bind fun (dw, y) =>
if (geq y 24) then
j75 m p o u v h n true 0 g k
else
if (Bn y 0) then
(Ag y).bind fun (gh, aa) =>
j75 m p o u v h n gh aa g k
else
(Bc g (Ae (Ae bf (Bq 4 (Ac dw))) 4) (Ac g)).bind fun gi =>
j75 m p o u v h n false 0 gi dw
def Jm bk37 a b f := Afv (Js bk37 a b f) a b f
def Agm (j75 : Int → Int → Int → Int → Int → Int → LB → Bool → Int → LB → LI → pushdec_Feed_O) (j74 : LB → Int → Int → Int → Int → Int → Int → LI → LB → Int → pushdec_Feed_O) (a : LB) (b : Bool) (f : Int) (bd : Bool) (aq : Int) (g : LB) (m p o u v h : Int) (k : LI) (n : LB) : pushdec_Feed_O :=
if (Bn aq 0) then
(Ag aq).bind fun (gj, bg) =>
j75 m p o u v h n gj bg g k
else
if (!bd) then
(Ag 26).bind fun (al, bw) =>
j75 m p o u v h n al bw g k
else
j74 g m p o u v h k n 8
def Agc bk37 a b f := Agm (Js bk37 a b f) (Jm bk37 a b f) a b f
def Ago (j64 : Bool → Int → LB → Int → Int → Int → Int → Int → Int → LI → LB → pushdec_Feed_O) (a : LB) (b : Bool) (f : Int) (g : LB) (m p o u v h : Int) (k : LI) (n : LB) : pushdec_Feed_O :=
(Bc g 0 8).bind fun gk =>
(Adx gk a).bind fun (bd, aq) =>
j64 bd aq g m p o u v h k n
def Ta bk37 a b f := Ago (Agc bk37 a b f) a b f
def Ang (j71 : LB → Int → Int → Int → Int → Int → Int → Bool → Int → LI → LB → pushdec_Feed_O) (a : LB) (b : Bool) (f m p o u v : Int) (k : LI) (bx : Bool) (bz : Int) (da : LB) (db : Int) (dc : LB) : pushdec_Feed_O :=
j71 da m p o u v db bx bz k dc
def Mp bk37 a b f := Ang (Bl bk37 a b f) a b f
def Aab (j78 : Int → Int → Int → Int → Int → LI → Bool → Int → LB → Int → LB → pushdec_Feed_O) (a : LB) (b : Bool) (f w ag : Int) (g : LB) (m p o u v h : Int) (am : LX) (k : LI) (n : LB) : pushdec_Feed_O :=
if (Bn ag 0) then
(Ag ag).bind fun (dd, de) =>
j78 m p o u v k dd de g h n
else
(Zm o am).bind fun (df, aj) =>
if (Bn aj 0) then
(Ag aj).bind fun (dg, dh) =>
j78 m p o u v k dg dh g h n
else
(Cv n df).bind fun di =>
(
(Bc g w (Ac g)).bind fun dj =>
j78 m p o u v k false 0 dj (Ae h 1) di)
def Afy bk37 a b f := Aab (Mp bk37 a b f) a b f
def Age (j77 : Int → Int → LB → Int → Int → Int → Int → Int → Int → LX → LI → LB → pushdec_Feed_O) (a : LB) (b : Bool) (f w : Int) (g : LB) (m p o u v h : Int) (an : LX) (ae k : LI) (n : LB) : pushdec_Feed_O :=
(Ak ae h).bind fun _ =>
(Bc g 0 w).bind fun gl =>
(Ak ae h).bind fun gm =>
(Aa9 m p o u v).bind fun (bi, ai) =>
(Ys bi ai an gm gl).bind fun (am, ag) =>
j77 w ag g m p o u v h am k n
def Te bk37 a b f := Age (Afy bk37 a b f) a b f
def Hn (j62 : Int → LI → LB → Bool → Int → LB → Int → Int → Int → Int → Int → pushdec_Feed_O) (j61 : LB → Int → Int → Int → Int → Int → Int → LI → LB → pushdec_Feed_O) (j75 : Int → Int → Int → Int → Int → Int → LB → Bool → Int → LB → LI → pushdec_Feed_O) (j73 : LB → Int → Int → Int → Int → Int → Int → LI → LB → pushdec_Feed_O) (j74 : LB → Int → Int → Int → Int → Int → Int → LI → LB → Int → pushdec_Feed_O) (j78 : Int → Int → Int → Int → Int → LI → Bool → Int → LB → Int → LB → pushdec_Feed_O) (j76 : Int → LB → Int → Int → Int → Int → Int → Int → LX → LI → LI → LB → pushdec_Feed_O) (j71 : LB → Int → Int → Int → Int → Int → Int → Bool → Int → LI → LB → pushdec_Feed_O) (j70 : LB → Int → Int → Int → Int → Int → Int → LI → LB → pushdec_Feed_O) (a : LB) (b : Bool) (f : Int) (g : LB) (m p o u v h : Int) (k : LI) (n : LB) : pushdec_Feed_O :=
if (geq m 0) then
(Kc g).bind fun (ah, ao) =>
if (geq ao 24) then
j62 h k n true 0 g m p o u v
else
if (Bn ao 0) then
(Ag ao).bind fun (dk, dl) =>
j62 h k n dk dl g m p o u v
else
(Bc g ah (Ac g)).bind fun dm =>
(Py dm).bind fun al =>
if al then
j62 h k n true 0 g m p o u v
else
(Bc g ah (Ac g)).bind fun dn =>
(Pm dn).bind fun (ab, ac, y, ad, aa, ap) =>
if (geq ap 24) then
j62 h k n true 0 g m p o u v
else
if (Bn ap 0) then
(Ag ap).bind fun (dp, dq) =>
j62 h k n dp dq g m p o u v
else
(
(Bc g (Ae ah 22) (Ac g)).bind fun af =>
(
j61 af ab ac y ad aa h k n))
else
if (geq (Ac k) 0) then
if (geq m 2) then
if (By (Ac g) 8) then
j75 m p o u v h n true 0 g k
else
j73 g m p o u v h k n
else
j74 g m p o u v h k n 0
else
if (By h (Ac k)) then
(Ak k h).bind fun _ =>
(Ak k h).bind fun w =>
if (By (Ac g) w) then
j78 m p o u v k true 0 g h n
else
(Ack a).bind fun (an, ak) =>
if (Bn ak 0) then
(Ag ak).bind fun (dr, ds) =>
j78 m p o u v k dr ds g h n
else
(Cx m p o u v).bind fun (ae, dt) =>
if ((Bn dt 0) || (Qq h (Ac ae))) then
(Ag 8).bind fun (du, bc) =>
j78 m p o u v k du bc g h n
else
j76 w g m p o u v h an ae k n
else
if (Du (Ac g) 4000) then
(Ag 38).bind fun (dv, ai) =>
j71 g m p o u v h dv ai k n
else
j70 g m p o u v h k n
def Ay (a : LB) (b : Bool) (f : Int) : Nat → LB → Int → Int → Int → Int → Int → Int → LI → LB → pushdec_Feed_O
| 0, _, _, _, _, _, _, _, _, _ => none
| q + 1, g, m, p, o, u, v, h, k, n => Hn (Mn (Ay a b f q) a b f) (Ti (Ay a b f q) a b f) (Js (Ay a b f q) a b f) (Ta (Ay a b f q) a b f) (Jm (Ay a b f q) a b f) (Mp (Ay a b f q) a b f) (Te (Ay a b f q) a b f) (Bl (Ay a b f q) a b f) (Aac (Ay a b f q) a b f) a b f g m p o u v h k n
def Aoc a b f := Ay a b f Au
def Aio (j37 : LB → Bool → Int → LB → Int → Int → Int → Int → Int → Int → LI → LB → pushdec_Feed_O) (gn go : LB) (gp gq gr gs gt : Int) (gu : LI) (gv : Int) (gw : LB) (gx : Bool) (gy : Int) (gz : LB) : pushdec_Feed_O :=
(Qk gn go gp gq gr gs gt gu gv gw gx gy).bind fun (a, dx, dy, dz, fa, fb, fc, fd, fe, ff, b, f, fg) =>
if (Bn fg 0) then
some (a, dx, dy, dz, fa, fb, fc, fd, fe, ff, b, f, fg)
else
(Cv dx gz).bind fun ha =>
j37 a b f ha dy dz fa fb fc fe fd ff
def Ajj := Aio Aoc
abbrev Auu := Option (Int × Int)
def Axy (a : LB) : Auu :=
(Bc a (Al (Ac a) 32) (Ac a)).bind fun g =>
(Aj1 g 0).bind fun (f, y, h) =>
if h then
if (By (Al (Ac a) 32) f) then
some (0, 24)
else
some ((Ae f 32), 0)
else
(Bc a (Al (Ac a) 32) (Ac a)).bind fun k =>
(Aj1 k 2147483648).bind fun (b, m, n) =>
if (!n) then
some (0, 12)
else
if (By (Ac a) (Ae b 64)) then
some (0, 24)
else
(Bc a (Al (Ac a) (Ae b 64)) (Ae (Al (Ac a) (Ae b 64)) 32)).bind fun o =>
(As0 b m 2684354560).bind fun p =>
(Fc o p).bind fun u =>
if (!u) then
some (0, 12)
else
some ((Ae b 64), 0)
def Arj := Axy
def Ar2 (j2 : LB → Auu) (a : LB) : Auu :=
if (By (Al (Ac a) 32) 0) then
some (0, 6)
else
(Bc a (Al (Ac a) 32) (Ac a)).bind fun v =>
(Le v ([(65 : UInt8), (80 : UInt8), (69 : UInt8), (84 : UInt8), (65 : UInt8), (71 : UInt8), (69 : UInt8), (88 : UInt8)] : LB)).bind fun w =>
if (!w) then
some (0, 6)
else
j2 a
def Au7 := Ar2 Arj
abbrev Ev := Option (Int × Int)
def Awn (a : Int) : Ev :=
some (a, 0)
def An5 := Awn
def Ank (bk8 : Int → LB → Ev) (a : Int) (g : LB) : Ev :=
bk8 (Ae a 1) g
def Af2 bk8 := Ank bk8
def Aga (j12 : Int → LB → Ev) (a f : Int) (b : LB) : Ev :=
if (geq f 0) then
some (0, 38)
else
(Bc b 0 (Al (Ac b) f)).bind fun g =>
j12 a g
def Agh bk8 := Aga (Af2 bk8)
def Aip (j11 : Int → Int → LB → Ev) (j14 : Int → Ev) (a : Int) (b : LB) : Ev :=
if (Du (Ac b) 0) then
(Au7 b).bind fun (f, k) =>
j11 a f b
else
j14 a
def Vd : Nat → Int → LB → Ev
| 0, _, _ => none
| q + 1, a, b => Aip (Agh (Vd q)) An5 a b
def Aqi := Vd Au
def Aiq (j8 : Int → LB → Ev) (h : LB) : Ev :=
if (Du (Ac h) 4000) then
some (0, 38)
else
j8 0 h
def Ajh := Aiq Aqi
def Aeq (p a : LB) (g u v w y : Int) (b : LI) (h : Int) (aa : LB) (ab : Bool) (ac : Int) : Option Int :=
if (geq g 0) then
(Kc a).bind fun (k, f) =>
if (Bn f 0) then
some f
else
(Bc a k (Ac a)).bind fun m =>
(Pm m).bind fun (ad, ae, af, ag, ah, n) =>
some n
else
if ((By h (Ac b)) || (geq (Ac b) 0)) then
some 24
else
(Ajh a).bind fun (ai, o) =>
some o
def Aef (aa ab : LB) (ac ad ae af ag : Int) (ah : LI) (ai : Int) (aj : LB) (ak : Bool) (al : Int) : Option (LB × LB × Int × Int × Int × Int × Int × LI × Int × LB × Bool × Int × Int) :=
(Qk aa ab ac ad ae af ag ah ai aj ak al).bind fun (a, f, g, h, k, m, n, o, p, b, u, v, w) =>
if (Bn w 0) then
some (a, f, g, h, k, m, n, o, p, b, u, v, w)
else
(Aeq a f g h k m n o p b u v).bind fun y =>
if (Bn y 0) then
(Apu a f g h k m n o p b u v y).bind fun (am, an, ao, ap, aq, ar, au, av, aw, ax, ay, az, ba) =>
some (am, an, ao, ap, aq, ar, au, av, aw, ax, ay, az, ba)
else
some (a, ([] : LB), 0, 0, 0, 0, 0, ([] : LI), 0, b, true, 0, 0)
abbrev Gx := Option (LB × Int)
def Al0 (g : LB) (h k m n o p : Int) (u : LB) (v : Bool) (w : Int) (y : LB) (aa : LI) : Gx :=
(Aef g y h k m n o aa p u v w).bind fun (bj, ap, bk, bl, ac, ad, ae, bm, af, ab, bn, bp, ar) =>
some (ab, ar)
def Ada := Al0
def Alx (bk7 : LB → Int → LB → Int → Int → Int → Int → Int → Int → LB → Bool → Int → LB → LI → Gx) (a : LI) (b : LB) (ag ah f : Int) (aj : LB) (ac ad ae ak af al : Int) (ai : LB) (am : Bool) (an : Int) (ao : LB) (ab : LI) : Gx :=
if (Bn ag 0) then
some (ai, ag)
else
(Bc b ah (Ac b)).bind fun au =>
bk7 au (Ae f 1) aj ac ad ae ak af al ai am an ao ab
def Ad6 bk7 := Alx bk7
def Af7 (j10 : LB → Int → Int → Int → LB → Int → Int → Int → Int → Int → Int → LB → Bool → Int → LB → LI → Gx) (j12 : LB → Int → Int → Int → Int → Int → Int → LB → Bool → Int → LB → LI → Gx) (a : LI) (b : LB) (f : Int) (g : LB) (h k m n o p : Int) (u : LB) (v : Bool) (w : Int) (y : LB) (aa : LI) : Gx :=
if (By f (Ac a)) then
(Ak a f).bind fun ah =>
(Bc b 0 ah).bind fun ap =>
(Ajj g y h k m n o aa p u v w ap).bind fun (aj, ao, ac, ad, ae, ak, af, ab, al, ai, am, an, ag) =>
j10 b ag ah f aj ac ad ae ak af al ai am an ao ab
else
j12 g h k m n o p u v w y aa
def Tm (a : LI) : Nat → LB → Int → LB → Int → Int → Int → Int → Int → Int → LB → Bool → Int → LB → LI → Gx
| 0, _, _, _, _, _, _, _, _, _, _, _, _, _, _ => none
| q + 1, b, f, g, h, k, m, n, o, p, u, v, w, y, aa => Af7 (Ad6 (Tm a q) a) Ada a b f g h k m n o p u v w y aa
def Aoa a := Tm a Au
def Af4 (j7 : LI → LB → Int → LB → Int → Int → Int → Int → Int → Int → LB → Bool → Int → LB → LI → Gx) (av aw : LB) (a : LI) : Gx :=
(Ahv av).bind fun (ax, ay, az, ba, bb, bc, bd, be, bf, bg, bh, bi, aq) =>
if (Bn aq 0) then
some (([] : LB), aq)
else
j7 a aw 0 ax az ba bb bc bd bf bg bh bi ay be
def Mi := Af4 Aoa
def Agv (f a : LB) (g : UInt64) : Option (LB × Int) :=
(Vn (Ac a) g).bind fun (h, b) =>
if (Bn b 0) then
some (([] : LB), b)
else
(Mi f a h).bind fun (k, m) =>
some (k, m)
def Ai1 (a : UInt64) : Option Bool :=
some (geq (Abv a 2) 1)
def Aav := Ai1
def Aa0 (j6 : UInt64 → Option Bool) (bk4 : UInt64 → Int → Option Bool) (b : Int) (a : UInt64) (f : Int) : Option Bool :=
if (By f (Ig b 64)) then
bk4 (Cn a 2) (Ae f 1)
else
j6 a
def Ll (b : Int) : Nat → UInt64 → Int → Option Bool
| 0, _, _ => none
| q + 1, a, f => Aa0 Aav (Ll b q) b a f
def Aja b := Ll b Au
def Ai2 (j4 : Int → UInt64 → Int → Option Bool) (g : UInt64) (b : Int) : Option Bool :=
j4 b g 0
def Aaa := Ai2 Aja
def Asc (b : LI) : Option (LI) :=
some b
def Ahw := Asc
def Ah5 (bk7 : Int → Int → LI → Option (LI)) (a : Int) (f : UInt64) (h g : Int) (b : LI) (k : Bool) : Option (LI) :=
if k then
(Cv b ([(Al (Ae g 1) h)] : LI)).bind fun m =>
bk7 (Ae g 1) (Ae g 1) m
else
bk7 h (Ae g 1) b
def Ph bk7 := Ah5 bk7
def Rn (j10 : Int → Int → LI → Bool → Option (LI)) (j12 : LI → Option (LI)) (a : Int) (f : UInt64) (h g : Int) (b : LI) : Option (LI) :=
if (By g a) then
if (geq g (Al a 1)) then
j10 h g b true
else
(Aaa f g).bind fun n =>
j10 h g b n
else
j12 b
def Ft (a : Int) (f : UInt64) : Nat → Int → Int → LI → Option (LI)
| 0, _, _, _ => none
| q + 1, h, g, b => Rn (Ph (Ft a f q) a f) Ahw a f h g b
def Aaw a f := Ft a f Au
def Aaj (j7 : Int → UInt64 → Int → Int → LI → Option (LI)) (a : Int) (f : UInt64) : Option (LI) :=
j7 a f 0 0 ([] : LI)
def Rw := Aaj Aaw
def Mk (a : LB) : Option (LB × LB × Int × Int × Int × Int × Int × LI × Int × LB × Bool × Int × Int) :=
if (Du (Ac a) 64) then
some (([] : LB), ([] : LB), 0, 0, 0, 0, 0, ([] : LI), 0, ([] : LB), false, 0, 2)
else
some (a, ([] : LB), 0, 0, 0, 0, 0, ([] : LI), 0, ([] : LB), false, 0, 0)
def Fs (f g b a h : Int) : Option Bool :=
if ((((geq f 1) || (geq f 2)) && (Qq g 1)) && (gle g 6)) then
some ((((((geq b 8) || (geq b 16)) || (geq b 24)) && (Qq a 1)) && (gle a 1048576)) && (Qq h 1))
else
some (((false && (Qq a 1)) && (gle a 1048576)) && (Qq h 1))
def Qg (a : Int) : Option Int :=
some (Ate 1 (Cn (Bq 256 a) 245))
def Nq (a : LI) : Option (LI) :=
some a
def Je := Nq
def Gi (j6 : LI → Option (LI)) (bk4 : Int → LI → Option (LI)) (b f : Int) (a : LI) : Option (LI) :=
if (Du f 0) then
(Qg b).bind fun g =>
(Cv a ([(Hq f g)] : LI)).bind fun h =>
(Qg b).bind fun k =>
bk4 (Al f k) h
else
j6 a
def Da (b : Int) : Nat → Int → LI → Option (LI)
| 0, _, _ => none
| q + 1, f, a => Gi Je (Da b q) b f a
def Wq b := Da b Au
def Xd (j4 : Int → Int → LI → Option (LI)) (b m : Int) : Option (LI) :=
j4 b m ([] : LI)
def Jj := Xd Wq
def Ih (h a k f b : Int) : Option Bool :=
(
(Vf (Bn a 0)).bind fun _ =>
(
if (Du b (Cn 4000 a)) then
some true
else
(Jj f b).bind fun g =>
some (Du (Ac g) 1000)))
def Hf (a b f g h : Int) : Option Int :=
(Fs a b f g h).bind fun k =>
if (!k) then
some 8
else
(Ih a b f g h).bind fun m =>
if m then
some 8
else
some 0
def He (a f g h k : Int) (b : LB) : Option Int :=
if ((b == ([] : LB)) != (geq a 1)) then
some 26
else
some 0
def Aeh (b : Int) : Option Int :=
if (Du b 100000) then
some 8
else
some 0
def Ts := Aeh
def Afn (bk6 : Int → Int → Option Int) (a : LI) (b f : Int) : Option Int :=
(Ak a f).bind fun g =>
bk6 (Ae b g) (Ae f 1)
def Vw bk6 := Afn bk6
def Nm (j8 : Int → Int → Option Int) (j10 : Int → Option Int) (a : LI) (b f : Int) : Option Int :=
if (By f (Ac a)) then
(Ak a f).bind fun h =>
if (By h 5) then
some 8
else
(Ak a f).bind fun k =>
if (Du k 100000) then
some 8
else
j8 b f
else
j10 b
def Gn (a : LI) : Nat → Int → Int → Option Int
| 0, _, _ => none
| q + 1, b, f => Nm (Vw (Gn a q) a) Ts a b f
def Wk a := Gn a Au
def Nk (j6 : LI → Int → Int → Option Int) (a : LI) : Option Int :=
if ((By (Ac a) 1) || (Du (Ac a) 1000)) then
some 8
else
j6 a 0 0
def Er := Nk Wk
def Dl (g h k a b : Int) : Option (LI) :=
(Jj a b).bind fun f =>
some f
def Jo (f a b g h : Int) : Option (Int × Int) :=
some (a, b)
def Aak (a b : Int) : Option Int :=
some (Cn (Bq a b) 8)
def Ahl (k a b f g h : Int) : Option Int :=
(Jo a b f g h).bind fun (p, u) =>
(Aak p u).bind fun v =>
some (Bq k v)
def Yf := Ahl
def Qh (j6 : Int → Int → Int → Int → Int → Int → Option Int) (bk4 : Int → Int → Option Int) (n a b f g h : Int) (m : LI) (k o : Int) : Option Int :=
if (By o n) then
(Ak m o).bind fun _ =>
(Ak m o).bind fun w =>
bk4 (Ae k w) (Ae o 1)
else
j6 k a b f g h
def Hl (n a b f g h : Int) (m : LI) : Nat → Int → Int → Option Int
| 0, _, _ => none
| q + 1, k, o => Qh Yf (Hl n a b f g h m q) n a b f g h m k o
def Ah2 n a b f g h m := Hl n a b f g h m Au
def Zd (j4 : Int → Int → Int → Int → Int → Int → LI → Int → Int → Option Int) (a b f g h n : Int) : Option Int :=
(Dl a b f g h).bind fun m =>
j4 n a b f g h m 0 0
def Pz := Zd Ah2
abbrev Fa := Option (Int × Int)
def Aqn (a : Int) : Fa :=
some (a, 0)
def Afb := Aqn
def Nu (j6 : Int → Fa) (bk4 : Int → Int → Fa) (b : LB) (a f : Int) : Fa :=
if (By f 4) then
(Ak b f).bind fun g =>
if (Qq g 128) then
some (0, 12)
else
(Ak b f).bind fun h =>
bk4 (Ae (Bq 128 a) (Ad h : Int)) (Ae f 1)
else
j6 a
def Gg (b : LB) : Nat → Int → Int → Fa
| 0, _, _ => none
| q + 1, a, f => Nu Afb (Gg b q) b a f
def Vx b := Gg b Au
def Ww (j4 : LB → Int → Int → Fa) (b : LB) : Fa :=
if (Bn (Ac b) 4) then
some (0, 2)
else
j4 b 0 0
def Ux := Ww Vx
abbrev Fy := Option (Int × Int)
def Ahu (a : LB) (g : Int) : Fy :=
if (Du g 4000) then
some (0, 4)
else
if (By (Ac a) g) then
some (0, 24)
else
(Ak a 5).bind fun h =>
if (geq h 16) then
(Bc a (Al g 10) g).bind fun k =>
(Bc a 3 10).bind fun m =>
(Cv ([51, 68, 73] : LB) m).bind fun n =>
if (k != n) then
some (0, 12)
else
some (g, 0)
else
some (g, 0)
def Pa := Ahu
def Yq (j6 : LB → Int → Fy) (a : LB) (b : Int) : Fy :=
(Ak a 5).bind fun o =>
if (geq o 16) then
j6 a (Ae (Ae 10 b) 10)
else
j6 a (Ae 10 b)
def Pu := Yq Pa
def Yo (j5 : LB → Int → Fy) (a : LB) : Fy :=
if (By (Ac a) 10) then
some (0, 24)
else
(Bc a 6 10).bind fun p =>
(Ux p).bind fun (b, f) =>
(Ak a 3).bind fun u =>
if (By u 2) then
if true then
if true then
if (true || (Bn f 0)) then
some (0, 12)
else
j5 a b
else
(Ak a 5).bind fun v =>
if (Bn v 0) then
(Ak a 5).bind fun w =>
if (Bn w 16) then
if (true || (Bn f 0)) then
some (0, 12)
else
j5 a b
else
(Ak a 3).bind fun y =>
if ((Bn y 4) || (Bn f 0)) then
some (0, 12)
else
j5 a b
else
if (false || (Bn f 0)) then
some (0, 12)
else
j5 a b
else
(Ak a 4).bind fun aa =>
if (Bn aa 0) then
if (true || (Bn f 0)) then
some (0, 12)
else
j5 a b
else
(Ak a 5).bind fun ab =>
if (Bn ab 0) then
(Ak a 5).bind fun ac =>
if (Bn ac 16) then
if (true || (Bn f 0)) then
some (0, 12)
else
j5 a b
else
(Ak a 3).bind fun ad =>
if ((Bn ad 4) || (Bn f 0)) then
some (0, 12)
else
j5 a b
else
if (false || (Bn f 0)) then
some (0, 12)
else
j5 a b
else
(Ak a 3).bind fun ae =>
if (Du ae 4) then
if true then
if (true || (Bn f 0)) then
some (0, 12)
else
j5 a b
else
(Ak a 5).bind fun af =>
if (Bn af 0) then
(Ak a 5).bind fun ag =>
if (Bn ag 16) then
if (true || (Bn f 0)) then
some (0, 12)
else
j5 a b
else
(Ak a 3).bind fun ah =>
if ((Bn ah 4) || (Bn f 0)) then
some (0, 12)
else
j5 a b
else
if (false || (Bn f 0)) then
some (0, 12)
else
j5 a b
else
(Ak a 4).bind fun ai =>
if (Bn ai 0) then
if (true || (Bn f 0)) then
some (0, 12)
else
j5 a b
else
(Ak a 5).bind fun aj =>
if (Bn aj 0) then
(Ak a 5).bind fun ak =>
if (Bn ak 16) then
if (true || (Bn f 0)) then
some (0, 12)
else
j5 a b
else
(Ak a 3).bind fun al =>
if ((Bn al 4) || (Bn f 0)) then
some (0, 12)
else
j5 a b
else
if (false || (Bn f 0)) then
some (0, 12)
else
j5 a b
def Xz := Yo Pu
def Yp (j4 : LB → Fy) (a : LB) : Fy :=
if (By (Ac a) 3) then
some (0, 6)
else
(Bc a 0 3).bind fun am =>
if (am != ([73, 68, 51] : LB)) then
some (0, 6)
else
j4 a
def Xx := Yp Xz
def Aka (a : UInt64) : Option UInt64 :=
some a
def Ab2 := Aka
def Ur (j6 : UInt64 → Option UInt64) (bk4 : UInt64 → Int → Option UInt64) (b : LB) (a : UInt64) (f : Int) : Option UInt64 :=
if (Qq f 0) then
(Ak b f).bind fun g =>
bk4 (Ae (Bq 256 a) (Ad g : UInt64)) (Al f 1)
else
j6 a
def Jn (b : LB) : Nat → UInt64 → Int → Option UInt64
| 0, _, _ => none
| q + 1, a, f => Ur Ab2 (Jn b q) b a f
def Abu b := Jn b Au
def Ab0 (j4 : LB → UInt64 → Int → Option UInt64) (b : LB) : Option UInt64 :=
j4 b 0 (Al (Ac b) 1)
def Ao := Ab0 Abu
def Ku (b : LB) : Option (Int × Int × Bool) :=
(Bc b 12 16).bind fun g =>
(Ao g).bind fun a =>
(Bc b 16 20).bind fun h =>
(Ao h).bind fun f =>
if (((By a 32) || (Du a 3032)) || (Du f 1000)) then
some (0, 0, false)
else
some ((Al (Ad a : Int) 32), (Ad f : Int), true)
def Acq (a : LB) : Option (LB) :=
some a
def Th := Acq
def Kj (j6 : LB → Option (LB)) (bk4 : UInt64 → Int → LB → Option (LB)) (b : Int) (f : UInt64) (g : Int) (a : LB) : Option (LB) :=
if (By g b) then
(Cv a ([(Ad (Abv f 256) : UInt8)] : LB)).bind fun h =>
bk4 (Cn f 256) (Ae g 1) h
else
j6 a
def Ei (b : Int) : Nat → UInt64 → Int → LB → Option (LB)
| 0, _, _, _ => none
| q + 1, f, g, a => Kj Th (Ei b q) b f g a
def Sa b := Ei b Au
def So (j4 : Int → UInt64 → Int → LB → Option (LB)) (k : UInt64) (b : Int) : Option (LB) :=
j4 b k 0 ([] : LB)
def Ct := So Sa
def Mq (a b : Int) (f : UInt64) : Option (LB) :=
(Ct 2000 4).bind fun g =>
(Cv ([(65 : UInt8), (80 : UInt8), (69 : UInt8), (84 : UInt8), (65 : UInt8), (71 : UInt8), (69 : UInt8), (88 : UInt8)] : LB) g).bind fun h =>
(Ct (Ad (Ae a 32) : UInt64) 4).bind fun k =>
(Cv h k).bind fun m =>
(Ct (Ad b : UInt64) 4).bind fun n =>
(Cv m n).bind fun o =>
(Ct f 4).bind fun p =>
(Cv o p).bind fun u =>
(mkI (8 : Int) (0 : UInt8)).bind fun v =>
(Cv u v).bind fun w =>
some w
def Px (a b : Int) : Option (LB) :=
(Mq a b 2684354560).bind fun f =>
some f
def Di (a b : Int) (f : Bool) : Option (LB) :=
if f then
(Mq a b 2147483648).bind fun g =>
some g
else
(Mq a b 0).bind fun h =>
some h
abbrev Ka := Option (Int × Int)
def Afh (a : LB) (b f : Int) : Ka :=
if (By (Ac a) (Ae 64 b)) then
some (0, 24)
else
(Bc a (Al (Ae 64 b) 32) (Ae 64 b)).bind fun g =>
(Di b f true).bind fun h =>
if (g != h) then
some (0, 12)
else
some ((Ae 64 b), 0)
def Wr := Afh
def Wn (j4 : LB → Int → Int → Ka) (a : LB) : Ka :=
if (By (Ac a) 32) then
some (0, 24)
else
(Bc a 0 32).bind fun k =>
(Ku k).bind fun (b, f, m) =>
if (!m) then
some (0, 12)
else
(Bc a 0 32).bind fun n =>
(Px b f).bind fun o =>
if (n != o) then
some (0, 12)
else
j4 a b f
def Wx := Wn Wr
def Wz (j3 : LB → Ka) (a : LB) : Ka :=
if (By (Ac a) 8) then
some (0, 6)
else
(Bc a 0 8).bind fun p =>
if (p != ([65, 80, 69, 84, 65, 71, 69, 88] : LB)) then
some (0, 6)
else
j3 a
def Us := Wz Wx
abbrev Ew := Option (LI × Int)
def Ae9 (bk6 : Int → LI → Ew) (a : LB) (b : Int) (f : LI) (g h : Int) : Ew :=
if (geq h 6) then
some (f, 0)
else
if (Bn h 0) then
some (([] : LI), h)
else
if (Du (Ae b g) 4000) then
some (([] : LI), 4)
else
(Cv f ([g] : LI)).bind fun m =>
bk6 (Ae b g) m
def Jh bk6 := Ae9 bk6
def Nv (j9 : Int → LI → Int → Int → Ew) (a : LB) (b : Int) (f : LI) : Ew :=
(Bc a b (Ac a)).bind fun n =>
(Xx n).bind fun (o, k) =>
if (geq k 6) then
(Bc a b (Ac a)).bind fun p =>
(Us p).bind fun (u, v) =>
j9 b f u v
else
j9 b f o k
def Jf (a : LB) : Nat → Int → LI → Ew
| 0, _, _ => none
| q + 1, b, f => Nv (Jh (Jf a q) a) a b f
def Ae8 a := Jf a Au
def Ae6 (j6 : LB → Int → LI → Ew) (a : LB) : Ew :=
j6 a 0 ([] : LI)
def Aby := Ae6 Ae8
abbrev Fb := Option (Int × Int)
def Afs (a b : Int) : Fb :=
some (b, a)
def Xe := Afs
def Nt (j6 : Int → Int → Fb) (bk4 : Int → Int → Fb) (a : Int) (f : LI) (b g : Int) : Fb :=
if (By g (Ac f)) then
(Ak f g).bind fun _ =>
(Ak f g).bind fun h =>
bk4 (Ae b h) (Ae g 1)
else
j6 a b
def Gm (a : Int) (f : LI) : Nat → Int → Int → Fb
| 0, _, _ => none
| q + 1, b, g => Nt Xe (Gm a f q) a f b g
def Ny a f := Gm a f Au
def Wt (j4 : Int → LI → Int → Int → Fb) (k : LB) : Fb :=
(Aby k).bind fun (f, a) =>
j4 a f 0 0
def Mu := Wt Ny
def Lq (a b : LB) : Option Bool :=
if (By (Ac a) (Ac b)) then
(Bc b 0 (Ac a)).bind fun f =>
some (a == f)
else
some false
def Ahj (a : UInt32) (b : Bool) : Option UInt32 :=
if b then
some (Abg (Cn a 2) 3988292384)
else
some (Cn a 2)
def Zh := Ahj
def Yg (j2 : UInt32 → Bool → Option UInt32) (a : UInt32) (f : Int) : Option UInt32 :=
if (geq f 1) then
j2 a (!(geq (Abv a 2) 1))
else
j2 a (geq (Abv a 2) 1)
def Xk := Yg Zh
def Ag3 (a : UInt32) : Option UInt32 :=
some a
def Yz := Ag3
def Pj (j6 : UInt32 → Option UInt32) (bk4 : UInt32 → UInt8 → Int → Option UInt32) (a : UInt32) (b : UInt8) (f : Int) : Option UInt32 :=
if (By f 8) then
(Xk a (Ad (Abv b 2) : Int)).bind fun g =>
bk4 g (Cn b 2) (Ae f 1)
else
j6 a
def Hh : Nat → UInt32 → UInt8 → Int → Option UInt32
| 0, _, _, _ => none
| q + 1, a, b, f => Pj Yz (Hh q) a b f
def Ahs := Hh Au
def Ag6 (j4 : UInt32 → UInt8 → Int → Option UInt32) (h : UInt32) (k : UInt8) : Option UInt32 :=
j4 h k 0
def Adr := Ag6 Ahs
def Ado (a : UInt32) : Option UInt32 :=
some a
def Uc := Ado
def Md (j6 : UInt32 → Option UInt32) (bk4 : UInt32 → Int → Option UInt32) (b : LB) (a : UInt32) (f : Int) : Option UInt32 :=
if (By f (Ac b)) then
(Ak b f).bind fun g =>
(Adr a g).bind fun h =>
bk4 h (Ae f 1)
else
j6 a
def Fg (b : LB) : Nat → UInt32 → Int → Option UInt32
| 0, _, _ => none
| q + 1, a, f => Md Uc (Fg b q) b a f
def Vc b := Fg b Au
def Ul (j4 : LB → UInt32 → Int → Option UInt32) (k : UInt32) (b : LB) : Option UInt32 :=
j4 b k 0
def Aa3 := Ul Vc
def Oq (a : LB) : Option UInt32 :=
(Aa3 4294967295 a).bind fun b =>
some (Al 4294967295 b)
abbrev Fx := Option (Int × Int × Int × Int × Int × Int)
def Ahg (k h g f b : UInt64) : Fx :=
(Fs (Ad k : Int) (Ad h : Int) (Ad g : Int) (Ad f : Int) (Ad b : Int)).bind fun v =>
if (!v) then
some (0, 0, 0, 0, 0, 12)
else
(Ih (Ad k : Int) (Ad h : Int) (Ad g : Int) (Ad f : Int) (Ad b : Int)).bind fun w =>
if w then
some (0, 0, 0, 0, 0, 4)
else
some ((Ad k : Int), (Ad h : Int), (Ad g : Int), (Ad f : Int), (Ad b : Int), 0)
def Yt := Ahg
def Pk (j6 : UInt64 → UInt64 → UInt64 → UInt64 → UInt64 → Fx) (a : LB) : Fx :=
(Bc a 4 6).bind fun u =>
(Bc a 6 8).bind fun p =>
(Bc a 8 10).bind fun o =>
(Bc a 10 14).bind fun n =>
(Bc a 14 18).bind fun m =>
(
(Ao u).bind fun k =>
(
(Ao p).bind fun h =>
(
(Ao o).bind fun g =>
(
(Ao n).bind fun f =>
(
(Ao m).bind fun b =>
(
j6 k h g f b))))))
def Zl := Pk Yt
def Za (j5 : LB → Fx) (a : LB) : Fx :=
if (By (Ac a) 22) then
some (0, 0, 0, 0, 0, 24)
else
(Bc a 18 22).bind fun y =>
(Bc a 0 18).bind fun aa =>
(Ao y).bind fun ab =>
(Oq aa).bind fun ac =>
if (Bn ab (Ad ac : UInt64)) then
some (0, 0, 0, 0, 0, 22)
else
j5 a
def Yb := Za Zl
def Yl (j4 : LB → Fx) (a : LB) : Fx :=
(Bc a 0 (Hq 4 (Ac a))).bind fun ad =>
(Bc ([84, 84, 65, 49] : LB) 0 (Hq 4 (Ac a))).bind fun ae =>
if (ad != ae) then
some (0, 0, 0, 0, 0, 12)
else
j4 a
def Pr := Yl Yb
abbrev Tx := Option (Int × Int × Int × Int × Int × Int × Int)
def Acl (b : Int) (a : LB) : Tx :=
(Pr a).bind fun (k, m, n, o, p, h) =>
if (geq h 24) then
some (0, 0, 0, 0, 0, 0, (-1 : Int))
else
some ((Ae b 22), k, m, n, o, p, h)
def Se := Acl
def Ru (j2 : Int → LB → Tx) (f : LB) : Tx :=
(Mu f).bind fun (b, g) =>
if (geq g 24) then
some (0, 0, 0, 0, 0, 0, (-1 : Int))
else
if (Bn g 0) then
some (0, 0, 0, 0, 0, 0, g)
else
(Bc f b (Ac f)).bind fun a =>
(Lq a ([73, 68, 51] : LB)).bind fun u =>
if u then
some (0, 0, 0, 0, 0, 0, (-1 : Int))
else
(Lq a ([65, 80, 69, 84, 65, 71, 69, 88] : LB)).bind fun v =>
if v then
some (0, 0, 0, 0, 0, 0, (-1 : Int))
else
j2 b a
def Kf := Ru Se
def Ahi (a : UInt64) (b : Bool) : Option UInt64 :=
if b then
some (Abg (Bq a 2) 4823603603198064275)
else
some (Bq a 2)
def Pv := Ahi
def Yw (j2 : UInt64 → Bool → Option UInt64) (a : UInt64) (f : Int) : Option UInt64 :=
if (geq f 1) then
j2 a (!(Qq a 9223372036854775808))
else
j2 a (Qq a 9223372036854775808)
def Xq := Yw Pv
def Aho (a : UInt64) : Option UInt64 :=
some a
def Zb := Aho
def Pg (j6 : UInt64 → Option UInt64) (bk4 : UInt64 → Int → Option UInt64) (b : UInt8) (a : UInt64) (f : Int) : Option UInt64 :=
if (Du f 0) then
(Vf (Bn f 0)).bind fun _ =>
(Xq a (Ig (Cn (Ad b : Int) f) 2)).bind fun g =>
bk4 g (Cn f 2)
else
j6 a
def Hk (b : UInt8) : Nat → UInt64 → Int → Option UInt64
| 0, _, _ => none
| q + 1, a, f => Pg Zb (Hk b q) b a f
def Ag9 b := Hk b Au
def Ahx (j4 : UInt8 → UInt64 → Int → Option UInt64) (h : UInt64) (b : UInt8) : Option UInt64 :=
j4 b h 128
def Ade := Ahx Ag9
def Adw (a : UInt64) : Option UInt64 :=
some a
def Tz := Adw
def Ma (j6 : UInt64 → Option UInt64) (bk4 : UInt64 → Int → Option UInt64) (b : LB) (a : UInt64) (f : Int) : Option UInt64 :=
if (By f (Ac b)) then
(Ak b f).bind fun g =>
(Ade a g).bind fun h =>
bk4 h (Ae f 1)
else
j6 a
def Fj (b : LB) : Nat → UInt64 → Int → Option UInt64
| 0, _, _ => none
| q + 1, a, f => Ma Tz (Fj b q) b a f
def Ae0 b := Fj b Au
def Ac6 (j4 : LB → UInt64 → Int → Option UInt64) (k : UInt64) (b : LB) : Option UInt64 :=
j4 b k 0
def Rp := Ac6 Ae0
def Ac2 (a : LB) : Option UInt64 :=
(Rp 0 a).bind fun b =>
some b
def Po (a : LB) : Option (LB) :=
(Ac2 a).bind fun b =>
(Ct b 8).bind fun f =>
some f
abbrev Dc := Option (LI × Int)
def Ahz (f : LI) : Dc :=
(Er f).bind fun h =>
if (Bn h 0) then
some (([] : LI), 12)
else
some (f, 0)
def Pc := Ahz
def Pb (j8 : LI → Dc) (bk6 : Int → LI → Dc) (b : LB) (a g : Int) (f : LI) : Dc :=
if (By g a) then
(Bc b (Bq 4 g) (Ae (Bq 4 g) 4)).bind fun k =>
(Ao k).bind fun m =>
(Cv f ([(Ad m : Int)] : LI)).bind fun n =>
bk6 (Ae g 1) n
else
j8 f
def Hi (b : LB) (a : Int) : Nat → Int → LI → Dc
| 0, _, _ => none
| q + 1, g, f => Pb Pc (Hi b a q) b a g f
def Zi b a := Hi b a Au
def Yx (j6 : LB → Int → Int → LI → Dc) (b : LB) (a : Int) : Dc :=
j6 b a 0 ([] : LI)
def Yr := Yx Zi
def Xy (j5 : LB → Int → Dc) (b : LB) (a : Int) : Dc :=
if ((By a 1) || (Du a 1000)) then
some (([] : LI), 2)
else
if (By (Ac b) (Ae (Bq 4 a) 4)) then
some (([] : LI), 24)
else
(Bc b (Bq 4 a) (Ae (Bq 4 a) 4)).bind fun o =>
(Bc b 0 (Bq 4 a)).bind fun p =>
(Ao o).bind fun u =>
(Oq p).bind fun v =>
if (Bn u (Ad v : UInt64)) then
some (([] : LI), 22)
else
j5 b a
def Xu := Xy Yr
abbrev Ji := Option (Int × LI × Int)
def Adb (b g : Int) (h : LI) : Ji :=
if (geq g 24) then
some (0, ([] : LI), (-1 : Int))
else
some ((Ae (Ae b (Bq 4 (Ac h))) 4), h, g)
def Uk := Adb
def Uv (j4 : Int → Int → LI → Ji) (a : LB) (f k m n o b : Int) : Ji :=
(Bc a b (Ac a)).bind fun p =>
(Dl f k m n o).bind fun u =>
(Xu p (Ac u)).bind fun (h, g) =>
j4 b g h
def Fh := Uv Uk
def Mh (j3 : LB → Int → Int → Int → Int → Int → Int → Ji) (a : LB) (f k m n o : Int) (v : LB) : Ji :=
if (geq f 2) then
if (By (Ac a) 8) then
some (0, ([] : LI), (-1 : Int))
else
(Bc a 0 8).bind fun w =>
(Po v).bind fun y =>
if (w != y) then
some (0, ([] : LI), 26)
else
j3 a f k m n o 8
else
j3 a f k m n o 0
def Lg := Mh Fh
def Aey (b : UInt64) (a : LB) : Option (UInt64 × Int) :=
if (Du (Ac a) 100000) then
some (0, 4)
else
(Rp b a).bind fun f =>
some (f, 0)
def Afu (a : LB) : Option (UInt64 × Int) :=
(Aey 0 a).bind fun (b, f) =>
some (b, f)
def Atd (a : LX) : Option (LX) :=
some a
def Ai3 := Atd
def Alm (bk6 : UInt64 → Int → LX → Option (LX)) (b : UInt64) (f : Int) (a : LX) (g : Int32) : Option (LX) :=
(Ak a f).bind fun _ =>
(Tp a f g).bind fun h =>
bk6 (Cn b 256) (Ae f 1) h
def Up bk6 := Alm bk6
def Ue (j8 : UInt64 → Int → LX → Int32 → Option (LX)) (j10 : LX → Option (LX)) (b : UInt64) (f : Int) (a : LX) : Option (LX) :=
if (By f 8) then
if (Du (Ad (Abv b 256) : Int32) 127) then
j8 b f a (Al (Ad (Abv b 256) : Int32) 256)
else
j8 b f a (Ad (Abv b 256) : Int32)
else
j10 a
def Ha : Nat → UInt64 → Int → LX → Option (LX)
| 0, _, _, _ => none
| q + 1, b, f, a => Ue (Up (Ha q)) Ai3 b f a
def Aki := Ha Au
def Alg (j6 : UInt64 → Int → LX → Option (LX)) (k : UInt64) : Option (LX) :=
j6 k 0 (List.replicate 16 (0 : Int32))
def Air := Alg Aki
def Xs (a : LB) : Option (LX × Int) :=
if (Du (Ac a) 64) then
some (([(0 : Int32), (0 : Int32), (0 : Int32), (0 : Int32), (0 : Int32), (0 : Int32), (0 : Int32), (0 : Int32), (0 : Int32), (0 : Int32), (0 : Int32), (0 : Int32), (0 : Int32), (0 : Int32), (0 : Int32), (0 : Int32)] : LX), 2)
else
(Afu a).bind fun (b, g) =>
(Air b).bind fun f =>
some (f, 0)
def Kw (a : Int) : Option Int :=
if (geq a 8) then
some 128
else
if (geq a 16) then
some 32768
else
if (geq a 24) then
some 8388608
else
some 0
def Ty (a b : Int) : Option Int :=
if ((By a 1) || (Du a 6)) then
some 2
else
(Kw b).bind fun f =>
if (geq f 0) then
some 2
else
some 0
def Jq (a f b : Int) : Option Int :=
(Ty a f).bind fun g =>
if ((Bn g 0) || (By b 1)) then
some 2
else
(Vf (Bn a 0)).bind fun _ =>
if (Du b (Cn 4000 a)) then
some 2
else
some 0
def Rj (b : LB) : Option (LB) :=
(Oq b).bind fun a =>
(Cv ([] : LB) b).bind fun f =>
(Cv f ([(Ad a : UInt8), (Ad (Ci a (GI.toZ (8 : UInt64)).toNat) : UInt8), (Ad (Ci a (GI.toZ (16 : UInt64)).toNat) : UInt8), (Ad (Ci a (GI.toZ (24 : UInt64)).toNat) : UInt8)] : LB)).bind fun g =>
some g
def Lh (a : LB) : Option Int :=
if (By (Ac a) 5) then
some 24
else
if (Du (Ac a) 41254) then
some 4
else
(Bc a 0 (Al (Ac a) 4)).bind fun b =>
(Rj b).bind fun f =>
if (f != a) then
some 22
else
some 0
def Jl : Option (Int × Int × UInt64 × UInt64) :=
some (10, 10, 16384, 16384)
def Aqp (a : UInt64) : Option UInt64 :=
some a
def Afa := Aqp
def Nj (j6 : UInt64 → Option UInt64) (bk4 : UInt64 → Int → Option UInt64) (b : Int) (a : UInt64) (f : Int) : Option UInt64 :=
if (By f b) then
bk4 (Bq a 2) (Ae f 1)
else
j6 a
def Gk (b : Int) : Nat → UInt64 → Int → Option UInt64
| 0, _, _ => none
| q + 1, a, f => Nj Afa (Gk b q) b a f
def Afj b := Gk b Au
def Afk (j4 : Int → UInt64 → Int → Option UInt64) (b : Int) : Option UInt64 :=
j4 b 1 0
def Ds := Afk Afj
def Tc (a g : Int) (h k : UInt64) (b : UInt32) : Option Bool :=
(Ds a).bind fun f =>
some (By (Ad b : UInt64) f)
def Kx (a g : Int) (h k : UInt64) (b : UInt32) : Option UInt32 :=
(Ds a).bind fun f =>
some (Ad (Al (Ad b : UInt64) f) : UInt32)
abbrev Aa1 := Option (Int × UInt64)
def Ag5 (b : Int) (a f : UInt64) : Aa1 :=
if (By b 24) then
(Ds (Ae b 5)).bind fun g =>
if (Du (Al (Ae a f) (Cn a 16)) g) then
some ((Ae b 1), (Al (Ae a f) (Cn a 16)))
else
some (b, (Al (Ae a f) (Cn a 16)))
else
some (b, (Al (Ae a f) (Cn a 16)))
def Ps := Ag5
def Zf (j2 : Int → UInt64 → UInt64 → Aa1) (b : Int) (a f : UInt64) : Aa1 :=
if (Du b 0) then
(Ds (Ae b 4)).bind fun h =>
if (By (Al (Ae a f) (Cn a 16)) h) then
some ((Al b 1), (Al (Ae a f) (Cn a 16)))
else
j2 b a f
else
j2 b a f
def Hs := Zf Ps
abbrev Wg := Option (Int × Int × UInt64 × UInt64)
def Aeu (h : UInt32) (f a : Int) (g b : UInt64) (o : Int) (p : UInt64) : Wg :=
(Hs f g (Ad h : UInt64)).bind fun (aa, ab) =>
some (aa, o, ab, p)
def Lu := Aeu
def Mb (j2 : UInt32 → Int → Int → UInt64 → UInt64 → Int → UInt64 → Wg) (f a : Int) (g b : UInt64) (h : UInt32) : Wg :=
(Tc f a g b h).bind fun u =>
if (!u) then
(
(
(Kx f a g b h).bind fun k =>
(Hs a b (Ad k : UInt64)).bind fun (m, n) =>
j2 h f a g b m n))
else
j2 h f a g b a b
def Rh := Mb Lu
abbrev Ed := Option (Int × Int × UInt64 × UInt64)
def Ap3 (a b : Int) (f g : UInt64) : Ed :=
some (a, b, f, g)
def Adp := Ap3
def Vb (j6 : Int → Int → UInt64 → UInt64 → Ed) (bk4 : Int → Int → Int → UInt64 → UInt64 → Ed) (h : Int) (k : LU) (m a b : Int) (f g : UInt64) : Ed :=
if (By m (Ac k)) then
(Ak k m).bind fun n =>
(Rh a b f g n).bind fun (o, p, u, v) =>
bk4 (Ae m h) o p u v
else
j6 a b f g
def Hw (h : Int) (k : LU) : Nat → Int → Int → Int → UInt64 → UInt64 → Ed
| 0, _, _, _, _, _ => none
| q + 1, m, a, b, f, g => Vb Adp (Hw h k q) h k m a b f g
def Ad1 h k := Hw h k Au
def Ud (j4 : Int → LU → Int → Int → Int → UInt64 → UInt64 → Ed) (h : Int) (k : LU) : Ed :=
(Jl).bind fun (w, y, aa, ab) =>
(Vf (Bn h 0)).bind fun _ =>
j4 h k (Ig (Ac k) h) w y aa ab
def Lk := Ud Ad1
def Ald (a : Int) : Option Int :=
some (Ig a 2)
def Abx := Ald
def Uu (j6 : Int → Option Int) (bk4 : Int → Int → Option Int) (b a f : Int) : Option Int :=
if (By f (Ig b 8)) then
bk4 (Cn a 2) (Ae f 1)
else
j6 a
def Jp (b : Int) : Nat → Int → Int → Option Int
| 0, _, _ => none
| q + 1, a, f => Uu Abx (Jp b q) b a f
def Abw b := Jp b Au
def Ab3 (j4 : Int → Int → Int → Option Int) (g : LB) (k b : Int) : Option Int :=
(Ak g (Cn b 8)).bind fun h =>
j4 b (Ad h : Int) 0
def Iz := Ab3 Abw
abbrev Dq := Option (LB × Int)
def Ai8 (b g a : Int) (f : LB) : Dq :=
(Ak f (Cn a 8)).bind fun _ =>
(Ak f (Cn a 8)).bind fun m =>
(Ak f (Cn a 8)).bind fun _ =>
(Tp f (Cn a 8) (Ae m (Ad (Bq b g) : UInt8))).bind fun n =>
some (n, (Ae a 1))
def Rg := Ai8
def Rt (j8 : Int → Int → Int → LB → Dq) (bk6 : Int → Int → Dq) (b a : Int) (f : LB) (g h : Int) : Dq :=
if (By h (Ig a 8)) then
bk6 (Bq g 2) (Ae h 1)
else
j8 b g a f
def Ip (b a : Int) (f : LB) : Nat → Int → Int → Dq
| 0, _, _ => none
| q + 1, g, h => Rt Rg (Ip b a f q) b a f g h
def Aas b a f := Ip b a f Au
def Aal (j6 : Int → Int → LB → Int → Int → Dq) (b a : Int) (f : LB) : Dq :=
j6 b a f 1 0
def Ri := Aal Aas
def Aat (j5 : Int → Int → LB → Dq) (k : LB) (a b : Int) : Dq :=
if (geq (Ig a 8) 0) then
(Cv k ([(0 : UInt8)] : LB)).bind fun o =>
j5 b a o
else
j5 b a k
def Td := Aat Ri
abbrev Dr := Option (LB × Int)
def An6 (a : Int) (b : LB) : Dr :=
some (b, a)
def Acd := An6
def Km (j6 : Int → LB → Dr) (bk4 : Int → Int → LB → Dr) (f : Int) (g : LB) (h k a : Int) (b : LB) : Dr :=
if (By k f) then
(Iz g h k).bind fun m =>
(Td b a m).bind fun (n, o) =>
bk4 (Ae k 1) o n
else
j6 a b
def El (f : Int) (g : LB) (h : Int) : Nat → Int → Int → LB → Dr
| 0, _, _, _ => none
| q + 1, k, a, b => Km Acd (El f g h q) f g h k a b
def Acp f g h := El f g h Au
def Acy (j4 : Int → LB → Int → Int → Int → LB → Dr) (g : LB) (h p f : Int) : Dr :=
j4 f g h p 0 ([] : LB)
def Zg := Acy Acp
def Aqt (a : UInt64) : Option UInt64 :=
some a
def Afp := Aqt
def Ni (j6 : UInt64 → Option UInt64) (bk4 : UInt64 → Int → Option UInt64) (b : Int) (f : LB) (g : Int) (a : UInt64) (h : Int) : Option UInt64 :=
if (Qq h 0) then
(Iz f g (Ae b h)).bind fun k =>
bk4 (Ae (Bq 2 a) (Ad k : UInt64)) (Al h 1)
else
j6 a
def Gl (b : Int) (f : LB) (g : Int) : Nat → UInt64 → Int → Option UInt64
| 0, _, _ => none
| q + 1, a, h => Ni Afp (Gl b f g q) b f g a h
def Wc b f g := Gl b f g Au
def Xa (j4 : Int → LB → Int → UInt64 → Int → Option UInt64) (f : LB) (g b m : Int) : Option UInt64 :=
j4 b f g 0 (Al m 1)
def Nc := Xa Wc
abbrev Hc := Option (Int × Int)
def Ajc (b a : Int) (g : LB) (f : Int) : Hc :=
if (geq a 48) then
some (a, (Ae b a))
else
if (Qq (Ae b a) f) then
some ((-1 : Int), 0)
else
some (a, (Ae (Ae b a) 1))
def Rs := Ajc
def Rk (j6 : Int → Int → LB → Int → Hc) (bk4 : Int → Hc) (b : Int) (g : LB) (f a : Int) : Hc :=
if ((By (Ae b a) f) && (By a 48)) then
(Iz g f (Ae b a)).bind fun h =>
if (geq h 1) then
bk4 (Ae a 1)
else
j6 b a g f
else
j6 b a g f
def Iv (b : Int) (g : LB) (f : Int) : Nat → Int → Hc
| 0, _ => none
| q + 1, a => Rk Rs (Iv b g f q) b g f a
def Ai9 b g f := Iv b g f Au
def Aiz (j4 : Int → LB → Int → Int → Hc) (g : LB) (f b : Int) : Hc :=
j4 b g f 0
def Afw := Aiz Ai9
def Xh (b : UInt32) (f : Int) : Option Int :=
(Ds f).bind fun a =>
(Vf (Bn a 0)).bind fun _ =>
some (Ad (Hq 48 (Cn (Ad b : UInt64) a)) : Int)
abbrev Abz := Option (UInt32 × Int × Int)
def Aaq (g a b : Int) (h : LB) (f k : Int) : Abz :=
if ((By a 0) || (By (Al f b) k)) then
some (0, 0, 24)
else
(Nc h f b k).bind fun m =>
if (By a 48) then
(Ds g).bind fun o =>
some ((Ad (Ae (Bq (Ad a : UInt64) o) m) : UInt32), (Ae b k), 0)
else
(Xh (Ad m : UInt32) g).bind fun p =>
if (By p a) then
some (0, 0, 12)
else
some ((Ad m : UInt32), (Ae b k), 0)
def Rf := Aaq
def Aa4 (j2 : Int → Int → Int → LB → Int → Int → Abz) (h : LB) (f n g : Int) : Abz :=
if (Qq n f) then
some (0, 0, 24)
else
(Afw h f n).bind fun (a, b) =>
if (geq a 48) then
j2 g a b h f 32
else
j2 g a b h f g
def Zt := Aa4 Rf
def Aag (g : LB) (b a f n : Int) (v w : UInt64) : Option (UInt32 × Int × Int) :=
if (Qq a b) then
some (0, 0, 24)
else
(Iz g b a).bind fun o =>
if (geq o 0) then
if (By (Al (Al b a) 1) f) then
some (0, 0, 24)
else
(Nc g b (Ae a 1) f).bind fun p =>
some ((Ad p : UInt32), (Ae (Ae a 1) f), 0)
else
(Zt g b (Ae a 1) n).bind fun (h, u, k) =>
if (Bn k 0) then
some (0, 0, k)
else
(Ds f).bind fun m =>
if (Du (Ae (Ad h : UInt64) m) 4294967295) then
some (0, 0, 12)
else
some ((Ad (Ae (Ad h : UInt64) m) : UInt32), u, 0)
abbrev Bf := Option (LU × Int)
def Aqq (b : LU) : Bf :=
some (b, 0)
def Ae4 := Aqq
def Np (j18 : LU → Bf) (bk16 : Int → Bf) (a : LB) (b : LU) (m : Int) : Bf :=
if (By m (Bq 8 (Ac a))) then
(Iz a (Bq 8 (Ac a)) m).bind fun n =>
if (Bn n 0) then
some (b, 12)
else
bk16 (Ae m 1)
else
j18 b
def Gb (a : LB) (b : LU) : Nat → Int → Bf
| 0, _ => none
| q + 1, m => Np Ae4 (Gb a b q) a b m
def Vp a b := Gb a b Au
def We (j16 : LB → LU → Int → Bf) (f : Int) (a : LB) (b : LU) : Bf :=
if (Du (Al (Bq 8 (Ac a)) f) 7) then
some (b, 12)
else
j16 a b f
def Nr := We Vp
def Afe (bk10 : Int → Int → LU → Bf) (g h : Int) (a : LB) (f k : Int) (b : LU) (o p : Int) (u v : UInt64) : Bf :=
(Zg a (Bq 8 (Ac a)) f (Hq (Ae f 81) (Bq 8 (Ac a)))).bind fun (y, aa) =>
(Aag y aa 0 o p u v).bind fun (ab, ac, w) =>
if (Bn w 0) then
some (b, w)
else
(Cv b ([ab] : LU)).bind fun ad =>
bk10 (Ae f ac) (Ae k 1) ad
def Gj bk10 := Afe bk10
def Wu (j13 : Int → Int → LU → Int → Int → UInt64 → UInt64 → Bf) (j15 : Int → LB → LU → Bf) (g h : Int) (a : LB) (f k : Int) (b : LU) : Bf :=
if (By k (Bq h g)) then
(Jl).bind fun (n, ae, af, ag) =>
if (Qq k g) then
(Lk g b).bind fun (ah, ai, aj, ak) =>
j13 f k b ah ai aj ak
else
j13 f k b n ae af ag
else
j15 f a b
def Cz (g h : Int) (a : LB) : Nat → Int → Int → LU → Bf
| 0, _, _, _ => none
| q + 1, f, k, b => Wu (Gj (Cz g h a q) g h a) Nr g h a f k b
def Afc g h a := Cz g h a Au
def Yu (j10 : Int → Int → LB → Int → Int → LU → Bf) (g h : Int) (a : LB) : Bf :=
j10 g h a 0 0 ([] : LU)
def Xr := Yu Afc
def Alo (a : Int) : Option (Int × Int) :=
if (geq a 8) then
some (4, 0)
else
if ((geq a 16) || (geq a 24)) then
some (5, 0)
else
some (0, 2)
def Anw (a : Int) (b : LX) : Option (Int × LX × LX × Int) :=
(Alo a).bind fun (g, f) =>
if (Bn f 0) then
some (0, (List.replicate 16 (0 : Int32)), (List.replicate 16 (0 : Int32)), 2)
else
if (geq a 16) then
some (9, b, (List.replicate 16 (0 : Int32)), 0)
else
some (10, b, (List.replicate 16 (0 : Int32)), 0)
def Agn (a : Int) (b : LX) : Option (Int × Int32 × Int × LX × LX × Int) :=
(Anw a b).bind fun (f, g, h, k) =>
if (Bn k 0) then
some (0, 0, 0, (List.replicate 16 (0 : Int32)), (List.replicate 16 (0 : Int32)), 2)
else
some (a, 0, f, g, h, 0)
def Kv (a : UInt32) : Option Int32 :=
if (geq (Abv a 2) 0) then
some (Ad (Cn a 2) : Int32)
else
some (Ad (Cn (Av1 (Ae (Ad a : Int) 1)) 2) : Int32)
def Bz (a : Int) : Option Int32 :=
some (Ad (Ad (Ad a : UInt64) : UInt32) : Int32)
def Ai0 (a : Int) : Option Int32 :=
some (Ad a : Int32)
def Aar := Ai0
def Rc (j6 : Int → Option Int32) (bk4 : Int → Int → Option Int32) (h : Int) (f g : LX) (a b : Int) : Option Int32 :=
if (By b 16) then
(Ak f b).bind fun _ =>
(Ak g b).bind fun _ =>
(Ak f b).bind fun k =>
(Ak g b).bind fun m =>
(Bz (Bq (Ad k : Int) (Ad m : Int))).bind fun n =>
(Bz (Ae a (Ad n : Int))).bind fun o =>
bk4 (Ad o : Int) (Ae b 1)
else
j6 a
def Iu (h : Int) (f g : LX) : Nat → Int → Int → Option Int32
| 0, _, _ => none
| q + 1, a, b => Rc Aar (Iu h f g q) h f g a b
def Ai6 h f g := Iu h f g Au
def Ai5 (j4 : Int → LX → LX → Int → Int → Option Int32) (h : Int) (f g : LX) : Option Int32 :=
j4 h f g 0 0
def Af6 := Ai5 Ai6
def Aha (b : Int) (f g : LX) (a : Int) : Option Int32 :=
(Af6 b f g).bind fun k =>
(Bz (Ae (Ad k : Int) (Cn a 2))).bind fun h =>
(Vf (Bn a 0)).bind fun _ =>
(Vf (Bn a 0)).bind fun _ =>
if (By (Ig (Ad h : Int) a) 0) then
some (Ad (Al (Cn (Ad h : Int) a) 1) : Int32)
else
some (Ad (Cn (Ad h : Int) a) : Int32)
def Qc := Aha
def Yn (j2 : Int → LX → LX → Int → Option Int32) (b : Int) (f g : LX) : Option Int32 :=
if (geq b 9) then
j2 b f g 512
else
j2 b f g 1024
def Xm := Yn Qc
def Xl (a : Int) : Option Int32 :=
if (geq a 0) then
some 4
else
if (gle a 3) then
some 2
else
some 1
def Qe (a : Int32) : Option Int32 :=
if (By a 0) then
some (-1 : Int32)
else
if (Du a 0) then
some 1
else
some 0
abbrev Dn := Option (Int × LX × LX)
def Aob (g : Int) (b a : LX) : Dn :=
some (g, b, a)
def Ac0 := Aob
def Kn (j6 : Int → LX → LX → Dn) (bk4 : Int → LX → Dn) (h : Int32) (g : Int) (a : LX) (f : Int) (b : LX) : Dn :=
if (By f 16) then
(Ak b f).bind fun _ =>
(Ak a f).bind fun _ =>
(Ak b f).bind fun k =>
(Ak a f).bind fun m =>
(Xl f).bind fun n =>
(Qe m).bind fun o =>
(Qe h).bind fun p =>
(Ak b f).bind fun _ =>
(Tp b f (Ae k (Bq (Bq n o) p))).bind fun u =>
bk4 (Ae f 1) u
else
j6 g b a
def Eo (h : Int32) (g : Int) (a : LX) : Nat → Int → LX → Dn
| 0, _, _ => none
| q + 1, f, b => Kn Ac0 (Eo h g a q) h g a f b
def Acr h g a := Eo h g a Au
def Aci (j4 : Int32 → Int → LX → Int → LX → Dn) (g : Int) (v a : LX) (h : Int32) : Dn :=
j4 h g a 0 v
def Yy := Aci Acr
abbrev Ec := Option (Int × LX × LX)
def Ac1 (b : Int32) (f : Int) (g a : LX) : Ec :=
(Ak a 0).bind fun _ =>
(Tp a 0 b).bind fun k =>
some (f, g, k)
def Ub := Ac1
def Ly (j6 : Int32 → Int → LX → LX → Ec) (bk4 : Int → LX → Ec) (b : Int32) (f : Int) (g : LX) (h : Int) (a : LX) : Ec :=
if (Du h 0) then
(Ak a (Al h 1)).bind fun _ =>
(Ak a (Al h 1)).bind fun m =>
(Ak a h).bind fun _ =>
(Tp a h m).bind fun n =>
bk4 (Al h 1) n
else
j6 b f g a
def Fi (b : Int32) (f : Int) (g : LX) : Nat → Int → LX → Ec
| 0, _, _ => none
| q + 1, h, a => Ly Ub (Fi b f g q) b f g h a
def Aeo b f g := Fi b f g Au
def Aek (j4 : Int32 → Int → LX → Int → LX → Ec) (f : Int) (g o : LX) (b : Int32) : Ec :=
j4 b f g 15 o
def Aa2 := Aek Aeo
def Qf (a : Int) (b f : LX) (g : Int32) : Option (Int32 × Int × LX × LX) :=
(Xm a b f).bind fun k =>
(Bz (Ae (Ad g : Int) (Ad k : Int))).bind fun h =>
(Yy a b f g).bind fun (m, n, o) =>
(Aa2 m n o h).bind fun (p, u, v) =>
some (h, p, u, v)
def Ae1 (b : Int32) (a : Int) : Option Int32 :=
(Vf (Bn a 0)).bind fun _ =>
(Vf (Bn a 0)).bind fun _ =>
if (By (Ig (Bq (Al a 1) (Ad b : Int)) a) 0) then
some (Ad (Al (Cn (Bq (Al a 1) (Ad b : Int)) a) 1) : Int32)
else
some (Ad (Cn (Bq (Al a 1) (Ad b : Int)) a) : Int32)
def Lz := Ae1
def Uw (j2 : Int32 → Int → Option Int32) (f : Int) (b : Int32) : Option Int32 :=
if (geq f 5) then
j2 b 32
else
j2 b 16
def Lf := Uw Lz
def Re (b : Int) (a : Int32) (h : Int) (k m : LX) : Option Int :=
if (geq b 8) then
(Lf 4 a).bind fun f =>
some (Ad f : Int)
else
(Lf 5 a).bind fun g =>
some (Ad g : Int)
def Hg (a : Int) (k : Int32) (b : Int) (f g : LX) (m : Int32) : Option (Int32 × Int × Int32 × Int × LX × LX) :=
(Qf b f g m).bind fun (n, o, p, u) =>
(Re a k b f g).bind fun v =>
(Bz (Ae (Ad n : Int) v)).bind fun h =>
some (h, a, h, o, p, u)
def Nb (a : Int) (b : LX) : Option Int :=
if ((By a 1) || (Du a 6)) then
some 2
else
if (Du (Ac b) 4000) then
some 4
else
(Vf (Bn a 0)).bind fun _ =>
if (Du (Ig (Ac b) a) 0) then
some 2
else
some 0
def An8 (b : LX) : Option (LX) :=
some b
def Acg := An8
def Ks (j8 : LX → Option (LX)) (bk6 : Int → LX → Option (LX)) (a : LX) (f : Int) (b : LX) : Option (LX) :=
if (Qq f 0) then
(Ak b (Ae f 1)).bind fun _ =>
(Ak a f).bind fun m =>
(Ak b (Ae f 1)).bind fun n =>
(Bz (Al (Ad n : Int) (Ad m : Int))).bind fun o =>
(Ak b f).bind fun _ =>
(Tp b f o).bind fun p =>
bk6 (Al f 1) p
else
j8 b
def Ek (a : LX) : Nat → Int → LX → Option (LX)
| 0, _, _ => none
| q + 1, f, b => Ks Acg (Ek a q) a f b
def Acv a := Ek a Au
def Tl (j6 : LX → Int → LX → Option (LX)) (a g : LX) : Option (LX) :=
j6 a (Al (Ac a) 2) g
def Kl := Tl Acv
def Tn (j5 : LX → LX → Option (LX)) (a : LX) : Option (LX) :=
(mkI (Ac a) (0 : Int32)).bind fun k =>
(Vf (geq (Ac a) (Ac a))).bind fun _ =>
(Ak a (Al (Ac a) 1)).bind fun u =>
(Ak k (Al (Ac a) 1)).bind fun _ =>
(Tp k (Al (Ac a) 1) u).bind fun h =>
if (Du (Ac a) 1) then
(Ak a (Al (Ac a) 1)).bind fun v =>
(Ak a (Al (Ac a) 2)).bind fun w =>
(Bz (Ae (Ad v : Int) (Cn (Ad w : Int) 2))).bind fun y =>
(Ak h (Al (Ac a) 1)).bind fun _ =>
(Tp h (Al (Ac a) 1) y).bind fun aa =>
j5 a aa
else
j5 a h
def Pq := Tn Kl
abbrev Fu := Option (LX × Int)
def Asl (f : LX) : Fu :=
some (f, 0)
def Ahr := Asl
def Yi (j6 : LX → Fu) (bk4 : Int → LX → Fu) (a : Int) (b : LX) (g : Int) (f : LX) : Fu :=
if (By g (Ac b)) then
(Bc b g (Ae g a)).bind fun h =>
(Pq h).bind fun k =>
(Cv f k).bind fun m =>
bk4 (Ae g a) m
else
j6 f
def Kb (a : Int) (b : LX) : Nat → Int → LX → Fu
| 0, _, _ => none
| q + 1, g, f => Yi Ahr (Kb a b q) a b g f
def Ahp a b := Kb a b Au
def Zn (j4 : Int → LX → Int → LX → Fu) (a : Int) (b : LX) : Fu :=
(Nb a b).bind fun n =>
if (Bn n 0) then
(Nb a b).bind fun o =>
some (([] : LX), o)
else
j4 a b 0 ([] : LX)
def Xt := Zn Ahp
def Acz (a f : Int) (w : LX) : Option (LX) :=
(Xt a w).bind fun (aj, ai) =>
some aj
def Ko := Acz
def Acu (bk18 : Int → LX → Option (LX)) (b : LU) (a f : Int) (g : LX) (h : Int) (m : LX) : Option (LX) :=
bk18 (Ae h 1) m
def Tg bk18 := Acu bk18
def Aca (bk26 : Int → LX → Int → Int32 → Int → LX → LX → Option (LX)) (b : LU) (h a f : Int) (g : LX) (k : Int) (af : LX) (y : Int) (aa : Int32) (ab : Int) (ac ad : LX) : Option (LX) :=
bk26 (Ae k a) af y aa ab ac ad
def Sf bk26 := Aca bk26
def Sr (j30 : Int → LX → Int → Int32 → Int → LX → LX → Option (LX)) (b : LU) (h a f : Int) (g : LX) (k : Int) (ae : Int32) (m : LX) (n : Int) (o : Int32) (p : Int) (u v : LX) (y : Int) (aa : Int32) (ab : Int) (ac ad : LX) : Option (LX) :=
(Ak m k).bind fun _ =>
(Tp m k ae).bind fun af =>
j30 k af y aa ab ac ad
def Sp bk26 b h a f g := Sr (Sf bk26 b h a f g) b h a f g
def Kt (j29 : Int → Int32 → LX → Int → Int32 → Int → LX → LX → Int → Int32 → Int → LX → LX → Option (LX)) (j32 : Int → LX → Option (LX)) (b : LU) (a f : Int) (g : LX) (h k : Int) (m : LX) (n : Int) (o : Int32) (p : Int) (u v : LX) : Option (LX) :=
if (By k (Ac b)) then
(Ak b k).bind fun ah =>
(
(Kv ah).bind fun ag =>
(
(Hg n o p u v ag).bind fun (ae, y, aa, ab, ac, ad) =>
j29 k ae m n o p u v y aa ab ac ad))
else
j32 h m
def Hj (bk18 : Int → LX → Option (LX)) (b : LU) (a f : Int) (g : LX) (h : Int) : Nat → Int → LX → Int → Int32 → Int → LX → LX → Option (LX)
| 0, _, _, _, _, _, _, _ => none
| q + 1, k, m, n, o, p, u, v => Kt (Sp (Hj bk18 b a f g h q) b h a f g) (Tg bk18 b a f g) b a f g h k m n o p u v
def Sj bk18 b a f g h := Hj bk18 b a f g h Au
def Kq (j26 : Int → Int → LX → Int → Int32 → Int → LX → LX → Option (LX)) (j34 : Int → Int → LX → Option (LX)) (b : LU) (a f : Int) (g : LX) (h : Int) (w : LX) : Option (LX) :=
if (By h a) then
(Agn f g).bind fun (ak, ai, al, am, an, aq) =>
j26 h h w ak ai al am an
else
j34 a f w
def De (b : LU) (a f : Int) (g : LX) : Nat → Int → LX → Option (LX)
| 0, _, _ => none
| q + 1, h, w => Kq (Sj (De b a f g q) b a f g) Ko b a f g h w
def Sd b a f g := De b a f g Au
def Ut (j18 : LU → Int → Int → LX → Int → LX → Option (LX)) (a f : Int) (g : LX) (b : LU) : Option (LX) :=
(mkI (Ac b) (0 : Int32)).bind fun ao =>
(Vf (geq (Ac b) (Ac b))).bind fun _ =>
j18 b a f g 0 ao
def Ir := Ut Sd
def Aqo : Option Int :=
some 0
def Ae7 := Aqo
def Db (j6 : Option Int) (bk4 : Int → Option Int) (a : LX) (b f : Int) : Option Int :=
if (By f (Ac a)) then
(Ak a f).bind fun g =>
if (By (Ad g : Int) (Av1 b)) then
some 16
else
(Ak a f).bind fun h =>
if (Qq (Ad h : Int) b) then
some 16
else
bk4 (Ae f 1)
else
j6
def Be (a : LX) (b : Int) : Nat → Int → Option Int
| 0, _ => none
| q + 1, f => Db Ae7 (Be a b q) a b f
def Afq a b := Be a b Au
def Gd (j4 : LX → Int → Int → Option Int) (k : Int) (a : LX) : Option Int :=
(Kw k).bind fun b =>
if (geq b 0) then
some 2
else
if (Du (Ac a) 4000) then
some 4
else
j4 a b 0
def Bg := Gd Afq
def Lm (g f : Int) (a : LX) : Option (LX × Int) :=
(Bg f a).bind fun b =>
if (Bn b 0) then
some (([] : LX), b)
else
some (a, 0)
abbrev Vq := Option (LX × Int)
def Dp (f a b : Int) (g : LX) (h : LU) : Vq :=
if (Bn f 0) then
some (([] : LX), f)
else
(
(
(Ir a b g h).bind fun m =>
(Lm a b m).bind fun (n, o) =>
some (n, o)))
def Fm := Dp
def Me (j2 : Int → Int → Int → LX → LU → Vq) (a b : Int) (g : LX) (p : Int) (k : LB) : Vq :=
(Jq a b p).bind fun y =>
if (Bn y 0) then
some (([] : LX), 2)
else
(Lh k).bind fun aa =>
if (Bn aa 0) then
(Lh k).bind fun ab =>
some (([] : LX), ab)
else
(Bc k 0 (Al (Ac k) 4)).bind fun ac =>
(Xr a p ac).bind fun (h, f) =>
j2 f a b g h
def It := Me Fm
def Aam (a b : Int) : Option (LB) :=
if (geq a 24) then
(Cv ([(Ad (Ig b 256) : UInt8), (Ad (Ig (Cn b 256) 256) : UInt8)] : LB) ([(Ad (Cn b 65536) : UInt8)] : LB)).bind fun g =>
some g
else
some ([(Ad (Ig b 256) : UInt8), (Ad (Ig (Cn b 256) 256) : UInt8)] : LB)
def Iq := Aam
def Aay (j2 : Int → Int → Option (LB)) (a : Int) (f : Int32) : Option (LB) :=
if (geq a 8) then
some ([(Ad (Ae (Ad f : Int) 128) : UInt8)] : LB)
else
if (By (Ad f : Int) 0) then
(Kw a).bind fun h =>
j2 a (Ae (Ad f : Int) (Bq 2 h))
else
j2 a (Ad f : Int)
def Aaf := Aay Iq
abbrev Eu := Option (LB × Int)
def Aqu (b : LB) : Eu :=
some (b, 0)
def Afl := Aqu
def Nw (j6 : LB → Eu) (bk4 : Int → LB → Eu) (f : Int) (a : LX) (g : Int) (b : LB) : Eu :=
if (By g (Ac a)) then
(Ak a g).bind fun h =>
(Aaf f h).bind fun k =>
(Cv b k).bind fun m =>
bk4 (Ae g 1) m
else
j6 b
def Gf (f : Int) (a : LX) : Nat → Int → LB → Eu
| 0, _, _ => none
| q + 1, g, b => Nw Afl (Gf f a q) f a g b
def Ae5 f a := Gf f a Au
def Wa (j4 : Int → LX → Int → LB → Eu) (f : Int) (a : LX) : Eu :=
(Bg f a).bind fun n =>
if (Bn n 0) then
(Bg f a).bind fun o =>
some (([] : LB), o)
else
j4 f a 0 ([] : LB)
def Uq := Wa Ae5
abbrev Wy := Option (LB × Int)
def Un (o : LX) (f : Int) (p g : LB) (h k a m n : Int) (u : LI) (b : Int) (v : LB) (w : Bool) (y : Int) : Wy :=
if (Bn f 0) then
some (([] : LB), f)
else
(Uq a o).bind fun (ac, ai) =>
some (ac, 0)
def Lw := Un
def Ls (j2 : LX → Int → LB → LB → Int → Int → Int → Int → Int → LI → Int → LB → Bool → Int → Wy) (p g : LB) (h k a m n : Int) (u : LI) (b : Int) (v : LB) (w : Bool) (y : Int) : Wy :=
(Ak u b).bind fun aa =>
if (By (Ac g) aa) then
some (([] : LB), (-1 : Int))
else
(Xs p).bind fun (ad, aj) =>
(Bc g 0 aa).bind fun ae =>
(Jo h k a m n).bind fun (af, ag) =>
(Dl h k a m n).bind fun ab =>
(Ak ab b).bind fun _ =>
(Ak ab b).bind fun ah =>
(It af ag ad ah ae).bind fun (o, f) =>
j2 o f p g h k a m n u b v w y
def Lp := Ls Lw
abbrev Lr := Option (LB × LB × Int × Int × Int × Int × Int × LI × Int × LB × Bool × Int × Int)
def Es (g a : LB) (m o p u v : Int) (b : LI) (f : Int) (n : LB) (h : Bool) (k : Int) : Lr :=
if (geq (Ac b) 0) then
(Lg a m o p u v g).bind fun (ag, ak, w) =>
if (Bn w 0) then
some (g, a, m, o, p, u, v, b, f, n, h, k, w)
else
(Bc a ag (Ac a)).bind fun al =>
some (g, al, m, o, p, u, v, ak, f, n, h, k, 0)
else
if (geq f (Ac b)) then
if (Du (Ac a) 4000) then
some (g, a, m, o, p, u, v, b, f, n, h, k, 38)
else
some (g, a, m, o, p, u, v, b, f, n, h, k, (-1 : Int))
else
(Lp g a m o p u v b f n h k).bind fun (am, y) =>
if (Bn y 0) then
some (g, a, m, o, p, u, v, b, f, n, h, k, y)
else
(Cv ([] : LB) n).bind fun an =>
(Cv an am).bind fun ah =>
(
(
(
(Ak b f).bind fun ad =>
(
(Bc a ad (Ac a)).bind fun ae =>
some (g, ae, m, o, p, u, v, b, (Ae f 1), ah, h, k, 0)))))
def Hm := Es
def Zk (g af : LB) (aa w ab ac y : Int) (b : LI) (f : Int) (n : LB) (h : Bool) (k : Int) : Lr :=
(He aa w ab ac y g).bind fun aw =>
some (g, af, aa, w, ab, ac, y, b, f, n, h, k, aw)
def Pw := Zk
def Cu (j3 : LB → LB → Int → Int → Int → Int → Int → LI → Int → LB → Bool → Int → Lr) (j4 : LB → LB → Int → Int → Int → Int → Int → LI → Int → LB → Bool → Int → Lr) (g a : LB) (m o p u v : Int) (b : LI) (f : Int) (n : LB) (h : Bool) (k : Int) : Lr :=
if (geq m 0) then
(Kf a).bind fun (ag, aa, w, ab, ac, y, ai) =>
if (Bn ai 0) then
some (g, a, m, o, p, u, v, b, f, n, h, k, ai)
else
(
(Bc a ag (Ac a)).bind fun af =>
(
j3 g af aa w ab ac y b f n h k))
else
j4 g a m o p u v b f n h k
def cadenzaref37_take := Cu Pw Hm
def Afg (o p : LB) (b f g h k : Int) (m : LI) (a : Int) (n : LB) (u : Bool) (v : Int) : Option Bool :=
(cadenzaref37_take o p b f g h k m a n u v).bind fun (af, ag, ah, ai, aj, ak, al, am, an, ao, ap, aq, w) =>
some (geq w (-1 : Int))
def Bw := Afg
def Wf (j4 : LB → LB → Int → Int → Int → Int → Int → LI → Int → LB → Bool → Int → Option Bool) (o p : LB) (b f g h k : Int) (m : LI) (a : Int) (n : LB) (u : Bool) (v : Int) : Option Bool :=
if (geq (Ac m) 0) then
if ((Bn a 0) || (Du (Ac n) 0)) then
some false
else
j4 o p b f g h k m a n u v
else
(Er m).bind fun y =>
if (Bn y 0) then
if ((true || (By a 0)) || (Du a (Ac m))) then
some false
else
(Pz b f g h k a).bind fun aa =>
if (Du (Ac n) aa) then
some false
else
j4 o p b f g h k m a n u v
else
(Dl b f g h k).bind fun ab =>
if (((Bn (Ac m) (Ac ab)) || (By a 0)) || (Du a (Ac m))) then
some false
else
(Pz b f g h k a).bind fun ac =>
if (Du (Ac n) ac) then
some false
else
j4 o p b f g h k m a n u v
def Wv := Wf Bw
def Vt (j4 : LB → LB → Int → Int → Int → Int → Int → LI → Int → LB → Bool → Int → Option Bool) (j3 : LB → LB → Int → Int → Int → Int → Int → LI → Int → LB → Bool → Int → Option Bool) (o p : LB) (b f g h k : Int) (m : LI) (a : Int) (n : LB) (u : Bool) (v : Int) : Option Bool :=
if ((geq b 0) && ((geq f 0) && ((geq g 0) && ((geq h 0) && ((geq k 0) && true))))) then
if (((Du (Ac m) 0) || (Bn a 0)) || (Du (Ac n) 0)) then
some false
else
j4 o p b f g h k m a n u v
else
(Hf b f g h k).bind fun ad =>
if (Bn ad 0) then
some false
else
(He b f g h k o).bind fun ae =>
if (Bn ae 0) then
some false
else
j3 o p b f g h k m a n u v
def Mw := Vt Bw Wv
def Qd (a : Int) : Option Bool :=
some (((((((geq a 4) || (geq a 12)) || (geq a 16)) || (geq a 22)) || (geq a 24)) || (geq a 26)) || (geq a 38))
def Jr (h k : LB) (m n o p u : Int) (v : LI) (f : Int) (g : LB) (b : Bool) (a : Int) : Option Int :=
if (Du (Ac h) 64) then
some 8
else
if ((geq a 0) && (!b)) then
(Mw h k m n o p u v f g b a).bind fun w =>
if (!w) then
some 8
else
some 0
else
if ((geq (Ac k) 0) && (geq (Ac v) 0)) then
if ((!(((geq m 0) && ((geq n 0) && ((geq o 0) && ((geq p 0) && ((geq u 0) && true))))) && (geq f 0))) || (Du (Ac g) 12000)) then
some 8
else
if (Bn a 0) then
if b then
some 8
else
(Qd a).bind fun y =>
if (!y) then
some 8
else
some 0
else
some 0
else
if ((!(false && (geq f 0))) || (Du (Ac g) 12000)) then
some 8
else
if (Bn a 0) then
if b then
some 8
else
(Qd a).bind fun aa =>
if (!aa) then
some 8
else
some 0
else
some 0
abbrev Aau := Option (LB × LB × Int × Int × Int × Int × Int × LI × Int × LB × Bool × Int)
def Ahc (f : LB) (g h k m n : Int) (o : LI) (p : Int) (u : Bool) (v : Int) (a b : LB) : Aau :=
(Cv ([] : LI) o).bind fun af =>
some (f, a, g, h, k, m, n, af, p, b, u, v)
def Ze := Ahc
def Pf (j2 : LB → Int → Int → Int → Int → Int → LI → Int → Bool → Int → LB → LB → Aau) (f w : LB) (g h k m n : Int) (o : LI) (p : Int) (y : LB) (u : Bool) (v : Int) : Aau :=
(
(
(
(Cv ([] : LB) w).bind fun a =>
(
(Cv ([] : LB) y).bind fun b =>
j2 f g h k m n o p u v a b))))
def Kh := Pf Ze
def Jz (f g : LB) (h k m n o : Int) (p : LI) (u : Int) (v : LB) (b : Bool) (a : Int) : Option Int :=
if (Bn a 0) then
some a
else
if b then
some 36
else
some 0
def Ij (a m : LB) (n o p u v : Int) (w : LI) (y : Int) (b : LB) (aa : Bool) (ab : Int) : Option (LB × LB × Int × Int × Int × Int × Int × LI × Int × LB × Bool × Int) :=
(
(
(Cv ([] : LB) b).bind fun f =>
some (a, ([] : LB), 0, 0, 0, 0, 0, ([] : LI), 0, f, false, 0)))
def Ln (b f : LB) (g h k m n : Int) (o : LI) (p : Int) (u : LB) (v : Bool) (w a : Int) : Option (LB × LB × Int × Int × Int × Int × Int × LI × Int × LB × Bool × Int × Int) :=
(Ij b f g h k m n o p u v w).bind fun (y, aa, ab, ac, ad, ae, af, ag, ah, ai, aj, ak) =>
some (y, aa, ab, ac, ad, ae, af, ag, ah, ai, aj, a, a)
abbrev Lj := Option (LB × LB × Int × Int × Int × Int × Int × LI × Int × LB × Bool × Int × Int)
def Yc (bk3 : LB → LB → Int → Int → Int → Int → Int → LI → Int → LB → Bool → Int → Lj) (a b : LB) (f g h k m : Int) (n : LI) (o : Int) (p : LB) (u : Bool) (v : Int) : Lj :=
(cadenzaref37_take a b f g h k m n o p u v).bind fun (bb, bc, bd, be, bf, bg, bh, bi, bj, bk, bl, bm, w) =>
if (geq w (-1 : Int)) then
(Kh a b f g h k m n o p u v).bind fun (bn, bp, bq, br, bs, bt, bu, bv, bw, bx, bz, da) =>
some (bn, bp, bq, br, bs, bt, bu, bv, bw, bx, bz, da, 0)
else
if (Bn w 0) then
(Ln a b f g h k m n o p u v w).bind fun (db, dc, dd, de, df, dg, dh, di, dj, dk, dl, dm, dn) =>
some (db, dc, dd, de, df, dg, dh, di, dj, dk, dl, dm, dn)
else
bk3 bb bc bd be bf bg bh bi bj bk bl bm
def Jw : Nat → LB → LB → Int → Int → Int → Int → Int → LI → Int → LB → Bool → Int → Lj
| 0, _, _, _, _, _, _, _, _, _, _, _, _ => none
| q + 1, a, b, f, g, h, k, m, n, o, p, u, v => Yc (Jw q) a b f g h k m n o p u v
def Ah1 := Jw Au
def Pe (j3 : LB → LB → Int → Int → Int → Int → Int → LI → Int → LB → Bool → Int → Lj) (al am : LB) (an ao ap aq ar : Int) (au : LI) (av : Int) (aw : LB) (ax : Bool) (ay : Int) (dp : LB) : Lj :=
(Jr al am an ao ap aq ar au av aw ax ay).bind fun az =>
if (Bn az 0) then
some (([] : LB), ([] : LB), 0, 0, 0, 0, 0, ([] : LI), 0, ([] : LB), false, 0, az)
else
(Kh al am an ao ap aq ar au av aw ax ay).bind fun (y, aa, ab, ac, ad, ae, af, ag, ah, ai, aj, ak) =>
(Jz y aa ab ac ad ae af ag ah ai aj ak).bind fun ba =>
if (Bn ba 0) then
some (y, aa, ab, ac, ad, ae, af, ag, ah, ai, aj, ak, ba)
else
(Cv aa dp).bind fun dq =>
j3 y dq ab ac ad ae af ag ah ai aj ak
def If := Pe Ah1
abbrev Fv := Option (Int × Int)
def Zc (a : LB) (f g : Int) (b h : LB) (k : Int) : Fv :=
if (By (Ac a) k) then
some (0, 24)
else
if (b == h) then
(Bc a (Al (Ac a) k) (Ae (Al (Ac a) k) 32)).bind fun o =>
(Px f g).bind fun p =>
if (o != p) then
some (0, 12)
else
some (k, 0)
else
some (k, 0)
def Oz := Zc
def Pn (j6 : LB → Int → Int → LB → LB → Int → Fv) (a : LB) (f g : Int) (b h : LB) : Fv :=
if (b == h) then
j6 a f g b h (Ae (Ae 32 f) 32)
else
j6 a f g b h (Ae 32 f)
def Oy := Pn Oz
def Pp (j5 : LB → Int → Int → LB → LB → Fv) (a : LB) : Fv :=
(Bc a (Al (Ac a) 32) (Ac a)).bind fun b =>
(Ku b).bind fun (f, g, n) =>
if (!n) then
some (0, 12)
else
(Di f g true).bind fun h =>
(
if (!(b == h)) then
(Di f g false).bind fun m =>
if (b != m) then
some (0, 12)
else
j5 a f g b h
else
j5 a f g b h)
def Zj := Pp Oy
def Yv (j4 : LB → Fv) (a : LB) : Fv :=
if (By (Ac a) 32) then
some (0, 6)
else
(Bc a (Al (Ac a) 32) (Ae (Al (Ac a) 32) 8)).bind fun u =>
if (u != ([65, 80, 69, 84, 65, 71, 69, 88] : LB)) then
some (0, 6)
else
j4 a
def Xv := Yv Zj
abbrev Eb := Option (Int × Int)
def Apr (a : Int) : Eb :=
some (a, 0)
def Aem := Apr
def Tw (j6 : Int → Eb) (bk4 : LB → Int → Eb) (b : LB) (a : Int) : Eb :=
if (Du (Ac b) 0) then
(Xv b).bind fun (g, h) =>
if (Bn h 0) then
some (0, 38)
else
(Bc b 0 (Al (Ac b) g)).bind fun k =>
bk4 k (Ae a 1)
else
j6 a
def Ht : Nat → LB → Int → Eb
| 0, _, _ => none
| q + 1, b, a => Tw Aem (Ht q) b a
def Aex := Ht Au
def Ui (j4 : LB → Int → Eb) (f : LB) : Eb :=
if (Du (Ac f) 4000) then
some (0, 38)
else
j4 f 0
def Rm := Ui Aex
def Rl (p a : LB) (g u v w y : Int) (b : LI) (h : Int) (aa : LB) (ab : Bool) (ac : Int) : Option Int :=
if (geq g 0) then
(Mu a).bind fun (k, f) =>
if (Bn f 0) then
some f
else
(Bc a k (Ac a)).bind fun m =>
(Pr m).bind fun (ad, ae, af, ag, ah, n) =>
some n
else
if ((geq (Ac b) 0) || (By h (Ac b))) then
some 24
else
(Rm a).bind fun (ai, o) =>
if (Bn o 0) then
some 38
else
some 0
def Ra (w y : LB) (aa ab ac ad ae : Int) (af : LI) (ag : Int) (ah : LB) (ai : Bool) (aj : Int) : Option (LB × LB × Int × Int × Int × Int × Int × LI × Int × LB × Bool × Int × Int) :=
(Jr w y aa ab ac ad ae af ag ah ai aj).bind fun ak =>
if (Bn ak 0) then
some (([] : LB), ([] : LB), 0, 0, 0, 0, 0, ([] : LI), 0, ([] : LB), false, 0, ak)
else
(Kh w y aa ab ac ad ae af ag ah ai aj).bind fun (a, b, f, g, h, k, m, n, o, p, u, v) =>
(Jz a b f g h k m n o p u v).bind fun al =>
if (Bn al 0) then
some (a, b, f, g, h, k, m, n, o, p, u, v, al)
else
(Rl a b f g h k m n o p u v).bind fun am =>
if (Bn am 0) then
(Ln a b f g h k m n o p u v am).bind fun (an, ao, ap, aq, ar, au, av, aw, ax, ay, az, ba, bb) =>
some (an, ao, ap, aq, ar, au, av, aw, ax, ay, az, ba, bb)
else
(Ij a b f g h k m n o p u v).bind fun (bc, bd, be, bf, bg, bh, bi, bj, bk, bl, bn, bm) =>
some (bc, bd, be, bf, bg, bh, bi, bj, bk, bl, true, bm, 0)
abbrev Ck := Option (LB × Int)
def Acb (h : LB) (k m n o p u : Int) (v : Bool) (w : Int) (y : LB) (aa : LI) (ab : LB) : Ck :=
(Ra h y k m n o p aa u ab v w).bind fun (bk, bl, bm, bn, ad, ae, af, bp, ag, ac, bq, br, au) =>
some (ac, au)
def Rv := Acb
def Tt (bk6 : Int → Int → LB → Int → Int → Int → Int → Int → Int → Bool → Int → LB → LI → LB → Ck) (b : LB) (a : LI) (ah g f : Int) (aj : LB) (ad ae af ak ag al : Int) (am : Bool) (an : Int) (ao : LB) (ac : LI) (ai : LB) : Ck :=
if (Bn ah 0) then
some (ai, ah)
else
(Ak a f).bind fun av =>
bk6 (Ae g av) (Ae f 1) aj ad ae af ak ag al am an ao ac ai
def Mg bk6 := Tt bk6
def Hu (j8 : Int → Int → Int → LB → Int → Int → Int → Int → Int → Int → Bool → Int → LB → LI → LB → Ck) (j10 : LB → Int → Int → Int → Int → Int → Int → Bool → Int → LB → LI → LB → Ck) (b : LB) (a : LI) (g f : Int) (h : LB) (k m n o p u : Int) (v : Bool) (w : Int) (y : LB) (aa : LI) (ab : LB) : Ck :=
if (By f (Ac a)) then
(Ak a f).bind fun ap =>
(
(Bc b g (Ae g ap)).bind fun aq =>
(If h y k m n o p aa u ab v w aq).bind fun (aj, ao, ad, ae, af, ak, ag, ac, al, ai, am, an, ah) =>
j8 ah g f aj ad ae af ak ag al am an ao ac ai)
else
j10 h k m n o p u v w y aa ab
def Fo (b : LB) (a : LI) : Nat → Int → Int → LB → Int → Int → Int → Int → Int → Int → Bool → Int → LB → LI → LB → Ck
| 0, _, _, _, _, _, _, _, _, _, _, _, _, _, _ => none
| q + 1, g, f, h, k, m, n, o, p, u, v, w, y, aa, ab => Hu (Mg (Fo b a q) b a) Rv b a g f h k m n o p u v w y aa ab
def Mf b a := Fo b a Au
def Hx (j6 : LB → LI → Int → Int → LB → Int → Int → Int → Int → Int → Int → Bool → Int → LB → LI → LB → Ck) (aw b : LB) (a : LI) : Ck :=
(Mk aw).bind fun (ax, ay, az, ba, bb, bc, bd, be, bf, bg, bh, bi, ar) =>
if (Bn ar 0) then
some (([] : LB), ar)
else
j6 b a 0 0 ax az ba bb bc bd bf bh bi ay be bg
def Cg := Hx Mf
def Rr (b a : LB) (f : UInt64) : Option (LB × Int) :=
if (Du (Ac a) 100000) then
some (([] : LB), 2)
else
(Rw (Ac a) f).bind fun g =>
(Cg b a g).bind fun (h, k) =>
some (h, k)
abbrev Cb := Option (Int × Int)
def Ayi (n : Int) : Cb :=
some (n, 0)
def Aql := Ayi
def Aqa (bk12 : Int → Int → Cb) (g b : LB) (f a : Int) (h : LB) (k m v : Int) : Cb :=
bk12 v (Ae m 1)
def Ou bk12 := Aqa bk12
def Aix (j20 : Int → Int → Cb) (g b : LB) (f a : Int) (h : LB) (k n o m : Int) (p : LI) : Cb :=
(Cv p ([(Al (Ac b) o)] : LI)).bind fun w =>
(Mi g b w).bind fun (aa, ab) =>
if (Bn ab k) then
j20 m (Ae n 1)
else
(Fc aa h).bind fun ac =>
if (!ac) then
j20 m (Ae n 1)
else
j20 m n
def Aie bk12 g b f a h k := Aix (Ou bk12 g b f a h k) g b f a h k
def Abp (j19 : Int → Int → Int → LI → Cb) (bk17 : Int → Int → LI → Cb) (g b : LB) (f a : Int) (h : LB) (k n m o u : Int) (p : LI) : Cb :=
if (By u a) then
(Vf (Qq u 0)).bind fun _ =>
if (geq (Hr (Aym m (GI.toZ u).toNat) 1) 1) then
(Cv p ([(Al (Ae (Ae f u) 1) o)] : LI)).bind fun w =>
bk17 (Ae (Ae f u) 1) (Ae u 1) w
else
bk17 o (Ae u 1) p
else
j19 n o m p
def Ox (bk12 : Int → Int → Cb) (g b : LB) (f a : Int) (h : LB) (k n m : Int) : Nat → Int → Int → LI → Cb
| 0, _, _, _ => none
| q + 1, o, u, p => Abp (Aie bk12 g b f a h k) (Ox bk12 g b f a h k n m q) g b f a h k n m o u p
def Aiw bk12 g b f a h k n m := Ox bk12 g b f a h k n m Au
def Aid (j17 : Int → Int → Int → Int → LI → Cb) (j22 : Int → Cb) (g b : LB) (f a : Int) (h : LB) (k n m : Int) : Cb :=
if (By m (Eh (1 : Int) (GI.toZ a).toNat)) then
j17 n m 0 0 ([] : LI)
else
j22 n
def Oo (g b : LB) (f a : Int) (h : LB) (k : Int) : Nat → Int → Int → Cb
| 0, _, _ => none
| q + 1, n, m => Aid (Aiw (Oo g b f a h k q) g b f a h k) Aql g b f a h k n m
def Aqk g b f a h k := Oo g b f a h k Au
def Akh (j12 : LB → LB → Int → Int → LB → Int → Int → Int → Cb) (g b : LB) (f a : Int) : Cb :=
if (Du (Ac b) 100000) then
some (0, 2)
else
(Ahv g).bind fun (ad, ae, af, ag, ah, ai, aj, ak, al, am, an, ao, y) =>
if (Bn y 0) then
some (0, y)
else
if (((((By a 0) || (Du a 8)) || (By f 0)) || (Du f (Ac b))) || (Du a (Al (Ac b) f))) then
some (0, 2)
else
(Mi g b ([(Ac b)] : LI)).bind fun (h, k) =>
(Vf (Qq a 0)).bind fun _ =>
j12 g b f a h k 0 0
def Al5 := Akh Aqk
abbrev Ap := Option (Int × Int)
def Aqs (o : Int) : Ap :=
some (o, 0)
def Aff := Aqs
def Afo (bk18 : Int → Int → Ap) (g a : LB) (b f h m : Int) (k : LB) (n y : Int) : Ap :=
bk18 y (Ae n 1)
def Jg bk18 := Afo bk18
def Vz (j26 : Int → Int → Ap) (g a : LB) (b f h m : Int) (k : LB) (o n p : Int) (u : LI) : Ap :=
(Cv u ([(Al (Ac a) p)] : LI)).bind fun ac =>
(Cg g a ac).bind fun (aa, ad) =>
if ((Bn ad h) || (aa != k)) then
j26 n (Ae o 1)
else
j26 n o
def Wm bk18 g a b f h m k := Vz (Jg bk18 g a b f h m k) g a b f h m k
def Nn (j25 : Int → Int → Int → LI → Ap) (bk23 : Int → Int → LI → Ap) (g a : LB) (b f h m : Int) (k : LB) (o n p v : Int) (u : LI) : Ap :=
if (By v f) then
(Aaa (Ad n : UInt64) v).bind fun ae =>
if ae then
(Cv u ([(Al (Ae (Ae b v) 1) p)] : LI)).bind fun aa =>
bk23 (Ae (Ae b v) 1) (Ae v 1) aa
else
bk23 p (Ae v 1) u
else
j25 o n p u
def Gh (bk18 : Int → Int → Ap) (g a : LB) (b f h m : Int) (k : LB) (o n : Int) : Nat → Int → Int → LI → Ap
| 0, _, _, _ => none
| q + 1, p, v, u => Nn (Wm bk18 g a b f h m k) (Gh bk18 g a b f h m k o n q) g a b f h m k o n p v u
def Wp bk18 g a b f h m k o n := Gh bk18 g a b f h m k o n Au
def Xb (j23 : Int → Int → Int → Int → LI → Ap) (j28 : Int → Ap) (g a : LB) (b f h m : Int) (k : LB) (o n : Int) : Ap :=
if (By n m) then
j23 o n 0 0 ([] : LI)
else
j28 o
def Gc (g a : LB) (b f h m : Int) (k : LB) : Nat → Int → Int → Ap
| 0, _, _ => none
| q + 1, o, n => Xb (Wp (Gc g a b f h m k q) g a b f h m k) Aff g a b f h m k o n
def Xc g a b f h m k := Gc g a b f h m k Au
def Afr (j18 : LB → LB → Int → Int → Int → Int → LB → Int → Int → Ap) (g a : LB) (b f h m : Int) (k : LB) : Ap :=
j18 g a b f h m k 0 0
def Afi := Afr Xc
def Ns (j17 : LB → LB → Int → Int → Int → Int → LB → Ap) (bk15 : Int → Int → Ap) (g a : LB) (b f h : Int) (k : LB) (m w : Int) : Ap :=
if (By w f) then
bk15 (Bq m 2) (Ae w 1)
else
j17 g a b f h m k
def Ge (g a : LB) (b f h : Int) (k : LB) : Nat → Int → Int → Ap
| 0, _, _ => none
| q + 1, m, w => Ns Afi (Ge g a b f h k q) g a b f h k m w
def Wj g a b f h k := Ge g a b f h k Au
def Yk (j15 : LB → LB → Int → Int → Int → LB → Int → Int → Ap) (g a : LB) (b f : Int) : Ap :=
if (Du (Ac a) 100000) then
some (0, 2)
else
(Mk g).bind fun (ag, ah, ai, aj, ak, al, am, an, ao, ap, aq, ar, ab) =>
if (Bn ab 0) then
some (0, ab)
else
if (((((By f 0) || (Du f 8)) || (By b 0)) || (Du b (Ac a))) || (Du f (Al (Ac a) b))) then
some (0, 2)
else
(Rw (Ac a) 0).bind fun af =>
(Cg g a af).bind fun (k, h) =>
j15 g a b f h k 1 0
def Xi := Yk Wj
def Nd (a b : LB) (f : UInt64) (g h : Int) : Option Bool :=
(Ad9 b).bind fun k =>
if (k || (Du (Ac a) 100)) then
some true
else
(Agv a b f).bind fun (m, n) =>
(Rr a b f).bind fun (o, p) =>
(Al5 a b g h).bind fun (u, v) =>
(Xi a b g h).bind fun (w, y) =>
some ((((m == o) && (geq n p)) && (geq u w)) && (geq v y))
end Go.Pl
