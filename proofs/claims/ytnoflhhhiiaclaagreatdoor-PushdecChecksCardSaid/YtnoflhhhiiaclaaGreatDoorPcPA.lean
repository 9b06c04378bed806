/- A part of the proof of a statement of this seat (see the text that ends in Proof): PcPure. No conditions of its own. -/
import Derived.Test.YtnoflhhhiiaclaaGreatDoorPcBA
set_option linter.unusedVariables false
namespace Go.Pl
open Go Go.Lv
abbrev LB := List UInt8
abbrev LI := List Int
abbrev LX := List Int32
abbrev LU := List UInt32
abbrev LQ := List UInt64
def Rq (f g : LB) (h k m n o : Int) (b : LI) (p : Int) (a : LB) (u : Bool) (v : Int) : Option Bool :=
if ((Ga (Ac f) 100) || (Ga (Ac g) 5000)) then
some ((true || (Ga (Ac a) 12100)) || (Ga (Ac b) 1010))
else
some ((((Ga (Ac a) 5000) && (gle (Ac a) 12000)) || (Ga (Ac a) 12100)) || (Ga (Ac b) 1010))
def Amt (a : LB) : Option (LB × LB × Int × Int × Int × Int × Int × LI × Int × LB × Bool × Int × Int) :=
if (Ga (Ac a) 64) then
some (([] : LB), ([] : LB), 0, 0, 0, 0, 0, ([] : LI), 0, ([] : LB), false, 0, 2)
else
some (a, ([] : LB), 0, 0, 0, 0, 0, ([] : LI), 0, ([] : LB), false, 0, 0)
def Ach (a : LB) : Option (LB × LB × Int × Int × Int × Int × Int × LI × Int × LB × Bool × Int × Int) :=
if (Ga (Ac a) 64) then
some (([] : LB), ([] : LB), 0, 0, 0, 0, 0, ([] : LI), 0, ([] : LB), false, 0, 2)
else
some (a, ([] : LB), 0, 0, 0, 0, 0, ([] : LI), 0, ([] : LB), false, 0, 0)
def Vm (a : LB) : Option (LB) :=
(
(Gc ([] : LB) a).bind fun b =>
some b)
def Iy (a : LI) : Option (LI) :=
(
(Gc ([] : LI) a).bind fun b =>
some b)
def Abp (a b : LB) (f g h k m : Int) (n : LI) (o : Int) (p : LB) (u : Bool) (v : Int) : Option (LB × LB × Int × Int × Int × Int × Int × LI × Int × LB × Bool × Int) :=
(Vm b).bind fun w =>
(Vm p).bind fun y =>
(Iy n).bind fun aa =>
some (a, w, f, g, h, k, m, aa, o, y, u, v)
def Acg (b f a g h : Int) : Option Bool :=
some (((((((geq b 1) || (geq b 2)) && (Ga f 0)) && (gle f 6)) && (Ga g 0)) && (gle g 1048576)) && (Ga h 0))
def Kv : Int → Int → Int → Int → Int → Option Bool := Acg
def Wh (j2 : Int → Int → Int → Int → Int → Option Bool) (b f a g h : Int) : Option Bool :=
if (geq a 8) then
if (geq a 8) then
j2 b f a g h
else
some false
else
if (geq a 16) then
if (geq a 16) then
j2 b f a g h
else
some false
else
if (geq a 24) then
j2 b f a g h
else
some false
def Nu : Int → Int → Int → Int → Int → Option Bool := Wh Kv
def Zz (a : Int) : Option (Int × Int) :=
if ((Dg a 1) || (Ga a 1048576)) then
some (0, 2)
else
some ((Aoc 1 (Cw (Bo 256 a) 245)), 0)
def Xr (g b : Int) : Option (Int × Int) :=
(Zz g).bind fun (a, f) =>
if (Cm f 0) then
some (0, f)
else
if ((Dg b 1) || (Ga b 4000)) then
some (0, 2)
else
(Ut (Cm a 0)).bind fun _ =>
if (Ga (Cw (Ao (Af b a) 1) a) 1000) then
some (0, 4)
else
some ((Cw (Ao (Af b a) 1) a), 0)
def Aee (k a m f b : Int) : Option Bool :=
(Ut (Cm a 0)).bind fun _ =>
if (Ga b (Cw 4000 a)) then
some false
else
(Xr f b).bind fun (g, h) =>
some ((geq h 0) && (gle g 1000))
def Wn (a b f g h : Int) : Option Int :=
(Nu a b f g h).bind fun k =>
if (!k) then
some 8
else
(Aee a b f g h).bind fun m =>
if (!m) then
some 8
else
some 0
def Aej (a b : UInt64) : Option (UInt64 × UInt64) :=
some ((Af (Af (Bo (Cr a (GI.toZ (32 : UInt64)).toNat) (Cr b (GI.toZ (32 : UInt64)).toNat)) (Cr (Af (Bo (Cr a (GI.toZ (32 : UInt64)).toNat) (Ik b 4294967295)) (Cr (Bo (Ik a 4294967295) (Ik b 4294967295)) (GI.toZ (32 : UInt64)).toNat)) (GI.toZ (32 : UInt64)).toNat)) (Cr (Af (Ik (Af (Bo (Cr a (GI.toZ (32 : UInt64)).toNat) (Ik b 4294967295)) (Cr (Bo (Ik a 4294967295) (Ik b 4294967295)) (GI.toZ (32 : UInt64)).toNat)) 4294967295) (Bo (Ik a 4294967295) (Cr b (GI.toZ (32 : UInt64)).toNat))) (GI.toZ (32 : UInt64)).toNat)), (Bo a b))
def Ac0 (a b : UInt64) : Option (UInt64 × UInt64) :=
(Aej a b).bind fun (f, g) =>
some (f, g)
def Mm (a : LI) : Option (LI) :=
some a
def Hv : LI → Option (LI) := Mm
def Fu (j10 : LI → Option (LI)) (bk8 : Int → LI → Option (LI)) (b : Int) (a : LI) : Option (LI) :=
if (Dg b (Ac a)) then
(
(vwI (Ac a) b (Ac a)).bind fun _ =>
(vwI (Ac a) 0 b).bind fun _ =>
bk8 (Af b (Agx ((Ac a) - b) (Ajb a 0 (b - (0 : Int))).length)) (Tq a b ((Ac a) - b) (Ajb a 0 (b - (0 : Int)))))
else
j10 a
def Dw : Nat → Int → LI → Option (LI)
| 0, _, _ => none
| q + 1, b, a => Fu Hv (Dw q) b a
def Of : Int → LI → Option (LI) := Dw Bc
def Nw (j8 : Int → LI → Option (LI)) (f : LI) (g : UInt64) : Option (LI) :=
(mkI (Ad g : Int) (0 : Int)).bind fun k =>
(Ut (geq (Ad g : Int) (Ad g : Int))).bind fun _ =>
j8 (Agx (Ac k) f.length) (Av4 k f)
def Oc : LI → UInt64 → Option (LI) := Nw Of
def Nz (j7 : LI → UInt64 → Option (LI)) (f : LI) (h : Int) : Option (LI) :=
(Ac0 (Ad (Ac f) : UInt64) (Ad h : UInt64)).bind fun (m, g) =>
if ((Ga m 0) || (Ga g 9223372036854775807)) then
none
else
j7 f g
def Nx : LI → Int → Option (LI) := Nz Oc
def Nt (j6 : LI → Int → Option (LI)) (f : LI) (h : Int) : Option (LI) :=
if (Dg h 0) then
none
else
j6 f h
def Ma : LI → Int → Option (LI) := Nt Nx
def Ahl (f : LI) : Option (LI) :=
some f
def Wr : LI → Option (LI) := Ahl
def Fa (j16 : LI → Option (LI)) (bk14 : Int → LI → Option (LI)) (a : List LI) (g : Int) (f : LI) : Option (LI) :=
if (Dg g (Ac a)) then
(Aj a g).bind fun o =>
(Gc f o).bind fun p =>
bk14 (Af g 1) p
else
j16 f
def Dq (a : List LI) : Nat → Int → LI → Option (LI)
| 0, _, _ => none
| q + 1, g, f => Fa Wr (Dq a q) a g f
def Mg (a : List LI) : Int → LI → Option (LI) := Dq a Bc
def Ml (j14 : (List LI) → Int → LI → Option (LI)) (a : List LI) (k : LI) : Option (LI) :=
j14 a 0 k
def Hu : (List LI) → LI → Option (LI) := Ml Mg
def Mp (j13 : (List LI) → LI → Option (LI)) (b : Int) (a : List LI) : Option (LI) :=
if (Ga (Ao b (Ao (0 : Int) (0 : Int))) 0) then
(vwI 0 0 0).bind fun _ =>
(mkI (Ao b (Ao (0 : Int) (0 : Int))) (0 : Int)).bind fun u =>
(Gc ([] : LI) u).bind fun m =>
(vwI (Ac m) 0 0).bind fun _ =>
j13 a (Ajb m 0 ((0 : Int) - (0 : Int)))
else
j13 a ([] : LI)
def Mk : Int → (List LI) → Option (LI) := Mp Hu
def Mj (j12 : Int → (List LI) → Option (LI)) (a : List LI) (b : Int) : Option (LI) :=
if (Dg b 0) then
none
else
j12 b a
def Mo : (List LI) → Int → Option (LI) := Mj Mk
def Fy (j11 : (List LI) → Int → Option (LI)) (bk9 : Int → Int → Option (LI)) (a : List LI) (b h : Int) : Option (LI) :=
if (Dg h (Ac a)) then
(Aj a h).bind fun n =>
if (Dg (Af b (Ac n)) 0) then
none
else
bk9 (Af b (Ac n)) (Af h 1)
else
j11 a b
def Dv (a : List LI) : Nat → Int → Int → Option (LI)
| 0, _, _ => none
| q + 1, b, h => Fy Mo (Dv a q) a b h
def Om (a : List LI) : Int → Int → Option (LI) := Dv a Bc
def Oh (j9 : (List LI) → Int → Int → Option (LI)) (a : List LI) : Option (LI) :=
j9 a 0 0
def Lz : (List LI) → Option (LI) := Oh Om
def Agu (a b : LI) : Option (LI) :=
(Lz ([a, b] : List LI)).bind fun f =>
some f
def Aht (a b : Int) : Option (LI × Int) :=
(Xr a b).bind fun (f, g) =>
if (Cm g 0) then
some (([] : LI), g)
else
(Zz a).bind fun (h, n) =>
(Ma ([h] : LI) (Ao f 1)).bind fun k =>
(Agu k ([(Ao b (Bo (Ao f 1) h))] : LI)).bind fun m =>
some (m, 0)
def Ep (g h k a b : Int) : Option (LI × Int) :=
(Wn g h k a b).bind fun f =>
if (Cm f 0) then
some (([] : LI), f)
else
(Aht a b).bind fun (m, n) =>
some (m, n)
def Vc (a f g h k : Int) (b : LB) : Option Int :=
if ((b == ([] : LB)) != (geq a 1)) then
some 26
else
some 0
def Awz : Option Int :=
some 0
def Al8 : Option Int := Awz
def Aau (j6 : Option Int) (bk4 : Int → Int → Option Int) (a : LI) (f b : Int) : Option Int :=
if (Dg b (Ac a)) then
(Aj a b).bind fun g =>
if ((Dg g 5) || (Ga g f)) then
some 8
else
bk4 (Ao f g) (Af b 1)
else
j6
def Pw (a : LI) : Nat → Int → Int → Option Int
| 0, _, _ => none
| q + 1, f, b => Aau Al8 (Pw a q) a f b
def Agd (a : LI) : Int → Int → Option Int := Pw a Bc
def Zx (j4 : LI → Int → Int → Option Int) (a : LI) : Option Int :=
if ((geq (Ac a) 0) || (Ga (Ac a) 1000)) then
some 8
else
j4 a 100000 0
def Ql : LI → Option Int := Zx Agd
def Alu (w : Int) (o p : LB) (h b f k m : Int) (g : LI) (a : Int) (n : LB) (u : Bool) (v : Int) : Option Bool :=
some (gle (Ac n) w)
def Aen : Int → LB → LB → Int → Int → Int → Int → Int → LI → Int → LB → Bool → Int → Option Bool := Alu
def Xw (j8 : Int → LB → LB → Int → Int → Int → Int → Int → LI → Int → LB → Bool → Int → Option Bool) (bk6 : Int → Int → Option Bool) (y : LI) (o p : LB) (h b f k m : Int) (g : LI) (a : Int) (n : LB) (u : Bool) (v w aa : Int) : Option Bool :=
if (Dg aa (Ac y)) then
(Aj y aa).bind fun ac =>
bk6 (Af w (Cw (Bo (Bo ac b) f) 8)) (Af aa 1)
else
j8 w o p h b f k m g a n u v
def Ms (y : LI) (o p : LB) (h b f k m : Int) (g : LI) (a : Int) (n : LB) (u : Bool) (v : Int) : Nat → Int → Int → Option Bool
| 0, _, _ => none
| q + 1, w, aa => Xw Aen (Ms y o p h b f k m g a n u v q) y o p h b f k m g a n u v w aa
def Aeh (y : LI) (o p : LB) (h b f k m : Int) (g : LI) (a : Int) (n : LB) (u : Bool) (v : Int) : Int → Int → Option Bool := Ms y o p h b f k m g a n u v Bc
def Aek (j6 : LI → LB → LB → Int → Int → Int → Int → Int → LI → Int → LB → Bool → Int → Int → Int → Option Bool) (o p : LB) (h b f k m : Int) (g : LI) (a : Int) (n : LB) (u : Bool) (v : Int) (ab : LI) : Option Bool :=
if (geq (Ac g) 0) then
some ((geq a 0) && (geq (Ac n) 0))
else
(Ql g).bind fun ad =>
if ((((Cm ad 0) || (Cm (Ac g) (Ac ab))) || (Dg a 0)) || (Ga a (Ac ab))) then
some false
else
(Bs ab 0 a).bind fun y =>
j6 y o p h b f k m g a n u v 0 0
def Aeu : LB → LB → Int → Int → Int → Int → Int → LI → Int → LB → Bool → Int → LI → Option Bool := Aek Aeh
def Aef (j5 : LB → LB → Int → Int → Int → Int → Int → LI → Int → LB → Bool → Int → LI → Option Bool) (o p : LB) (h b f k m : Int) (g : LI) (a : Int) (n : LB) (u : Bool) (v : Int) : Option Bool :=
if ((geq h 0) && ((geq b 0) && ((geq f 0) && ((geq k 0) && ((geq m 0) && true))))) then
some (((geq (Ac g) 0) && (geq a 0)) && (geq (Ac n) 0))
else
(Ep h b f k m).bind fun (ab, ae) =>
if (Cm ae 0) then
some false
else
(Vc h b f k m o).bind fun af =>
if (Cm af 0) then
some false
else
j5 o p h b f k m g a n u v ab
def Wg : LB → LB → Int → Int → Int → Int → Int → LI → Int → LB → Bool → Int → Option Bool := Aef Aeu
def Kq (a b : LB) : Option Bool :=
some (a == b)
def Mr (b a : LB) : Option Bool :=
if (Sd (Ac b) (Ac a)) then
(Bs b 0 (Ac a)).bind fun f =>
(Kq f a).bind fun g =>
some g
else
some false
abbrev Eo := Option (Int × Int)
def Ar0 (b : Int) : Eo :=
some (b, 0)
def Ai8 : Int → Eo := Ar0
def Wl (j6 : Int → Eo) (bk4 : Int → Int → Eo) (a : LB) (b f : Int) : Eo :=
if (Dg f (Ac a)) then
(Aj a f).bind fun g =>
if (Ga g 127) then
some (0, 12)
else
bk4 (gor (Ff b (GI.toZ (7 : UInt64)).toNat) (Ad g : Int)) (Af f 1)
else
j6 b
def Ku (a : LB) : Nat → Int → Int → Eo
| 0, _, _ => none
| q + 1, b, f => Wl Ai8 (Ku a q) a b f
def Acw (a : LB) : Int → Int → Eo := Ku a Bc
def Acp (j4 : LB → Int → Int → Eo) (a : LB) : Eo :=
if (Cm (Ac a) 4) then
some (0, 2)
else
j4 a 0 0
def Ac8 : LB → Eo := Acp Acw
abbrev Cx := Option (Int × Int)
def All (a : LB) (b : UInt8) (h : Int) : Cx :=
if (Ga h 4000) then
some (0, 4)
else
if (Dg (Ac a) h) then
some (0, 24)
else
if (geq b 16) then
(Bs a (Ao h 10) h).bind fun k =>
(Bs k 0 3).bind fun u =>
if (u != ([51, 68, 73] : LB)) then
some (0, 12)
else
(Bs k 3 (Ac k)).bind fun v =>
(Bs a 3 10).bind fun w =>
(Kq v w).bind fun y =>
if (!y) then
some (0, 12)
else
some (h, 0)
else
some (h, 0)
def Yb : LB → UInt8 → Int → Cx := All
def Aem (j8 : LB → UInt8 → Int → Cx) (a : LB) (g : Int) (b : UInt8) : Cx :=
if (geq b 16) then
j8 a b (Af (Af g 10) 10)
else
j8 a b (Af g 10)
def Ya : LB → Int → UInt8 → Cx := Aem Yb
def Ae0 (j7 : LB → Int → UInt8 → Cx) (a : LB) (g : Int) (b : UInt8) (m : Bool) : Cx :=
if m then
some (0, 12)
else
j7 a g b
def Aes : LB → Int → UInt8 → Bool → Cx := Ae0 Ya
def Aet (j6 : LB → Int → UInt8 → Bool → Cx) (a : LB) (f b : UInt8) : Cx :=
(Bs a 6 10).bind fun aa =>
(Ac8 aa).bind fun (g, ab) =>
if (Cm ab 0) then
if true then
j6 a g b true
else
if (geq b 0) then
j6 a g b (!((Sd f 2) && (gle f 4)))
else
if (geq b 16) then
j6 a g b (!(geq f 4))
else
j6 a g b (!false)
else
(Aj a 4).bind fun ac =>
if (Cm ac 0) then
j6 a g b true
else
if (geq b 0) then
j6 a g b (!((Sd f 2) && (gle f 4)))
else
if (geq b 16) then
j6 a g b (!(geq f 4))
else
j6 a g b (!false)
def Ae1 : LB → UInt8 → UInt8 → Cx := Aet Aes
def Yc (j5 : LB → UInt8 → UInt8 → Cx) (a : LB) : Cx :=
(Mr a ([(73 : UInt8), (68 : UInt8), (51 : UInt8)] : LB)).bind fun n =>
if (!n) then
some (0, 6)
else
if (Dg (Ac a) 10) then
some (0, 24)
else
(Aj a 3).bind fun f =>
(Aj a 5).bind fun b =>
(
(
(
j5 a f b)))
def Aff : LB → Cx := Yc Ae1
abbrev Oa := Option (UInt64 × Int)
def Bc1 (b : UInt64) : Oa :=
some (b, 0)
def Ash : UInt64 → Oa := Bc1
def Aho (j6 : UInt64 → Oa) (bk4 : UInt64 → Int → Oa) (a : LB) (b : UInt64) (f : Int) : Oa :=
if (Dg f (Ac a)) then
(Aj a f).bind fun g =>
(Ut (Sd (Bo 8 f) 0)).bind fun _ =>
bk4 (gor b (Ff (Ad g : UInt64) (GI.toZ (Bo 8 f)).toNat)) (Af f 1)
else
j6 b
def Ze (a : LB) : Nat → UInt64 → Int → Oa
| 0, _, _ => none
| q + 1, b, f => Aho Ash (Ze a q) a b f
def Amr (a : LB) : UInt64 → Int → Oa := Ze a Bc
def Amh (j4 : LB → UInt64 → Int → Oa) (a : LB) : Oa :=
if ((Dg (Ac a) 1) || (Ga (Ac a) 8)) then
some (0, 2)
else
j4 a 0 0
def Anf : LB → Oa := Amh Amr
def Ajn (f : LB) (a b : Int) : Option (UInt64 × Int) :=
if (((Dg b 1) || (Ga b 8)) || (Dg a 0)) then
some (0, 2)
else
if (Ga a (Ao (Ac f) b)) then
some (0, 24)
else
(Bs f a (Af a b)).bind fun g =>
(Anf g).bind fun (h, k) =>
some (h, k)
def Ate (b : UInt64) (a : Int) : Option Bool :=
if (geq a 8) then
some true
else
(Ut (Sd (Bo 8 a) 0)).bind fun _ =>
some (geq (Cr b (GI.toZ (Bo 8 a)).toNat) 0)
abbrev Oi := Option (LB × Int)
def As1 (a : LB) : Oi :=
some (a, 0)
def Anb : LB → Oi := As1
def Ahv (j6 : LB → Oi) (bk4 : Int → LB → Oi) (f : UInt64) (g : LB) (b : Int) (a : LB) : Oi :=
if (Dg b (Ac g)) then
(Ut (Sd (Bo 8 b) 0)).bind fun _ =>
(Aj a b).bind fun _ =>
(Qk a b (Ad (Cr f (GI.toZ (Bo 8 b)).toNat) : UInt8)).bind fun k =>
bk4 (Af b 1) k
else
j6 a
def Za (f : UInt64) (g : LB) : Nat → Int → LB → Oi
| 0, _, _ => none
| q + 1, b, a => Ahv Anb (Za f g q) f g b a
def Ams (f : UInt64) (g : LB) : Int → LB → Oi := Za f g Bc
def Anc (j4 : UInt64 → LB → Int → LB → Oi) (f : UInt64) (h : Int) : Oi :=
if ((Dg h 1) || (Ga h 8)) then
some (([] : LB), 2)
else
(Ate f h).bind fun m =>
if (!m) then
some (([] : LB), 16)
else
(mkI h (0 : UInt8)).bind fun g =>
(Ut (geq h h)).bind fun _ =>
j4 f g 0 g
def Am0 : UInt64 → Int → Oi := Anc Ams
def Avc (g : LB) : Option (LB) :=
some g
def Apk : LB → Option (LB) := Avc
def Ak8 (j6 : LB → Option (LB)) (bk4 : Int → LB → Option (LB)) (a b : Int) (f : UInt64) (h : Int) (g : LB) : Option (LB) :=
if (Dg h (Ac ([(2000 : UInt64), (Ad (Af a 32) : UInt64), (Ad b : UInt64), f, (0 : UInt64), (0 : UInt64)] : LQ))) then
(Aj ([(2000 : UInt64), (Ad (Af a 32) : UInt64), (Ad b : UInt64), f, (0 : UInt64), (0 : UInt64)] : LQ) h).bind fun _ =>
(Aj ([(2000 : UInt64), (Ad (Af a 32) : UInt64), (Ad b : UInt64), f, (0 : UInt64), (0 : UInt64)] : LQ) h).bind fun k =>
(Am0 k 4).bind fun (m, o) =>
(Gc g m).bind fun n =>
bk4 (Af h 1) n
else
j6 g
def Yr (a b : Int) (f : UInt64) : Nat → Int → LB → Option (LB)
| 0, _, _ => none
| q + 1, h, g => Ak8 Apk (Yr a b f q) a b f h g
def Apn (a b : Int) (f : UInt64) : Int → LB → Option (LB) := Yr a b f Bc
def Apd (j4 : Int → Int → UInt64 → Int → LB → Option (LB)) (a b : Int) (f : UInt64) : Option (LB) :=
j4 a b f 0 ([(65 : UInt8), (80 : UInt8), (69 : UInt8), (84 : UInt8), (65 : UInt8), (71 : UInt8), (69 : UInt8), (88 : UInt8)] : LB)
def Ap4 : Int → Int → UInt64 → Option (LB) := Apd Apn
def An1 (b : LB) (g : UInt64) : Option (Int × Int × Bool) :=
(Ajn b 12 4).bind fun (a, m) =>
(Ajn b 16 4).bind fun (f, n) =>
if (((Dg a 32) || (Ga a 3032)) || (Ga f 1000)) then
some (0, 0, false)
else
(Ap4 (Ao (Ad a : Int) 32) (Ad f : Int) g).bind fun h =>
(Kq b h).bind fun k =>
some ((Ao (Ad a : Int) 32), (Ad f : Int), k)
def An4 (a : LB) : Option (Int × Int) :=
(Mr a ([(65 : UInt8), (80 : UInt8), (69 : UInt8), (84 : UInt8), (65 : UInt8), (71 : UInt8), (69 : UInt8), (88 : UInt8)] : LB)).bind fun f =>
if (!f) then
some (0, 6)
else
if (Dg (Ac a) 32) then
some (0, 24)
else
(Bs a 0 32).bind fun g =>
(An1 g 2684354560).bind fun (b, h, k) =>
if (!k) then
some (0, 12)
else
if (Dg (Ac a) (Af b 64)) then
some (0, 24)
else
(Bs a (Ao (Af b 64) 32) (Af b 64)).bind fun m =>
(Ap4 b h 2147483648).bind fun n =>
(Kq m n).bind fun o =>
if (!o) then
some (0, 12)
else
some ((Af b 64), 0)
def Uz (a : LB) : Option (Int × Int) :=
(Aff a).bind fun (f, b) =>
if (Cm b 6) then
some (f, b)
else
(An4 a).bind fun (g, h) =>
some (g, h)
def Sg (b : List UInt8) : Nat → Int → Option (Int × Int)
  | 0, _ => none
  | q + 1, x => Option.bind (Bs b x (Ac b)) fun s => Option.bind (Uz s) fun r =>
    if geq r.2 (6 : Int) = true then some (x, 0)
    else if (geq r.2 (0 : Int) && Ga (Af x r.1) (4000 : Int)) = true then some (0, 4)
    else if Cm r.2 (0 : Int) = true then some (0, r.2)
    else Sg b q (Af x r.1)
def Qm (b : List UInt8) : Option (Int × Int) := Sg b Bc 0
def Aq (a : Int) : Option (Bool × Int) :=
some (false, a)
def Et (b a : LB) : Option Bool :=
if (Sd (Ac b) (Ac a)) then
(Bs b 0 (Ac a)).bind fun f =>
some (f == a)
else
some false
def Hb (a b : LB) : Option Bool :=
(Et a b).bind fun f =>
some f
def As8 : Option Bool :=
some false
def Alx : Option Bool := As8
def Sa (j6 : Option Bool) (bk4 : Int → Option Bool) (a : LB) (b : Int) : Option Bool :=
if (Dg b 2) then
(Aj ([([73, 68, 51] : LB), ([65, 80, 69, 84, 65, 71, 69, 88] : LB)] : List LB) b).bind fun f =>
if (Dg (Ac a) (Ac f)) then
(Hb f a).bind fun g =>
if g then
some true
else
bk4 (Af b 1)
else
bk4 (Af b 1)
else
j6
def Hp (a : LB) : Nat → Int → Option Bool
| 0, _ => none
| q + 1, b => Sa Alx (Hp a q) a b
def Aew (a : LB) : Int → Option Bool := Hp a Bc
def Aeg (j4 : LB → Int → Option Bool) (a : LB) : Option Bool :=
j4 a 0
def Wi : LB → Option Bool := Aeg Aew
abbrev As := Option (UInt32 × Int)
def Amo (h : UInt32) : As :=
some (h, 0)
def Ag0 : UInt32 → As := Amo
def Aan (j30 : UInt32 → As) (bk28 : UInt32 → Int → As) (a : LB) (b : LU) (h : UInt32) (m : Int) : As :=
if (Dg m (Ac a)) then
(Aj a m).bind fun p =>
(Aj b (GI.toZ (Xj (Ad h : UInt8) p))).bind fun _ =>
(Aj b (GI.toZ (Xj (Ad h : UInt8) p))).bind fun u =>
bk28 (Xj (Cr h (GI.toZ (8 : UInt64)).toNat) u) (Af m 1)
else
j30 h
def Pz (a : LB) (b : LU) : Nat → UInt32 → Int → As
| 0, _, _ => none
| q + 1, h, m => Aan Ag0 (Pz a b q) a b h m
def Ag6 (a : LB) (b : LU) : UInt32 → Int → As := Pz a b Bc
def Ahb (j28 : LB → LU → UInt32 → Int → As) (f : UInt32) (a : LB) (b : LU) : As :=
j28 a b f 0
def Agl : UInt32 → LB → LU → As := Ahb Ag6
def Aha (j27 : UInt32 → LB → LU → As) (f : UInt32) (a : LB) (b : LU) : As :=
j27 f a b
def Abh : UInt32 → LB → LU → As := Aha Agl
def Am5 (bk16 : Int → LU → As) (f : UInt32) (a : LB) (g : Int) (o : LU) : As :=
bk16 (Af g 1) o
def Agj (bk16 : Int → LU → As) : UInt32 → LB → Int → LU → As := Am5 bk16
def Agp (j24 : Int → LU → As) (f : UInt32) (a : LB) (g : Int) (k : UInt32) (b : LU) : As :=
(Aj b g).bind fun _ =>
(Qk b g k).bind fun o =>
j24 g o
def Abb (bk16 : Int → LU → As) (f : UInt32) (a : LB) : Int → UInt32 → LU → As := Agp (Agj bk16 f a) f a
def Aai (j23 : Int → UInt32 → LU → As) (bk21 : UInt32 → Int → As) (f : UInt32) (a : LB) (g : Int) (b : LU) (k : UInt32) (n : Int) : As :=
if (Dg n 8) then
bk21 (Xj (Cr k (GI.toZ (1 : UInt64)).toNat) (Bo 3988292384 (Ik k 1))) (Af n 1)
else
j23 g k b
def Qb (bk16 : Int → LU → As) (f : UInt32) (a : LB) (g : Int) (b : LU) : Nat → UInt32 → Int → As
| 0, _, _ => none
| q + 1, k, n => Aai (Abb bk16 f a) (Qb bk16 f a g b q) f a g b k n
def Af7 (bk16 : Int → LU → As) (f : UInt32) (a : LB) (g : Int) (b : LU) : UInt32 → Int → As := Qb bk16 f a g b Bc
def Aaj (j21 : Int → LU → UInt32 → Int → As) (j26 : UInt32 → LB → LU → As) (f : UInt32) (a : LB) (g : Int) (b : LU) : As :=
if (Dg g 256) then
j21 g b (Ad g : UInt32) 0
else
j26 f a b
def Le (f : UInt32) (a : LB) : Nat → Int → LU → As
| 0, _, _ => none
| q + 1, g, b => Aaj (Af7 (Le f a q) f a) Abh f a g b
def Agn (f : UInt32) (a : LB) : Int → LU → As := Le f a Bc
def Aic (j16 : UInt32 → LB → Int → LU → As) (f : UInt32) (a : LB) : As :=
if (Ga (Ac a) 100000) then
some (0, 4)
else
j16 f a 0 (List.replicate 256 (0 : UInt32))
def Ald : UInt32 → LB → As := Aic Agn
def Afz (b : LB) : Option (UInt32 × Int) :=
(Ald 4294967295 b).bind fun (f, a) =>
if (Cm a 0) then
some (0, a)
else
some ((Avx f), 0)
abbrev Gu := Option (Int × Int × Int × Int × Int × Int)
def Amb (a : LI) : Gu :=
(Aj a 0).bind fun _ =>
(Aj a 0).bind fun h =>
(Aj a 1).bind fun _ =>
(Aj a 1).bind fun k =>
(Aj a 2).bind fun _ =>
(Aj a 2).bind fun m =>
(Aj a 3).bind fun _ =>
(Aj a 3).bind fun n =>
(Aj a 4).bind fun _ =>
(Aj a 4).bind fun o =>
(Nu h k m n o).bind fun p =>
if (!p) then
some (0, 0, 0, 0, 0, 12)
else
(Aee h k m n o).bind fun u =>
if (!u) then
some (0, 0, 0, 0, 0, 4)
else
some (h, k, m, n, o, 0)
def Abj : LI → Gu := Amb
def Aag (j6 : LI → Gu) (bk4 : Int → Int → LI → Gu) (b : LB) (g f : Int) (a : LI) : Gu :=
if (Dg f 5) then
(Aj ([(2 : Int), (2 : Int), (2 : Int), (4 : Int), (4 : Int)] : LI) f).bind fun h =>
(Ajn b g h).bind fun (v, ae) =>
(Aj a f).bind fun _ =>
(Qk a f (Ad v : Int)).bind fun w =>
bk4 (Af g h) (Af f 1) w
else
j6 a
def Li (b : LB) : Nat → Int → Int → LI → Gu
| 0, _, _, _ => none
| q + 1, g, f, a => Aag Abj (Li b q) b g f a
def Abd (b : LB) : Int → Int → LI → Gu := Li b Bc
def Ag7 (j4 : LB → Int → Int → LI → Gu) (b : LB) : Gu :=
(Bs b 0 (Gt 4 (Ac b))).bind fun y =>
(Hb ([84, 84, 65, 49] : LB) y).bind fun aa =>
if (!aa) then
some (0, 0, 0, 0, 0, 12)
else
if (Dg (Ac b) 22) then
some (0, 0, 0, 0, 0, 24)
else
(Ajn b 18 4).bind fun (ab, af) =>
(Bs b 0 18).bind fun ac =>
(Afz ac).bind fun (ad, ag) =>
if (Cm (Ad ad : UInt64) ab) then
some (0, 0, 0, 0, 0, 22)
else
j4 b 4 0 (List.replicate 5 (0 : Int))
def Yy : LB → Gu := Ag7 Abd
abbrev Ar := Option (UInt64 × Int)
def Al6 (h : UInt64) : Ar :=
some (h, 0)
def Ag2 : UInt64 → Ar := Al6
def Agb (j30 : UInt64 → Ar) (h b : UInt64) (a : LB) (f : LQ) : Ar :=
j30 h
def Ahe : UInt64 → UInt64 → LB → LQ → Ar := Agb Ag2
def Aaq (j29 : UInt64 → UInt64 → LB → LQ → Ar) (bk27 : UInt64 → Int → Ar) (a : LB) (b : UInt64) (f : LQ) (h : UInt64) (m : Int) : Ar :=
if (Dg m (Ac a)) then
(Aj a m).bind fun p =>
Option.bind (Aj f (GI.toZ (Xj (Ad (Cr h (GI.toZ (56 : UInt64)).toNat) : UInt8) p))) fun _ =>
Option.bind (Aj f (GI.toZ (Xj (Ad (Cr h (GI.toZ (56 : UInt64)).toNat) : UInt8) p))) fun u =>
bk27 (Xj (Ff h (GI.toZ (8 : UInt64)).toNat) u) (Af m 1)
else
j29 h b a f
def Qi (a : LB) (b : UInt64) (f : LQ) : Nat → UInt64 → Int → Ar
| 0, _, _ => none
| q + 1, h, m => Aaq Ahe (Qi a b f q) a b f h m
def Af4 (a : LB) (b : UInt64) (f : LQ) : UInt64 → Int → Ar := Qi a b f Bc
def Af3 (j27 : LB → UInt64 → LQ → UInt64 → Int → Ar) (b : UInt64) (a : LB) (f : LQ) : Ar :=
j27 a b f b 0
def Aae : UInt64 → LB → LQ → Ar := Af3 Af4
def Anl (bk16 : Int → LQ → Ar) (b : UInt64) (a : LB) (g : Int) (o : LQ) : Ar :=
bk16 (Af g 1) o
def Agt (bk16 : Int → LQ → Ar) : UInt64 → LB → Int → LQ → Ar := Anl bk16
def Ago (j24 : Int → LQ → Ar) (b : UInt64) (a : LB) (g : Int) (k : UInt64) (f : LQ) : Ar :=
(Aj f g).bind fun _ =>
(Qk f g k).bind fun o =>
j24 g o
def Aaf (bk16 : Int → LQ → Ar) (b : UInt64) (a : LB) : Int → UInt64 → LQ → Ar := Ago (Agt bk16 b a) b a
def Zu (j23 : Int → UInt64 → LQ → Ar) (bk21 : UInt64 → Int → Ar) (b : UInt64) (a : LB) (g : Int) (f : LQ) (k : UInt64) (n : Int) : Ar :=
if (Dg n 8) then
bk21 (Xj (Ff k (GI.toZ (1 : UInt64)).toNat) (Bo 4823603603198064275 (Cr k (GI.toZ (63 : UInt64)).toNat))) (Af n 1)
else
j23 g k f
def Ps (bk16 : Int → LQ → Ar) (b : UInt64) (a : LB) (g : Int) (f : LQ) : Nat → UInt64 → Int → Ar
| 0, _, _ => none
| q + 1, k, n => Zu (Aaf bk16 b a) (Ps bk16 b a g f q) b a g f k n
def Ags (bk16 : Int → LQ → Ar) (b : UInt64) (a : LB) (g : Int) (f : LQ) : UInt64 → Int → Ar := Ps bk16 b a g f Bc
def Aax (j21 : Int → LQ → UInt64 → Int → Ar) (j26 : UInt64 → LB → LQ → Ar) (b : UInt64) (a : LB) (g : Int) (f : LQ) : Ar :=
if (Dg g 256) then
j21 g f (Ff (Ad g : UInt64) (GI.toZ (56 : UInt64)).toNat) 0
else
j26 b a f
def La (b : UInt64) (a : LB) : Nat → Int → LQ → Ar
| 0, _, _ => none
| q + 1, g, f => Aax (Ags (La b a q) b a) Aae b a g f
def Agk (b : UInt64) (a : LB) : Int → LQ → Ar := La b a Bc
def Ait (j16 : UInt64 → LB → Int → LQ → Ar) (b : UInt64) (a : LB) : Ar :=
if (Ga (Ac a) 100000) then
some (0, 4)
else
j16 b a 0 (List.replicate 256 (0 : UInt64))
def Ak1 : UInt64 → LB → Ar := Ait Agk
def Ajw (a : LB) : Option (UInt64 × Int) :=
(Ak1 0 a).bind fun (b, f) =>
some (b, f)
def Arw (a : LB) : Option (UInt64 × Int) :=
if (Ga (Ac a) 64) then
some (0, 2)
else
(Ajw a).bind fun (b, f) =>
some (b, 0)
def Afs (b : LB) : Option (LB × Int) :=
(Arw b).bind fun (f, a) =>
if (Cm a 0) then
some (([] : LB), a)
else
(Am0 f 8).bind fun (g, h) =>
some (g, h)
def Afi (a f : LB) : Option (Bool × Int) :=
(Afs f).bind fun (b, g) =>
if ((Cm g 0) || (Cm (Ac a) (Ac b))) then
some (false, 2)
else
(Kq a b).bind fun h =>
some (h, 0)
abbrev Ir := Option (LI × Int)
def Aow (a : LI) : Ir :=
(Ql a).bind fun k =>
if (Cm k 0) then
some (([] : LI), 12)
else
some (a, 0)
def Ac4 : LI → Ir := Aow
def Ac9 (j6 : LI → Ir) (bk4 : Int → LI → Ir) (b : LB) (f : LI) (g : Int) (a : LI) : Ir :=
if (Dg g (Ac f)) then
(Ajn b (Bo 4 g) 4).bind fun (k, u) =>
(Aj a g).bind fun _ =>
(Qk a g (Ad k : Int)).bind fun m =>
bk4 (Af g 1) m
else
j6 a
def Sf (b : LB) (f : LI) : Nat → Int → LI → Ir
| 0, _, _ => none
| q + 1, g, a => Ac9 Ac4 (Sf b f q) b f g a
def Aiq (b : LB) (f : LI) : Int → LI → Ir := Sf b f Bc
def Aiw (j4 : LB → LI → Int → LI → Ir) (b : LB) (h : Int) : Ir :=
if ((Dg h 1) || (Ga h 1000)) then
some (([] : LI), 2)
else
if (Dg (Ac b) (Af (Bo 4 h) 4)) then
some (([] : LI), 24)
else
(Ajn b (Bo 4 h) 4).bind fun (n, v) =>
(Bs b 0 (Bo 4 h)).bind fun o =>
(Afz o).bind fun (p, w) =>
if (Cm (Ad p : UInt64) n) then
some (([] : LI), 22)
else
(mkI h (0 : Int)).bind fun f =>
(Ut (geq h h)).bind fun _ =>
j4 b f 0 f
def Akv : LB → Int → Ir := Aiw Aiq
def Bd4 (a : LX) : Option (LX) :=
some a
def Aw6 : LX → Option (LX) := Bd4
def Akh (j6 : LX → Option (LX)) (bk4 : Int → LX → Option (LX)) (f : UInt64) (b : Int) (a : LX) : Option (LX) :=
if (Dg b 8) then
(Ut (Sd (Bo 8 b) 0)).bind fun _ =>
(Aj a b).bind fun _ =>
(Qk a b (Ad (Ad (Cr f (GI.toZ (Bo 8 b)).toNat) : Int8) : Int32)).bind fun g =>
bk4 (Af b 1) g
else
j6 a
def Acv (f : UInt64) : Nat → Int → LX → Option (LX)
| 0, _, _ => none
| q + 1, b, a => Akh Aw6 (Acv f q) f b a
def Auj (f : UInt64) : Int → LX → Option (LX) := Acv f Bc
def Atw (j4 : UInt64 → Int → LX → Option (LX)) (f : UInt64) : Option (LX) :=
j4 f 0 (List.replicate 16 (0 : Int32))
def Bak : UInt64 → Option (LX) := Atw Auj
def Af0 (a : LB) : Option (LX × Int) :=
if (Ga (Ac a) 64) then
some (([(0 : Int32), (0 : Int32), (0 : Int32), (0 : Int32), (0 : Int32), (0 : Int32), (0 : Int32), (0 : Int32), (0 : Int32), (0 : Int32), (0 : Int32), (0 : Int32), (0 : Int32), (0 : Int32), (0 : Int32), (0 : Int32)] : LX), 2)
else
(Ajw a).bind fun (f, b) =>
if (Cm b 0) then
some (([(0 : Int32), (0 : Int32), (0 : Int32), (0 : Int32), (0 : Int32), (0 : Int32), (0 : Int32), (0 : Int32), (0 : Int32), (0 : Int32), (0 : Int32), (0 : Int32), (0 : Int32), (0 : Int32), (0 : Int32), (0 : Int32)] : LX), b)
else
(Bak f).bind fun g =>
some (g, 0)
def Aiy (f a b g h : Int) : Option (Int × Int) :=
some (a, b)
abbrev Xo := Option (Int32 × Int32 × Int)
def Awy (a : Int) (b : Bool) : Xo :=
if b then
(Ut (Sd (Ao a 1) 0)).bind fun _ =>
some ((Ap2 (Ff (1 : Int32) (GI.toZ (Ao a 1)).toNat)), (Ao (Ff (1 : Int32) (GI.toZ (Ao a 1)).toNat) 1), 0)
else
some (0, 0, 2)
def Ana : Int → Bool → Xo := Awy
def Amg (j2 : Int → Bool → Xo) (a : Int) : Xo :=
if (geq a 8) then
j2 a (geq a 8)
else
if (geq a 16) then
j2 a (geq a 16)
else
j2 a (geq a 24)
def Adn : Int → Xo := Amg Ana
def Ac6 (a b : Int) : Option Int :=
(Adn b).bind fun (g, h, f) =>
if (((Cm f 0) || (Dg a 1)) || (Ga a 6)) then
some 2
else
some 0
def Aak (a : LB) : Option (LB × Int) :=
if (Dg (Ac a) 5) then
some (([] : LB), 24)
else
if (Ga (Ac a) 41254) then
some (([] : LB), 4)
else
(Bs a 0 (Ao (Ac a) 4)).bind fun f =>
(Afz f).bind fun (g, b) =>
if (Cm b 0) then
some (([] : LB), b)
else
(Bs a (Ao (Ac a) 4) (Ac a)).bind fun h =>
(Anf h).bind fun (k, m) =>
if ((Cm m 0) || (Cm k (Ad g : UInt64))) then
some (([] : LB), 22)
else
(Bs a 0 (Ao (Ac a) 4)).bind fun n =>
some (n, 0)
def Hg (a : LB) : Option (LB) :=
(
(Gc ([] : LB) a).bind fun b =>
some b)
def Az3 (a : LB) : Option (LB × Int × Int) :=
if (Ga (Ac a) 41250) then
some (([] : LB), 0, 4)
else
(Hg a).bind fun b =>
some (b, (Bo 8 (Ac a)), 0)
def Aw9 : Option (Int × Int × UInt64 × UInt64) :=
some (10, 10, 16384, 16384)
def Qp (b : LB) (a : Int) : Option Int :=
if (((Dg a 0) || (Ga a 330000)) || (Cm (Ac b) (Bam (Af a 7) (GI.toZ (3 : UInt64)).toNat))) then
some 8
else
if (Ga (Ik a 7) 0) then
(Aj b (Ao (Ac b) 1)).bind fun f =>
(Ut (Sd (Ik a 7) 0)).bind fun _ =>
if (Cm (Cr f (GI.toZ (Ik a 7)).toNat) 0) then
some 8
else
some 0
else
some 0
def Bcd (g : UInt64) : Option UInt64 :=
some g
def Asq : UInt64 → Option UInt64 := Bcd
def Al9 (j6 : UInt64 → Option UInt64) (bk4 : UInt64 → Int → Option UInt64) (b f : Int) (h : LB) (k : Int) (g : UInt64) (a : Int) : Option UInt64 :=
if (Dg a f) then
(Aj h (Bam (Af b a) (GI.toZ (3 : UInt64)).toNat)).bind fun m =>
(Ut (Sd (Ik (Af b a) 7) 0)).bind fun _ =>
(Ut (Sd (Gt (Ao f a) (Ao 8 (Ik (Af b a) 7))) 0)).bind fun _ =>
(Ut (Sd a 0)).bind fun _ =>
bk4 (gor g (Ff (Ad (Ik (Cr m (GI.toZ (Ik (Af b a) 7)).toNat) (Ao (Ff (1 : UInt8) (GI.toZ (Gt (Ao f a) (Ao 8 (Ik (Af b a) 7)))).toNat) 1)) : UInt64) (GI.toZ a).toNat)) (Af a (Gt (Ao f a) (Ao 8 (Ik (Af b a) 7))))
else
j6 g
def Ad6 (b f : Int) (h : LB) (k : Int) : Nat → UInt64 → Int → Option UInt64
| 0, _, _ => none
| q + 1, g, a => Al9 Asq (Ad6 b f h k q) b f h k g a
def Asx (b f : Int) (h : LB) (k : Int) : UInt64 → Int → Option UInt64 := Ad6 b f h k Bc
def Asf (j4 : Int → Int → LB → Int → UInt64 → Int → Option UInt64) (h : LB) (k b f : Int) : Option UInt64 :=
j4 b f h k 0 0
def Aqv : LB → Int → Int → Int → Option UInt64 := Asf Asx
abbrev Bl := Option (LB × Int × Int)
def Aqh (o : Int) (p : LB) : Bl :=
some (p, o, 0)
def Akk : Int → LB → Bl := Aqh
def Aqp (bk27 : Int → Int → LB → Bl) (a : Int) (g : LB) (f b h : Int) (u : LB) : Bl :=
bk27 (Af b 64) h u
def Afh (bk27 : Int → Int → LB → Bl) : Int → LB → Int → Int → Int → LB → Bl := Aqp bk27
def Ap9 (bk44 : UInt64 → Int → Int → LB → Bl) (a b : Int) (g : LB) (f : Int) (k n : UInt64) (m h : Int) (w : LB) : Bl :=
(Ut (Sd (Gt m (Ao 8 (Ik h 7))) 0)).bind fun _ =>
bk44 (Cr n (GI.toZ (Gt m (Ao 8 (Ik h 7)))).toNat) (Ao m (Gt m (Ao 8 (Ik h 7)))) (Af h (Gt m (Ao 8 (Ik h 7)))) w
def Aj3 (bk44 : UInt64 → Int → Int → LB → Bl) : Int → Int → LB → Int → UInt64 → UInt64 → Int → Int → LB → Bl := Ap9 bk44
def Ak4 (j48 : UInt64 → Int → Int → LB → Bl) (a b : Int) (g : LB) (f : Int) (k n : UInt64) (m h : Int) (v : LB) : Bl :=
(Aj v (Ao (Ac v) 1)).bind fun _ =>
(Ut (Sd (Gt m (Ao 8 (Ik h 7))) 0)).bind fun _ =>
(Ut (Sd (Ik h 7) 0)).bind fun _ =>
(Aj v (Ao (Ac v) 1)).bind fun aa =>
(Aj v (Ao (Ac v) 1)).bind fun _ =>
Option.bind (Qk v (Ao (Ac v) 1) (gor aa (Ff (Ad (Ik n (Ao (Ff (1 : UInt64) (GI.toZ (Gt m (Ao 8 (Ik h 7)))).toNat) 1)) : UInt8) (GI.toZ (Ik h 7)).toNat))) fun w =>
j48 n m h w
def Afq (bk44 : UInt64 → Int → Int → LB → Bl) (a b : Int) (g : LB) (f : Int) (k : UInt64) : UInt64 → Int → Int → LB → Bl := Ak4 (Aj3 bk44 a b g f k) a b g f k
def Afg (j47 : UInt64 → Int → Int → LB → Bl) (j50 : Int → Int → LB → Bl) (a : Int) (g : LB) (f b : Int) (k n : UInt64) (m h : Int) (u : LB) : Bl :=
if (Ga m 0) then
if (geq (Ik h 7) 0) then
(Gc u ([(0 : UInt8)] : LB)).bind fun ab =>
j47 n m h ab
else
j47 n m h u
else
j50 b h u
def Nh (bk27 : Int → Int → LB → Bl) (a : Int) (g : LB) (f b : Int) (k : UInt64) : Nat → UInt64 → Int → Int → LB → Bl
| 0, _, _, _, _ => none
| q + 1, n, m, h, u => Afg (Afq (Nh bk27 a g f b k q) a b g f k) (Afh bk27 a g f) a g f b k n m h u
def Akt (bk27 : Int → Int → LB → Bl) (a : Int) (g : LB) (f b : Int) (k : UInt64) : UInt64 → Int → Int → LB → Bl := Nh bk27 a g f b k Bc
def Alf (j44 : Int → UInt64 → UInt64 → Int → Int → LB → Bl) (j52 : Int → LB → Bl) (a : Int) (g : LB) (f b o : Int) (p : LB) : Bl :=
if (Dg b a) then
(Aqv g f b (Gt 64 (Ao a b))).bind fun k =>
j44 b k k (Gt 64 (Ao a b)) o p
else
j52 o p
def Wq (a : Int) (g : LB) (f : Int) : Nat → Int → Int → LB → Bl
| 0, _, _, _ => none
| q + 1, b, o, p => Alf (Akt (Wq a g f q) a g f) Akk a g f b o p
def Aj6 (a : Int) (g : LB) (f : Int) : Int → Int → LB → Bl := Wq a g f Bc
def Amk (j27 : Int → LB → Int → Int → Int → LB → Bl) (g : LB) (f y a : Int) : Bl :=
(Qp g f).bind fun ac =>
if (Cm ac 0) then
some (([] : LB), 0, 8)
else
if (((Dg y 0) || (Ga y a)) || (Ga a f)) then
some (([] : LB), 0, 2)
else
j27 a g f y 0 ([] : LB)
def Am1 : LB → Int → Int → Int → Bl := Amk Aj6
def Aor (a b : Int) (f g : UInt64) : Option Int :=
if (!((geq (Gt (Aoc a 0) 24) a) && ((geq (Gt (Aoc b 0) 24) b) && ((geq (Gt f 68719476735) f) && ((geq (Gt g 68719476735) g) && true))))) then
some 8
else
some 0
def Aiu : Int → Int → UInt64 → UInt64 → Option Int := Aor
def Ac1 (j4 : Int → Int → UInt64 → UInt64 → Option Int) (a b : Int) (f g : UInt64) : Option Int :=
(
(
j4 a b f g))
def Aii : Int → Int → UInt64 → UInt64 → Option Int := Ac1 Aiu
def Ac7 (j3 : Int → Int → UInt64 → UInt64 → Option Int) (a b : Int) (f g : UInt64) : Option Int :=
(
(
j3 a b f g))
def Alc : Int → Int → UInt64 → UInt64 → Option Int := Ac7 Aii
def Zs (g : LB) (b f a : Int) : Option (UInt64 × Int) :=
(Qp g b).bind fun h =>
if (Cm h 0) then
some (0, 8)
else
if (((Dg a 0) || (Ga a 64)) || (Dg f 0)) then
some (0, 2)
else
if (Ga f (Ao b a)) then
some (0, 24)
else
(Aqv g b f a).bind fun k =>
some (k, 0)
def Ez (a : UInt64) : Option Int :=
if (geq a 0) then
some 64
else
(Aj ([(0 : UInt8), (1 : UInt8), (56 : UInt8), (2 : UInt8), (57 : UInt8), (49 : UInt8), (28 : UInt8), (3 : UInt8), (61 : UInt8), (58 : UInt8), (42 : UInt8), (50 : UInt8), (38 : UInt8), (29 : UInt8), (17 : UInt8), (4 : UInt8), (62 : UInt8), (47 : UInt8), (59 : UInt8), (36 : UInt8), (45 : UInt8), (43 : UInt8), (51 : UInt8), (22 : UInt8), (53 : UInt8), (39 : UInt8), (33 : UInt8), (30 : UInt8), (24 : UInt8), (18 : UInt8), (12 : UInt8), (5 : UInt8), (63 : UInt8), (55 : UInt8), (48 : UInt8), (27 : UInt8), (60 : UInt8), (41 : UInt8), (37 : UInt8), (16 : UInt8), (46 : UInt8), (35 : UInt8), (44 : UInt8), (21 : UInt8), (52 : UInt8), (32 : UInt8), (23 : UInt8), (11 : UInt8), (54 : UInt8), (26 : UInt8), (40 : UInt8), (15 : UInt8), (34 : UInt8), (20 : UInt8), (31 : UInt8), (10 : UInt8), (25 : UInt8), (14 : UInt8), (19 : UInt8), (9 : UInt8), (13 : UInt8), (8 : UInt8), (7 : UInt8), (6 : UInt8)] : LB) (GI.toZ (Cr (Bo (Ik a (Ap2 a)) 285870213051353865) (GI.toZ (58 : UInt64)).toNat))).bind fun b =>
some (Ad b : Int)
abbrev Cy := Option (Int × Int × Int)
def Av1 : Cy :=
some (0, 0, 24)
def Amn : Cy := Av1
def Aot (j10 : Cy) : Cy :=
j10
def Aos : Cy := Aot Amn
def Ai2 (j9 : Cy) (f a : Int) : Cy :=
if (geq f 48) then
some (f, (Af 0 (Af a f)), 0)
else
j9
def Aia : Int → Int → Cy := Ai2 Aos
def Aix (j8 : Int → Int → Cy) (f b a : Int) : Cy :=
if (Dg f (Gt 48 (Ao b a))) then
some (f, (Af (Af (0 : Int) (1 : Int)) (Af a f)), 0)
else
j8 f a
def Aio : Int → Int → Int → Cy := Aix Aia
def Aig (j7 : Int → Int → Int → Cy) (h : Int) (k : UInt64) (a : Int) (g : LB) (b : Int) : Cy :=
if (Cm h 0) then
some (0, 0, h)
else
(Ez (Avx k)).bind fun f =>
j7 f b a
def Ais : Int → UInt64 → Int → LB → Int → Cy := Aig Aio
def Xm (j6 : Int → UInt64 → Int → LB → Int → Cy) (g : LB) (b a : Int) : Cy :=
(Qp g b).bind fun m =>
if (Cm m 0) then
some (0, 0, m)
else
if (Dg a 0) then
some (0, 0, 2)
else
if (Sd a b) then
some (0, 0, 24)
else
(
(
(Zs g b a (Gt 48 (Ao b a))).bind fun (k, h) =>
j6 h k a g b))
def Acl : LB → Int → Int → Cy := Xm Ais
def Aku (b : UInt32) (a : Int) : Option Bool :=
(Ut (Sd a 0)).bind fun _ =>
some (Sd (Cr b (GI.toZ a).toNat) 48)
abbrev Adc := Option (UInt32 × Int × Int)
def Alg (a b f : Int) (g : LB) (h k : Int) : Adc :=
(Zs g h b k).bind fun (m, n) =>
if (Cm n 0) then
some (0, 0, n)
else
if (Dg f 48) then
(Ut (Sd a 0)).bind fun _ =>
some ((gor (Ff (Ad f : UInt32) (GI.toZ a).toNat) (Ad m : UInt32)), (Af b k), 0)
else
(Aku (Ad m : UInt32) a).bind fun u =>
if (!u) then
some (0, 0, 12)
else
some ((Ad m : UInt32), (Af b k), 0)
def Afj : Int → Int → Int → LB → Int → Int → Adc := Alg
def Akb (j2 : Int → Int → Int → LB → Int → Int → Adc) (g : LB) (h v a : Int) : Adc :=
(Qp g h).bind fun o =>
if (Cm o 0) then
some (0, 0, o)
else
if ((Dg a 0) || (Ga a 24)) then
some (0, 0, 2)
else
(Acl g h v).bind fun (f, b, p) =>
if (Cm p 0) then
some (0, 0, p)
else
if (geq f 48) then
j2 a b f g h 32
else
j2 a b f g h a
def Anp : LB → Int → Int → Int → Adc := Akb Afj
def Alh (a f : Int) (g h : UInt64) (b : UInt32) : Option (Int × UInt32) :=
(Ut (Sd a 0)).bind fun _ =>
if (geq (Cr b (GI.toZ a).toNat) 0) then
some (0, b)
else
(Ut (Sd a 0)).bind fun _ =>
some (1, (Ao b (Ff (1 : UInt32) (GI.toZ a).toNat)))
abbrev Dl := Option (UInt32 × Int × Int × Int × UInt64 × UInt64 × Int)
def Aok (f : UInt32) (k w m : Int) (a n : UInt64) : Dl :=
some (f, k, w, m, (Af a (Ao (Ad f : UInt64) (Cr a (GI.toZ (4 : UInt64)).toNat))), n, 0)
def Ai4 : UInt32 → Int → Int → Int → UInt64 → UInt64 → Dl := Aok
def Akg (j10 : UInt32 → Int → Int → Int → UInt64 → UInt64 → Dl) (f : UInt32) (k m : Int) (a n : UInt64) (w : Int) : Dl :=
j10 f k w m a n
def Akm : UInt32 → Int → Int → UInt64 → UInt64 → Int → Dl := Akg Ai4
def Ak9 (j9 : UInt32 → Int → Int → UInt64 → UInt64 → Int → Dl) (f : UInt32) (k b : Int) (a : UInt64) (m : Int) (n : UInt64) : Dl :=
if (Ga b 0) then
(Ut (Sd b 0)).bind fun _ =>
if (Dg (Af a (Ao (Ad f : UInt64) (Cr a (GI.toZ (4 : UInt64)).toNat))) (Ff (16 : UInt64) (GI.toZ b).toNat)) then
j9 f k m a n (Ao b 1)
else
if (Dg b 24) then
(Ut (Sd b 0)).bind fun _ =>
if (Ga (Af a (Ao (Ad f : UInt64) (Cr a (GI.toZ (4 : UInt64)).toNat))) (Ff (32 : UInt64) (GI.toZ b).toNat)) then
j9 f k m a n (Af b 1)
else
j9 f k m a n b
else
j9 f k m a n b
else
if (Dg b 24) then
(Ut (Sd b 0)).bind fun _ =>
if (Ga (Af a (Ao (Ad f : UInt64) (Cr a (GI.toZ (4 : UInt64)).toNat))) (Ff (32 : UInt64) (GI.toZ b).toNat)) then
j9 f k m a n (Af b 1)
else
j9 f k m a n b
else
j9 f k m a n b
def Abs : UInt32 → Int → Int → UInt64 → Int → UInt64 → Dl := Ak9 Akm
def Aj4 (j8 : UInt32 → Int → Int → UInt64 → Int → UInt64 → Dl) (b h : Int) (a g : UInt64) (f : UInt32) (k : Int) : Dl :=
(Alh b h a g f).bind fun (ad, o) =>
if (geq ad 1) then
if (Ga h 0) then
(Ut (Sd h 0)).bind fun _ =>
if (Dg (Af g (Ao (Ad o : UInt64) (Cr g (GI.toZ (4 : UInt64)).toNat))) (Ff (16 : UInt64) (GI.toZ h).toNat)) then
j8 f k b a (Ao h 1) (Af g (Ao (Ad o : UInt64) (Cr g (GI.toZ (4 : UInt64)).toNat)))
else
if (Dg h 24) then
(Ut (Sd h 0)).bind fun _ =>
if (Ga (Af g (Ao (Ad o : UInt64) (Cr g (GI.toZ (4 : UInt64)).toNat))) (Ff (32 : UInt64) (GI.toZ h).toNat)) then
j8 f k b a (Af h 1) (Af g (Ao (Ad o : UInt64) (Cr g (GI.toZ (4 : UInt64)).toNat)))
else
j8 f k b a h (Af g (Ao (Ad o : UInt64) (Cr g (GI.toZ (4 : UInt64)).toNat)))
else
j8 f k b a h (Af g (Ao (Ad o : UInt64) (Cr g (GI.toZ (4 : UInt64)).toNat)))
else
if (Dg h 24) then
(Ut (Sd h 0)).bind fun _ =>
if (Ga (Af g (Ao (Ad o : UInt64) (Cr g (GI.toZ (4 : UInt64)).toNat))) (Ff (32 : UInt64) (GI.toZ h).toNat)) then
j8 f k b a (Af h 1) (Af g (Ao (Ad o : UInt64) (Cr g (GI.toZ (4 : UInt64)).toNat)))
else
j8 f k b a h (Af g (Ao (Ad o : UInt64) (Cr g (GI.toZ (4 : UInt64)).toNat)))
else
j8 f k b a h (Af g (Ao (Ad o : UInt64) (Cr g (GI.toZ (4 : UInt64)).toNat)))
else
j8 f k b a h g
def Afn : Int → Int → UInt64 → UInt64 → UInt32 → Int → Dl := Aj4 Abs
def Aki (j7 : Int → Int → UInt64 → UInt64 → UInt32 → Int → Dl) (p : Int) (u : LB) (v b h : Int) (a g : UInt64) : Dl :=
(Zs u v p 1).bind fun (ae, aa) =>
if (Cm aa 0) then
some (0, 0, 0, 0, 0, 0, aa)
else
if (geq ae 0) then
(Zs u v (Af p 1) b).bind fun (af, ab) =>
if (Cm ab 0) then
some (0, 0, 0, 0, 0, 0, ab)
else
j7 b h a g (Ad af : UInt32) (Af (Af p 1) b)
else
(Anp u v (Af p 1) h).bind fun (y, ag, ac) =>
if (Cm ac 0) then
some (0, 0, 0, 0, 0, 0, ac)
else
(Ut (Sd b 0)).bind fun _ =>
if (Dg (Af y (Ff (1 : UInt32) (GI.toZ b).toNat)) y) then
some (0, 0, 0, 0, 0, 0, 12)
else
j7 b h a g (Af y (Ff (1 : UInt32) (GI.toZ b).toNat)) ag
def Akj : Int → LB → Int → Int → Int → UInt64 → UInt64 → Dl := Aki Afn
def Aj2 (j6 : Int → LB → Int → Int → Int → UInt64 → UInt64 → Dl) (u : LB) (v p b h : Int) (a g : UInt64) : Dl :=
(Qp u v).bind fun ah =>
if (Cm ah 0) then
some (0, 0, 0, 0, 0, 0, 8)
else
(Alc b h a g).bind fun ai =>
if (Cm ai 0) then
some (0, 0, 0, 0, 0, 0, 8)
else
j6 p u v b h a g
def Aco : LB → Int → Int → Int → Int → UInt64 → UInt64 → Dl := Aj2 Akj
abbrev Ap := Option (LU × Int × Int)
def Ao7 (k : Int) (m : LU) : Ap :=
some (m, k, 0)
def Agg : Int → LU → Ap := Ao7
def Ahg (bk16 : Int → Int → (List (Int × Int × UInt64 × UInt64 × Unit)) → LU → Ap) (a f : Int) (g : LB) (b k v : Int) (w : UInt32) (h : Int) (ag : List (Int × Int × UInt64 × UInt64 × Unit)) (m : LU) : Ap :=
(Gc m ([w] : LU)).bind fun ak =>
bk16 (Af k v) (Af h 1) ag ak
def Yl (bk16 : Int → Int → (List (Int × Int × UInt64 × UInt64 × Unit)) → LU → Ap) : Int → Int → LB → Int → Int → Int → UInt32 → Int → (List (Int × Int × UInt64 × UInt64 × Unit)) → LU → Ap := Ahg bk16
def Rv (j22 : Int → Int → UInt32 → Int → (List (Int × Int × UInt64 × UInt64 × Unit)) → LU → Ap) (a f : Int) (g : LB) (b k h y : Int) (w : UInt32) (v : Int) (n : List (Int × Int × UInt64 × UInt64 × Unit)) (m : LU) (aa ab : Int) (ac ad : UInt64) : Ap :=
if (Cm y 0) then
some (([] : LU), 0, y)
else
(Ut (Cm a 0)).bind fun _ =>
(Aj n (Kf h a)).bind fun _ =>
(Qk n (Kf h a) (aa, ab, ac, ad, ())).bind fun ag =>
j22 k v w h ag m
def Rw (bk16 : Int → Int → (List (Int × Int × UInt64 × UInt64 × Unit)) → LU → Ap) (a f : Int) (g : LB) (b : Int) : Int → Int → Int → UInt32 → Int → (List (Int × Int × UInt64 × UInt64 × Unit)) → LU → Int → Int → UInt64 → UInt64 → Ap := Rv (Yl bk16 a f g b) a f g b
def Ry (j21 : Int → Int → Int → UInt32 → Int → (List (Int × Int × UInt64 × UInt64 × Unit)) → LU → Int → Int → UInt64 → UInt64 → Ap) (j24 : Int → LU → Ap) (a f : Int) (g : LB) (b k h : Int) (n : List (Int × Int × UInt64 × UInt64 × Unit)) (m : LU) : Ap :=
if (Dg h (Bo f a)) then
(Am1 g b k (Gt (Af k 81) b)).bind fun (ah, ae, af) =>
if (Cm af 0) then
some (([] : LU), 0, af)
else
(Ut (Cm a 0)).bind fun _ =>
(Aj n (Kf h a)).bind fun _ =>
(
(
(Aj n (Kf h a)).bind fun p =>
(
(Aco ah ae 0 p.1 p.2.1 p.2.2.1 p.2.2.2.1).bind fun (w, v, aa, ab, ac, ad, y) =>
j21 k h y w v n m aa ab ac ad)))
else
j24 k m
def Ky (a f : Int) (g : LB) (b : Int) : Nat → Int → Int → (List (Int × Int × UInt64 × UInt64 × Unit)) → LU → Ap
| 0, _, _, _, _ => none
| q + 1, k, h, n, m => Ry (Rw (Ky a f g b q) a f g b) Agg a f g b k h n m
def Ag5 (a f : Int) (g : LB) (b : Int) : Int → Int → (List (Int × Int × UInt64 × UInt64 × Unit)) → LU → Ap := Ky a f g b Bc
def Ahj (j16 : Int → Int → LB → Int → Int → Int → (List (Int × Int × UInt64 × UInt64 × Unit)) → LU → Ap) (a f : Int) (g : LB) (b : Int) (o : List (Int × Int × UInt64 × UInt64 × Unit)) : Ap :=
j16 a f g b 0 0 o ([] : LU)
def Yi : Int → Int → LB → Int → (List (Int × Int × UInt64 × UInt64 × Unit)) → Ap := Ahj Ag5
def Agw (j15 : Int → Int → LB → Int → (List (Int × Int × UInt64 × UInt64 × Unit)) → Ap) (bk13 : Int → (List (Int × Int × UInt64 × UInt64 × Unit)) → Ap) (a f : Int) (g : LB) (b u : Int) (o : List (Int × Int × UInt64 × UInt64 × Unit)) : Ap :=
if (Dg u 6) then
(Aw9).bind fun (al, ae, af, am) =>
(Aj o u).bind fun _ =>
(Qk o u (al, ae, af, am, ())).bind fun an =>
bk13 (Af u 1) an
else
j15 a f g b o
def Yf (a f : Int) (g : LB) (b : Int) : Nat → Int → (List (Int × Int × UInt64 × UInt64 × Unit)) → Ap
| 0, _, _ => none
| q + 1, u, o => Agw Yi (Yf a f g b q) a f g b u o
def Qw (a f : Int) (g : LB) (b : Int) : Int → (List (Int × Int × UInt64 × UInt64 × Unit)) → Ap := Yf a f g b Bc
def Zy (j13 : Int → Int → LB → Int → Int → (List (Int × Int × UInt64 × UInt64 × Unit)) → Ap) (a f : Int) (g : LB) (b : Int) : Ap :=
j13 a f g b 0 (List.replicate 6 ((0 : Int), (0 : Int), (0 : UInt64), (0 : UInt64), ()))
def Aao : Int → Int → LB → Int → Ap := Zy Qw
abbrev Agm := Option (Int × LX × LX × Int)
def Bc3 (a : Int) (b : LX) (f : Bool) : Agm :=
if f then
some (10, b, (List.replicate 16 (0 : Int32)), 0)
else
if (geq a 16) then
some (9, b, (List.replicate 16 (0 : Int32)), 0)
else
some (0, (List.replicate 16 (0 : Int32)), (List.replicate 16 (0 : Int32)), 2)
def Ast : Int → LX → Bool → Agm := Bc3
def Asa (j2 : Int → LX → Bool → Agm) (a : Int) (b : LX) : Agm :=
if (geq a 8) then
j2 a b (geq a 8)
else
j2 a b (geq a 24)
def Aqm : Int → LX → Agm := Asa Ast
def Ay7 (a : Int) (f : LX) : Option (Int × Int32 × Int × LX × LX × Int) :=
(Aqm a f).bind fun (g, h, k, b) =>
if (Cm b 0) then
some (0, 0, 0, (List.replicate 16 (0 : Int32)), (List.replicate 16 (0 : Int32)), b)
else
some (a, 0, g, h, k, 0)
def Wf (a : UInt32) : Option Int32 :=
some (Xj (Ad (Cr a (GI.toZ (1 : UInt64)).toNat) : Int32) (Ap2 (Ad (Ik a 1) : Int32)))
def Adp (a : Int) (k : Int32) (b : Int) (f m : LX) : Option Int :=
(Aqm a f).bind fun (g, n, o, h) =>
if ((Cm h 0) || (Cm g b)) then
some 8
else
some 0
def Amv (a : Int) : Option (Int × Int) :=
if (geq a 8) then
some (4, 0)
else
if (geq a 16) then
if (geq a 16) then
some (5, 0)
else
some (0, 2)
else
if (geq a 24) then
some (5, 0)
else
some (0, 2)
def Ahw (a : Int) (b : Int32) : Option Int32 :=
(Ut (Sd a 0)).bind fun _ =>
(Ut (Sd a 0)).bind fun _ =>
some (Ad (Bam (Ao (Ff (Ad b : Int) (GI.toZ a).toNat) (Ad b : Int)) (GI.toZ a).toNat) : Int32)
def Ad3 (b : Int) (f : Int32) : Option (Int32 × Int) :=
(Amv b).bind fun (g, a) =>
if (Cm a 0) then
some (0, a)
else
(Ahw g f).bind fun h =>
some (h, 0)
def Aci (a : Int) (b f : LX) : Option Int :=
if ((Cm a 9) && (Cm a 10)) then
some 8
else
some 0
abbrev Iu := Option (Int32 × Int)
def Aoq (g : Int32) (a : Int) (b f : LX) : Iu :=
(Ut (Sd a 0)).bind fun _ =>
some ((Cr g (GI.toZ a).toNat), 0)
def Aiz : Int32 → Int → LX → LX → Iu := Aoq
def Acz (j6 : Int32 → Int → LX → LX → Iu) (bk4 : Int32 → Int → Iu) (b : LX) (a : Int) (f : LX) (g : Int32) (h : Int) : Iu :=
if (Dg h 16) then
(Aj b h).bind fun m =>
(Aj f h).bind fun _ =>
(Aj f h).bind fun n =>
bk4 (Af g (Bo m n)) (Af h 1)
else
j6 g a b f
def Se (b : LX) (a : Int) (f : LX) : Nat → Int32 → Int → Iu
| 0, _, _ => none
| q + 1, g, h => Acz Aiz (Se b a f q) b a f g h
def Ai3 (b : LX) (a : Int) (f : LX) : Int32 → Int → Iu := Se b a f Bc
def Ai1 (j4 : LX → Int → LX → Int32 → Int → Iu) (a : Int) (b f : LX) : Iu :=
(Aci a b f).bind fun k =>
if (Cm k 0) then
some (0, k)
else
(Ut (Sd (Ao a 1) 0)).bind fun _ =>
j4 b a f (Ff (1 : Int32) (GI.toZ (Ao a 1)).toNat) 0
def Akf : Int → LX → LX → Iu := Ai1 Ai3
def Aj1 (a : Int) : Option Int32 :=
if (geq a 0) then
some 4
else
if (Dg a 4) then
some 2
else
some 1
abbrev Iq := Option (Int × LX × LX × Int)
def Axk (g : Int) (b f : LX) : Iq :=
some (g, b, f, 0)
def Aov : Int → LX → LX → Iq := Axk
def Ada (j6 : Int → LX → LX → Iq) (bk4 : Int → LX → Iq) (h : Int32) (f : LX) (g a : Int) (b : LX) : Iq :=
if (Dg a 16) then
(Aj f a).bind fun m =>
if (geq m 0) then
bk4 (Af a 1) b
else
if ((Dg m 0) == (Dg h 0)) then
(Aj b a).bind fun _ =>
(Aj b a).bind fun o =>
(Aj1 a).bind fun p =>
(Aj b a).bind fun _ =>
(Qk b a (Af o p)).bind fun u =>
bk4 (Af a 1) u
else
(Aj b a).bind fun _ =>
(Aj b a).bind fun v =>
(Aj1 a).bind fun w =>
(Aj b a).bind fun _ =>
(Qk b a (Ao v w)).bind fun y =>
bk4 (Af a 1) y
else
j6 g b f
def Sk (h : Int32) (f : LX) (g : Int) : Nat → Int → LX → Iq
| 0, _, _ => none
| q + 1, a, b => Ada Aov (Sk h f g q) h f g a b
def Aom (h : Int32) (f : LX) (g : Int) : Int → LX → Iq := Sk h f g Bc
def Aiv (j4 : Int32 → LX → Int → Int → LX → Iq) (g : Int) (k f : LX) (h : Int32) : Iq :=
(Aci g k f).bind fun n =>
if (Cm n 0) then
some (0, (List.replicate 16 (0 : Int32)), (List.replicate 16 (0 : Int32)), n)
else
if (geq h 0) then
some (g, k, f, 0)
else
j4 h f g 0 k
def Ala : Int → LX → LX → Int32 → Iq := Aiv Aom
abbrev Adg := Option (Int × LX × LX × Int)
def Aqw (g : Int32) (b : Int) (f a : LX) : Adg :=
(Aj (Tq a 1 ((16 : Int) - (1 : Int)) (Ajb a 0 ((16 : Int) - (0 : Int)))) 0).bind fun _ =>
(Qk (Tq a 1 ((16 : Int) - (1 : Int)) (Ajb a 0 ((16 : Int) - (0 : Int)))) 0 g).bind fun k =>
some (b, f, k, 0)
def Akq : Int32 → Int → LX → LX → Adg := Aqw
def Afk (j2 : Int32 → Int → LX → LX → Adg) (b : Int) (f a : LX) (g : Int32) : Adg :=
(Aci b f a).bind fun h =>
if (Cm h 0) then
some (0, (List.replicate 16 (0 : Int32)), (List.replicate 16 (0 : Int32)), h)
else
(
(vwI 16 1 16).bind fun _ =>
(vwI 16 0 16).bind fun _ =>
j2 g b f a)
def Ans : Int → LX → LX → Int32 → Adg := Afk Akq
def Apa (a : Int) (b f : LX) (g h : Int32) : Option (Int × LX × LX) :=
(Ala a b f h).bind fun (k, m, n, v) =>
(Ans k m n g).bind fun (o, p, u, w) =>
some (o, p, u)
def Am4 (b : Int) (f g : LX) (a : Int32) : Option (Int32 × Int × LX × LX × Int) :=
(Akf b f g).bind fun (h, k) =>
if (Cm k 0) then
some (0, 0, (List.replicate 16 (0 : Int32)), (List.replicate 16 (0 : Int32)), k)
else
(Apa b f g (Af a h) a).bind fun (m, n, o) =>
some ((Af a h), m, n, o, 0)
def Jr (a : Int) (b : Int32) (f : Int) (g h : LX) (o : Int32) : Option (Int32 × Int × Int32 × Int × LX × LX × Int) :=
(Adp a b f g h).bind fun k =>
if (Cm k 0) then
some (0, 0, 0, 0, (List.replicate 16 (0 : Int32)), (List.replicate 16 (0 : Int32)), k)
else
(Ad3 a b).bind fun (m, y) =>
(Am4 f g h o).bind fun (n, p, u, v, w) =>
(
some ((Af n m), a, (Af n m), p, u, v, w))
def An8 (a : Int) (b : LX) : Option Int :=
if ((Dg a 1) || (Ga a 6)) then
some 2
else
if (Ga (Ac b) 4000) then
some 4
else
(Ut (Cm a 0)).bind fun _ =>
if (Cm (Kf (Ac b) a) 0) then
some 2
else
some 0
def Fx (a : LX) : Option (LX) :=
(
(Gc ([] : LX) a).bind fun b =>
some b)
abbrev Cf := Option (LX × Int)
def Azf (f : LX) : Cf :=
some (f, 0)
def Aqn : LX → Cf := Azf
def Aql (bk12 : Int → LX → Cf) (b a : Int) (h : LX) : Cf :=
bk12 (Af a b) h
def Akl (bk12 : Int → LX → Cf) : Int → Int → LX → Cf := Aql bk12
def Afr (j20 : Int → LX → Cf) (bk18 : Int → LX → Cf) (b a g : Int) (h : LX) : Cf :=
if (Sd g 0) then
(Ut (decide (0 ≤ (Af g 1) ∧ (Af g 1) < ((Af a b) - a)))).bind fun _ =>
(Ut (decide (0 ≤ g ∧ g < ((Af a b) - a)))).bind fun _ =>
(Aj h (a + (Af g 1))).bind fun o =>
(Aj h (a + g)).bind fun p =>
(Ut (decide (0 ≤ g ∧ g < ((Af a b) - a)))).bind fun _ =>
(Qk h (a + g) (Ao o p)).bind fun u =>
bk18 (Ao g 1) u
else
j20 a h
def Wd (bk12 : Int → LX → Cf) (b a : Int) : Nat → Int → LX → Cf
| 0, _, _ => none
| q + 1, g, h => Afr (Akl bk12 b) (Wd bk12 b a q) b a g h
def Akx (bk12 : Int → LX → Cf) (b a : Int) : Int → LX → Cf := Wd bk12 b a Bc
def Aj8 (j18 : Int → Int → LX → Cf) (b a : Int) (k : LX) : Cf :=
j18 a (Ao (Ao ((Af a b) - a) 1) 1) k
def Afo (bk12 : Int → LX → Cf) (b : Int) : Int → LX → Cf := Aj8 (Akx bk12 b) b
def Akd (j17 : Int → LX → Cf) (j22 : LX → Cf) (b a : Int) (f : LX) : Cf :=
if (Dg a (Ac f)) then
(vwI (Ac f) a (Af a b)).bind fun _ =>
if (Ga (Ao ((Af a b) - a) 1) 0) then
(Ut (decide (0 ≤ (Ao ((Af a b) - a) 1) ∧ (Ao ((Af a b) - a) 1) < ((Af a b) - a)))).bind fun _ =>
Option.bind (Ut (decide (0 ≤ (Ao (Ao ((Af a b) - a) 1) 1) ∧ (Ao (Ao ((Af a b) - a) 1) 1) < ((Af a b) - a)))) fun _ =>
(Aj f (a + (Ao ((Af a b) - a) 1))).bind fun v =>
(Aj f (a + (Ao (Ao ((Af a b) - a) 1) 1))).bind fun w =>
(Ut (decide (0 ≤ (Ao ((Af a b) - a) 1) ∧ (Ao ((Af a b) - a) 1) < ((Af a b) - a)))).bind fun _ =>
(Qk f (a + (Ao ((Af a b) - a) 1)) (Af v (Cw w 2))).bind fun y =>
j17 a y
else
j17 a f
else
j22 f
def Re (b : Int) : Nat → Int → LX → Cf
| 0, _, _ => none
| q + 1, a, f => Akd (Afo (Re b q) b) Aqn b a f
def Ake (b : Int) : Int → LX → Cf := Re b Bc
def Ama (j12 : Int → Int → LX → Cf) (b : Int) (m : LX) : Cf :=
(An8 b m).bind fun n =>
if (Cm n 0) then
some (([] : LX), n)
else
(Fx m).bind fun aa =>
j12 b 0 aa
def Ap6 : Int → LX → Cf := Ama Ake
def Au2 : Option Int :=
some 0
def Ani : Option Int := Au2
def Aac (j6 : Option Int) (bk4 : Int → Option Int) (b f : Int32) (a : LX) (g : Int) : Option Int :=
if (Dg g (Ac a)) then
(Aj a g).bind fun h =>
if ((Dg h b) || (Ga h f)) then
some 16
else
bk4 (Af g 1)
else
j6
def Po (b f : Int32) (a : LX) : Nat → Int → Option Int
| 0, _ => none
| q + 1, g => Aac Ani (Po b f a q) b f a g
def Am8 (b f : Int32) (a : LX) : Int → Option Int := Po b f a Bc
def Age (j4 : Int32 → Int32 → LX → Int → Option Int) (m : Int) (a : LX) : Option Int :=
(Adn m).bind fun (b, f, k) =>
if (Cm k 0) then
some k
else
if (Ga (Ac a) 4000) then
some 4
else
j4 b f a 0
def Adb : Int → LX → Option Int := Age Am8
abbrev Az := Option (LX × Int)
def Afe (a b : Int) (k : LX) : Az :=
(Ap6 a k).bind fun (ah, af) =>
if (Cm af 0) then
some (([] : LX), af)
else
(Adb b ah).bind fun ae =>
if (Cm ae 0) then
some (([] : LX), ae)
else
some (ah, 0)
def Jy : Int → Int → LX → Az := Afe
def Ae7 (bk13 : Int → (List (Int × Int32 × (Int × LX × LX × Unit) × Unit)) → LX → Az) (a : Int) (f : LU) (b g : Int) (w : Int32) (u : Int) (h : List (Int × Int32 × (Int × LX × LX × Unit) × Unit)) (k : LX) (y : Int) (v : Int32) (aa : Int) (ab ac : LX) : Az :=
if (Cm u 0) then
some (([] : LX), u)
else
(Qk h (Kf g a) (y, v, (aa, ab, ac, ()), ())).bind fun ai =>
(Gc k ([w] : LX)).bind fun aj =>
bk13 (Af g 1) ai aj
def Xg (bk13 : Int → (List (Int × Int32 × (Int × LX × LX × Unit) × Unit)) → LX → Az) : Int → LU → Int → Int → Int32 → Int → (List (Int × Int32 × (Int × LX × LX × Unit) × Unit)) → LX → Int → Int32 → Int → LX → LX → Az := Ae7 bk13
def Ka (j16 : Int → Int32 → Int → (List (Int × Int32 × (Int × LX × LX × Unit) × Unit)) → LX → Int → Int32 → Int → LX → LX → Az) (j18 : Int → Int → LX → Az) (f : LU) (a b g : Int) (h : List (Int × Int32 × (Int × LX × LX × Unit) × Unit)) (k : LX) : Az :=
if (Dg g (Ac f)) then
(Aj f g).bind fun ag =>
(Ut (Cm a 0)).bind fun _ =>
(Aj h (Kf g a)).bind fun _ =>
(
(Aj h (Kf g a)).bind fun m =>
(
(Wf ag).bind fun ae =>
(
(Jr m.1 m.2.1 m.2.2.1.1 m.2.2.1.2.1 m.2.2.1.2.2.1 ae).bind fun (w, y, v, aa, ab, ac, u) =>
j16 g w u h k y v aa ab ac)))
else
j18 a b k
def Hn (f : LU) (a b : Int) : Nat → Int → (List (Int × Int32 × (Int × LX × LX × Unit) × Unit)) → LX → Az
| 0, _, _, _ => none
| q + 1, g, h, k => Ka (Xg (Hn f a b q) a f b) Jy f a b g h k
def Afd (f : LU) (a b : Int) : Int → (List (Int × Int32 × (Int × LX × LX × Unit) × Unit)) → LX → Az := Hn f a b Bc
def Afb (j13 : LU → Int → Int → Int → (List (Int × Int32 × (Int × LX × LX × Unit) × Unit)) → LX → Az) (f : LU) (a b : Int) (n : List (Int × Int32 × (Int × LX × LX × Unit) × Unit)) : Az :=
j13 f a b 0 n ([] : LX)
def Xc : LU → Int → Int → (List (Int × Int32 × (Int × LX × LX × Unit) × Unit)) → Az := Afb Afd
def Afc (j12 : LU → Int → Int → (List (Int × Int32 × (Int × LX × LX × Unit) × Unit)) → Az) (bk10 : Int → (List (Int × Int32 × (Int × LX × LX × Unit) × Unit)) → Az) (f : LU) (a b : Int) (o : LX) (p : Int) (n : List (Int × Int32 × (Int × LX × LX × Unit) × Unit)) : Az :=
if (Dg p 6) then
(Ay7 b o).bind fun (ak, af, ae, al, am, v) =>
(Aj n p).bind fun _ =>
(Qk n p (ak, af, (ae, al, am, ()), ())).bind fun an =>
bk10 (Af p 1) an
else
j12 f a b n
def Wy (f : LU) (a b : Int) (o : LX) : Nat → Int → (List (Int × Int32 × (Int × LX × LX × Unit) × Unit)) → Az
| 0, _, _ => none
| q + 1, p, n => Afc Xc (Wy f a b o q) f a b o p n
def Oq (f : LU) (a b : Int) (o : LX) : Int → (List (Int × Int32 × (Int × LX × LX × Unit) × Unit)) → Az := Wy f a b o Bc
def Ym (j10 : LU → Int → Int → LX → Int → (List (Int × Int32 × (Int × LX × LX × Unit) × Unit)) → Az) (a b : Int) (o : LX) (f : LU) : Az :=
j10 f a b o 0 (List.replicate 6 ((0 : Int), (0 : Int32), ((0 : Int), (List.replicate 16 (0 : Int32)), (List.replicate 16 (0 : Int32)), ()), ()))
def Rz : Int → Int → LX → LU → Az := Ym Oq
def Abk (a h : Int) (u : LX) (f : Int) (v : LB) : Option (LX × Int) :=
(Ac6 a h).bind fun k =>
if (Cm k 0) then
some (([] : LX), k)
else
if (Dg f 1) then
some (([] : LX), 2)
else
(Ut (Cm a 0)).bind fun _ =>
if (Ga f (Cw 4000 a)) then
some (([] : LX), 2)
else
(Aak v).bind fun (w, m) =>
if (Cm m 0) then
some (([] : LX), m)
else
(Az3 w).bind fun (n, b, o) =>
if (Cm o 0) then
some (([] : LX), o)
else
(Aao a f n b).bind fun (y, g, p) =>
if (Cm p 0) then
some (([] : LX), p)
else
if (Sd (Ao b g) 8) then
some (([] : LX), 12)
else
(Zs n b g (Ao b g)).bind fun (aa, ab) =>
if ((Cm ab 0) || (Cm aa 0)) then
some (([] : LX), 12)
else
(Rz a h u y).bind fun (ac, ad) =>
some (ac, ad)
abbrev Bf := Option (LB × Int)
def As6 (g : LB) : Bf :=
some (g, 0)
def Als : LB → Bf := As6
def Alp (bk16 : Int → LB → Bf) (b : Int) (a : LX) (f : Int) (h : LB) : Bf :=
bk16 (Af f 1) h
def Ael (bk16 : Int → LB → Bf) : Int → LX → Int → LB → Bf := Alp bk16
def Yd (j28 : Int → LB → Bf) (bk26 : Int → LB → Bf) (b : Int) (a : LX) (k : Int32) (f m : Int) (h : LB) : Bf :=
if (Dg m (Cw b 8)) then
(Ut (Sd (Bo 8 m) 0)).bind fun _ =>
(Gc h ([(Ad (Cr k (GI.toZ (Bo 8 m)).toNat) : UInt8)] : LB)).bind fun p =>
bk26 (Af m 1) p
else
j28 f h
def Ho (bk16 : Int → LB → Bf) (b : Int) (a : LX) (k : Int32) (f : Int) : Nat → Int → LB → Bf
| 0, _, _ => none
| q + 1, m, h => Yd (Ael bk16 b a) (Ho bk16 b a k f q) b a k f m h
def Aei (bk16 : Int → LB → Bf) (b : Int) (a : LX) (k : Int32) (f : Int) : Int → LB → Bf := Ho bk16 b a k f Bc
def Aey (j26 : Int32 → Int → Int → LB → Bf) (b : Int) (a : LX) (f : Int) (g : LB) (k : Int32) : Bf :=
j26 k f 0 g
def Jq (bk16 : Int → LB → Bf) (b : Int) (a : LX) : Int → LB → Int32 → Bf := Aey (Aei bk16 b a) b a
def Xz (j25 : Int → LB → Int32 → Bf) (j30 : LB → Bf) (b : Int) (a : LX) (f : Int) (g : LB) : Bf :=
if (Dg f (Ac a)) then
(Aj a f).bind fun n =>
if (geq b 8) then
j25 f g (Af n 128)
else
j25 f g n
else
j30 g
def Er (b : Int) (a : LX) : Nat → Int → LB → Bf
| 0, _, _ => none
| q + 1, f, g => Xz (Jq (Er b a q) b a) Als b a f g
def Ali (b : Int) (a : LX) : Int → LB → Bf := Er b a Bc
def Agy (j16 : Int → LX → Int → LB → Bf) (b : Int) (a : LX) : Bf :=
(Adb b a).bind fun o =>
if (Cm o 0) then
some (([] : LB), o)
else
j16 b a 0 ([] : LB)
def Ad9 : Int → LX → Bf := Agy Ali
def Xu : Option Int :=
some (-1 : Int)
def Kr : Option Int := Xu
def Dj (j6 : Option Int) (bk4 : Int → Option Int) (a : LI) (b f : Int) : Option Int :=
if (Dg f (Ac a)) then
(Aj a f).bind fun g =>
if (geq b g) then
some f
else
bk4 (Af f 1)
else
j6
def Bj (a : LI) (b : Int) : Nat → Int → Option Int
| 0, _ => none
| q + 1, f => Dj Kr (Bj a b q) a b f
def Fz (a : LI) (b : Int) : Int → Option Int := Bj a b Bc
def Fv (j4 : LI → Int → Int → Option Int) (a : LI) (b : Int) : Option Int :=
j4 a b 0
def Gz : LI → Int → Option Int := Fv Fz
def Fw (a : LI) (b : Int) : Option Bool :=
(Gz a b).bind fun f =>
some (Sd f 0)
def Oe (a : Int) : Option Bool :=
(Fw ([(4 : Int), (12 : Int), (16 : Int), (22 : Int), (24 : Int), (26 : Int), (38 : Int)] : LI) a).bind fun b =>
some b
def Ah3 (bi : Bool) : Option Int :=
if (!bi) then
some 8
else
some 0
def Bg : Bool → Option Int := Ah3
def Aaz (j22 : Bool → Option Int) : Option Int :=
j22 ((true == true) && ((geq (0 : Int) (0 : Int)) && true))
def Us : Option Int := Aaz Bg
def Abm (j22 : Bool → Option Int) (bj : Bool) (bk : Int) : Option Int :=
j22 ((bj == true) && ((geq bk 0) && true))
def Di : Bool → Int → Option Int := Abm Bg
def Aay (j13 : Bool → Int → Option Int) (g ak : LB) (ae af aa ag ab b : Int) (m : Bool) (n : Int) (f : LI) (h : LB) : Option Int :=
(Vc ae af aa ag ab g).bind fun dm =>
(Aq dm).bind fun (dn, am) =>
j13 dn am
def Uq : LB → LB → Int → Int → Int → Int → Int → Int → Bool → Int → LI → LB → Option Int := Aay Di
def Abr (j22 : Bool → Option Int) (bl : Bool) (bm : Int) : Option Int :=
j22 ((bl == true) && ((geq bm 0) && true))
def Gy : Bool → Int → Option Int := Abr Bg
def Abl (j25 : Bool → Int → Option Int) (g a : LB) (k p o u v b : Int) (m : Bool) (n : Int) (f : LI) (h : LB) (bg : Int) : Option Int :=
(Ep k p o u v).bind fun (dp, bh) =>
if (Cm bh 0) then
(Aq bh).bind fun (an, bn) =>
j25 an bn
else
(Bs a bg (Ac a)).bind fun dq =>
(Akv dq (Ac dp)).bind fun (dr, aa) =>
if (geq aa 24) then
j25 true 0
else
if (Cm aa 0) then
(Aq aa).bind fun (ds, ab) =>
j25 ds ab
else
(Bs a (Af (Af bg (Bo 4 (Ac dr))) 4) (Ac a)).bind fun fc =>
j25 false 0
def Hf : LB → LB → Int → Int → Int → Int → Int → Int → Bool → Int → LI → LB → Int → Option Int := Abl Gy
def Aa4 (j25 : Bool → Int → Option Int) (j24 : LB → LB → Int → Int → Int → Int → Int → Int → Bool → Int → LI → LB → Int → Option Int) (bd : Bool) (bc : Int) (g a : LB) (k p o u v b : Int) (m : Bool) (n : Int) (f : LI) (h : LB) : Option Int :=
if (Cm bc 0) then
(Aq bc).bind fun (dt, bh) =>
j25 dt bh
else
if (!bd) then
(Aq 26).bind fun (an, bn) =>
j25 an bn
else
j24 g a k p o u v b m n f h 8
def Aar : Bool → Int → LB → LB → Int → Int → Int → Int → Int → Int → Bool → Int → LI → LB → Option Int := Aa4 Gy Hf
def Aa8 (j15 : Bool → Int → LB → LB → Int → Int → Int → Int → Int → Int → Bool → Int → LI → LB → Option Int) (g a : LB) (k p o u v b : Int) (m : Bool) (n : Int) (f : LI) (h : LB) : Option Int :=
(Bs a 0 8).bind fun du =>
(Afi du g).bind fun (bd, bc) =>
j15 bd bc g a k p o u v b m n f h
def Uk : LB → LB → Int → Int → Int → Int → Int → Int → Bool → Int → LI → LB → Option Int := Aa8 Aar
def Aat (j22 : Bool → Option Int) (bp : Bool) (bq : Int) : Option Int :=
j22 ((bp == true) && ((geq bq 0) && true))
def Fe : Bool → Int → Option Int := Aat Bg
def Uf (j28 : Bool → Int → Option Int) (w ah : Int) (g a : LB) (k p o u v b : Int) (m : Bool) (n : Int) (ao : LX) (f : LI) (h : LB) : Option Int :=
if (Cm ah 0) then
(Aq ah).bind fun (br, bs) =>
j28 br bs
else
(Ad9 o ao).bind fun (bt, be) =>
if (Cm be 0) then
(Aq be).bind fun (bu, bv) =>
j28 bu bv
else
(Gc h bt).bind fun dv =>
(
(Bs a w (Ac a)).bind fun dw =>
j28 false 0)
def Aa2 : Int → Int → LB → LB → Int → Int → Int → Int → Int → Int → Bool → Int → LX → LI → LB → Option Int := Uf Fe
def Aam (j27 : Int → Int → LB → LB → Int → Int → Int → Int → Int → Int → Bool → Int → LX → LI → LB → Option Int) (w : Int) (g a : LB) (k p o u v b : Int) (m : Bool) (n : Int) (ap : LX) (ad f : LI) (h : LB) : Option Int :=
(Aj ad b).bind fun _ =>
(Bs a 0 w).bind fun dx =>
(Aj ad b).bind fun dy =>
(Aiy k p o u v).bind fun (dz, bf) =>
(Abk dz bf ap dy dx).bind fun (ao, ah) =>
j27 w ah g a k p o u v b m n ao f h
def Uc : Int → LB → LB → Int → Int → Int → Int → Int → Int → Bool → Int → LX → LI → LI → LB → Option Int := Aam Aa2
def Wm (j13 : Bool → Int → Option Int) (j12 : LB → LB → Int → Int → Int → Int → Int → Int → Bool → Int → LI → LB → Option Int) (j25 : Bool → Int → Option Int) (j23 : LB → LB → Int → Int → Int → Int → Int → Int → Bool → Int → LI → LB → Option Int) (j24 : LB → LB → Int → Int → Int → Int → Int → Int → Bool → Int → LI → LB → Int → Option Int) (j28 : Bool → Int → Option Int) (j26 : Int → LB → LB → Int → Int → Int → Int → Int → Int → Bool → Int → LX → LI → LI → LB → Option Int) (j22 : Bool → Option Int) (j21 : Option Int) (aq ar : LB) (au av aw ax ay : Int) (az : LI) (ai : Int) (aj : LB) (ac : Bool) (y : Int) : Option Int :=
if (Ga (Ac aq) 64) then
some 8
else
if ((geq y 0) && (!ac)) then
(Abp aq ar au av aw ax ay az ai aj ac y).bind fun (g, a, k, p, o, u, v, f, b, h, m, n) =>
(Wg aq ar au av aw ax ay az ai aj ac y).bind fun bw =>
if bw then
if (geq k 0) then
(Qm a).bind fun (al, ba) =>
if (geq ba 24) then
j13 true 0
else
if (Cm ba 0) then
(Aq ba).bind fun (bx, bz) =>
j13 bx bz
else
(Bs a al (Ac a)).bind fun da =>
(Wi da).bind fun an =>
if an then
j13 true 0
else
(Bs a al (Ac a)).bind fun db =>
(Yy db).bind fun (ae, af, aa, ag, ab, bb) =>
if (geq bb 24) then
j13 true 0
else
if (Cm bb 0) then
(Aq bb).bind fun (dc, dd) =>
j13 dc dd
else
(
(Bs a (Af al 22) (Ac a)).bind fun ak =>
(
j12 g ak ae af aa ag ab b m n f h))
else
if (geq (Ac f) 0) then
if (geq k 2) then
if (Dg (Ac a) 8) then
j25 true 0
else
j23 g a k p o u v b m n f h
else
j24 g a k p o u v b m n f h 0
else
if (Dg b (Ac f)) then
(Aj f b).bind fun _ =>
(Aj f b).bind fun w =>
if (Dg (Ac a) w) then
j28 true 0
else
(Af0 g).bind fun (ap, am) =>
if (Cm am 0) then
(Aq am).bind fun (de, df) =>
j28 de df
else
(Ep k p o u v).bind fun (ad, dg) =>
if ((Cm dg 0) || (Sd b (Ac ad))) then
(Aq 8).bind fun (dh, di) =>
j28 dh di
else
j26 w g a k p o u v b m n ap ad f h
else
if (Ga (Ac a) 4000) then
(Aq 38).bind fun (dj, bf) =>
j22 ((dj == true) && ((geq bf 0) && true))
else
j21
else
j22 false
else
if ((geq (Ac ar) 0) && (geq (Ac az) 0)) then
if ((((geq au 0) && ((geq av 0) && ((geq aw 0) && ((geq ax 0) && ((geq ay 0) && true))))) && (geq ai 0)) && (gle (Ac aj) 12000)) then
if (geq y 0) then
j22 true
else
if (!ac) then
(Oe y).bind fun dk =>
j22 dk
else
j22 false
else
j22 false
else
if ((false && (geq ai 0)) && (gle (Ac aj) 12000)) then
if (geq y 0) then
j22 true
else
if (!ac) then
(Oe y).bind fun dl =>
j22 dl
else
j22 false
else
j22 false
def Ac2 : LB → LB → Int → Int → Int → Int → Int → LI → Int → LB → Bool → Int → Option Int := Wm Di Uq Gy Uk Hf Fe Uc Bg Us
def Fb (f g b a h : Int) : Option Bool :=
if ((((geq f 1) || (geq f 2)) && (Sd g 1)) && (gle g 6)) then
some ((((((geq b 8) || (geq b 16)) || (geq b 24)) && (Sd a 1)) && (gle a 1048576)) && (Sd h 1))
else
some (((false && (Sd a 1)) && (gle a 1048576)) && (Sd h 1))
def Nm (a : Int) : Option Int :=
some (Aoc 1 (Cw (Bo 256 a) 245))
def Lt (a : LI) : Option (LI) :=
some a
def Hx : LI → Option (LI) := Lt
def Fq (j6 : LI → Option (LI)) (bk4 : Int → LI → Option (LI)) (b f : Int) (a : LI) : Option (LI) :=
if (Ga f 0) then
(Nm b).bind fun g =>
(Gc a ([(Gt f g)] : LI)).bind fun h =>
(Nm b).bind fun k =>
bk4 (Ao f k) h
else
j6 a
def Dd (b : Int) : Nat → Int → LI → Option (LI)
| 0, _, _ => none
| q + 1, f, a => Fq Hx (Dd b q) b f a
def Tk (b : Int) : Int → LI → Option (LI) := Dd b Bc
def Tw (j4 : Int → Int → LI → Option (LI)) (b m : Int) : Option (LI) :=
j4 b m ([] : LI)
def Im : Int → Int → Option (LI) := Tw Tk
def Ha (h a k f b : Int) : Option Bool :=
(
(Ut (Cm a 0)).bind fun _ =>
(
if (Ga b (Cw 4000 a)) then
some true
else
(Im f b).bind fun g =>
some (Ga (Ac g) 1000)))
def Ge (a b f g h : Int) : Option Int :=
(Fb a b f g h).bind fun k =>
if (!k) then
some 8
else
(Ha a b f g h).bind fun m =>
if m then
some 8
else
some 0
def Ih (a f g h k : Int) (b : LB) : Option Int :=
if ((b == ([] : LB)) != (geq a 1)) then
some 26
else
some 0
def Abg (b : Int) : Option Int :=
if (Ga b 100000) then
some 8
else
some 0
def Ru : Int → Option Int := Abg
def Ab3 (bk6 : Int → Int → Option Int) (a : LI) (b f : Int) : Option Int :=
(Aj a f).bind fun g =>
bk6 (Af b g) (Af f 1)
def Sn (bk6 : Int → Int → Option Int) : LI → Int → Int → Option Int := Ab3 bk6
def Lo (j8 : Int → Int → Option Int) (j10 : Int → Option Int) (a : LI) (b f : Int) : Option Int :=
if (Dg f (Ac a)) then
(Aj a f).bind fun h =>
if (Dg h 5) then
some 8
else
(Aj a f).bind fun k =>
if (Ga k 100000) then
some 8
else
j8 b f
else
j10 b
def Fj (a : LI) : Nat → Int → Int → Option Int
| 0, _, _ => none
| q + 1, b, f => Lo (Sn (Fj a q) a) Ru a b f
def Sy (a : LI) : Int → Int → Option Int := Fj a Bc
def Lw (j6 : LI → Int → Int → Option Int) (a : LI) : Option Int :=
if ((Dg (Ac a) 1) || (Ga (Ac a) 1000)) then
some 8
else
j6 a 0 0
def En : LI → Option Int := Lw Sy
def Dn (g h k a b : Int) : Option (LI) :=
(Im a b).bind fun f =>
some f
def Lh (f a b g h : Int) : Option (Int × Int) :=
some (a, b)
def Xb (a b : Int) : Option Int :=
some (Cw (Bo a b) 8)
def Adj (k a b f g h : Int) : Option Int :=
(Lh a b f g h).bind fun (p, u) =>
(Xb p u).bind fun v =>
some (Bo k v)
def Vs : Int → Int → Int → Int → Int → Int → Option Int := Adj
def Nl (j6 : Int → Int → Int → Int → Int → Int → Option Int) (bk4 : Int → Int → Option Int) (n a b f g h : Int) (m : LI) (k o : Int) : Option Int :=
if (Dg o n) then
(Aj m o).bind fun _ =>
(Aj m o).bind fun w =>
bk4 (Af k w) (Af o 1)
else
j6 k a b f g h
def Gk (n a b f g h : Int) (m : LI) : Nat → Int → Int → Option Int
| 0, _, _ => none
| q + 1, k, o => Nl Vs (Gk n a b f g h m q) n a b f g h m k o
def Ads (n a b f g h : Int) (m : LI) : Int → Int → Option Int := Gk n a b f g h m Bc
def Vw (j4 : Int → Int → Int → Int → Int → Int → LI → Int → Int → Option Int) (a b f g h n : Int) : Option Int :=
(Dn a b f g h).bind fun m =>
j4 n a b f g h m 0 0
def Nd : Int → Int → Int → Int → Int → Int → Option Int := Vw Ads
abbrev Cj := Option (Int × Int)
def Alz (a : Int) : Cj :=
some (a, 0)
def Acd : Int → Cj := Alz
def Lp (j6 : Int → Cj) (bk4 : Int → Int → Cj) (b : LB) (a f : Int) : Cj :=
if (Dg f 4) then
(Aj b f).bind fun g =>
if (Sd g 128) then
some (0, 12)
else
(Aj b f).bind fun h =>
bk4 (Af (Bo 128 a) (Ad h : Int)) (Af f 1)
else
j6 a
def Fk (b : LB) : Nat → Int → Int → Cj
| 0, _, _ => none
| q + 1, a, f => Lp Acd (Fk b q) b a f
def Tr (b : LB) : Int → Int → Cj := Fk b Bc
def Tf (j4 : LB → Int → Int → Cj) (b : LB) : Cj :=
if (Cm (Ac b) 4) then
some (0, 2)
else
j4 b 0 0
def Qz : LB → Cj := Tf Tr
abbrev Ci := Option (Int × Int)
def Ady (a : LB) (g : Int) : Ci :=
if (Ga g 4000) then
some (0, 4)
else
if (Dg (Ac a) g) then
some (0, 24)
else
(Aj a 5).bind fun h =>
if (geq h 16) then
(Bs a (Ao g 10) g).bind fun k =>
(Bs a 3 10).bind fun m =>
(Gc ([51, 68, 73] : LB) m).bind fun n =>
if (k != n) then
some (0, 12)
else
some (g, 0)
else
some (g, 0)
def Mt : LB → Int → Ci := Ady
def Vb (j6 : LB → Int → Ci) (a : LB) (b : Int) : Ci :=
(Aj a 5).bind fun o =>
if (geq o 16) then
j6 a (Af (Af 10 b) 10)
else
j6 a (Af 10 b)
def Ni : LB → Int → Ci := Vb Mt
def Ux (j5 : LB → Int → Ci) (a : LB) : Ci :=
if (Dg (Ac a) 10) then
some (0, 24)
else
(Bs a 6 10).bind fun p =>
(Qz p).bind fun (b, f) =>
(Aj a 3).bind fun u =>
if (Dg u 2) then
if true then
if true then
if (true || (Cm f 0)) then
some (0, 12)
else
j5 a b
else
(Aj a 5).bind fun v =>
if (Cm v 0) then
(Aj a 5).bind fun w =>
if (Cm w 16) then
if (true || (Cm f 0)) then
some (0, 12)
else
j5 a b
else
(Aj a 3).bind fun y =>
if ((Cm y 4) || (Cm f 0)) then
some (0, 12)
else
j5 a b
else
if (false || (Cm f 0)) then
some (0, 12)
else
j5 a b
else
(Aj a 4).bind fun aa =>
if (Cm aa 0) then
if (true || (Cm f 0)) then
some (0, 12)
else
j5 a b
else
(Aj a 5).bind fun ab =>
if (Cm ab 0) then
(Aj a 5).bind fun ac =>
if (Cm ac 16) then
if (true || (Cm f 0)) then
some (0, 12)
else
j5 a b
else
(Aj a 3).bind fun ad =>
if ((Cm ad 4) || (Cm f 0)) then
some (0, 12)
else
j5 a b
else
if (false || (Cm f 0)) then
some (0, 12)
else
j5 a b
else
(Aj a 3).bind fun ae =>
if (Ga ae 4) then
if true then
if (true || (Cm f 0)) then
some (0, 12)
else
j5 a b
else
(Aj a 5).bind fun af =>
if (Cm af 0) then
(Aj a 5).bind fun ag =>
if (Cm ag 16) then
if (true || (Cm f 0)) then
some (0, 12)
else
j5 a b
else
(Aj a 3).bind fun ah =>
if ((Cm ah 4) || (Cm f 0)) then
some (0, 12)
else
j5 a b
else
if (false || (Cm f 0)) then
some (0, 12)
else
j5 a b
else
(Aj a 4).bind fun ai =>
if (Cm ai 0) then
if (true || (Cm f 0)) then
some (0, 12)
else
j5 a b
else
(Aj a 5).bind fun aj =>
if (Cm aj 0) then
(Aj a 5).bind fun ak =>
if (Cm ak 16) then
if (true || (Cm f 0)) then
some (0, 12)
else
j5 a b
else
(Aj a 3).bind fun al =>
if ((Cm al 4) || (Cm f 0)) then
some (0, 12)
else
j5 a b
else
if (false || (Cm f 0)) then
some (0, 12)
else
j5 a b
def Vi : LB → Ci := Ux Ni
def Vh (j4 : LB → Ci) (a : LB) : Ci :=
if (Dg (Ac a) 3) then
some (0, 6)
else
(Bs a 0 3).bind fun am =>
if (am != ([73, 68, 51] : LB)) then
some (0, 6)
else
j4 a
def Ua : LB → Ci := Vh Vi
def Ahf (a : UInt64) : Option UInt64 :=
some a
def Yo : UInt64 → Option UInt64 := Ahf
def Ro (j6 : UInt64 → Option UInt64) (bk4 : UInt64 → Int → Option UInt64) (b : LB) (a : UInt64) (f : Int) : Option UInt64 :=
if (Sd f 0) then
(Aj b f).bind fun g =>
bk4 (Af (Bo 256 a) (Ad g : UInt64)) (Ao f 1)
else
j6 a
def Il (b : LB) : Nat → UInt64 → Int → Option UInt64
| 0, _, _ => none
| q + 1, a, f => Ro Yo (Il b q) b a f
def Yq (b : LB) : UInt64 → Int → Option UInt64 := Il b Bc
def Ye (j4 : LB → UInt64 → Int → Option UInt64) (b : LB) : Option UInt64 :=
j4 b 0 (Ao (Ac b) 1)
def Ah : LB → Option UInt64 := Ye Yq
def Tz (b : LB) : Option (Int × Int × Bool) :=
(Bs b 12 16).bind fun g =>
(Ah g).bind fun a =>
(Bs b 16 20).bind fun h =>
(Ah h).bind fun f =>
if (((Dg a 32) || (Ga a 3032)) || (Ga f 1000)) then
some (0, 0, false)
else
some ((Ao (Ad a : Int) 32), (Ad f : Int), true)
def Zn (a : LB) : Option (LB) :=
some a
def Qh : LB → Option (LB) := Zn
def Jc (j6 : LB → Option (LB)) (bk4 : UInt64 → Int → LB → Option (LB)) (b : Int) (f : UInt64) (g : Int) (a : LB) : Option (LB) :=
if (Dg g b) then
(Gc a ([(Ad (Zr f 256) : UInt8)] : LB)).bind fun h =>
bk4 (Cw f 256) (Af g 1) h
else
j6 a
def Ei (b : Int) : Nat → UInt64 → Int → LB → Option (LB)
| 0, _, _, _ => none
| q + 1, f, g, a => Jc Qh (Ei b q) b f g a
def Pr (b : Int) : UInt64 → Int → LB → Option (LB) := Ei b Bc
def Px (j4 : Int → UInt64 → Int → LB → Option (LB)) (k : UInt64) (b : Int) : Option (LB) :=
j4 b k 0 ([] : LB)
def Cz : UInt64 → Int → Option (LB) := Px Pr
def Ks (a b : Int) (f : UInt64) : Option (LB) :=
(Cz 2000 4).bind fun g =>
(Gc ([(65 : UInt8), (80 : UInt8), (69 : UInt8), (84 : UInt8), (65 : UInt8), (71 : UInt8), (69 : UInt8), (88 : UInt8)] : LB) g).bind fun h =>
(Cz (Ad (Af a 32) : UInt64) 4).bind fun k =>
(Gc h k).bind fun m =>
(Cz (Ad b : UInt64) 4).bind fun n =>
(Gc m n).bind fun o =>
(Cz f 4).bind fun p =>
(Gc o p).bind fun u =>
(mkI (8 : Int) (0 : UInt8)).bind fun v =>
(Gc u v).bind fun w =>
some w
def Zw (a b : Int) : Option (LB) :=
(Ks a b 2684354560).bind fun f =>
some f
def Aav (a b : Int) (f : Bool) : Option (LB) :=
if f then
(Ks a b 2147483648).bind fun g =>
some g
else
(Ks a b 0).bind fun h =>
some h
abbrev Dp := Option (Int × Int)
def Abw (a : LB) (b f : Int) : Dp :=
if (Dg (Ac a) (Af 64 b)) then
some (0, 24)
else
(Bs a (Ao (Af 64 b) 32) (Af 64 b)).bind fun g =>
(Aav b f true).bind fun h =>
if (g != h) then
some (0, 12)
else
some ((Af 64 b), 0)
def Tu : LB → Int → Int → Dp := Abw
def Sr (j4 : LB → Int → Int → Dp) (a : LB) : Dp :=
if (Dg (Ac a) 32) then
some (0, 24)
else
(Bs a 0 32).bind fun k =>
(Tz k).bind fun (b, f, m) =>
if (!m) then
some (0, 12)
else
(Bs a 0 32).bind fun n =>
(Zw b f).bind fun o =>
if (n != o) then
some (0, 12)
else
j4 a b f
def Ta : LB → Dp := Sr Tu
def Tn (j3 : LB → Dp) (a : LB) : Dp :=
if (Dg (Ac a) 8) then
some (0, 6)
else
(Bs a 0 8).bind fun p =>
if (p != ([65, 80, 69, 84, 65, 71, 69, 88] : LB)) then
some (0, 6)
else
j3 a
def Rh : LB → Dp := Tn Ta
abbrev Bz := Option (LI × Int)
def Ab7 (bk6 : Int → LI → Bz) (a : LB) (b : Int) (f : LI) (g h : Int) : Bz :=
if (geq h 6) then
some (f, 0)
else
if (Cm h 0) then
some (([] : LI), h)
else
if (Ga (Af b g) 4000) then
some (([] : LI), 4)
else
(Gc f ([g] : LI)).bind fun m =>
bk6 (Af b g) m
def If (bk6 : Int → LI → Bz) : LB → Int → LI → Int → Int → Bz := Ab7 bk6
def Mf (j9 : Int → LI → Int → Int → Bz) (a : LB) (b : Int) (f : LI) : Bz :=
(Bs a b (Ac a)).bind fun n =>
(Ua n).bind fun (o, k) =>
if (geq k 6) then
(Bs a b (Ac a)).bind fun p =>
(Rh p).bind fun (u, v) =>
j9 b f u v
else
j9 b f o k
def Ib (a : LB) : Nat → Int → LI → Bz
| 0, _, _ => none
| q + 1, b, f => Mf (If (Ib a q) a) a b f
def Ab2 (a : LB) : Int → LI → Bz := Ib a Bc
def Ab8 (j6 : LB → Int → LI → Bz) (a : LB) : Bz :=
j6 a 0 ([] : LI)
def Yh : LB → Bz := Ab8 Ab2
abbrev Ck := Option (Int × Int)
def Ace (a b : Int) : Ck :=
some (b, a)
def Tp : Int → Int → Ck := Ace
def Lr (j6 : Int → Int → Ck) (bk4 : Int → Int → Ck) (a : Int) (f : LI) (b g : Int) : Ck :=
if (Dg g (Ac f)) then
(Aj f g).bind fun _ =>
(Aj f g).bind fun h =>
bk4 (Af b h) (Af g 1)
else
j6 a b
def Fs (a : Int) (f : LI) : Nat → Int → Int → Ck
| 0, _, _ => none
| q + 1, b, g => Lr Tp (Fs a f q) a f b g
def Lq (a : Int) (f : LI) : Int → Int → Ck := Fs a f Bc
def Tt (j4 : Int → LI → Int → Int → Ck) (k : LB) : Ck :=
(Yh k).bind fun (f, a) =>
j4 a f 0 0
def Qr : LB → Ck := Tt Lq
def Kb (a b : LB) : Option Bool :=
if (Dg (Ac a) (Ac b)) then
(Bs b 0 (Ac a)).bind fun f =>
some (a == f)
else
some false
def Ade (a : UInt32) (b : Bool) : Option UInt32 :=
if b then
some (Xj (Cw a 2) 3988292384)
else
some (Cw a 2)
def Vr : UInt32 → Bool → Option UInt32 := Ade
def Vt (j2 : UInt32 → Bool → Option UInt32) (a : UInt32) (f : Int) : Option UInt32 :=
if (geq f 1) then
j2 a (!(geq (Zr a 2) 1))
else
j2 a (geq (Zr a 2) 1)
def Ur : UInt32 → Int → Option UInt32 := Vt Vr
def Adt (a : UInt32) : Option UInt32 :=
some a
def Vk : UInt32 → Option UInt32 := Adt
def Nc (j6 : UInt32 → Option UInt32) (bk4 : UInt32 → UInt8 → Int → Option UInt32) (a : UInt32) (b : UInt8) (f : Int) : Option UInt32 :=
if (Dg f 8) then
(Ur a (Ad (Zr b 2) : Int)).bind fun g =>
bk4 g (Cw b 2) (Af f 1)
else
j6 a
def Gi : Nat → UInt32 → UInt8 → Int → Option UInt32
| 0, _, _, _ => none
| q + 1, a, b, f => Nc Vk (Gi q) a b f
def Adv : UInt32 → UInt8 → Int → Option UInt32 := Gi Bc
def Adw (j4 : UInt32 → UInt8 → Int → Option UInt32) (h : UInt32) (k : UInt8) : Option UInt32 :=
j4 h k 0
def Aa9 : UInt32 → UInt8 → Option UInt32 := Adw Adv
def Aap (a : UInt32) : Option UInt32 :=
some a
def Ri : UInt32 → Option UInt32 := Aap
def Kk (j6 : UInt32 → Option UInt32) (bk4 : UInt32 → Int → Option UInt32) (b : LB) (a : UInt32) (f : Int) : Option UInt32 :=
if (Dg f (Ac b)) then
(Aj b f).bind fun g =>
(Aa9 a g).bind fun h =>
bk4 h (Af f 1)
else
j6 a
def Ex (b : LB) : Nat → UInt32 → Int → Option UInt32
| 0, _, _ => none
| q + 1, a, f => Kk Ri (Ex b q) b a f
def Rn (b : LB) : UInt32 → Int → Option UInt32 := Ex b Bc
def Qo (j4 : LB → UInt32 → Int → Option UInt32) (k : UInt32) (b : LB) : Option UInt32 :=
j4 b k 0
def Xf : UInt32 → LB → Option UInt32 := Qo Rn
def Mq (a : LB) : Option UInt32 :=
(Xf 4294967295 a).bind fun b =>
some (Ao 4294967295 b)
abbrev Ch := Option (Int × Int × Int × Int × Int × Int)
def Ad0 (k h g f b : UInt64) : Ch :=
(Fb (Ad k : Int) (Ad h : Int) (Ad g : Int) (Ad f : Int) (Ad b : Int)).bind fun v =>
if (!v) then
some (0, 0, 0, 0, 0, 12)
else
(Ha (Ad k : Int) (Ad h : Int) (Ad g : Int) (Ad f : Int) (Ad b : Int)).bind fun w =>
if w then
some (0, 0, 0, 0, 0, 4)
else
some ((Ad k : Int), (Ad h : Int), (Ad g : Int), (Ad f : Int), (Ad b : Int), 0)
def Vf : UInt64 → UInt64 → UInt64 → UInt64 → UInt64 → Ch := Ad0
def Nn (j6 : UInt64 → UInt64 → UInt64 → UInt64 → UInt64 → Ch) (a : LB) : Ch :=
(Bs a 4 6).bind fun u =>
(Bs a 6 8).bind fun p =>
(Bs a 8 10).bind fun o =>
(Bs a 10 14).bind fun n =>
(Bs a 14 18).bind fun m =>
(
(Ah u).bind fun k =>
(
(Ah p).bind fun h =>
(
(Ah o).bind fun g =>
(
(Ah n).bind fun f =>
(
(Ah m).bind fun b =>
(
j6 k h g f b))))))
def Vy : LB → Ch := Nn Vf
def Uu (j5 : LB → Ch) (a : LB) : Ch :=
if (Dg (Ac a) 22) then
some (0, 0, 0, 0, 0, 24)
else
(Bs a 18 22).bind fun y =>
(Bs a 0 18).bind fun aa =>
(Ah y).bind fun ab =>
(Mq aa).bind fun ac =>
if (Cm ab (Ad ac : UInt64)) then
some (0, 0, 0, 0, 0, 22)
else
j5 a
def Vn : LB → Ch := Uu Vy
def Vg (j4 : LB → Ch) (a : LB) : Ch :=
(Bs a 0 (Gt 4 (Ac a))).bind fun ad =>
(Bs ([84, 84, 65, 49] : LB) 0 (Gt 4 (Ac a))).bind fun ae =>
if (ad != ae) then
some (0, 0, 0, 0, 0, 12)
else
j4 a
def Ul : LB → Ch := Vg Vn
abbrev Gx := Option (Int × Int × Int × Int × Int × Int × Int)
def Yu (b : Int) (a : LB) : Gx :=
(Ul a).bind fun (k, m, n, o, p, h) =>
if (geq h 24) then
some (0, 0, 0, 0, 0, 0, (-1 : Int))
else
some ((Af b 22), k, m, n, o, p, h)
def Pu : Int → LB → Gx := Yu
def Pj (j2 : Int → LB → Gx) (f : LB) : Gx :=
(Qr f).bind fun (b, g) =>
if (geq g 24) then
some (0, 0, 0, 0, 0, 0, (-1 : Int))
else
if (Cm g 0) then
some (0, 0, 0, 0, 0, 0, g)
else
(Bs f b (Ac f)).bind fun a =>
(Kb a ([73, 68, 51] : LB)).bind fun u =>
if u then
some (0, 0, 0, 0, 0, 0, (-1 : Int))
else
(Kb a ([65, 80, 69, 84, 65, 71, 69, 88] : LB)).bind fun v =>
if v then
some (0, 0, 0, 0, 0, 0, (-1 : Int))
else
j2 b a
def Iw : LB → Gx := Pj Pu
def Adr (a : UInt64) (b : Bool) : Option UInt64 :=
if b then
some (Xj (Bo a 2) 4823603603198064275)
else
some (Bo a 2)
def Nb : UInt64 → Bool → Option UInt64 := Adr
def Vx (j2 : UInt64 → Bool → Option UInt64) (a : UInt64) (f : Int) : Option UInt64 :=
if (geq f 1) then
j2 a (!(Sd a 9223372036854775808))
else
j2 a (Sd a 9223372036854775808)
def Ub : UInt64 → Int → Option UInt64 := Vx Nb
def Ad7 (a : UInt64) : Option UInt64 :=
some a
def Vl : UInt64 → Option UInt64 := Ad7
def Nf (j6 : UInt64 → Option UInt64) (bk4 : UInt64 → Int → Option UInt64) (b : UInt8) (a : UInt64) (f : Int) : Option UInt64 :=
if (Ga f 0) then
(Ut (Cm f 0)).bind fun _ =>
(Ub a (Kf (Cw (Ad b : Int) f) 2)).bind fun g =>
bk4 g (Cw f 2)
else
j6 a
def Gn (b : UInt8) : Nat → UInt64 → Int → Option UInt64
| 0, _, _ => none
| q + 1, a, f => Nf Vl (Gn b q) b a f
def Ad8 (b : UInt8) : UInt64 → Int → Option UInt64 := Gn b Bc
def Ado (j4 : UInt8 → UInt64 → Int → Option UInt64) (h : UInt64) (b : UInt8) : Option UInt64 :=
j4 b h 128
def Aba : UInt64 → UInt8 → Option UInt64 := Ado Ad8
def Aa6 (a : UInt64) : Option UInt64 :=
some a
def Rt : UInt64 → Option UInt64 := Aa6
def Kl (j6 : UInt64 → Option UInt64) (bk4 : UInt64 → Int → Option UInt64) (b : LB) (a : UInt64) (f : Int) : Option UInt64 :=
if (Dg f (Ac b)) then
(Aj b f).bind fun g =>
(Aba a g).bind fun h =>
bk4 h (Af f 1)
else
j6 a
def Ev (b : LB) : Nat → UInt64 → Int → Option UInt64
| 0, _, _ => none
| q + 1, a, f => Kl Rt (Ev b q) b a f
def Abo (b : LB) : UInt64 → Int → Option UInt64 := Ev b Bc
def Aa3 (j4 : LB → UInt64 → Int → Option UInt64) (k : UInt64) (b : LB) : Option UInt64 :=
j4 b k 0
def Oo : UInt64 → LB → Option UInt64 := Aa3 Abo
def Abn (a : LB) : Option UInt64 :=
(Oo 0 a).bind fun b =>
some b
def Mz (a : LB) : Option (LB) :=
(Abn a).bind fun b =>
(Cz b 8).bind fun f =>
some f
abbrev Bn := Option (LI × Int)
def Aec (f : LI) : Bn :=
(En f).bind fun h =>
if (Cm h 0) then
some (([] : LI), 12)
else
some (f, 0)
def Mu : LI → Bn := Aec
def Na (j8 : LI → Bn) (bk6 : Int → LI → Bn) (b : LB) (a g : Int) (f : LI) : Bn :=
if (Dg g a) then
(Bs b (Bo 4 g) (Af (Bo 4 g) 4)).bind fun k =>
(Ah k).bind fun m =>
(Gc f ([(Ad m : Int)] : LI)).bind fun n =>
bk6 (Af g 1) n
else
j8 f
def Gl (b : LB) (a : Int) : Nat → Int → LI → Bn
| 0, _, _ => none
| q + 1, g, f => Na Mu (Gl b a q) b a g f
def Vv (b : LB) (a : Int) : Int → LI → Bn := Gl b a Bc
def Wc (j6 : LB → Int → Int → LI → Bn) (b : LB) (a : Int) : Bn :=
j6 b a 0 ([] : LI)
def Vz : LB → Int → Bn := Wc Vv
def Wa (j5 : LB → Int → Bn) (b : LB) (a : Int) : Bn :=
if ((Dg a 1) || (Ga a 1000)) then
some (([] : LI), 2)
else
if (Dg (Ac b) (Af (Bo 4 a) 4)) then
some (([] : LI), 24)
else
(Bs b (Bo 4 a) (Af (Bo 4 a) 4)).bind fun o =>
(Bs b 0 (Bo 4 a)).bind fun p =>
(Ah o).bind fun u =>
(Mq p).bind fun v =>
if (Cm u (Ad v : UInt64)) then
some (([] : LI), 22)
else
j5 b a
def Un : LB → Int → Bn := Wa Vz
abbrev Dc := Option (Int × LI × Int)
def Aa7 (b g : Int) (h : LI) : Dc :=
if (geq g 24) then
some (0, ([] : LI), (-1 : Int))
else
some ((Af (Af b (Bo 4 (Ac h))) 4), h, g)
def Rr : Int → Int → LI → Dc := Aa7
def Rs (j4 : Int → Int → LI → Dc) (a : LB) (f k m n o b : Int) : Dc :=
(Bs a b (Ac a)).bind fun p =>
(Dn f k m n o).bind fun u =>
(Un p (Ac u)).bind fun (h, g) =>
j4 b g h
def He : LB → Int → Int → Int → Int → Int → Int → Dc := Rs Rr
def Rp (j3 : LB → Int → Int → Int → Int → Int → Int → Dc) (a : LB) (f k m n o : Int) (v : LB) : Dc :=
if (geq f 2) then
if (Dg (Ac a) 8) then
some (0, ([] : LI), (-1 : Int))
else
(Bs a 0 8).bind fun w =>
(Mz v).bind fun y =>
if (w != y) then
some (0, ([] : LI), 26)
else
j3 a f k m n o 8
else
j3 a f k m n o 0
def Pb : LB → Int → Int → Int → Int → Int → LB → Dc := Rp He
def Aah (b : UInt64) (a : LB) : Option (UInt64 × Int) :=
if (Ga (Ac a) 100000) then
some (0, 4)
else
(Oo b a).bind fun f =>
some (f, 0)
def Acj (a : LB) : Option (UInt64 × Int) :=
(Aah 0 a).bind fun (b, f) =>
some (b, f)
def Aoa (a : LX) : Option (LX) :=
some a
def Ae6 : LX → Option (LX) := Aoa
def Agh (bk6 : UInt64 → Int → LX → Option (LX)) (b : UInt64) (f : Int) (a : LX) (g : Int32) : Option (LX) :=
(Aj a f).bind fun _ =>
(Qk a f g).bind fun h =>
bk6 (Cw b 256) (Af f 1) h
def Rk (bk6 : UInt64 → Int → LX → Option (LX)) : UInt64 → Int → LX → Int32 → Option (LX) := Agh bk6
def Qv (j8 : UInt64 → Int → LX → Int32 → Option (LX)) (j10 : LX → Option (LX)) (b : UInt64) (f : Int) (a : LX) : Option (LX) :=
if (Dg f 8) then
if (Ga (Ad (Zr b 256) : Int32) 127) then
j8 b f a (Ao (Ad (Zr b 256) : Int32) 256)
else
j8 b f a (Ad (Zr b 256) : Int32)
else
j10 a
def Gf : Nat → UInt64 → Int → LX → Option (LX)
| 0, _, _, _ => none
| q + 1, b, f, a => Qv (Rk (Gf q)) Ae6 b f a
def Ahi : UInt64 → Int → LX → Option (LX) := Gf Bc
def Agi (j6 : UInt64 → Int → LX → Option (LX)) (k : UInt64) : Option (LX) :=
j6 k 0 (List.replicate 16 (0 : Int32))
def Aeo : UInt64 → Option (LX) := Agi Ahi
def Up (a : LB) : Option (LX × Int) :=
if (Ga (Ac a) 64) then
some (([(0 : Int32), (0 : Int32), (0 : Int32), (0 : Int32), (0 : Int32), (0 : Int32), (0 : Int32), (0 : Int32), (0 : Int32), (0 : Int32), (0 : Int32), (0 : Int32), (0 : Int32), (0 : Int32), (0 : Int32), (0 : Int32)] : LX), 2)
else
(Acj a).bind fun (b, g) =>
(Aeo b).bind fun f =>
some (f, 0)
def Jk (a : Int) : Option Int :=
if (geq a 8) then
some 128
else
if (geq a 16) then
some 32768
else
if (geq a 24) then
some 8388608
else
some 0
def Rc (a b : Int) : Option Int :=
if ((Dg a 1) || (Ga a 6)) then
some 2
else
(Jk b).bind fun f =>
if (geq f 0) then
some 2
else
some 0
def Io (a f b : Int) : Option Int :=
(Rc a f).bind fun g =>
if ((Cm g 0) || (Dg b 1)) then
some 2
else
(Ut (Cm a 0)).bind fun _ =>
if (Ga b (Cw 4000 a)) then
some 2
else
some 0
def Ph (b : LB) : Option (LB) :=
(Mq b).bind fun a =>
(Gc ([] : LB) b).bind fun f =>
(Gc f ([(Ad a : UInt8), (Ad (Cr a (GI.toZ (8 : UInt64)).toNat) : UInt8), (Ad (Cr a (GI.toZ (16 : UInt64)).toNat) : UInt8), (Ad (Cr a (GI.toZ (24 : UInt64)).toNat) : UInt8)] : LB)).bind fun g =>
some g
def Ju (a : LB) : Option Int :=
if (Dg (Ac a) 5) then
some 24
else
if (Ga (Ac a) 41254) then
some 4
else
(Bs a 0 (Ao (Ac a) 4)).bind fun b =>
(Ph b).bind fun f =>
if (f != a) then
some 22
else
some 0
def Ii : Option (Int × Int × UInt64 × UInt64) :=
some (10, 10, 16384, 16384)
def Al3 (a : UInt64) : Option UInt64 :=
some a
def Abz : UInt64 → Option UInt64 := Al3
def Ls (j6 : UInt64 → Option UInt64) (bk4 : UInt64 → Int → Option UInt64) (b : Int) (a : UInt64) (f : Int) : Option UInt64 :=
if (Dg f b) then
bk4 (Bo a 2) (Af f 1)
else
j6 a
def Ft (b : Int) : Nat → UInt64 → Int → Option UInt64
| 0, _, _ => none
| q + 1, a, f => Ls Abz (Ft b q) b a f
def Ab5 (b : Int) : UInt64 → Int → Option UInt64 := Ft b Bc
def Abx (j4 : Int → UInt64 → Int → Option UInt64) (b : Int) : Option UInt64 :=
j4 b 1 0
def Dr : Int → Option UInt64 := Abx Ab5
def Pq (a g : Int) (h k : UInt64) (b : UInt32) : Option Bool :=
(Dr a).bind fun f =>
some (Dg (Ad b : UInt64) f)
def Jg (a g : Int) (h k : UInt64) (b : UInt32) : Option UInt32 :=
(Dr a).bind fun f =>
some (Ad (Ao (Ad b : UInt64) f) : UInt32)
abbrev Kc := Option (Int × UInt64)
def Aea (b : Int) (a f : UInt64) : Kc :=
if (Dg b 24) then
(Dr (Af b 5)).bind fun g =>
if (Ga (Ao (Af a f) (Cw a 16)) g) then
some ((Af b 1), (Ao (Af a f) (Cw a 16)))
else
some (b, (Ao (Af a f) (Cw a 16)))
else
some (b, (Ao (Af a f) (Cw a 16)))
def My : Int → UInt64 → UInt64 → Kc := Aea
def Wb (j2 : Int → UInt64 → UInt64 → Kc) (b : Int) (a f : UInt64) : Kc :=
if (Ga b 0) then
(Dr (Af b 4)).bind fun h =>
if (Dg (Ao (Af a f) (Cw a 16)) h) then
some ((Ao b 1), (Ao (Af a f) (Cw a 16)))
else
j2 b a f
else
j2 b a f
def Gw : Int → UInt64 → UInt64 → Kc := Wb My
abbrev Ie := Option (Int × Int × UInt64 × UInt64)
def Aa1 (h : UInt32) (f a : Int) (g b : UInt64) (o : Int) (p : UInt64) : Ie :=
(Gw f g (Ad h : UInt64)).bind fun (aa, ab) =>
some (aa, o, ab, p)
def Ko : UInt32 → Int → Int → UInt64 → UInt64 → Int → UInt64 → Ie := Aa1
def Kn (j2 : UInt32 → Int → Int → UInt64 → UInt64 → Int → UInt64 → Ie) (f a : Int) (g b : UInt64) (h : UInt32) : Ie :=
(Pq f a g b h).bind fun u =>
if (!u) then
(
(
(Jg f a g b h).bind fun k =>
(Gw a b (Ad k : UInt64)).bind fun (m, n) =>
j2 h f a g b m n))
else
j2 h f a g b a b
def Pf : Int → Int → UInt64 → UInt64 → UInt32 → Ie := Kn Ko
abbrev Cc := Option (Int × Int × UInt64 × UInt64)
def Aks (a b : Int) (f g : UInt64) : Cc :=
some (a, b, f, g)
def Aab : Int → Int → UInt64 → UInt64 → Cc := Aks
def Ra (j6 : Int → Int → UInt64 → UInt64 → Cc) (bk4 : Int → Int → Int → UInt64 → UInt64 → Cc) (h : Int) (k : LU) (m a b : Int) (f g : UInt64) : Cc :=
if (Dg m (Ac k)) then
(Aj k m).bind fun n =>
(Pf a b f g n).bind fun (o, p, u, v) =>
bk4 (Af m h) o p u v
else
j6 a b f g
def Gv (h : Int) (k : LU) : Nat → Int → Int → Int → UInt64 → UInt64 → Cc
| 0, _, _, _, _, _ => none
| q + 1, m, a, b, f, g => Ra Aab (Gv h k q) h k m a b f g
def Abi (h : Int) (k : LU) : Int → Int → Int → UInt64 → UInt64 → Cc := Gv h k Bc
def Rj (j4 : Int → LU → Int → Int → Int → UInt64 → UInt64 → Cc) (h : Int) (k : LU) : Cc :=
(Ii).bind fun (w, y, aa, ab) =>
(Ut (Cm h 0)).bind fun _ =>
j4 h k (Kf (Ac k) h) w y aa ab
def Jw : Int → LU → Cc := Rj Abi
def Ahh (a : Int) : Option Int :=
some (Kf a 2)
def Yk : Int → Option Int := Ahh
def Rb (j6 : Int → Option Int) (bk4 : Int → Int → Option Int) (b a f : Int) : Option Int :=
if (Dg f (Kf b 8)) then
bk4 (Cw a 2) (Af f 1)
else
j6 a
def Ij (b : Int) : Nat → Int → Int → Option Int
| 0, _, _ => none
| q + 1, a, f => Rb Yk (Ij b q) b a f
def Yp (b : Int) : Int → Int → Option Int := Ij b Bc
def Yn (j4 : Int → Int → Int → Option Int) (g : LB) (k b : Int) : Option Int :=
(Aj g (Cw b 8)).bind fun h =>
j4 b (Ad h : Int) 0
def Hq : LB → Int → Int → Option Int := Yn Yp
abbrev Br := Option (LB × Int)
def Ae4 (b g a : Int) (f : LB) : Br :=
(Aj f (Cw a 8)).bind fun _ =>
(Aj f (Cw a 8)).bind fun m =>
(Aj f (Cw a 8)).bind fun _ =>
(Qk f (Cw a 8) (Af m (Ad (Bo b g) : UInt8))).bind fun n =>
some (n, (Af a 1))
def Ou : Int → Int → Int → LB → Br := Ae4
def Pd (j8 : Int → Int → Int → LB → Br) (bk6 : Int → Int → Br) (b a : Int) (f : LB) (g h : Int) : Br :=
if (Dg h (Kf a 8)) then
bk6 (Bo g 2) (Af h 1)
else
j8 b g a f
def Hj (b a : Int) (f : LB) : Nat → Int → Int → Br
| 0, _, _ => none
| q + 1, g, h => Pd Ou (Hj b a f q) b a f g h
def Xa (b a : Int) (f : LB) : Int → Int → Br := Hj b a f Bc
def Xe (j6 : Int → Int → LB → Int → Int → Br) (b a : Int) (f : LB) : Br :=
j6 b a f 1 0
def Ot : Int → Int → LB → Br := Xe Xa
def Ww (j5 : Int → Int → LB → Br) (k : LB) (a b : Int) : Br :=
if (geq (Kf a 8) 0) then
(Gc k ([(0 : UInt8)] : LB)).bind fun o =>
j5 b a o
else
j5 b a k
def Pn : LB → Int → Int → Br := Ww Ot
abbrev Bt := Option (LB × Int)
def Ajq (a : Int) (b : LB) : Bt :=
some (b, a)
def Yw : Int → LB → Bt := Ajq
def Jo (j6 : Int → LB → Bt) (bk4 : Int → Int → LB → Bt) (f : Int) (g : LB) (h k a : Int) (b : LB) : Bt :=
if (Dg k f) then
(Hq g h k).bind fun m =>
(Pn b a m).bind fun (n, o) =>
bk4 (Af k 1) o n
else
j6 a b
def Ee (f : Int) (g : LB) (h : Int) : Nat → Int → Int → LB → Bt
| 0, _, _, _ => none
| q + 1, k, a, b => Jo Yw (Ee f g h q) f g h k a b
def Zm (f : Int) (g : LB) (h : Int) : Int → Int → LB → Bt := Ee f g h Bc
def Yt (j4 : Int → LB → Int → Int → Int → LB → Bt) (g : LB) (h p f : Int) : Bt :=
j4 f g h p 0 ([] : LB)
def Va : LB → Int → Int → Int → Bt := Yt Zm
def Al2 (a : UInt64) : Option UInt64 :=
some a
def Ab0 : UInt64 → Option UInt64 := Al2
def Ln (j6 : UInt64 → Option UInt64) (bk4 : UInt64 → Int → Option UInt64) (b : Int) (f : LB) (g : Int) (a : UInt64) (h : Int) : Option UInt64 :=
if (Sd h 0) then
(Hq f g (Af b h)).bind fun k =>
bk4 (Af (Bo 2 a) (Ad k : UInt64)) (Ao h 1)
else
j6 a
def Fo (b : Int) (f : LB) (g : Int) : Nat → UInt64 → Int → Option UInt64
| 0, _, _ => none
| q + 1, a, h => Ln Ab0 (Fo b f g q) b f g a h
def Tg (b : Int) (f : LB) (g : Int) : UInt64 → Int → Option UInt64 := Fo b f g Bc
def So (j4 : Int → LB → Int → UInt64 → Int → Option UInt64) (f : LB) (g b m : Int) : Option UInt64 :=
j4 b f g 0 (Ao m 1)
def Lj : LB → Int → Int → Int → Option UInt64 := So Tg
abbrev Da := Option (Int × Int)
def Ae5 (b a : Int) (g : LB) (f : Int) : Da :=
if (geq a 48) then
some (a, (Af b a))
else
if (Sd (Af b a) f) then
some ((-1 : Int), 0)
else
some (a, (Af (Af b a) 1))
def Oy : Int → Int → LB → Int → Da := Ae5
def Pg (j6 : Int → Int → LB → Int → Da) (bk4 : Int → Da) (b : Int) (g : LB) (f a : Int) : Da :=
if ((Dg (Af b a) f) && (Dg a 48)) then
(Hq g f (Af b a)).bind fun h =>
if (geq h 1) then
bk4 (Af a 1)
else
j6 b a g f
else
j6 b a g f
def Hi (b : Int) (g : LB) (f : Int) : Nat → Int → Da
| 0, _ => none
| q + 1, a => Pg Oy (Hi b g f q) b g f a
def Ae3 (b : Int) (g : LB) (f : Int) : Int → Da := Hi b g f Bc
def Afa (j4 : Int → LB → Int → Int → Da) (g : LB) (f b : Int) : Da :=
j4 b g f 0
def Acs : LB → Int → Int → Da := Afa Ae3
def Uj (b : UInt32) (f : Int) : Option Int :=
(Dr f).bind fun a =>
(Ut (Cm a 0)).bind fun _ =>
some (Ad (Gt 48 (Cw (Ad b : UInt64) a)) : Int)
abbrev Lg := Option (UInt32 × Int × Int)
def Wt (g a b : Int) (h : LB) (f k : Int) : Lg :=
if ((Dg a 0) || (Dg (Ao f b) k)) then
some (0, 0, 24)
else
(Lj h f b k).bind fun m =>
if (Dg a 48) then
(Dr g).bind fun o =>
some ((Ad (Af (Bo (Ad a : UInt64) o) m) : UInt32), (Af b k), 0)
else
(Uj (Ad m : UInt32) g).bind fun p =>
if (Dg p a) then
some (0, 0, 12)
else
some ((Ad m : UInt32), (Af b k), 0)
def On : Int → Int → Int → LB → Int → Int → Lg := Wt
def Wv (j2 : Int → Int → Int → LB → Int → Int → Lg) (h : LB) (f n g : Int) : Lg :=
if (Sd n f) then
some (0, 0, 24)
else
(Acs h f n).bind fun (a, b) =>
if (geq a 48) then
j2 g a b h f 32
else
j2 g a b h f g
def We : LB → Int → Int → Int → Lg := Wv On
def Wp (g : LB) (b a f n : Int) (v w : UInt64) : Option (UInt32 × Int × Int) :=
if (Sd a b) then
some (0, 0, 24)
else
(Hq g b a).bind fun o =>
if (geq o 0) then
if (Dg (Ao (Ao b a) 1) f) then
some (0, 0, 24)
else
(Lj g b (Af a 1) f).bind fun p =>
some ((Ad p : UInt32), (Af (Af a 1) f), 0)
else
(We g b (Af a 1) n).bind fun (h, u, k) =>
if (Cm k 0) then
some (0, 0, k)
else
(Dr f).bind fun m =>
if (Ga (Af (Ad h : UInt64) m) 4294967295) then
some (0, 0, 12)
else
some ((Ad (Af (Ad h : UInt64) m) : UInt32), u, 0)
abbrev Am := Option (LU × Int)
def Al4 (b : LU) : Am :=
some (b, 0)
def Aby : LU → Am := Al4
def Lu (j18 : LU → Am) (bk16 : Int → Am) (a : LB) (b : LU) (m : Int) : Am :=
if (Dg m (Bo 8 (Ac a))) then
(Hq a (Bo 8 (Ac a)) m).bind fun n =>
if (Cm n 0) then
some (b, 12)
else
bk16 (Af m 1)
else
j18 b
def Fh (a : LB) (b : LU) : Nat → Int → Am
| 0, _ => none
| q + 1, m => Lu Aby (Fh a b q) a b m
def Ts (a : LB) (b : LU) : Int → Am := Fh a b Bc
def Tx (j16 : LB → LU → Int → Am) (f : Int) (a : LB) (b : LU) : Am :=
if (Ga (Ao (Bo 8 (Ac a)) f) 7) then
some (b, 12)
else
j16 a b f
def Ll : Int → LB → LU → Am := Tx Ts
def Acb (bk10 : Int → Int → LU → Am) (g h : Int) (a : LB) (f k : Int) (b : LU) (o p : Int) (u v : UInt64) : Am :=
(Va a (Bo 8 (Ac a)) f (Gt (Af f 81) (Bo 8 (Ac a)))).bind fun (y, aa) =>
(Wp y aa 0 o p u v).bind fun (ab, ac, w) =>
if (Cm w 0) then
some (b, w)
else
(Gc b ([ab] : LU)).bind fun ad =>
bk10 (Af f ac) (Af k 1) ad
def Fm (bk10 : Int → Int → LU → Am) : Int → Int → LB → Int → Int → LU → Int → Int → UInt64 → UInt64 → Am := Acb bk10
def Ty (j13 : Int → Int → LU → Int → Int → UInt64 → UInt64 → Am) (j15 : Int → LB → LU → Am) (g h : Int) (a : LB) (f k : Int) (b : LU) : Am :=
if (Dg k (Bo h g)) then
(Ii).bind fun (n, ae, af, ag) =>
if (Sd k g) then
(Jw g b).bind fun (ah, ai, aj, ak) =>
j13 f k b ah ai aj ak
else
j13 f k b n ae af ag
else
j15 f a b
def De (g h : Int) (a : LB) : Nat → Int → Int → LU → Am
| 0, _, _, _ => none
| q + 1, f, k, b => Ty (Fm (De g h a q) g h a) Ll g h a f k b
def Ab4 (g h : Int) (a : LB) : Int → Int → LU → Am := De g h a Bc
def Vq (j10 : Int → Int → LB → Int → Int → LU → Am) (g h : Int) (a : LB) : Am :=
j10 g h a 0 0 ([] : LU)
def Uo : Int → Int → LB → Am := Vq Ab4
def Af1 (a : Int) : Option (Int × Int) :=
if (geq a 8) then
some (4, 0)
else
if ((geq a 16) || (geq a 24)) then
some (5, 0)
else
some (0, 2)
def Ajj (a : Int) (b : LX) : Option (Int × LX × LX × Int) :=
(Af1 a).bind fun (g, f) =>
if (Cm f 0) then
some (0, (List.replicate 16 (0 : Int32)), (List.replicate 16 (0 : Int32)), 2)
else
if (geq a 16) then
some (9, b, (List.replicate 16 (0 : Int32)), 0)
else
some (10, b, (List.replicate 16 (0 : Int32)), 0)
def Acf (a : Int) (b : LX) : Option (Int × Int32 × Int × LX × LX × Int) :=
(Ajj a b).bind fun (f, g, h, k) =>
if (Cm k 0) then
some (0, 0, 0, (List.replicate 16 (0 : Int32)), (List.replicate 16 (0 : Int32)), 2)
else
some (a, 0, f, g, h, 0)
def Ji (a : UInt32) : Option Int32 :=
if (geq (Zr a 2) 0) then
some (Ad (Cw a 2) : Int32)
else
some (Ad (Cw (Ap2 (Af (Ad a : Int) 1)) 2) : Int32)
def Bq (a : Int) : Option Int32 :=
some (Ad (Ad (Ad a : UInt64) : UInt32) : Int32)
def Ae8 (a : Int) : Option Int32 :=
some (Ad a : Int32)
def Xi : Int → Option Int32 := Ae8
def Ox (j6 : Int → Option Int32) (bk4 : Int → Int → Option Int32) (h : Int) (f g : LX) (a b : Int) : Option Int32 :=
if (Dg b 16) then
(Aj f b).bind fun _ =>
(Aj g b).bind fun _ =>
(Aj f b).bind fun k =>
(Aj g b).bind fun m =>
(Bq (Bo (Ad k : Int) (Ad m : Int))).bind fun n =>
(Bq (Af a (Ad n : Int))).bind fun o =>
bk4 (Ad o : Int) (Af b 1)
else
j6 a
def Hh (h : Int) (f g : LX) : Nat → Int → Int → Option Int32
| 0, _, _ => none
| q + 1, a, b => Ox Xi (Hh h f g q) h f g a b
def Ae2 (h : Int) (f g : LX) : Int → Int → Option Int32 := Hh h f g Bc
def Ae9 (j4 : Int → LX → LX → Int → Int → Option Int32) (h : Int) (f g : LX) : Option Int32 :=
j4 h f g 0 0
def Acn : Int → LX → LX → Option Int32 := Ae9 Ae2
def Aeb (b : Int) (f g : LX) (a : Int) : Option Int32 :=
(Acn b f g).bind fun k =>
(Bq (Af (Ad k : Int) (Cw a 2))).bind fun h =>
(Ut (Cm a 0)).bind fun _ =>
(Ut (Cm a 0)).bind fun _ =>
if (Dg (Kf (Ad h : Int) a) 0) then
some (Ad (Ao (Cw (Ad h : Int) a) 1) : Int32)
else
some (Ad (Cw (Ad h : Int) a) : Int32)
def Mv : Int → LX → LX → Int → Option Int32 := Aeb
def Uv (j2 : Int → LX → LX → Int → Option Int32) (b : Int) (f g : LX) : Option Int32 :=
if (geq b 9) then
j2 b f g 512
else
j2 b f g 1024
def Uh : Int → LX → LX → Option Int32 := Uv Mv
def Ug (a : Int) : Option Int32 :=
if (geq a 0) then
some 4
else
if (gle a 3) then
some 2
else
some 1
def Mx (a : Int32) : Option Int32 :=
if (Dg a 0) then
some (-1 : Int32)
else
if (Ga a 0) then
some 1
else
some 0
abbrev Bu := Option (Int × LX × LX)
def Ajv (g : Int) (b a : LX) : Bu :=
some (g, b, a)
def Zg : Int → LX → LX → Bu := Ajv
def Je (j6 : Int → LX → LX → Bu) (bk4 : Int → LX → Bu) (h : Int32) (g : Int) (a : LX) (f : Int) (b : LX) : Bu :=
if (Dg f 16) then
(Aj b f).bind fun _ =>
(Aj a f).bind fun _ =>
(Aj b f).bind fun k =>
(Aj a f).bind fun m =>
(Ug f).bind fun n =>
(Mx m).bind fun o =>
(Mx h).bind fun p =>
(Aj b f).bind fun _ =>
(Qk b f (Af k (Bo (Bo n o) p))).bind fun u =>
bk4 (Af f 1) u
else
j6 g b a
def Ek (h : Int32) (g : Int) (a : LX) : Nat → Int → LX → Bu
| 0, _, _ => none
| q + 1, f, b => Je Zg (Ek h g a q) h g a f b
def Zp (h : Int32) (g : Int) (a : LX) : Int → LX → Bu := Ek h g a Bc
def Zh (j4 : Int32 → Int → LX → Int → LX → Bu) (g : Int) (v a : LX) (h : Int32) : Bu :=
j4 h g a 0 v
def Vj : Int → LX → LX → Int32 → Bu := Zh Zp
abbrev Cd := Option (Int × LX × LX)
def Aa5 (b : Int32) (f : Int) (g a : LX) : Cd :=
(Aj a 0).bind fun _ =>
(Qk a 0 b).bind fun k =>
some (f, g, k)
def Qu : Int32 → Int → LX → LX → Cd := Aa5
def Km (j6 : Int32 → Int → LX → LX → Cd) (bk4 : Int → LX → Cd) (b : Int32) (f : Int) (g : LX) (h : Int) (a : LX) : Cd :=
if (Ga h 0) then
(Aj a (Ao h 1)).bind fun _ =>
(Aj a (Ao h 1)).bind fun m =>
(Aj a h).bind fun _ =>
(Qk a h m).bind fun n =>
bk4 (Ao h 1) n
else
j6 b f g a
def Eu (b : Int32) (f : Int) (g : LX) : Nat → Int → LX → Cd
| 0, _, _ => none
| q + 1, h, a => Km Qu (Eu b f g q) b f g h a
def Abf (b : Int32) (f : Int) (g : LX) : Int → LX → Cd := Eu b f g Bc
def Aad (j4 : Int32 → Int → LX → Int → LX → Cd) (f : Int) (g o : LX) (b : Int32) : Cd :=
j4 b f g 15 o
def Wx : Int → LX → LX → Int32 → Cd := Aad Abf
def Nj (a : Int) (b f : LX) (g : Int32) : Option (Int32 × Int × LX × LX) :=
(Uh a b f).bind fun k =>
(Bq (Af (Ad g : Int) (Ad k : Int))).bind fun h =>
(Vj a b f g).bind fun (m, n, o) =>
(Wx m n o h).bind fun (p, u, v) =>
some (h, p, u, v)
def Zv (b : Int32) (a : Int) : Option Int32 :=
(Ut (Cm a 0)).bind fun _ =>
(Ut (Cm a 0)).bind fun _ =>
if (Dg (Kf (Bo (Ao a 1) (Ad b : Int)) a) 0) then
some (Ad (Ao (Cw (Bo (Ao a 1) (Ad b : Int)) a) 1) : Int32)
else
some (Ad (Cw (Bo (Ao a 1) (Ad b : Int)) a) : Int32)
def Kh : Int32 → Int → Option Int32 := Zv
def Qy (j2 : Int32 → Int → Option Int32) (f : Int) (b : Int32) : Option Int32 :=
if (geq f 5) then
j2 b 32
else
j2 b 16
def Jv : Int → Int32 → Option Int32 := Qy Kh
def Oz (b : Int) (a : Int32) (h : Int) (k m : LX) : Option Int :=
if (geq b 8) then
(Jv 4 a).bind fun f =>
some (Ad f : Int)
else
(Jv 5 a).bind fun g =>
some (Ad g : Int)
def Gj (a : Int) (k : Int32) (b : Int) (f g : LX) (m : Int32) : Option (Int32 × Int × Int32 × Int × LX × LX) :=
(Nj b f g m).bind fun (n, o, p, u) =>
(Oz a k b f g).bind fun v =>
(Bq (Af (Ad n : Int) v)).bind fun h =>
some (h, a, h, o, p, u)
def Kx (a : Int) (b : LX) : Option Int :=
if ((Dg a 1) || (Ga a 6)) then
some 2
else
if (Ga (Ac b) 4000) then
some 4
else
(Ut (Cm a 0)).bind fun _ =>
if (Ga (Kf (Ac b) a) 0) then
some 2
else
some 0
def Aje (b : LX) : Option (LX) :=
some b
def Zd : LX → Option (LX) := Aje
def Jl (j8 : LX → Option (LX)) (bk6 : Int → LX → Option (LX)) (a : LX) (f : Int) (b : LX) : Option (LX) :=
if (Sd f 0) then
(Aj b (Af f 1)).bind fun _ =>
(Aj a f).bind fun m =>
(Aj b (Af f 1)).bind fun n =>
(Bq (Ao (Ad n : Int) (Ad m : Int))).bind fun o =>
(Aj b f).bind fun _ =>
(Qk b f o).bind fun p =>
bk6 (Ao f 1) p
else
j8 b
def Ej (a : LX) : Nat → Int → LX → Option (LX)
| 0, _, _ => none
| q + 1, f, b => Jl Zd (Ej a q) a f b
def Yz (a : LX) : Int → LX → Option (LX) := Ej a Bc
def Qj (j6 : LX → Int → LX → Option (LX)) (a g : LX) : Option (LX) :=
j6 a (Ao (Ac a) 2) g
def Jf : LX → LX → Option (LX) := Qj Yz
def Pp (j5 : LX → LX → Option (LX)) (a : LX) : Option (LX) :=
(mkI (Ac a) (0 : Int32)).bind fun k =>
(Ut (geq (Ac a) (Ac a))).bind fun _ =>
(Aj a (Ao (Ac a) 1)).bind fun u =>
(Aj k (Ao (Ac a) 1)).bind fun _ =>
(Qk k (Ao (Ac a) 1) u).bind fun h =>
if (Ga (Ac a) 1) then
(Aj a (Ao (Ac a) 1)).bind fun v =>
(Aj a (Ao (Ac a) 2)).bind fun w =>
(Bq (Af (Ad v : Int) (Cw (Ad w : Int) 2))).bind fun y =>
(Aj h (Ao (Ac a) 1)).bind fun _ =>
(Qk h (Ao (Ac a) 1) y).bind fun aa =>
j5 a aa
else
j5 a h
def Mw : LX → Option (LX) := Pp Jf
abbrev Cs := Option (LX × Int)
def Am2 (f : LX) : Cs :=
some (f, 0)
def Ad2 : LX → Cs := Am2
def Uy (j6 : LX → Cs) (bk4 : Int → LX → Cs) (a : Int) (b : LX) (g : Int) (f : LX) : Cs :=
if (Dg g (Ac b)) then
(Bs b g (Af g a)).bind fun h =>
(Mw h).bind fun k =>
(Gc f k).bind fun m =>
bk4 (Af g a) m
else
j6 f
def Ja (a : Int) (b : LX) : Nat → Int → LX → Cs
| 0, _, _ => none
| q + 1, g, f => Uy Ad2 (Ja a b q) a b g f
def Adz (a : Int) (b : LX) : Int → LX → Cs := Ja a b Bc
def Vu (j4 : Int → LX → Int → LX → Cs) (a : Int) (b : LX) : Cs :=
(Kx a b).bind fun n =>
if (Cm n 0) then
(Kx a b).bind fun o =>
some (([] : LX), o)
else
j4 a b 0 ([] : LX)
def Ui : Int → LX → Cs := Vu Adz
def Zl (a f : Int) (w : LX) : Option (LX) :=
(Ui a w).bind fun (aj, ai) =>
some aj
def Jn : Int → Int → LX → Option (LX) := Zl
def Zc (bk18 : Int → LX → Option (LX)) (b : LU) (a f : Int) (g : LX) (h : Int) (m : LX) : Option (LX) :=
bk18 (Af h 1) m
def Qa (bk18 : Int → LX → Option (LX)) : LU → Int → Int → LX → Int → LX → Option (LX) := Zc bk18
def Zf (bk26 : Int → LX → Int → Int32 → Int → LX → LX → Option (LX)) (b : LU) (h a f : Int) (g : LX) (k : Int) (af : LX) (y : Int) (aa : Int32) (ab : Int) (ac ad : LX) : Option (LX) :=
bk26 (Af k a) af y aa ab ac ad
def Qc (bk26 : Int → LX → Int → Int32 → Int → LX → LX → Option (LX)) : LU → Int → Int → Int → LX → Int → LX → Int → Int32 → Int → LX → LX → Option (LX) := Zf bk26
def Qe (j30 : Int → LX → Int → Int32 → Int → LX → LX → Option (LX)) (b : LU) (h a f : Int) (g : LX) (k : Int) (ae : Int32) (m : LX) (n : Int) (o : Int32) (p : Int) (u v : LX) (y : Int) (aa : Int32) (ab : Int) (ac ad : LX) : Option (LX) :=
(Aj m k).bind fun _ =>
(Qk m k ae).bind fun af =>
j30 k af y aa ab ac ad
def Qg (bk26 : Int → LX → Int → Int32 → Int → LX → LX → Option (LX)) (b : LU) (h a f : Int) (g : LX) : Int → Int32 → LX → Int → Int32 → Int → LX → LX → Int → Int32 → Int → LX → LX → Option (LX) := Qe (Qc bk26 b h a f g) b h a f g
def Jh (j29 : Int → Int32 → LX → Int → Int32 → Int → LX → LX → Int → Int32 → Int → LX → LX → Option (LX)) (j32 : Int → LX → Option (LX)) (b : LU) (a f : Int) (g : LX) (h k : Int) (m : LX) (n : Int) (o : Int32) (p : Int) (u v : LX) : Option (LX) :=
if (Dg k (Ac b)) then
(Aj b k).bind fun ah =>
(
(Ji ah).bind fun ag =>
(
(Gj n o p u v ag).bind fun (ae, y, aa, ab, ac, ad) =>
j29 k ae m n o p u v y aa ab ac ad))
else
j32 h m
def Gm (bk18 : Int → LX → Option (LX)) (b : LU) (a f : Int) (g : LX) (h : Int) : Nat → Int → LX → Int → Int32 → Int → LX → LX → Option (LX)
| 0, _, _, _, _, _, _, _ => none
| q + 1, k, m, n, o, p, u, v => Jh (Qg (Gm bk18 b a f g h q) b h a f g) (Qa bk18 b a f g) b a f g h k m n o p u v
def Pv (bk18 : Int → LX → Option (LX)) (b : LU) (a f : Int) (g : LX) (h : Int) : Int → LX → Int → Int32 → Int → LX → LX → Option (LX) := Gm bk18 b a f g h Bc
def Jd (j26 : Int → Int → LX → Int → Int32 → Int → LX → LX → Option (LX)) (j34 : Int → Int → LX → Option (LX)) (b : LU) (a f : Int) (g : LX) (h : Int) (w : LX) : Option (LX) :=
if (Dg h a) then
(Acf f g).bind fun (ak, ai, al, am, an, aq) =>
j26 h h w ak ai al am an
else
j34 a f w
def Dh (b : LU) (a f : Int) (g : LX) : Nat → Int → LX → Option (LX)
| 0, _, _ => none
| q + 1, h, w => Jd (Pv (Dh b a f g q) b a f g) Jn b a f g h w
def Pm (b : LU) (a f : Int) (g : LX) : Int → LX → Option (LX) := Dh b a f g Bc
def Rg (j18 : LU → Int → Int → LX → Int → LX → Option (LX)) (a f : Int) (g : LX) (b : LU) : Option (LX) :=
(mkI (Ac b) (0 : Int32)).bind fun ao =>
(Ut (geq (Ac b) (Ac b))).bind fun _ =>
j18 b a f g 0 ao
def Hk : Int → Int → LX → LU → Option (LX) := Rg Pm
def Al0 : Option Int :=
some 0
def Abv : Option Int := Al0
def Df (j6 : Option Int) (bk4 : Int → Option Int) (a : LX) (b f : Int) : Option Int :=
if (Dg f (Ac a)) then
(Aj a f).bind fun g =>
if (Dg (Ad g : Int) (Ap2 b)) then
some 16
else
(Aj a f).bind fun h =>
if (Sd (Ad h : Int) b) then
some 16
else
bk4 (Af f 1)
else
j6
def Bh (a : LX) (b : Int) : Nat → Int → Option Int
| 0, _ => none
| q + 1, f => Df Abv (Bh a b q) a b f
def Ab9 (a : LX) (b : Int) : Int → Option Int := Bh a b Bc
def Fi (j4 : LX → Int → Int → Option Int) (k : Int) (a : LX) : Option Int :=
(Jk k).bind fun b =>
if (geq b 0) then
some 2
else
if (Ga (Ac a) 4000) then
some 4
else
j4 a b 0
def Bi : Int → LX → Option Int := Fi Ab9
def Jz (g f : Int) (a : LX) : Option (LX × Int) :=
(Bi f a).bind fun b =>
if (Cm b 0) then
some (([] : LX), b)
else
some (a, 0)
abbrev Ia := Option (LX × Int)
def Ds (f a b : Int) (g : LX) (h : LU) : Ia :=
if (Cm f 0) then
some (([] : LX), f)
else
(
(
(Hk a b g h).bind fun m =>
(Jz a b m).bind fun (n, o) =>
some (n, o)))
def Ew : Int → Int → Int → LX → LU → Ia := Ds
def Kj (j2 : Int → Int → Int → LX → LU → Ia) (a b : Int) (g : LX) (p : Int) (k : LB) : Ia :=
(Io a b p).bind fun y =>
if (Cm y 0) then
some (([] : LX), 2)
else
(Ju k).bind fun aa =>
if (Cm aa 0) then
(Ju k).bind fun ab =>
some (([] : LX), ab)
else
(Bs k 0 (Ao (Ac k) 4)).bind fun ac =>
(Uo a p ac).bind fun (h, f) =>
j2 f a b g h
def Hl : Int → Int → LX → Int → LB → Ia := Kj Ew
def Xh (a b : Int) : Option (LB) :=
if (geq a 24) then
(Gc ([(Ad (Kf b 256) : UInt8), (Ad (Kf (Cw b 256) 256) : UInt8)] : LB) ([(Ad (Cw b 65536) : UInt8)] : LB)).bind fun g =>
some g
else
some ([(Ad (Kf b 256) : UInt8), (Ad (Kf (Cw b 256) 256) : UInt8)] : LB)
def Hm : Int → Int → Option (LB) := Xh
def Xd (j2 : Int → Int → Option (LB)) (a : Int) (f : Int32) : Option (LB) :=
if (geq a 8) then
some ([(Ad (Af (Ad f : Int) 128) : UInt8)] : LB)
else
if (Dg (Ad f : Int) 0) then
(Jk a).bind fun h =>
j2 a (Af (Ad f : Int) (Bo 2 h))
else
j2 a (Ad f : Int)
def Wo : Int → Int32 → Option (LB) := Xd Hm
abbrev Cl := Option (LB × Int)
def Aly (b : LB) : Cl :=
some (b, 0)
def Ab1 : LB → Cl := Aly
def Me (j6 : LB → Cl) (bk4 : Int → LB → Cl) (f : Int) (a : LX) (g : Int) (b : LB) : Cl :=
if (Dg g (Ac a)) then
(Aj a g).bind fun h =>
(Wo f h).bind fun k =>
(Gc b k).bind fun m =>
bk4 (Af g 1) m
else
j6 b
def Fp (f : Int) (a : LX) : Nat → Int → LB → Cl
| 0, _, _ => none
| q + 1, g, b => Me Ab1 (Fp f a q) f a g b
def Aca (f : Int) (a : LX) : Int → LB → Cl := Fp f a Bc
def Th (j4 : Int → LX → Int → LB → Cl) (f : Int) (a : LX) : Cl :=
(Bi f a).bind fun n =>
if (Cm n 0) then
(Bi f a).bind fun o =>
some (([] : LB), o)
else
j4 f a 0 ([] : LB)
def Qt : Int → LX → Cl := Th Aca
abbrev Hz := Option (LB × Int)
def Aal (o : LX) (f : Int) (p g : LB) (h k a m n : Int) (u : LI) (b : Int) (v : LB) (w : Bool) (y : Int) : Hz :=
if (Cm f 0) then
some (([] : LB), f)
else
(Qt a o).bind fun (ac, ai) =>
some (ac, 0)
def Rl : LX → Int → LB → LB → Int → Int → Int → Int → Int → LI → Int → LB → Bool → Int → Hz := Aal
def Rf (j2 : LX → Int → LB → LB → Int → Int → Int → Int → Int → LI → Int → LB → Bool → Int → Hz) (p g : LB) (h k a m n : Int) (u : LI) (b : Int) (v : LB) (w : Bool) (y : Int) : Hz :=
(Aj u b).bind fun aa =>
if (Dg (Ac g) aa) then
some (([] : LB), (-1 : Int))
else
(Up p).bind fun (ad, aj) =>
(Bs g 0 aa).bind fun ae =>
(Lh h k a m n).bind fun (af, ag) =>
(Dn h k a m n).bind fun ab =>
(Aj ab b).bind fun _ =>
(Aj ab b).bind fun ah =>
(Hl af ag ad ah ae).bind fun (o, f) =>
j2 o f p g h k a m n u b v w y
def Pc : LB → LB → Int → Int → Int → Int → Int → LI → Int → LB → Bool → Int → Hz := Rf Rl
abbrev Dz := Option (LB × LB × Int × Int × Int × Int × Int × LI × Int × LB × Bool × Int × Int)
def Iz (g a : LB) (m o p u v : Int) (b : LI) (f : Int) (n : LB) (h : Bool) (k : Int) : Dz :=
if (geq (Ac b) 0) then
(Pb a m o p u v g).bind fun (ag, ak, w) =>
if (Cm w 0) then
some (g, a, m, o, p, u, v, b, f, n, h, k, w)
else
(Bs a ag (Ac a)).bind fun al =>
some (g, al, m, o, p, u, v, ak, f, n, h, k, 0)
else
if (geq f (Ac b)) then
if (Ga (Ac a) 4000) then
some (g, a, m, o, p, u, v, b, f, n, h, k, 38)
else
some (g, a, m, o, p, u, v, b, f, n, h, k, (-1 : Int))
else
(Pc g a m o p u v b f n h k).bind fun (am, y) =>
if (Cm y 0) then
some (g, a, m, o, p, u, v, b, f, n, h, k, y)
else
(Gc ([] : LB) n).bind fun an =>
(Gc an am).bind fun ah =>
(
(
(
(Aj b f).bind fun ad =>
(
(Bs a ad (Ac a)).bind fun ae =>
some (g, ae, m, o, p, u, v, b, (Af f 1), ah, h, k, 0)))))
def Nk : LB → LB → Int → Int → Int → Int → Int → LI → Int → LB → Bool → Int → Dz := Iz
def Aed (g af : LB) (aa w ab ac y : Int) (b : LI) (f : Int) (n : LB) (h : Bool) (k : Int) : Dz :=
(Ih aa w ab ac y g).bind fun aw =>
some (g, af, aa, w, ab, ac, y, b, f, n, h, k, aw)
def Vo : LB → LB → Int → Int → Int → Int → Int → LI → Int → LB → Bool → Int → Dz := Aed
def Gp (j3 : LB → LB → Int → Int → Int → Int → Int → LI → Int → LB → Bool → Int → Dz) (j4 : LB → LB → Int → Int → Int → Int → Int → LI → Int → LB → Bool → Int → Dz) (g a : LB) (m o p u v : Int) (b : LI) (f : Int) (n : LB) (h : Bool) (k : Int) : Dz :=
if (geq m 0) then
(Iw a).bind fun (ag, aa, w, ab, ac, y, ai) =>
if (Cm ai 0) then
some (g, a, m, o, p, u, v, b, f, n, h, k, ai)
else
(
(Bs a ag (Ac a)).bind fun af =>
(
j3 g af aa w ab ac y b f n h k))
else
j4 g a m o p u v b f n h k
def Cb : LB → LB → Int → Int → Int → Int → Int → LI → Int → LB → Bool → Int → Dz := Gp Vo Nk
def Ab6 (o p : LB) (b f g h k : Int) (m : LI) (a : Int) (n : LB) (u : Bool) (v : Int) : Option Bool :=
(Cb o p b f g h k m a n u v).bind fun (af, ag, ah, ai, aj, ak, al, am, an, ao, ap, aq, w) =>
some (geq w (-1 : Int))
def Bp : LB → LB → Int → Int → Int → Int → Int → LI → Int → LB → Bool → Int → Option Bool := Ab6
def Tj (j4 : LB → LB → Int → Int → Int → Int → Int → LI → Int → LB → Bool → Int → Option Bool) (o p : LB) (b f g h k : Int) (m : LI) (a : Int) (n : LB) (u : Bool) (v : Int) : Option Bool :=
if (geq (Ac m) 0) then
if ((Cm a 0) || (Ga (Ac n) 0)) then
some false
else
j4 o p b f g h k m a n u v
else
(En m).bind fun y =>
if (Cm y 0) then
if ((true || (Dg a 0)) || (Ga a (Ac m))) then
some false
else
(Nd b f g h k a).bind fun aa =>
if (Ga (Ac n) aa) then
some false
else
j4 o p b f g h k m a n u v
else
(Dn b f g h k).bind fun ab =>
if (((Cm (Ac m) (Ac ab)) || (Dg a 0)) || (Ga a (Ac m))) then
some false
else
(Nd b f g h k a).bind fun ac =>
if (Ga (Ac n) ac) then
some false
else
j4 o p b f g h k m a n u v
def Td : LB → LB → Int → Int → Int → Int → Int → LI → Int → LB → Bool → Int → Option Bool := Tj Bp
def To (j4 : LB → LB → Int → Int → Int → Int → Int → LI → Int → LB → Bool → Int → Option Bool) (j3 : LB → LB → Int → Int → Int → Int → Int → LI → Int → LB → Bool → Int → Option Bool) (o p : LB) (b f g h k : Int) (m : LI) (a : Int) (n : LB) (u : Bool) (v : Int) : Option Bool :=
if ((geq b 0) && ((geq f 0) && ((geq g 0) && ((geq h 0) && ((geq k 0) && true))))) then
if (((Ga (Ac m) 0) || (Cm a 0)) || (Ga (Ac n) 0)) then
some false
else
j4 o p b f g h k m a n u v
else
(Ge b f g h k).bind fun ad =>
if (Cm ad 0) then
some false
else
(Ih b f g h k o).bind fun ae =>
if (Cm ae 0) then
some false
else
j3 o p b f g h k m a n u v
def Lc : LB → LB → Int → Int → Int → Int → Int → LI → Int → LB → Bool → Int → Option Bool := To Bp Td
def Ng (a : Int) : Option Bool :=
some (((((((geq a 4) || (geq a 12)) || (geq a 16)) || (geq a 22)) || (geq a 24)) || (geq a 26)) || (geq a 38))
def Qx (h k : LB) (m n o p u : Int) (v : LI) (f : Int) (g : LB) (b : Bool) (a : Int) : Option Int :=
if (Ga (Ac h) 64) then
some 8
else
if ((geq a 0) && (!b)) then
(Lc h k m n o p u v f g b a).bind fun w =>
if (!w) then
some 8
else
some 0
else
if ((geq (Ac k) 0) && (geq (Ac v) 0)) then
if ((!(((geq m 0) && ((geq n 0) && ((geq o 0) && ((geq p 0) && ((geq u 0) && true))))) && (geq f 0))) || (Ga (Ac g) 12000)) then
some 8
else
if (Cm a 0) then
if b then
some 8
else
(Ng a).bind fun y =>
if (!y) then
some 8
else
some 0
else
some 0
else
if ((!(false && (geq f 0))) || (Ga (Ac g) 12000)) then
some 8
else
if (Cm a 0) then
if b then
some 8
else
(Ng a).bind fun aa =>
if (!aa) then
some 8
else
some 0
else
some 0
def Aij : Option Bool :=
some true
def Xn : Option Bool := Aij
def Ny (j6 : Option Bool) (bk4 : Int → Option Bool) (a b : LI) (f : Int) : Option Bool :=
if (Dg f (Ac a)) then
(Aj a f).bind fun g =>
(Aj b f).bind fun h =>
if (Cm g h) then
some false
else
bk4 (Af f 1)
else
j6
def It (a b : LI) : Nat → Int → Option Bool
| 0, _ => none
| q + 1, f => Ny Xn (It a b q) a b f
def Og (a b : LI) : Int → Option Bool := It a b Bc
def Ns (j4 : LI → LI → Int → Option Bool) (a b : LI) : Option Bool :=
if (Cm (Ac a) (Ac b)) then
some false
else
j4 a b 0
def Lm : LI → LI → Option Bool := Ns Og
def Ue (o p : LB) (u v w y aa : Int) (ab : LI) (a : Int) (b : LB) (f : Bool) (g : Int) (ac ad : LB) (ae af ag ah ai : Int) (aj : LI) (h : Int) (k : LB) (m : Bool) (n : Int) : Option Bool :=
if (((o == ac) && (p == ad)) && ((geq u ae) && ((geq v af) && ((geq w ag) && ((geq y ah) && ((geq aa ai) && true)))))) then
(Lm ab aj).bind fun ak =>
some ((((ak && (geq a h)) && (b == k)) && (f == m)) && (geq g n))
else
some ((((false && (geq a h)) && (b == k)) && (f == m)) && (geq g n))
def Kw (a b : LB) (f g h k m : Int) (n : LI) (o : Int) (p : LB) (u : Bool) (v : Int) (w : LB) : Option Bool :=
(Rq a b f g h k m n o p u v).bind fun ab =>
if (ab || (Ga (Ac w) 100)) then
some true
else
(Amt w).bind fun (ac, ad, ae, af, ag, ah, ai, aj, ak, al, am, an, y) =>
(Ach w).bind fun (ao, ap, aq, ar, au, av, aw, ax, ay, az, ba, bb, aa) =>
(Ac2 a b f g h k m n o p u v).bind fun bc =>
(Qx a b f g h k m n o p u v).bind fun bd =>
if (geq bc bd) then
(Ue ac ad ae af ag ah ai aj ak al am an ao ap aq ar au av aw ax ay az ba bb).bind fun be =>
some (be && (geq y aa))
else
some (false && (geq y aa))
end Go.Pl
