/- A part of the proof of a statement of this seat (see the text that ends in Proof): CpPure. No conditions of its own. -/
import Derived.Test.YtneipcijjnibdaaGreatDoorCpBA
set_option linter.unusedVariables false
namespace Go.Pl
open Go Go.Lv
abbrev LB := List UInt8
abbrev LI := List Int
abbrev LX := List Int32
abbrev LU := List UInt32
abbrev LQ := List UInt64
abbrev Ee := Option (LI × Int)
def Ail (b : LI) : Ee :=
some (b, 0)
def Wr := Ail
def Hr (j6 : LI → Ee) (bk4 : Int → Int → LI → Ee) (f : Int) (g : UInt64) (h a : Int) (b : LI) : Ee :=
if (Bq a f) then
if (geq a (Af f 1)) then
(Ck b ([(Af (Ac a 1) h)] : LI)).bind fun k =>
bk4 (Ac a 1) (Ac a 1) k
else
(Eg (Gd (Dl a 64) 0)).bind fun _ =>
if (geq (Cj (Bn g (GI.toZ (Dl a 64)).toNat) 1) 1) then
(Ck b ([(Af (Ac a 1) h)] : LI)).bind fun m =>
bk4 (Ac a 1) (Ac a 1) m
else
bk4 h (Ac a 1) b
else
j6 b
def Eu (f : Int) (g : UInt64) : Nat → Int → Int → LI → Ee
| 0, _, _, _ => none
| q + 1, h, a, b => Hr Wr (Eu f g q) f g h a b
def Ls f g := Eu f g Bw
def Lq (j4 : Int → UInt64 → Int → Int → LI → Ee) (f : Int) (g : UInt64) : Ee :=
if ((Bq f 0) || (Eh f 100000)) then
some (([] : LI), 2)
else
j4 f g 0 0 ([] : LI)
def Dk := Lq Ls
def Kw (a : Int) : Option (Int × Int) :=
if ((Bq a 1) || (Eh a 1048576)) then
some (0, 2)
else
some ((Ant 1 (Fw (De 256 a) 245)), 0)
abbrev Uc := Option (Int32 × Int32 × Int)
def Al3 (a : Int) (b : Bool) : Uc :=
if b then
(Eg (Gd (Af a 1) 0)).bind fun _ =>
some ((Aul (Fv (1 : Int32) (GI.toZ (Af a 1)).toNat)), (Af (Fv (1 : Int32) (GI.toZ (Af a 1)).toNat) 1), 0)
else
some (0, 0, 2)
def Aa9 := Al3
def Abt (j2 : Int → Bool → Uc) (a : Int) : Uc :=
if (geq a 8) then
j2 a (geq a 8)
else
if (geq a 16) then
j2 a (geq a 16)
else
j2 a (geq a 24)
def Tm := Abt Aa9
def Mh (a b : Int) : Option Int :=
(Tm b).bind fun (g, h, f) =>
if (((Bf f 0) || (Bq a 1)) || (Eh a 6)) then
some 2
else
some 0
def Tt (a b f : Int) (g : LB) : Option (Int × Bool) :=
(Kw f).bind fun (h, k) =>
(Mh a b).bind fun m =>
some (h, (((geq m 0) && (geq k 0)) && (gle (Aa g) 64)))
def Aj7 (a b f : Int) (g : LB) : Option (Int × Int × Int × LB × LB × LX × (List LB) × LB × Bool × Int × Int) :=
(Tt a b f g).bind fun (k, h) =>
if (!h) then
some (0, 0, 0, ([] : LB), ([] : LB), ([] : LX), ([] : List LB), ([] : LB), false, 0, 2)
else
some (a, b, f, g, ([] : LB), ([] : LX), ([] : List LB), ([] : LB), false, 0, 0)
def Pf (a b : Int) : Option Int :=
some (Fw (De a b) 8)
def Alu : Option Int :=
some 0
def Abc := Alu
def Abk (j6 : Option Int) (bk4 : Int → Option Int) (b f : Int32) (a : LX) (g : Int) : Option Int :=
if (Bq g (Aa a)) then
(Al a g).bind fun h =>
if ((Bq h b) || (Eh h f)) then
some 16
else
bk4 (Ac g 1)
else
j6
def Px (b f : Int32) (a : LX) : Nat → Int → Option Int
| 0, _ => none
| q + 1, g => Abk Abc (Px b f a q) b f a g
def Aa3 b f a := Px b f a Bw
def Ac1 (j4 : Int32 → Int32 → LX → Int → Option Int) (m : Int) (a : LX) : Option Int :=
(Tm m).bind fun (b, f, k) =>
if (Bf k 0) then
some k
else
if (Eh (Aa a) 4000) then
some 4
else
j4 b f a 0
def Mo := Ac1 Aa3
def Mi (a h k : Int) (m n : LB) (b : LX) (f : List LB) (o : LB) (p : Bool) (u g : Int) : Option Int :=
(Eg (Bf a 0)).bind fun _ =>
some (Ac (De (Aa f) g) (Fw (Aa b) a))
def Xt (a g h : Int) (k m : LB) (n : LX) (o : List LB) (p : LB) (u : Bool) (v b f : Int) : Option Bool :=
some ((gle b 1000) && (gle (De f a) 4000))
def Adg (w : Bool) : Option Bool :=
some (!w)
def Ny := Adg
def Ns (j24 : Bool → Option Bool) (w : Bool) : Option Bool :=
j24 w
def Ik := Ns Ny
def Oa (j23 : Bool → Option Bool) : Option Bool :=
j23 (Gd (-1 : Int) (0 : Int))
def Om := Oa Ik
def Adf (bk16 : Int → Option Bool) (b : List LB) (f a g : Int) : Option Bool :=
bk16 (Ac g 1)
def Od bk16 := Adf bk16
def Oc (j23 : Bool → Option Bool) (j20 : Int → Option Bool) (b : List LB) (f a g : Int) (y : LB) : Option Bool :=
if ((Bq (Aa y) 5) || (Eh (Aa y) (Ac (Fw (Ac (De (De 81 f) a) 7) 8) 4))) then
j23 (Gd g 0)
else
j20 g
def Oe bk16 b f a := Oc Ik (Od bk16 b f a) b f a
def Oh (j19 : Int → LB → Option Bool) (j22 : Option Bool) (b : List LB) (f a g : Int) : Option Bool :=
if (Bq g (Aa b)) then
(Al b g).bind fun y =>
j19 g y
else
j22
def If (b : List LB) (f a : Int) : Nat → Int → Option Bool
| 0, _ => none
| q + 1, g => Oh (Oe (If b f a q) b f a) Om b f a g
def Nw b f a := If b f a Bw
def Nr (j16 : (List LB) → Int → Int → Int → Option Bool) (f a k o : Int) (p m : LB) (h : LX) (b : List LB) (n : LB) (u : Bool) (v : Int) : Option Bool :=
j16 b f a 0
def Og := Nr Nw
def Nq (j15 : Int → Int → Int → Int → LB → LB → LX → (List LB) → LB → Bool → Int → Option Bool) (f a k o : Int) (p m : LB) (h : LX) (b : List LB) (n : LB) (u : Bool) (v aa : Int) : Option Bool :=
(Mi a k o p m h b n u v f).bind fun ab =>
(Xt a k o p m h b n u v aa ab).bind fun ac =>
if (!ac) then
some false
else
j15 f a k o p m h b n u v
def Oj := Nq Og
def Nu (j14 : Int → Int → Int → Int → LB → LB → LX → (List LB) → LB → Bool → Int → Int → Option Bool) (f a k o : Int) (p m : LB) (h : LX) (b : List LB) (n : LB) (u : Bool) (v : Int) : Option Bool :=
(Mo k h).bind fun ad =>
if (Bf ad 0) then
some false
else
if (Eh (Aa h) 0) then
j14 f a k o p m h b n u v (Ac (Aa b) 1)
else
j14 f a k o p m h b n u v (Aa b)
def Oi := Nu Oj
def Qf (j13 : Int → Int → Int → Int → LB → LB → LX → (List LB) → LB → Bool → Int → Option Bool) (a k o : Int) (p m : LB) (h : LX) (b : List LB) (n : LB) (u : Bool) (v f : Int) : Option Bool :=
if (Eh (Aa n) 0) then
if true then
if true then
if (true || (Eh (Aa b) 1000)) then
some false
else
j13 f a k o p m h b n u v
else
(Eg (Bf a 0)).bind fun _ =>
if ((Gd (Fw (Aa h) a) f) || (Eh (Aa b) 1000)) then
some false
else
j13 f a k o p m h b n u v
else
(Eg (Bf a 0)).bind fun _ =>
if (Bf (Dl (Aa h) a) 0) then
if (true || (Eh (Aa b) 1000)) then
some false
else
j13 f a k o p m h b n u v
else
(Eg (Bf a 0)).bind fun _ =>
if ((Gd (Fw (Aa h) a) f) || (Eh (Aa b) 1000)) then
some false
else
j13 f a k o p m h b n u v
else
(Pf a k).bind fun ae =>
if (Gd (Aa m) ae) then
if true then
if (true || (Eh (Aa b) 1000)) then
some false
else
j13 f a k o p m h b n u v
else
(Eg (Bf a 0)).bind fun _ =>
if ((Gd (Fw (Aa h) a) f) || (Eh (Aa b) 1000)) then
some false
else
j13 f a k o p m h b n u v
else
(Eg (Bf a 0)).bind fun _ =>
if (Bf (Dl (Aa h) a) 0) then
if (true || (Eh (Aa b) 1000)) then
some false
else
j13 f a k o p m h b n u v
else
(Eg (Bf a 0)).bind fun _ =>
if ((Gd (Fw (Aa h) a) f) || (Eh (Aa b) 1000)) then
some false
else
j13 f a k o p m h b n u v
def Yp := Qf Oi
def Ub (m n o : Int) (p b : LB) (f : LX) (g : List LB) (h : LB) (k : Bool) (a : Int) : Option Int :=
(Tt m n o p).bind fun (u, v) =>
if (!v) then
some 8
else
if (Bf a 0) then
if (!(((((geq a 18) || (geq a 24)) && (!k)) && (geq (Ac (Ac (Aa b) (Aa f)) (Aa g)) 0)) && (geq (Aa h) 0))) then
some 8
else
some 0
else
if k then
if (!((geq (Ac (Ac (Aa b) (Aa f)) (Aa g)) 0) && (gle (Aa h) 100000))) then
some 8
else
some 0
else
(Yp m n o p b f g h k a u).bind fun w =>
if (!w) then
some 8
else
some 0
def Bg (a : LB) : Option (LB) :=
(
(Ck ([] : LB) a).bind fun b =>
some b)
def Bv (a : LX) : Option (LX) :=
(
(Ck ([] : LX) a).bind fun b =>
some b)
abbrev Db := Option (Int × Int × Int × LB × LB × LX × (List LB) × LB × Bool × Int)
def Akq (b f g : Int) (h : LB) (a : List LB) (k : Bool) (m : Int) (u : List LB) (n : LB) (o : LX) (p : LB) : Db :=
some (b, f, g, h, n, o, u, p, k, m)
def Yl := Akq
def Xy (j8 : Int → Int → Int → LB → (List LB) → Bool → Int → (List LB) → LB → LX → LB → Db) (bk6 : Int → (List LB) → Db) (w a : List LB) (b f g : Int) (h : LB) (k : Bool) (m : Int) (n : LB) (o : LX) (p : LB) (v : Int) (u : List LB) : Db :=
if (Bq v (Aa (Amv w a))) then
(Al u v).bind fun _ =>
(Al u v).bind fun y =>
(Bg y).bind fun aa =>
(Al u v).bind fun _ =>
(Io u v aa).bind fun ab =>
bk6 (Ac v 1) ab
else
j8 b f g h a k m u n o p
def Nm (w a : List LB) (b f g : Int) (h : LB) (k : Bool) (m : Int) (n : LB) (o : LX) (p : LB) : Nat → Int → (List LB) → Db
| 0, _, _ => none
| q + 1, v, u => Xy Yl (Nm w a b f g h k m n o p q) w a b f g h k m n o p v u
def Yb w a b f g h k m n o p := Nm w a b f g h k m n o p Bw
def Zq (j6 : (List LB) → (List LB) → Int → Int → Int → LB → Bool → Int → LB → LX → LB → Int → (List LB) → Db) (b f g : Int) (h : LB) (a : List LB) (k : Bool) (m : Int) (n : LB) (o : LX) (p : LB) : Db :=
(mkI (Aa a) ([] : LB)).bind fun w =>
(Eg (geq (Aa a) (Aa a))).bind fun _ =>
j6 w a b f g h k m n o p 0 (Amv w a)
def Yr := Zq Yb
def Yd (j5 : Int → Int → Int → LB → (List LB) → Bool → Int → LB → LX → LB → Db) (b f g : Int) (h ac : LB) (ad : LX) (a : List LB) (ae : LB) (k : Bool) (m : Int) : Db :=
(Bg ac).bind fun n =>
(Bv ad).bind fun o =>
(Bg ae).bind fun p =>
j5 b f g h a k m n o p
def Xs := Yd Yr
abbrev Ni := Option (Int × Int × Int × LB × LB × LX × (List LB) × LB × Bool × Int × Int × Int)
def Aiy (u g h b : Int) (k m : LB) (n : LX) (o : List LB) (p : LB) (f : Bool) (a v : Int) : Ni :=
(Xs g h b k m n o p f a).bind fun (y, aa, ab, ac, ad, ae, af, ag, ah, ai) =>
some (y, aa, ab, ac, ad, ae, af, ag, ah, ai, u, v)
def Ul := Aiy
def Ve (j2 : Int → Int → Int → Int → LB → LB → LX → (List LB) → LB → Bool → Int → Int → Ni) (g h b : Int) (k m : LB) (n : LX) (o : List LB) (p : LB) (f : Bool) (a : Int) : Ni :=
(Ub g h b k m n o p f a).bind fun w =>
if (Bf w 0) then
some (0, 0, 0, ([] : LB), ([] : LB), ([] : LX), ([] : List LB), ([] : LB), false, 0, 0, w)
else
(Kw b).bind fun (u, aj) =>
if (Bf a 0) then
j2 u g h b k m n o p f a a
else
if f then
j2 u g h b k m n o p f a 36
else
j2 u g h b k m n o p f a aj
def Tp := Ve Ul
abbrev Ba := Option (LX × Int)
def Agm (g : LX) : Ba :=
some (g, 0)
def Sn := Agm
def Ahu (bk16 : Int → LX → Ba) (a : Int) (b : LB) (f : Int) (m : LX) : Ba :=
bk16 (Ac f (Fw a 8)) m
def La bk16 := Ahu bk16
def Ry (j28 : Int → LX → Ba) (a : Int) (b : LB) (f : Int) (h : Int32) (g : LX) : Ba :=
(Eg (Gd (Af 32 a) 0)).bind fun _ =>
(Eg (Gd (Af 32 a) 0)).bind fun _ =>
(Ck g ([(Bn (Fv h (GI.toZ (Af 32 a)).toNat) (GI.toZ (Af 32 a)).toNat)] : LX)).bind fun p =>
j28 f p
def Tl bk16 a b := Ry (La bk16 a b) a b
def Rp (j27 : Int → Int32 → LX → Ba) (bk25 : Int32 → Int → Ba) (a : Int) (b : LB) (f : Int) (g : LX) (h : Int32) (k : Int) : Ba :=
if (Bq k (Fw a 8)) then
(Al b (Ac f k)).bind fun n =>
(Eg (Gd (De 8 k) 0)).bind fun _ =>
bk25 (gor h (Fv (Ao n : Int32) (GI.toZ (De 8 k)).toNat)) (Ac k 1)
else
j27 f h g
def Ku (bk16 : Int → LX → Ba) (a : Int) (b : LB) (f : Int) (g : LX) : Nat → Int32 → Int → Ba
| 0, _, _ => none
| q + 1, h, k => Rp (Tl bk16 a b) (Ku bk16 a b f g q) a b f g h k
def Tj bk16 a b f g := Ku bk16 a b f g Bw
def Sp (j28 : Int → LX → Ba) (j25 : Int → LX → Int32 → Int → Ba) (j30 : LX → Ba) (a : Int) (b : LB) (f : Int) (g : LX) : Ba :=
if (Bq f (Aa b)) then
if (geq a 8) then
(Al b f).bind fun n =>
(Ck g ([(Af (Ao n : Int32) 128)] : LX)).bind fun u =>
j28 f u
else
j25 f g 0 0
else
j30 g
def Ha (a : Int) (b : LB) : Nat → Int → LX → Ba
| 0, _, _ => none
| q + 1, f, g => Sp (La (Ha a b q) a b) (Tj (Ha a b q) a b) Sn a b f g
def Tg a b := Ha a b Bw
def Wd (j16 : Int → LB → Int → LX → Ba) (a : Int) (b : LB) : Ba :=
(Tm a).bind fun (v, w, o) =>
if (Bf o 0) then
some (([] : LX), o)
else
(Eg (Bf (Fw a 8) 0)).bind fun _ =>
if (Bf (Dl (Aa b) (Fw a 8)) 0) then
some (([] : LX), 12)
else
(Eg (Bf (Fw a 8) 0)).bind fun _ =>
if (Eh (Fw (Aa b) (Fw a 8)) 4000) then
some (([] : LX), 4)
else
j16 a b 0 ([] : LX)
def Ado := Wd Tg
abbrev Au := Option (UInt64 × Int)
def Am4 (h : UInt64) : Au :=
some (h, 0)
def Aan := Am4
def Acr (j30 : UInt64 → Au) (h b : UInt64) (a : LB) (f : LQ) : Au :=
j30 h
def Aah := Acr Aan
def Ab5 (j29 : UInt64 → UInt64 → LB → LQ → Au) (bk27 : UInt64 → Int → Au) (a : LB) (b : UInt64) (f : LQ) (h : UInt64) (m : Int) : Au :=
if (Bq m (Aa a)) then
(Al a m).bind fun p =>
Option.bind (Al f (GI.toZ (Aif (Ao (Bn h (GI.toZ (56 : UInt64)).toNat) : UInt8) p))) fun _ =>
Option.bind (Al f (GI.toZ (Aif (Ao (Bn h (GI.toZ (56 : UInt64)).toNat) : UInt8) p))) fun u =>
bk27 (Aif (Fv h (GI.toZ (8 : UInt64)).toNat) u) (Ac m 1)
else
j29 h b a f
def Pj (a : LB) (b : UInt64) (f : LQ) : Nat → UInt64 → Int → Au
| 0, _, _ => none
| q + 1, h, m => Ab5 Aah (Pj a b f q) a b f h m
def Ab9 a b f := Pj a b f Bw
def Acg (j27 : LB → UInt64 → LQ → UInt64 → Int → Au) (b : UInt64) (a : LB) (f : LQ) : Au :=
j27 a b f b 0
def Aay := Acg Ab9
def Alc (bk16 : Int → LQ → Au) (b : UInt64) (a : LB) (g : Int) (o : LQ) : Au :=
bk16 (Ac g 1) o
def Acm bk16 := Alc bk16
def Ab2 (j24 : Int → LQ → Au) (b : UInt64) (a : LB) (g : Int) (k : UInt64) (f : LQ) : Au :=
(Al f g).bind fun _ =>
(Io f g k).bind fun o =>
j24 g o
def Aaz bk16 b a := Ab2 (Acm bk16 b a) b a
def Abo (j23 : Int → UInt64 → LQ → Au) (bk21 : UInt64 → Int → Au) (b : UInt64) (a : LB) (g : Int) (f : LQ) (k : UInt64) (n : Int) : Au :=
if (Bq n 8) then
bk21 (Aif (Fv k (GI.toZ (1 : UInt64)).toNat) (De 4823603603198064275 (Bn k (GI.toZ (63 : UInt64)).toNat))) (Ac n 1)
else
j23 g k f
def Qe (bk16 : Int → LQ → Au) (b : UInt64) (a : LB) (g : Int) (f : LQ) : Nat → UInt64 → Int → Au
| 0, _, _ => none
| q + 1, k, n => Abo (Aaz bk16 b a) (Qe bk16 b a g f q) b a g f k n
def Abu bk16 b a g f := Qe bk16 b a g f Bw
def Aaw (j21 : Int → LQ → UInt64 → Int → Au) (j26 : UInt64 → LB → LQ → Au) (b : UInt64) (a : LB) (g : Int) (f : LQ) : Au :=
if (Bq g 256) then
j21 g f (Fv (Ao g : UInt64) (GI.toZ (56 : UInt64)).toNat) 0
else
j26 b a f
def Qb (b : UInt64) (a : LB) : Nat → Int → LQ → Au
| 0, _, _ => none
| q + 1, g, f => Aaw (Abu (Qb b a q) b a) Aay b a g f
def Aca b a := Qb b a Bw
def Aes (j16 : UInt64 → LB → Int → LQ → Au) (b : UInt64) (a : LB) : Au :=
if (Eh (Aa a) 100000) then
some (0, 4)
else
j16 b a 0 (List.replicate 256 (0 : UInt64))
def Ami := Aes Aca
def Ah7 (a : LB) : Option (UInt64 × Int) :=
(Ami 0 a).bind fun (b, f) =>
some (b, f)
def Asm (a : LX) : Option (LX) :=
some a
def Am9 := Asm
def Amg (j6 : LX → Option (LX)) (bk4 : Int → LX → Option (LX)) (f : UInt64) (b : Int) (a : LX) : Option (LX) :=
if (Bq b 8) then
(Eg (Gd (De 8 b) 0)).bind fun _ =>
(Al a b).bind fun _ =>
(Io a b (Ao (Ao (Bn f (GI.toZ (De 8 b)).toNat) : Int8) : Int32)).bind fun g =>
bk4 (Ac b 1) g
else
j6 a
def Afk (f : UInt64) : Nat → Int → LX → Option (LX)
| 0, _, _ => none
| q + 1, b, a => Amg Am9 (Afk f q) f b a
def Amx f := Afk f Bw
def Am1 (j4 : UInt64 → Int → LX → Option (LX)) (f : UInt64) : Option (LX) :=
j4 f 0 (List.replicate 16 (0 : Int32))
def Ate := Am1 Amx
def Md (a : LB) : Option (LX × Int) :=
if (Eh (Aa a) 64) then
some (([(0 : Int32), (0 : Int32), (0 : Int32), (0 : Int32), (0 : Int32), (0 : Int32), (0 : Int32), (0 : Int32), (0 : Int32), (0 : Int32), (0 : Int32), (0 : Int32), (0 : Int32), (0 : Int32), (0 : Int32), (0 : Int32)] : LX), 2)
else
(Ah7 a).bind fun (f, b) =>
if (Bf b 0) then
some (([(0 : Int32), (0 : Int32), (0 : Int32), (0 : Int32), (0 : Int32), (0 : Int32), (0 : Int32), (0 : Int32), (0 : Int32), (0 : Int32), (0 : Int32), (0 : Int32), (0 : Int32), (0 : Int32), (0 : Int32), (0 : Int32)] : LX), b)
else
(Ate f).bind fun g =>
some (g, 0)
def Ad5 (a f : Int) (b : LX) : Option Int :=
(Mh a f).bind fun g =>
if (Bf g 0) then
some g
else
(Mo f b).bind fun h =>
if (Bf h 0) then
some h
else
if (geq (Aa b) 0) then
some 2
else
(Eg (Bf a 0)).bind fun _ =>
if (Bf (Dl (Aa b) a) 0) then
some 2
else
some 0
def Aii (a : Int) (b : LX) : Option Int :=
if ((Bq a 1) || (Eh a 6)) then
some 2
else
if (Eh (Aa b) 4000) then
some 4
else
(Eg (Bf a 0)).bind fun _ =>
if (Bf (Dl (Aa b) a) 0) then
some 2
else
some 0
abbrev Dc := Option (LX × Int)
def Aqr (f : LX) : Dc :=
some (f, 0)
def Akd := Aqr
def Arn (bk12 : Int → LX → Dc) (b a : Int) (k : LX) : Dc :=
bk12 (Ac a b) k
def Ajt bk12 := Arn bk12
def Ajz (j20 : Int → LX → Dc) (b a : Int) (g : LX) : Dc :=
if (Eh (Af ((Ac a b) - a) 1) 0) then
(Eg (decide (0 ≤ (Af ((Ac a b) - a) 1) ∧ (Af ((Ac a b) - a) 1) < ((Ac a b) - a)))).bind fun _ =>
Option.bind (Eg (decide (0 ≤ (Af (Af ((Ac a b) - a) 1) 1) ∧ (Af (Af ((Ac a b) - a) 1) 1) < ((Ac a b) - a)))) fun _ =>
(Al g (a + (Af ((Ac a b) - a) 1))).bind fun m =>
(Al g (a + (Af (Af ((Ac a b) - a) 1) 1))).bind fun n =>
(Eg (decide (0 ≤ (Af ((Ac a b) - a) 1) ∧ (Af ((Ac a b) - a) 1) < ((Ac a b) - a)))).bind fun _ =>
(Io g (a + (Af ((Ac a b) - a) 1)) (Af m (Fw n 2))).bind fun o =>
j20 a o
else
j20 a g
def Aj5 bk12 b := Ajz (Ajt bk12 b) b
def Aj3 (j19 : Int → LX → Dc) (bk17 : Int → LX → Dc) (b a h : Int) (g : LX) : Dc :=
if (Bq h (Af ((Ac a b) - a) 1)) then
(Eg (decide (0 ≤ (Ac h 1) ∧ (Ac h 1) < ((Ac a b) - a)))).bind fun _ =>
(Eg (decide (0 ≤ h ∧ h < ((Ac a b) - a)))).bind fun _ =>
(Al g (a + (Ac h 1))).bind fun m =>
(Al g (a + h)).bind fun n =>
(Eg (decide (0 ≤ h ∧ h < ((Ac a b) - a)))).bind fun _ =>
(Io g (a + h) (Af m n)).bind fun o =>
bk17 (Ac h 1) o
else
j19 a g
def Acw (bk12 : Int → LX → Dc) (b a : Int) : Nat → Int → LX → Dc
| 0, _, _ => none
| q + 1, h, g => Aj3 (Aj5 bk12 b) (Acw bk12 b a q) b a h g
def Aj4 bk12 b a := Acw bk12 b a Bw
def Ajs (j17 : Int → Int → LX → Dc) (j22 : LX → Dc) (b a : Int) (f : LX) : Dc :=
if (Bq a (Aa f)) then
(vwI (Aa f) a (Ac a b)).bind fun _ =>
j17 a 0 f
else
j22 f
def Acs (b : Int) : Nat → Int → LX → Dc
| 0, _, _ => none
| q + 1, a, f => Ajs (Aj4 (Acs b q) b) Akd b a f
def Akc b := Acs b Bw
def Am7 (j12 : Int → Int → LX → Dc) (b : Int) (p : LX) : Dc :=
(Aii b p).bind fun u =>
if (Bf u 0) then
some (([] : LX), u)
else
(Bv p).bind fun v =>
j12 b 0 v
def Atf := Am7 Akc
abbrev Afd := Option (Int × LX × LX × Int)
def Aq2 (a : Int) (b : LX) (f : Bool) : Afd :=
if f then
some (10, b, (List.replicate 16 (0 : Int32)), 0)
else
if (geq a 16) then
some (9, b, (List.replicate 16 (0 : Int32)), 0)
else
some (0, (List.replicate 16 (0 : Int32)), (List.replicate 16 (0 : Int32)), 2)
def Ajq := Aq2
def Ajb (j2 : Int → LX → Bool → Afd) (a : Int) (b : LX) : Afd :=
if (geq a 8) then
j2 a b (geq a 8)
else
j2 a b (geq a 24)
def Ak9 := Ajb Ajq
def Ais (a : Int) (f : LX) : Option (Int × Int32 × Int × LX × LX × Int) :=
(Ak9 a f).bind fun (g, h, k, b) =>
if (Bf b 0) then
some (0, 0, 0, (List.replicate 16 (0 : Int32)), (List.replicate 16 (0 : Int32)), b)
else
some (a, 0, g, h, k, 0)
def Mn (a : Int) (k : Int32) (b : Int) (f m : LX) : Option Int :=
(Ak9 a f).bind fun (g, n, o, h) =>
if ((Bf h 0) || (Bf g b)) then
some 8
else
some 0
def Ajf (a : Int) : Option (Int × Int) :=
if (geq a 8) then
some (4, 0)
else
if (geq a 16) then
if (geq a 16) then
some (5, 0)
else
some (0, 2)
else
if (geq a 24) then
some (5, 0)
else
some (0, 2)
def Ajx (a : Int) (b : Int32) : Option Int32 :=
(Eg (Gd a 0)).bind fun _ =>
(Eg (Gd a 0)).bind fun _ =>
some (Ao (Auk (Af (Fv (Ao b : Int) (GI.toZ a).toNat) (Ao b : Int)) (GI.toZ a).toNat) : Int32)
def Mv (b : Int) (f : Int32) : Option (Int32 × Int) :=
(Ajf b).bind fun (g, a) =>
if (Bf a 0) then
some (0, a)
else
(Ajx g f).bind fun h =>
some (h, 0)
def Qg (a : Int) (b f : LX) : Option Int :=
if ((Bf a 9) && (Bf a 10)) then
some 8
else
some 0
abbrev Gn := Option (Int32 × Int)
def Ans (g : Int32) (a : Int) (b f : LX) : Gn :=
(Eg (Gd a 0)).bind fun _ =>
some ((Bn g (GI.toZ a).toNat), 0)
def Aem := Ans
def Ady (j6 : Int32 → Int → LX → LX → Gn) (bk4 : Int32 → Int → Gn) (b : LX) (a : Int) (f : LX) (g : Int32) (h : Int) : Gn :=
if (Bq h 16) then
(Al b h).bind fun m =>
(Al f h).bind fun _ =>
(Al f h).bind fun n =>
bk4 (Ac g (De m n)) (Ac h 1)
else
j6 g a b f
def Tx (b : LX) (a : Int) (f : LX) : Nat → Int32 → Int → Gn
| 0, _, _ => none
| q + 1, g, h => Ady Aem (Tx b a f q) b a f g h
def Aen b a f := Tx b a f Bw
def Adq (j4 : LX → Int → LX → Int32 → Int → Gn) (a : Int) (b f : LX) : Gn :=
(Qg a b f).bind fun k =>
if (Bf k 0) then
some (0, k)
else
(Eg (Gd (Af a 1) 0)).bind fun _ =>
j4 b a f (Fv (1 : Int32) (GI.toZ (Af a 1)).toNat) 0
def Af0 := Adq Aen
def Aie (a : Int) : Option Int32 :=
if (geq a 0) then
some 4
else
if (Bq a 4) then
some 2
else
some 1
abbrev Gq := Option (Int × LX × LX × Int)
def Ano (g : Int) (b f : LX) : Gq :=
some (g, b, f, 0)
def Aep := Ano
def Aew (j6 : Int → LX → LX → Gq) (bk4 : Int → LX → Gq) (h : Int32) (f : LX) (g a : Int) (b : LX) : Gq :=
if (Bq a 16) then
(Al f a).bind fun m =>
if (geq m 0) then
bk4 (Ac a 1) b
else
if ((Bq m 0) == (Bq h 0)) then
(Al b a).bind fun _ =>
(Al b a).bind fun o =>
(Aie a).bind fun p =>
(Al b a).bind fun _ =>
(Io b a (Ac o p)).bind fun u =>
bk4 (Ac a 1) u
else
(Al b a).bind fun _ =>
(Al b a).bind fun v =>
(Aie a).bind fun w =>
(Al b a).bind fun _ =>
(Io b a (Af v w)).bind fun y =>
bk4 (Ac a 1) y
else
j6 g b f
def Ue (h : Int32) (f : LX) (g : Int) : Nat → Int → LX → Gq
| 0, _, _ => none
| q + 1, a, b => Aew Aep (Ue h f g q) h f g a b
def Aet h f g := Ue h f g Bw
def Aev (j4 : Int32 → LX → Int → Int → LX → Gq) (g : Int) (k f : LX) (h : Int32) : Gq :=
(Qg g k f).bind fun n =>
if (Bf n 0) then
some (0, (List.replicate 16 (0 : Int32)), (List.replicate 16 (0 : Int32)), n)
else
if (geq h 0) then
some (g, k, f, 0)
else
j4 h f g 0 k
def Al1 := Aev Aet
abbrev Abz := Option (Int × LX × LX × Int)
def Apz (g : Int32) (b : Int) (f a : LX) : Abz :=
(Al (Ij a 1 ((16 : Int) - (1 : Int)) (Aaf a 0 ((16 : Int) - (0 : Int)))) 0).bind fun _ =>
(Io (Ij a 1 ((16 : Int) - (1 : Int)) (Aaf a 0 ((16 : Int) - (0 : Int)))) 0 g).bind fun k =>
some (b, f, k, 0)
def Ag5 := Apz
def Xq (j2 : Int32 → Int → LX → LX → Abz) (b : Int) (f a : LX) (g : Int32) : Abz :=
(Qg b f a).bind fun h =>
if (Bf h 0) then
some (0, (List.replicate 16 (0 : Int32)), (List.replicate 16 (0 : Int32)), h)
else
(
(vwI 16 1 16).bind fun _ =>
(vwI 16 0 16).bind fun _ =>
j2 g b f a)
def An1 := Xq Ag5
def Afc (a : Int) (b f : LX) (g h : Int32) : Option (Int × LX × LX) :=
(Al1 a b f h).bind fun (k, m, n, v) =>
(An1 k m n g).bind fun (o, p, u, w) =>
some (o, p, u)
def Aao (b : Int) (f g : LX) (a : Int32) : Option (Int32 × Int × LX × LX × Int) :=
(Af0 b f g).bind fun (h, k) =>
if (Bf k 0) then
some (0, 0, (List.replicate 16 (0 : Int32)), (List.replicate 16 (0 : Int32)), k)
else
(Afc b f g a (Af a h)).bind fun (m, n, o) =>
some ((Af a h), m, n, o, 0)
def Mk (a : Int) (b : Int32) (f : Int) (g h : LX) (k : Int32) : Option (Int32 × Int × Int32 × Int × LX × LX × Int) :=
(Mn a b f g h).bind fun m =>
if (Bf m 0) then
some (0, 0, 0, 0, (List.replicate 16 (0 : Int32)), (List.replicate 16 (0 : Int32)), m)
else
(Mv a b).bind fun (n, y) =>
(Aao f g h (Af k n)).bind fun (o, p, u, v, w) =>
(
some (o, a, k, p, u, v, w))
def An7 (a : Int32) : Option UInt32 :=
some (Aif (Fv (Ao a : UInt32) (GI.toZ (1 : UInt64)).toNat) (Ao (Bn a (GI.toZ (31 : UInt64)).toNat) : UInt32))
abbrev Bi := Option (LU × Int)
def Afq (k : LU) : Bi :=
some (k, 0)
def Pg := Afq
def Qh (j12 : LU → Bi) (bk10 : Int → (List (Int × Int32 × (Int × LX × LX × Unit) × Unit)) → LU → Bi) (b : LX) (a f g : Int) (o : List (Int × Int32 × (Int × LX × LX × Unit) × Unit)) (k : LU) : Bi :=
if (Bq g (Aa b)) then
(Al b g).bind fun _ =>
(Al b g).bind fun ac =>
(Eg (Bf a 0)).bind fun _ =>
(Al o (Dl g a)).bind fun _ =>
(Al o (Dl g a)).bind fun p =>
(Mk p.1 p.2.1 p.2.2.1.1 p.2.2.1.2.1 p.2.2.1.2.2.1 ac).bind fun (u, ad, ae, v, af, ag, w) =>
if (Bf w 0) then
some (([] : LU), w)
else
(Io o (Dl g a) (ad, ae, (v, af, ag, ()), ())).bind fun ah =>
(An7 u).bind fun ai =>
(Ck k ([ai] : LU)).bind fun aj =>
bk10 (Ac g 1) ah aj
else
j12 k
def Jr (b : LX) (a f : Int) : Nat → Int → (List (Int × Int32 × (Int × LX × LX × Unit) × Unit)) → LU → Bi
| 0, _, _, _ => none
| q + 1, g, o, k => Qh Pg (Jr b a f q) b a f g o k
def Qz b a f := Jr b a f Bw
def Sa (j10 : LX → Int → Int → Int → (List (Int × Int32 × (Int × LX × LX × Unit) × Unit)) → LU → Bi) (a f : Int) (b : LX) (h : List (Int × Int32 × (Int × LX × LX × Unit) × Unit)) : Bi :=
j10 b a f 0 h ([] : LU)
def Rg := Sa Qz
def Ro (j9 : Int → Int → LX → (List (Int × Int32 × (Int × LX × LX × Unit) × Unit)) → Bi) (bk7 : Int → (List (Int × Int32 × (Int × LX × LX × Unit) × Unit)) → Bi) (a f : Int) (m b : LX) (n : Int) (h : List (Int × Int32 × (Int × LX × LX × Unit) × Unit)) : Bi :=
if (Bq n 6) then
(Ais f m).bind fun (ak, al, u, am, an, v) =>
(Al h n).bind fun _ =>
(Io h n (ak, al, (u, am, an, ()), ())).bind fun ao =>
bk7 (Ac n 1) ao
else
j9 a f b h
def Lb (a f : Int) (m b : LX) : Nat → Int → (List (Int × Int32 × (Int × LX × LX × Unit) × Unit)) → Bi
| 0, _, _ => none
| q + 1, n, h => Ro Rg (Lb a f m b q) a f m b n h
def Rh a f m b := Lb a f m b Bw
def Sy (j7 : Int → Int → LX → LX → Int → (List (Int × Int32 × (Int × LX × LX × Unit) × Unit)) → Bi) (a f : Int) (m y : LX) : Bi :=
(Ad5 a f y).bind fun aa =>
if (Bf aa 0) then
some (([] : LU), aa)
else
(Atf a y).bind fun (b, ab) =>
if (Bf ab 0) then
some (([] : LU), ab)
else
j7 a f m b 0 (List.replicate 6 ((0 : Int), (0 : Int32), ((0 : Int), (List.replicate 16 (0 : Int32)), (List.replicate 16 (0 : Int32)), ()), ()))
def Abr := Sy Rh
def Aft : Option (Int × Int × UInt64 × UInt64) :=
some (10, 10, 16384, 16384)
abbrev Dg := Option ((List (Int × Int × UInt64 × UInt64 × Unit)))
def Ah0 (a : List (Int × Int × UInt64 × UInt64 × Unit)) : Dg :=
some a
def Rn := Ah0
def Rv (j6 : (List (Int × Int × UInt64 × UInt64 × Unit)) → Dg) (bk4 : Int → (List (Int × Int × UInt64 × UInt64 × Unit)) → Dg) (b : Int) (a : List (Int × Int × UInt64 × UInt64 × Unit)) : Dg :=
if (Bq b 6) then
(Aft).bind fun (f, g, h, k) =>
(Al a b).bind fun _ =>
(Io a b (f, g, h, k, ())).bind fun m =>
bk4 (Ac b 1) m
else
j6 a
def Kj : Nat → Int → (List (Int × Int × UInt64 × UInt64 × Unit)) → Dg
| 0, _, _ => none
| q + 1, b, a => Rv Rn (Kj q) b a
def Tf := Kj Bw
def Sm (j4 : Int → (List (Int × Int × UInt64 × UInt64 × Unit)) → Dg) : Dg :=
j4 0 (List.replicate 6 ((0 : Int), (0 : Int), (0 : UInt64), (0 : UInt64), ()))
def Aa1 := Sm Tf
def Ev (b : LB) (a : Int) : Option Int :=
if (((Bq a 0) || (Eh a 330000)) || (Bf (Aa b) (Auk (Ac a 7) (GI.toZ (3 : UInt64)).toNat))) then
some 8
else
if (Eh (Cj a 7) 0) then
(Al b (Af (Aa b) 1)).bind fun f =>
(Eg (Gd (Cj a 7) 0)).bind fun _ =>
if (Bf (Bn f (GI.toZ (Cj a 7)).toNat) 0) then
some 8
else
some 0
else
some 0
def Anx (a b : Int) (f g : UInt64) : Option Int :=
if (!((geq (Cv (Ant a 0) 24) a) && ((geq (Cv (Ant b 0) 24) b) && ((geq (Cv f 68719476735) f) && ((geq (Cv g 68719476735) g) && true))))) then
some 8
else
some 0
def Ad8 := Anx
def Tw (j4 : Int → Int → UInt64 → UInt64 → Option Int) (a b : Int) (f g : UInt64) : Option Int :=
(
(
j4 a b f g))
def Adp := Tw Ad8
def Tu (j3 : Int → Int → UInt64 → UInt64 → Option Int) (a b : Int) (f g : UInt64) : Option Int :=
(
(
j3 a b f g))
def Afm := Tu Adp
def Xi (a f : Int) (g h : UInt64) (b : UInt32) : Option (Int × UInt32) :=
(Eg (Gd a 0)).bind fun _ =>
if (geq (Bn b (GI.toZ a).toNat) 0) then
some (0, b)
else
(Eg (Gd a 0)).bind fun _ =>
some (1, (Af b (Fv (1 : UInt32) (GI.toZ a).toNat)))
def Aip (a : LB) (b : Int) : Option (LB × Int) :=
(Bg a).bind fun f =>
some (f, b)
abbrev Bm := Option (LB × Int × Int)
def Ao9 (f : Int) (o : LB) : Bm :=
some (o, f, 0)
def Ahe := Ao9
def Apg (bk15 : UInt64 → Int → Int → LB → Bm) (b : UInt64) (a : Int) (m : UInt64) (h f : Int) (w : LB) : Bm :=
(Eg (Gd (Cv h (Af 8 (Cj f 7))) 0)).bind fun _ =>
bk15 (Bn m (GI.toZ (Cv h (Af 8 (Cj f 7)))).toNat) (Af h (Cv h (Af 8 (Cj f 7)))) (Ac f (Cv h (Af 8 (Cj f 7)))) w
def Aha bk15 := Apg bk15
def Agh (j19 : UInt64 → Int → Int → LB → Bm) (b : UInt64) (a : Int) (m : UInt64) (h f : Int) (u : LB) : Bm :=
(Al u (Af (Aa u) 1)).bind fun _ =>
(Eg (Gd (Cv h (Af 8 (Cj f 7))) 0)).bind fun _ =>
(Eg (Gd (Cj f 7) 0)).bind fun _ =>
(Al u (Af (Aa u) 1)).bind fun ad =>
(Al u (Af (Aa u) 1)).bind fun _ =>
Option.bind (Io u (Af (Aa u) 1) (gor ad (Fv (Ao (Cj m (Af (Fv (1 : UInt64) (GI.toZ (Cv h (Af 8 (Cj f 7)))).toNat) 1)) : UInt8) (GI.toZ (Cj f 7)).toNat))) fun w =>
j19 m h f w
def Agf bk15 b a := Agh (Aha bk15 b a) b a
def Ag3 (j18 : UInt64 → Int → Int → LB → Bm) (j21 : Int → LB → Bm) (b : UInt64) (a : Int) (m : UInt64) (h f : Int) (o : LB) : Bm :=
if (Eh h 0) then
if (geq (Cj f 7) 0) then
(Ck o ([(0 : UInt8)] : LB)).bind fun ab =>
j18 m h f ab
else
j18 m h f o
else
j21 f o
def Wz (b : UInt64) (a : Int) : Nat → UInt64 → Int → Int → LB → Bm
| 0, _, _, _, _ => none
| q + 1, m, h, f, o => Ag3 (Agf (Wz b a q) b a) Ahe b a m h f o
def Af4 b a := Wz b a Bw
def Apu (g : Int) (p : LB) : Bm :=
some (p, g, 0)
def Ahl := Apu
def Aoz (bk22 : UInt64 → Int → Int → LB → Bm) (b : UInt64) (a : Int) (n : UInt64) (k g : Int) (y : LB) : Bm :=
(Eg (Gd (Cv k (Af 8 (Cj g 7))) 0)).bind fun _ =>
bk22 (Bn n (GI.toZ (Cv k (Af 8 (Cj g 7)))).toNat) (Af k (Cv k (Af 8 (Cj g 7)))) (Ac g (Cv k (Af 8 (Cj g 7)))) y
def Agb bk22 := Aoz bk22
def Agt (j26 : UInt64 → Int → Int → LB → Bm) (b : UInt64) (a : Int) (n : UInt64) (k g : Int) (v : LB) : Bm :=
(Al v (Af (Aa v) 1)).bind fun _ =>
(Eg (Gd (Cv k (Af 8 (Cj g 7))) 0)).bind fun _ =>
(Eg (Gd (Cj g 7) 0)).bind fun _ =>
(Al v (Af (Aa v) 1)).bind fun ae =>
(Al v (Af (Aa v) 1)).bind fun _ =>
Option.bind (Io v (Af (Aa v) 1) (gor ae (Fv (Ao (Cj n (Af (Fv (1 : UInt64) (GI.toZ (Cv k (Af 8 (Cj g 7)))).toNat) 1)) : UInt8) (GI.toZ (Cj g 7)).toNat))) fun y =>
j26 n k g y
def Ag8 bk22 b a := Agt (Agb bk22 b a) b a
def Agl (j25 : UInt64 → Int → Int → LB → Bm) (j28 : Int → LB → Bm) (b : UInt64) (a : Int) (n : UInt64) (k g : Int) (p : LB) : Bm :=
if (Eh k 0) then
if (geq (Cj g 7) 0) then
(Ck p ([(0 : UInt8)] : LB)).bind fun w =>
j25 n k g w
else
j25 n k g p
else
j28 g p
def Xu (b : UInt64) (a : Int) : Nat → UInt64 → Int → Int → LB → Bm
| 0, _, _, _, _ => none
| q + 1, n, k, g, p => Agl (Ag8 (Xu b a q) b a) Ahl b a n k g p
def Ah1 b a := Xu b a Bw
def Aja (j15 : UInt64 → Int → UInt64 → Int → Int → LB → Bm) (j22 : UInt64 → Int → UInt64 → Int → Int → LB → Bm) (ac : LB) (aa : Int) (b : UInt64) (a : Int) : Bm :=
(Ev ac aa).bind fun af =>
if (Bf af 0) then
some (([] : LB), 0, 8)
else
if ((Bq a 0) || (Eh a 64)) then
some (([] : LB), 0, 2)
else
if (Bq a 64) then
(Eg (Gd a 0)).bind fun _ =>
if (Bf (Bn b (GI.toZ a).toNat) 0) then
some (([] : LB), 0, 16)
else
if (Eh (Ac aa a) 330000) then
some (([] : LB), 0, 18)
else
(Aip ac aa).bind fun (ag, ah) =>
j15 b a b a ah ag
else
if (Eh (Ac aa a) 330000) then
some (([] : LB), 0, 18)
else
(Aip ac aa).bind fun (ab, ai) =>
j22 b a b a ai ab
def Acf := Aja Af4 Ah1
def Xp (b : UInt32) (a : Int) : Option Bool :=
(Eg (Gd a 0)).bind fun _ =>
some (Gd (Bn b (GI.toZ a).toNat) 48)
def Ahy (a : Int) : Option (Int × Int) :=
if ((Bq a 0) || (Eh a 48)) then
some (0, 2)
else
some ((Cv (Ac a 1) 48), 0)
def Aj6 (b : LB) (f a : Int) : Option (LB × Int × Int) :=
(Ev b f).bind fun g =>
if (Bf g 0) then
some (([] : LB), 0, g)
else
(Ahy a).bind fun (k, h) =>
if (Bf h 0) then
some (([] : LB), 0, h)
else
(Eg (Gd a 0)).bind fun _ =>
(Acf b f (Af (Fv (1 : UInt64) (GI.toZ a).toNat) 1) k).bind fun (m, n, o) =>
some (m, n, o)
abbrev Xe := Option (LB × Int × Int)
def Anp (b : LB) (f h : Int) (k : UInt32) (m : Int) : Xe :=
(Aj6 b f h).bind fun (p, u, n) =>
if (Bf n 0) then
some (([] : LB), 0, n)
else
(Acf p u (Ao k : UInt64) m).bind fun (v, w, y) =>
some (v, w, y)
def Ael := Anp
def Ads (j2 : LB → Int → Int → UInt32 → Int → Xe) (b : LB) (f : Int) (g : UInt32) (a : Int) : Xe :=
(Ev b f).bind fun o =>
if (Bf o 0) then
some (([] : LB), 0, o)
else
if ((Bq a 0) || (Eh a 24)) then
some (([] : LB), 0, 2)
else
(Eg (Gd a 0)).bind fun _ =>
(Eg (Gd a 0)).bind fun _ =>
(Xp g a).bind fun aa =>
if aa then
j2 b f 48 g 32
else
j2 b f (Ao (Bn g (GI.toZ a).toNat) : Int) (Cj g (Af (Fv (1 : UInt32) (GI.toZ a).toNat) 1)) a
def Amu := Ads Ael
abbrev Cw := Option (LB × Int × Int × Int × UInt64 × UInt64 × Int)
def Qk (k u n : Int) (a : UInt64) (b : UInt32) (o : UInt64) (m : LB) : Cw :=
(
(
some (m, k, u, n, (Ac a (Af (Ao b : UInt64) (Bn a (GI.toZ (4 : UInt64)).toNat))), o, 0)))
def Aas := Qk
def Aeu (j10 : Int → Int → Int → UInt64 → UInt32 → UInt64 → LB → Cw) (b : UInt32) (k n : Int) (a o : UInt64) (m : LB) (u : Int) : Cw :=
j10 k u n a b o m
def Adm := Aeu Aas
def Ad9 (j9 : UInt32 → Int → Int → UInt64 → UInt64 → LB → Int → Cw) (b : UInt32) (f : Int) (a : UInt64) (k : Int) (m : LB) (n : Int) (o : UInt64) : Cw :=
if (Eh f 0) then
(Eg (Gd f 0)).bind fun _ =>
if (Bq (Ac a (Af (Ao b : UInt64) (Bn a (GI.toZ (4 : UInt64)).toNat))) (Fv (16 : UInt64) (GI.toZ f).toNat)) then
j9 b k n a o m (Af f 1)
else
if (Bq f 24) then
(Eg (Gd f 0)).bind fun _ =>
if (Eh (Ac a (Af (Ao b : UInt64) (Bn a (GI.toZ (4 : UInt64)).toNat))) (Fv (32 : UInt64) (GI.toZ f).toNat)) then
j9 b k n a o m (Ac f 1)
else
j9 b k n a o m f
else
j9 b k n a o m f
else
if (Bq f 24) then
(Eg (Gd f 0)).bind fun _ =>
if (Eh (Ac a (Af (Ao b : UInt64) (Bn a (GI.toZ (4 : UInt64)).toNat))) (Fv (32 : UInt64) (GI.toZ f).toNat)) then
j9 b k n a o m (Ac f 1)
else
j9 b k n a o m f
else
j9 b k n a o m f
def Aeb := Ad9 Adm
def Aez (j8 : UInt32 → Int → UInt64 → Int → LB → Int → UInt64 → Cw) (b : UInt32) (f h : Int) (a g : UInt64) (y k : Int) (m : LB) : Cw :=
if (Bf y 0) then
some (([] : LB), 0, 0, 0, 0, 0, y)
else
(Xi f h a g b).bind fun (ag, p) =>
if (geq ag 1) then
if (Eh h 0) then
(Eg (Gd h 0)).bind fun _ =>
if (Bq (Ac g (Af (Ao p : UInt64) (Bn g (GI.toZ (4 : UInt64)).toNat))) (Fv (16 : UInt64) (GI.toZ h).toNat)) then
j8 b f a k m (Af h 1) (Ac g (Af (Ao p : UInt64) (Bn g (GI.toZ (4 : UInt64)).toNat)))
else
if (Bq h 24) then
(Eg (Gd h 0)).bind fun _ =>
if (Eh (Ac g (Af (Ao p : UInt64) (Bn g (GI.toZ (4 : UInt64)).toNat))) (Fv (32 : UInt64) (GI.toZ h).toNat)) then
j8 b f a k m (Ac h 1) (Ac g (Af (Ao p : UInt64) (Bn g (GI.toZ (4 : UInt64)).toNat)))
else
j8 b f a k m h (Ac g (Af (Ao p : UInt64) (Bn g (GI.toZ (4 : UInt64)).toNat)))
else
j8 b f a k m h (Ac g (Af (Ao p : UInt64) (Bn g (GI.toZ (4 : UInt64)).toNat)))
else
if (Bq h 24) then
(Eg (Gd h 0)).bind fun _ =>
if (Eh (Ac g (Af (Ao p : UInt64) (Bn g (GI.toZ (4 : UInt64)).toNat))) (Fv (32 : UInt64) (GI.toZ h).toNat)) then
j8 b f a k m (Ac h 1) (Ac g (Af (Ao p : UInt64) (Bn g (GI.toZ (4 : UInt64)).toNat)))
else
j8 b f a k m h (Ac g (Af (Ao p : UInt64) (Bn g (GI.toZ (4 : UInt64)).toNat)))
else
j8 b f a k m h (Ac g (Af (Ao p : UInt64) (Bn g (GI.toZ (4 : UInt64)).toNat)))
else
j8 b f a k m h g
def Aeh := Aez Aeb
def Ae0 (j7 : UInt32 → Int → Int → UInt64 → UInt64 → Int → Int → LB → Cw) (b : UInt32) (v : LB) (w f h : Int) (a g : UInt64) : Cw :=
(Xi f h a g b).bind fun (ad, ae) =>
(Acf v w (Ao ad : UInt64) 1).bind fun (aa, ab, ac) =>
if ((geq ac 0) && (geq ad 0)) then
(Acf aa ab (Ao ae : UInt64) f).bind fun (ah, ai, aj) =>
j7 b f h a g aj ai ah
else
if (geq ac 0) then
(Amu aa ab ae h).bind fun (ak, al, am) =>
j7 b f h a g am al ak
else
j7 b f h a g ac ab aa
def Aed := Ae0 Aeh
def Aej (j6 : UInt32 → LB → Int → Int → Int → UInt64 → UInt64 → Cw) (v : LB) (w f h : Int) (a g : UInt64) (b : UInt32) : Cw :=
(Ev v w).bind fun an =>
if (Bf an 0) then
some (([] : LB), 0, 0, 0, 0, 0, 8)
else
(Afm f h a g).bind fun ao =>
if (Bf ao 0) then
some (([] : LB), 0, 0, 0, 0, 0, 8)
else
j6 b v w f h a g
def Ams := Aej Aed
abbrev Ax := Option (UInt32 × Int)
def Alj (h : UInt32) : Ax :=
some (h, 0)
def Abn := Alj
def Abv (j30 : UInt32 → Ax) (bk28 : UInt32 → Int → Ax) (a : LB) (b : LU) (h : UInt32) (m : Int) : Ax :=
if (Bq m (Aa a)) then
(Al a m).bind fun p =>
(Al b (GI.toZ (Aif (Ao h : UInt8) p))).bind fun _ =>
(Al b (GI.toZ (Aif (Ao h : UInt8) p))).bind fun u =>
bk28 (Aif (Bn h (GI.toZ (8 : UInt64)).toNat) u) (Ac m 1)
else
j30 h
def Qr (a : LB) (b : LU) : Nat → UInt32 → Int → Ax
| 0, _, _ => none
| q + 1, h, m => Abv Abn (Qr a b q) a b h m
def Aa2 a b := Qr a b Bw
def Aa5 (j28 : LB → LU → UInt32 → Int → Ax) (f : UInt32) (a : LB) (b : LU) : Ax :=
j28 a b f 0
def Aaj := Aa5 Aa2
def Abj (j27 : UInt32 → LB → LU → Ax) (f : UInt32) (a : LB) (b : LU) : Ax :=
j27 f a b
def Abi := Abj Aaj
def Amd (bk16 : Int → LU → Ax) (f : UInt32) (a : LB) (g : Int) (o : LU) : Ax :=
bk16 (Ac g 1) o
def Abe bk16 := Amd bk16
def Aam (j24 : Int → LU → Ax) (f : UInt32) (a : LB) (g : Int) (k : UInt32) (b : LU) : Ax :=
(Al b g).bind fun _ =>
(Io b g k).bind fun o =>
j24 g o
def Acl bk16 f a := Aam (Abe bk16 f a) f a
def Ab1 (j23 : Int → UInt32 → LU → Ax) (bk21 : UInt32 → Int → Ax) (f : UInt32) (a : LB) (g : Int) (b : LU) (k : UInt32) (n : Int) : Ax :=
if (Bq n 8) then
bk21 (Aif (Bn k (GI.toZ (1 : UInt64)).toNat) (De 3988292384 (Cj k 1))) (Ac n 1)
else
j23 g k b
def Qj (bk16 : Int → LU → Ax) (f : UInt32) (a : LB) (g : Int) (b : LU) : Nat → UInt32 → Int → Ax
| 0, _, _ => none
| q + 1, k, n => Ab1 (Acl bk16 f a) (Qj bk16 f a g b q) f a g b k n
def Aa0 bk16 f a g b := Qj bk16 f a g b Bw
def Aco (j21 : Int → LU → UInt32 → Int → Ax) (j26 : UInt32 → LB → LU → Ax) (f : UInt32) (a : LB) (g : Int) (b : LU) : Ax :=
if (Bq g 256) then
j21 g b (Ao g : UInt32) 0
else
j26 f a b
def Py (f : UInt32) (a : LB) : Nat → Int → LU → Ax
| 0, _, _ => none
| q + 1, g, b => Aco (Aa0 (Py f a q) f a) Abi f a g b
def Abm f a := Py f a Bw
def Adz (j16 : UInt32 → LB → Int → LU → Ax) (f : UInt32) (a : LB) : Ax :=
if (Eh (Aa a) 100000) then
some (0, 4)
else
j16 f a 0 (List.replicate 256 (0 : UInt32))
def Ak6 := Adz Abm
def Ma (b : LB) : Option (UInt32 × Int) :=
(Ak6 4294967295 b).bind fun (f, a) =>
if (Bf a 0) then
some (0, a)
else
some ((Awg f), 0)
def As8 (b : UInt64) (a : Int) : Option Bool :=
if (geq a 8) then
some true
else
(Eg (Gd (De 8 a) 0)).bind fun _ =>
some (geq (Bn b (GI.toZ (De 8 a)).toNat) 0)
abbrev Jp := Option (LB × Int)
def Aqw (a : LB) : Jp :=
some (a, 0)
def Aje := Aqw
def Ajn (j6 : LB → Jp) (bk4 : Int → LB → Jp) (f : UInt64) (g : LB) (b : Int) (a : LB) : Jp :=
if (Bq b (Aa g)) then
(Eg (Gd (De 8 b) 0)).bind fun _ =>
(Al a b).bind fun _ =>
(Io a b (Ao (Bn f (GI.toZ (De 8 b)).toNat) : UInt8)).bind fun k =>
bk4 (Ac b 1) k
else
j6 a
def Aau (f : UInt64) (g : LB) : Nat → Int → LB → Jp
| 0, _, _ => none
| q + 1, b, a => Ajn Aje (Aau f g q) f g b a
def Ake f g := Aau f g Bw
def Ai8 (j4 : UInt64 → LB → Int → LB → Jp) (f : UInt64) (h : Int) : Jp :=
if ((Bq h 1) || (Eh h 8)) then
some (([] : LB), 2)
else
(As8 f h).bind fun m =>
if (!m) then
some (([] : LB), 16)
else
(mkI h (0 : UInt8)).bind fun g =>
(Eg (geq h h)).bind fun _ =>
j4 f g 0 g
def Mm := Ai8 Ake
def Oq (f : LB) : Option (LB) :=
some f
def Hc := Oq
def Hi (j16 : LB → Option (LB)) (bk14 : Int → LB → Option (LB)) (a : List LB) (g : Int) (f : LB) : Option (LB) :=
if (Bq g (Aa a)) then
(Al a g).bind fun o =>
(Ck f o).bind fun p =>
bk14 (Ac g 1) p
else
j16 f
def Ej (a : List LB) : Nat → Int → LB → Option (LB)
| 0, _, _ => none
| q + 1, g, f => Hi Hc (Ej a q) a g f
def He a := Ej a Bw
def Hb (j14 : (List LB) → Int → LB → Option (LB)) (a : List LB) (k : LB) : Option (LB) :=
j14 a 0 k
def Gy := Hb He
def Hg (j13 : (List LB) → LB → Option (LB)) (b : Int) (a : List LB) : Option (LB) :=
if (Eh (Af b (Af (0 : Int) (0 : Int))) 0) then
(vwI 0 0 0).bind fun _ =>
(mkI (Af b (Af (0 : Int) (0 : Int))) (0 : UInt8)).bind fun u =>
(Ck ([] : LB) u).bind fun m =>
(vwI (Aa m) 0 0).bind fun _ =>
j13 a (Aaf m 0 ((0 : Int) - (0 : Int)))
else
j13 a ([] : LB)
def Hj := Hg Gy
def Hf (j12 : Int → (List LB) → Option (LB)) (a : List LB) (b : Int) : Option (LB) :=
if (Bq b 0) then
none
else
j12 b a
def Gx := Hf Hj
def Hl (j11 : (List LB) → Int → Option (LB)) (bk9 : Int → Int → Option (LB)) (a : List LB) (b h : Int) : Option (LB) :=
if (Bq h (Aa a)) then
(Al a h).bind fun n =>
if (Bq (Ac b (Aa n)) 0) then
none
else
bk9 (Ac b (Aa n)) (Ac h 1)
else
j11 a b
def Fc (a : List LB) : Nat → Int → Int → Option (LB)
| 0, _, _ => none
| q + 1, b, h => Hl Gx (Fc a q) a b h
def Hq a := Fc a Bw
def Hm (j9 : (List LB) → Int → Int → Option (LB)) (a : List LB) : Option (LB) :=
j9 a 0 0
def Dz := Hm Hq
abbrev Ap := Option (LB × Int)
def Afp (u : Int) (p : LB) : Ap :=
(Ma p).bind fun (af, ac) =>
if (Bf ac 0) then
some (([] : LB), ac)
else
(Mm (Ao af : UInt64) 4).bind fun (m, h) =>
if (Bf h 0) then
some (([] : LB), h)
else
(Dz ([p, m] : List LB)).bind fun ag =>
some (ag, 0)
def Pq := Afp
def Afr (bk27 : Int → (List (Int × Int × UInt64 × UInt64 × Unit)) → Int → LB → Ap) (a : LU) (b f g : Int) (k : List (Int × Int × UInt64 × UInt64 × Unit)) (n : Int) (v : LB) : Ap :=
bk27 (Ac g 1) k n v
def Ps bk27 := Afr bk27
def Ae3 (bk44 : Int → Int → LB → Ap) (h : Int) (a : LU) (g b f : Int) (k : List (Int × Int × UInt64 × UInt64 × Unit)) (m : LB) (o n : Int) (aa : LB) : Ap :=
bk44 (Ac o 1) (Ac n 1) aa
def Pe bk44 := Ae3 bk44
def Pp (j48 : Int → Int → LB → Ap) (h : Int) (a : LU) (g b f : Int) (k : List (Int × Int × UInt64 × UInt64 × Unit)) (m : LB) (o n : Int) (y : LB) : Ap :=
(Al m (Fw o 8)).bind fun _ =>
(Al m (Fw o 8)).bind fun ah =>
(Eg (Gd (Dl o 8) 0)).bind fun _ =>
(Al y (Fw n 8)).bind fun _ =>
(Eg (Gd (Dl n 8) 0)).bind fun _ =>
(Al y (Fw n 8)).bind fun ai =>
(Al y (Fw n 8)).bind fun _ =>
Option.bind (Io y (Fw n 8) (gor ai (Fv (Cj (Bn ah (GI.toZ (Dl o 8)).toNat) 1) (GI.toZ (Dl n 8)).toNat))) fun aa =>
j48 o n aa
def Pm bk44 h a g b f k m := Pp (Pe bk44 h a g b f k m) h a g b f k m
def Pa (j47 : Int → Int → LB → Ap) (j50 : Int → (List (Int × Int × UInt64 × UInt64 × Unit)) → Int → LB → Ap) (a : LU) (b f h g : Int) (k : List (Int × Int × UInt64 × UInt64 × Unit)) (m : LB) (o n : Int) (v : LB) : Ap :=
if (Bq o h) then
if (geq (Dl n 8) 0) then
(Ck v ([(0 : UInt8)] : LB)).bind fun aj =>
j47 o n aj
else
j47 o n v
else
j50 g k n v
def Jm (bk27 : Int → (List (Int × Int × UInt64 × UInt64 × Unit)) → Int → LB → Ap) (a : LU) (b f h g : Int) (k : List (Int × Int × UInt64 × UInt64 × Unit)) (m : LB) : Nat → Int → Int → LB → Ap
| 0, _, _, _ => none
| q + 1, o, n, v => Pa (Pm (Jm bk27 a b f h g k m q) h a g b f k m) (Ps bk27 a b f) a b f h g k m o n v
def Qv bk27 a b f h g k m := Jm bk27 a b f h g k m Bw
def Oz (j44 : Int → Int → (List (Int × Int × UInt64 × UInt64 × Unit)) → LB → Int → Int → LB → Ap) (j52 : Int → LB → Ap) (a : LU) (b f g : Int) (w : List (Int × Int × UInt64 × UInt64 × Unit)) (u : Int) (p : LB) : Ap :=
if (Bq g (Aa a)) then
(Al a g).bind fun _ =>
(Al a g).bind fun ak =>
(Eg (Bf b 0)).bind fun _ =>
(Al w (Dl g b)).bind fun _ =>
(Al w (Dl g b)).bind fun ab =>
(Ams ([] : LB) 0 ab.1 ab.2.1 ab.2.2.1 ab.2.2.2.1 ak).bind fun (m, h, al, am, an, ao, ad) =>
if (Bf ad 0) then
some (([] : LB), ad)
else
(Eg (Bf b 0)).bind fun _ =>
(Al w (Dl g b)).bind fun _ =>
(Io w (Dl g b) (al, am, an, ao, ())).bind fun k =>
j44 h g k m 0 u p
else
j52 u p
def Jt (a : LU) (b f : Int) : Nat → Int → (List (Int × Int × UInt64 × UInt64 × Unit)) → Int → LB → Ap
| 0, _, _, _, _ => none
| q + 1, g, w, u, p => Oz (Qv (Jt a b f q) a b f) Pq a b f g w u p
def Qy a b f := Jt a b f Bw
def Sr (j27 : LU → Int → Int → Int → (List (Int × Int × UInt64 × UInt64 × Unit)) → Int → LB → Ap) (b f : Int) (ap aq : LX) : Ap :=
(Abr b f ap aq).bind fun (a, ae) =>
if (Bf ae 0) then
some (([] : LB), ae)
else
(Aa1).bind fun ar =>
j27 a b f 0 ar 0 ([] : LB)
def Pd := Sr Qy
def Kz (b f g : Int) (h k : LB) (m : LX) (n : List LB) (o : LB) (p : Bool) (u a : Int) : Option (Int × Int × Int × LB × LB × LX × (List LB) × LB × Bool × Int × Int) :=
some (b, f, g, h, ([] : LB), ([] : LX), ([] : List LB), ([] : LB), false, a, a)
abbrev Ar := Option (Int × Int × Int × LB × LB × LX × (List LB) × LB × Bool × Int × Int)
def Aiq (a b g : Int) (f : LB) (h : Bool) (k : Int) (y : LB) (w : LX) (v : List LB) (m : LB) : Ar :=
some (a, b, g, f, y, w, v, m, h, k, 0)
def Uv := Aiq
def Aik (bk14 : Int → LB → LX → (List LB) → Ar) (p : Int) (n : LB) (a b g : Int) (f : LB) (h : Bool) (k o : Int) (m : LB) (u : Int) (ah : LB) (ai : LX) (aj : List LB) : Ar :=
bk14 (Ac u 1) ah ai aj
def Lj bk14 := Aik bk14
def Uo (j24 : Int → LB → LX → (List LB) → Ar) (p : Int) (n : LB) (a b g : Int) (f : LB) (h : Bool) (k o : Int) (m : LB) (u ad : Int) (ae : LB) (af : LX) (ag : List LB) : Ar :=
if (Bf ad 0) then
(Kz a b g f ae af ag m h k ad).bind fun (au, av, aw, ax, ay, az, ba, bb, bc, bd, be) =>
some (au, av, aw, ax, ay, az, ba, bb, bc, bd, be)
else
j24 u ae af ag
def Ga bk14 p n a b g f h k o m := Uo (Lj bk14 p n a b g f h k o m) p n a b g f h k o m
def Wt (j23 : Int → Int → LB → LX → (List LB) → Ar) (p : Int) (n : LB) (a b g : Int) (f : LB) (h : Bool) (k o : Int) (m : LB) (u : Int) (ab : LX) (v : List LB) (ak : Int) : Ar :=
j23 u ak ([] : LB) ab v
def Va bk14 p n a b g f h k o m := Wt (Ga bk14 p n a b g f h k o m) p n a b g f h k o m
def Wb (j23 : Int → Int → LB → LX → (List LB) → Ar) (p : Int) (n : LB) (a b g : Int) (f : LB) (h : Bool) (k o : Int) (m : LB) (u : Int) (ac : List LB) : Ar :=
j23 u 0 ([] : LB) ([] : LX) ac
def Vv bk14 p n a b g f h k o m := Wb (Ga bk14 p n a b g f h k o m) p n a b g f h k o m
def Vj (j23 : Int → Int → LB → LX → (List LB) → Ar) (j21 : Int → LX → (List LB) → Int → Ar) (j22 : Int → (List LB) → Ar) (p : Int) (n : LB) (a b g : Int) (f : LB) (h : Bool) (k o : Int) (m : LB) (u : Int) (aa : LB) (w : LX) (v : List LB) : Ar :=
(Ado b aa).bind fun (bf, al) =>
if (Bf al 0) then
j23 u al aa w v
else
(Ck w bf).bind fun ab =>
if (Bq (Aa ab) (De o a)) then
j23 u 0 ([] : LB) ab v
else
(Md f).bind fun (bg, am) =>
if (Bf am 0) then
j21 u ab v am
else
(Pd a b bg ab).bind fun (bh, an) =>
if (Bf an 0) then
j21 u ab v an
else
(Ck v ([bh] : List LB)).bind fun ac =>
j22 u ac
def Vq bk14 p n a b g f h k o m := Vj (Ga bk14 p n a b g f h k o m) (Va bk14 p n a b g f h k o m) (Vv bk14 p n a b g f h k o m) p n a b g f h k o m
def Wh (j24 : Int → LB → LX → (List LB) → Ar) (j23 : Int → Int → LB → LX → (List LB) → Ar) (j20 : Int → LB → LX → (List LB) → Ar) (j26 : Int → Int → Int → LB → Bool → Int → LB → LX → (List LB) → LB → Ar) (p : Int) (n : LB) (a b g : Int) (f : LB) (h : Bool) (k o : Int) (m : LB) (u : Int) (y : LB) (w : LX) (v : List LB) : Ar :=
if (Bq u (Aa n)) then
(Al n u).bind fun bi =>
(Ck y ([bi] : LB)).bind fun aa =>
if (Bq (Aa aa) p) then
j24 u aa w v
else
(Mi a b g f aa w v m h k o).bind fun bj =>
(Xt a b g f aa w v m h k (Ac (Aa v) 1) (Ac bj 1)).bind fun bk =>
if (!bk) then
j23 u 18 aa w v
else
j20 u aa w v
else
j26 a b g f h k y w v m
def Fy (p : Int) (n : LB) (a b g : Int) (f : LB) (h : Bool) (k o : Int) (m : LB) : Nat → Int → LB → LX → (List LB) → Ar
| 0, _, _, _, _ => none
| q + 1, u, y, w, v => Wh (Lj (Fy p n a b g f h k o m q) p n a b g f h k o m) (Ga (Fy p n a b g f h k o m q) p n a b g f h k o m) (Vq (Fy p n a b g f h k o m q) p n a b g f h k o m) Uv p n a b g f h k o m u y w v
def Ux p n a b g f h k o m := Fy p n a b g f h k o m Bw
def Zu (j14 : Int → LB → Int → Int → Int → LB → Bool → Int → Int → LB → Int → LB → LX → (List LB) → Ar) (bl bm bn : Int) (bp bq : LB) (br : LX) (bs : List LB) (bt : LB) (bu : Bool) (bv : Int) (n : LB) : Ar :=
(Tp bl bm bn bp bq br bs bt bu bv).bind fun (a, b, g, f, ao, ap, aq, m, h, k, o, ar) =>
if (Bf ar 0) then
some (a, b, g, f, ao, ap, aq, m, h, k, ar)
else
(Pf a b).bind fun p =>
j14 p n a b g f h k o m 0 ao ap aq
def Agc := Zu Ux
def Ad1 (a : LB) : Option (Int × Int) :=
if (Eh (Aa a) 64) then
some (0, 2)
else
if (geq (Aa a) 0) then
some (1, 0)
else
some (2, 0)
def Air (b f a g h : Int) : Option Bool :=
some (((((((geq b 1) || (geq b 2)) && (Eh f 0)) && (gle f 6)) && (Eh g 0)) && (gle g 1048576)) && (Eh h 0))
def Vm := Air
def Vs (j2 : Int → Int → Int → Int → Int → Option Bool) (b f a g h : Int) : Option Bool :=
if (geq a 8) then
if (geq a 8) then
j2 b f a g h
else
some false
else
if (geq a 16) then
if (geq a 16) then
j2 b f a g h
else
some false
else
if (geq a 24) then
j2 b f a g h
else
some false
def Uf := Vs Vm
def Tq (g b : Int) : Option (Int × Int) :=
(Kw g).bind fun (a, f) =>
if (Bf f 0) then
some (0, f)
else
if ((Bq b 1) || (Eh b 4000)) then
some (0, 2)
else
(Eg (Bf a 0)).bind fun _ =>
if (Eh (Fw (Af (Ac b a) 1) a) 1000) then
some (0, 4)
else
some ((Fw (Af (Ac b a) 1) a), 0)
def Abx (k a m f b : Int) : Option Bool :=
(Eg (Bf a 0)).bind fun _ =>
if (Eh b (Fw 4000 a)) then
some false
else
(Tq f b).bind fun (g, h) =>
some ((geq h 0) && (gle g 1000))
def Ww (a b f g h : Int) : Option Int :=
(Uf a b f g h).bind fun k =>
if (!k) then
some 8
else
(Abx a b f g h).bind fun m =>
if (!m) then
some 8
else
some 0
abbrev Ez := Option (LB × Int)
def Ako (a : LB) : Ez :=
(Ma a).bind fun (u, aa) =>
(Mm (Ao u : UInt64) 4).bind fun (n, v) =>
(Ck a n).bind fun o =>
some (o, 0)
def Aac := Ako
def Yw (j6 : LB → Ez) (bk4 : Int → LB → Ez) (b f g h k m : Int) (a : LB) : Ez :=
if (Bq m 5) then
(Al ([b, f, g, h, k] : LI) m).bind fun w =>
(Al ([(2 : Int), (2 : Int), (2 : Int), (4 : Int), (4 : Int)] : LI) m).bind fun y =>
(Mm (Ao w : UInt64) y).bind fun (n, v) =>
(Ck a n).bind fun o =>
bk4 (Ac m 1) o
else
j6 a
def Nj (b f g h k : Int) : Nat → Int → LB → Ez
| 0, _, _ => none
| q + 1, m, a => Yw Aac (Nj b f g h k q) b f g h k m a
def Zk b f g h k := Nj b f g h k Bw
def Zv (j4 : Int → Int → Int → Int → Int → Int → LB → Ez) (b f g h k : Int) : Ez :=
(Ww b f g h k).bind fun p =>
if (Bf p 0) then
some (([] : LB), p)
else
j4 b f g h k 0 ([(84 : UInt8), (84 : UInt8), (65 : UInt8), (49 : UInt8)] : LB)
def Aho := Zv Zk
def Aom (a : LB) : Option (UInt64 × Int) :=
if (Eh (Aa a) 64) then
some (0, 2)
else
(Ah7 a).bind fun (b, f) =>
some (b, 0)
def Xm (b : LB) : Option (LB × Int) :=
(Aom b).bind fun (f, a) =>
if (Bf a 0) then
some (([] : LB), a)
else
(Mm f 8).bind fun (g, h) =>
some (g, h)
def Als : Option Int :=
some 0
def Aax := Als
def Ab0 (j6 : Option Int) (bk4 : Int → Int → Option Int) (a : LI) (f b : Int) : Option Int :=
if (Bq b (Aa a)) then
(Al a b).bind fun g =>
if ((Bq g 5) || (Eh g f)) then
some 8
else
bk4 (Af f g) (Ac b 1)
else
j6
def Ph (a : LI) : Nat → Int → Int → Option Int
| 0, _, _ => none
| q + 1, f, b => Ab0 Aax (Ph a q) a f b
def Ach a := Ph a Bw
def Aap (j4 : LI → Int → Int → Option Int) (a : LI) : Option Int :=
if ((geq (Aa a) 0) || (Eh (Aa a) 1000)) then
some 8
else
j4 a 100000 0
def Rs := Aap Ach
abbrev Cn := Option (LB × Int)
def Akk (g : LB) : Cn :=
some (g, 0)
def Zd := Akk
def Ym (j14 : LB → Cn) (b : LB) : Cn :=
(Ma b).bind fun (m, u) =>
(Mm (Ao m : UInt64) 4).bind fun (n, v) =>
(Ck b n).bind fun g =>
j14 g
def Za := Ym Zd
def Akh (bk8 : Int → LB → Cn) (a : LI) (f : Int) (h : LB) : Cn :=
bk8 (Ac f 1) h
def Zp bk8 := Akh bk8
def Aak (j11 : Int → LB → Cn) (j13 : LB → Cn) (a : LI) (f : Int) (b : LB) : Cn :=
if (Bq f (Aa a)) then
(Al a f).bind fun o =>
(Mm (Ao o : UInt64) 4).bind fun (p, w) =>
(Ck b p).bind fun h =>
j11 f h
else
j13 b
def Qq (a : LI) : Nat → Int → LB → Cn
| 0, _, _ => none
| q + 1, f, b => Aak (Zp (Qq a q) a) Za a f b
def Acb a := Qq a Bw
def Ab7 (j8 : LI → Int → LB → Cn) (a : LI) : Cn :=
(Rs a).bind fun k =>
if (Bf k 0) then
some (([] : LB), k)
else
j8 a 0 ([] : LB)
def Acx := Ab7 Acb
abbrev Cy := Option (LB × Int)
def Ng (f g h : Int) (b k : LB) (m : LX) (a : List LB) (n : LB) (o : Bool) (p : Int) (u : LB) (v : LI) : Cy :=
(Acx v).bind fun (aa, y) =>
if (Bf y 0) then
some (([] : LB), y)
else
(
(Ck u aa).bind fun ab =>
(Dz a).bind fun ac =>
(Ck ab ac).bind fun ad =>
some (ad, 0))
def Yt := Ng
def Yg (j8 : Int → Int → Int → LB → LB → LX → (List LB) → LB → Bool → Int → LB → LI → Cy) (bk6 : Int → LI → Cy) (a : List LB) (f g h : Int) (b k : LB) (m : LX) (n : LB) (o : Bool) (p : Int) (u : LB) (w : Int) (v : LI) : Cy :=
if (Bq w (Aa a)) then
(Al a w).bind fun ai =>
(Ck v ([(Aa ai)] : LI)).bind fun aj =>
bk6 (Ac w 1) aj
else
j8 f g h b k m a n o p u v
def Nd (a : List LB) (f g h : Int) (b k : LB) (m : LX) (n : LB) (o : Bool) (p : Int) (u : LB) : Nat → Int → LI → Cy
| 0, _, _ => none
| q + 1, w, v => Yg Yt (Nd a f g h b k m n o p u q) a f g h b k m n o p u w v
def Yc a f g h b k m n o p u := Nd a f g h b k m n o p u Bw
def Yn (j6 : (List LB) → Int → Int → Int → LB → LB → LX → LB → Bool → Int → LB → Int → LI → Cy) (f g h : Int) (b k : LB) (m : LX) (a : List LB) (n : LB) (o : Bool) (p : Int) (u : LB) : Cy :=
j6 a f g h b k m n o p u 0 ([] : LI)
def Yh := Yn Yc
def Yk (j5 : Int → Int → Int → LB → LB → LX → (List LB) → LB → Bool → Int → LB → Cy) (f g h : Int) (b k : LB) (m : LX) (a : List LB) (n : LB) (o : Bool) (p ak : Int) : Cy :=
(Ad1 b).bind fun (al, ae) =>
if (Bf ae 0) then
some (([] : LB), ae)
else
(Aho al f g h ak).bind fun (af, ag) =>
if (Bf ag 0) then
some (([] : LB), ag)
else
if (b != ([] : LB)) then
(Xm b).bind fun (am, ah) =>
if (Bf ah 0) then
some (([] : LB), ah)
else
(Ck af am).bind fun an =>
j5 f g h b k m a n o p an
else
j5 f g h b k m a n o p af
def Ags := Yk Yh
abbrev Es := Option (Int × Int × Int × LB × LB × LX × (List LB) × LB × Bool × Int × Int)
def Agn (o a b g : Int) (f : LB) (k : Bool) (m : Int) (h n : LB) (v : LX) (w : List LB) : Es :=
(Ags a b g f h v w n k m o).bind fun (aj, y) =>
if (Bf y 0) then
(Kz a b g f h v w n k m y).bind fun (ad, ak, al, am, ae, af, an, ao, ap, aq, ar) =>
some (ad, ak, al, am, ae, af, an, ao, ap, aq, ar)
else
some (a, b, g, f, ([] : LB), ([] : LX), ([] : List LB), aj, true, 0, 0)
def Kv := Agn
def Sj (j4 : Int → Int → Int → Int → LB → Bool → Int → LB → LB → LX → (List LB) → Es) (o a b g : Int) (f : LB) (k : Bool) (m : Int) (h n : LB) (aa : Int) (ab : LX) (ac : List LB) : Es :=
if (Bf aa 0) then
(Kz a b g f h ab ac n k m aa).bind fun (au, y, ad, av, aw, ax, ae, af, ay, az, ba) =>
some (au, y, ad, av, aw, ax, ae, af, ay, az, ba)
else
j4 o a b g f k m h n ab ac
def Ta := Sj Kv
def So (j3 : Int → Int → Int → Int → LB → Bool → Int → LB → LB → Int → LX → (List LB) → Es) (j4 : Int → Int → Int → Int → LB → Bool → Int → LB → LB → LX → (List LB) → Es) (bb bc bd : Int) (be bf : LB) (bg : LX) (bh : List LB) (bi : LB) (bj : Bool) (bk : Int) : Es :=
(Tp bb bc bd be bf bg bh bi bj bk).bind fun (a, b, g, f, h, p, u, n, k, m, bl, ag) =>
if (Bf ag 0) then
some (a, b, g, f, h, p, u, n, k, m, ag)
else
(Mi a b g f h p u n k m bl).bind fun o =>
if ((Eh (Aa h) 0) || (geq o 0)) then
(Kz a b g f h p u n k m 24).bind fun (bm, bn, bp, bq, br, bs, bt, bu, bv, bw, bx) =>
some (bm, bn, bp, bq, br, bs, bt, bu, bv, bw, bx)
else
if (Eh (Aa p) 0) then
(Md f).bind fun (bz, ah) =>
if (Bf ah 0) then
j3 o a b g f k m h n ah p u
else
(Pd a b bz p).bind fun (da, ai) =>
if (Bf ai 0) then
j3 o a b g f k m h n ai p u
else
(Ck u ([da] : List LB)).bind fun db =>
j3 o a b g f k m h n 0 ([] : LX) db
else
j4 o a b g f k m h n p u
def Ab8 := So Ta Kv
def Aeg (f g h : Int) (k m : LB) (n : LX) (o : List LB) (p : LB) (u : Bool) (v b : Int) : Option (Int × Int × Int × LB × LB × LX × (List LB) × LB × Bool × Int × LB × Int) :=
(Ub f g h k m n o p u v).bind fun w =>
if (Bf w 0) then
some (0, 0, 0, ([] : LB), ([] : LB), ([] : LX), ([] : List LB), ([] : LB), false, 0, ([] : LB), w)
else
if (Bq b 0) then
some (0, 0, 0, ([] : LB), ([] : LB), ([] : LX), ([] : List LB), ([] : LB), false, 0, ([] : LB), 2)
else
(Xs f g h k m n o p u v).bind fun (y, aa, ab, ac, ad, ae, af, a, ag, ah) =>
(Cl a 0 (Cv b (Aa a))).bind fun ai =>
(Bg ai).bind fun aj =>
(Cl a (Cv b (Aa a)) (Aa a)).bind fun ak =>
some (y, aa, ab, ac, ad, ae, af, ak, ag, ah, aj, 0)
abbrev Cr := Option (LB × Int)
def Af7 (g h k : Int) (m : LB) (n : Bool) (o : Int) (p : LB) (u : LX) (v : List LB) (w : LB) : Cr :=
(Ab8 g h k m p u v w n o).bind fun (ap, aq, y, ar, au, av, aa, ab, aw, ax, al) =>
if (Bf al 0) then
some (([] : LB), al)
else
(Aeg ap aq y ar au av aa ab aw ax 100000).bind fun (ad, ac, bs, bt, bu, bv, bw, bx, bz, da, ay, az) =>
some (ay, az)
def Sk := Af7
def Aiz (bk6 : LB → Int → Int → Int → Int → LB → Bool → Int → LB → LX → (List LB) → LB → Cr) (a : LI) (f : LB) (ac ae b y af ag : Int) (ah : LB) (ai : Bool) (ad : Int) (aa : LB) (ab : LX) (aj : List LB) (ak : LB) : Cr :=
if (Bf ac 0) then
some (([] : LB), ac)
else
(Cl f ae (Aa f)).bind fun ba =>
bk6 ba (Ac b 1) y af ag ah ai ad aa ab aj ak
def Vl bk6 := Aiz bk6
def Vk (j8 : LB → Int → Int → Int → Int → Int → Int → LB → Bool → Int → LB → LX → (List LB) → LB → Cr) (j10 : Int → Int → Int → LB → Bool → Int → LB → LX → (List LB) → LB → Cr) (a : LI) (f : LB) (b g h k : Int) (m : LB) (n : Bool) (o : Int) (p : LB) (u : LX) (v : List LB) (w : LB) : Cr :=
if (Bq b (Aa a)) then
(Al a b).bind fun _ =>
(Al a b).bind fun ae =>
(Cl f 0 ae).bind fun bb =>
(Agc g h k m p u v w n o bb).bind fun (y, af, ag, ah, aa, ab, aj, ak, ai, ad, ac) =>
j8 f ac ae b y af ag ah ai ad aa ab aj ak
else
j10 g h k m n o p u v w
def Lk (a : LI) : Nat → LB → Int → Int → Int → Int → LB → Bool → Int → LB → LX → (List LB) → LB → Cr
| 0, _, _, _, _, _, _, _, _, _, _, _, _ => none
| q + 1, f, b, g, h, k, m, n, o, p, u, v, w => Vk (Vl (Lk a q) a) Sk a f b g h k m n o p u v w
def Vu a := Lk a Bw
def Wn (j6 : LI → LB → Int → Int → Int → Int → LB → Bool → Int → LB → LX → (List LB) → LB → Cr) (bc bd be : Int) (bf am : LB) (bg : UInt64) : Cr :=
(Dk (Aa am) bg).bind fun (a, an) =>
if (Bf an 0) then
some (([] : LB), an)
else
(Aj7 bc bd be bf).bind fun (bh, bi, bj, bk, bl, bm, bn, bp, bq, br, ao) =>
if (Bf ao 0) then
some (([] : LB), ao)
else
j6 a am 0 bh bi bj bk bq br bl bm bn bp
def Ad2 := Wn Vu
def Ai9 (a : LB) : Option (LB × LB × Int × Int × Int × Int × Int × LI × Int × LB × Bool × Int × Int) :=
if (Eh (Aa a) 64) then
some (([] : LB), ([] : LB), 0, 0, 0, 0, 0, ([] : LI), 0, ([] : LB), false, 0, 2)
else
some (a, ([] : LB), 0, 0, 0, 0, 0, ([] : LI), 0, ([] : LB), false, 0, 0)
def Mu (a : LB) : Option (LB) :=
(
(Ck ([] : LB) a).bind fun b =>
some b)
def Fk (a : LI) : Option (LI) :=
(
(Ck ([] : LI) a).bind fun b =>
some b)
def Cz (a b : LB) (f g h k m : Int) (n : LI) (o : Int) (p : LB) (u : Bool) (v : Int) : Option (LB × LB × Int × Int × Int × Int × Int × LI × Int × LB × Bool × Int) :=
(Mu b).bind fun w =>
(Mu p).bind fun y =>
(Fk n).bind fun aa =>
some (a, w, f, g, h, k, m, aa, o, y, u, v)
def Zm (a b : UInt64) : Option (UInt64 × UInt64) :=
some ((Ac (Ac (De (Bn a (GI.toZ (32 : UInt64)).toNat) (Bn b (GI.toZ (32 : UInt64)).toNat)) (Bn (Ac (De (Bn a (GI.toZ (32 : UInt64)).toNat) (Cj b 4294967295)) (Bn (De (Cj a 4294967295) (Cj b 4294967295)) (GI.toZ (32 : UInt64)).toNat)) (GI.toZ (32 : UInt64)).toNat)) (Bn (Ac (Cj (Ac (De (Bn a (GI.toZ (32 : UInt64)).toNat) (Cj b 4294967295)) (Bn (De (Cj a 4294967295) (Cj b 4294967295)) (GI.toZ (32 : UInt64)).toNat)) 4294967295) (De (Cj a 4294967295) (Bn b (GI.toZ (32 : UInt64)).toNat))) (GI.toZ (32 : UInt64)).toNat)), (De a b))
def Aey (a b : UInt64) : Option (UInt64 × UInt64) :=
(Zm a b).bind fun (f, g) =>
some (f, g)
def Re (a : LI) : Option (LI) :=
some a
def Hu := Re
def Fm (j10 : LI → Option (LI)) (bk8 : Int → LI → Option (LI)) (b : Int) (a : LI) : Option (LI) :=
if (Bq b (Aa a)) then
(
(vwI (Aa a) b (Aa a)).bind fun _ =>
(vwI (Aa a) 0 b).bind fun _ =>
bk8 (Ac b (Adv ((Aa a) - b) (Aaf a 0 (b - (0 : Int))).length)) (Ij a b ((Aa a) - b) (Aaf a 0 (b - (0 : Int)))))
else
j10 a
def Fs : Nat → Int → LI → Option (LI)
| 0, _, _ => none
| q + 1, b, a => Fm Hu (Fs q) b a
def Ip := Fs Bw
def Jc (j8 : Int → LI → Option (LI)) (f : LI) (g : UInt64) : Option (LI) :=
(mkI (Ao g : Int) (0 : Int)).bind fun k =>
(Eg (geq (Ao g : Int) (Ao g : Int))).bind fun _ =>
j8 (Adv (Aa k) f.length) (Amv k f)
def Jg := Jc Ip
def Jj (j7 : LI → UInt64 → Option (LI)) (f : LI) (h : Int) : Option (LI) :=
(Aey (Ao (Aa f) : UInt64) (Ao h : UInt64)).bind fun (m, g) =>
if ((Eh m 0) || (Eh g 9223372036854775807)) then
none
else
j7 f g
def Jh := Jj Jg
def Iq (j6 : LI → Int → Option (LI)) (f : LI) (h : Int) : Option (LI) :=
if (Bq h 0) then
none
else
j6 f h
def Lg := Iq Jh
def Rc (f : LI) : Option (LI) :=
some f
def Ht := Rc
def Hy (j16 : LI → Option (LI)) (bk14 : Int → LI → Option (LI)) (a : List LI) (g : Int) (f : LI) : Option (LI) :=
if (Bq g (Aa a)) then
(Al a g).bind fun o =>
(Ck f o).bind fun p =>
bk14 (Ac g 1) p
else
j16 f
def Fe (a : List LI) : Nat → Int → LI → Option (LI)
| 0, _, _ => none
| q + 1, g, f => Hy Ht (Fe a q) a g f
def Ib a := Fe a Bw
def Ie (j14 : (List LI) → Int → LI → Option (LI)) (a : List LI) (k : LI) : Option (LI) :=
j14 a 0 k
def Hx := Ie Ib
def Hw (j13 : (List LI) → LI → Option (LI)) (b : Int) (a : List LI) : Option (LI) :=
if (Eh (Af b (Af (0 : Int) (0 : Int))) 0) then
(vwI 0 0 0).bind fun _ =>
(mkI (Af b (Af (0 : Int) (0 : Int))) (0 : Int)).bind fun u =>
(Ck ([] : LI) u).bind fun m =>
(vwI (Aa m) 0 0).bind fun _ =>
j13 a (Aaf m 0 ((0 : Int) - (0 : Int)))
else
j13 a ([] : LI)
def Hv := Hw Hx
def Hz (j12 : Int → (List LI) → Option (LI)) (a : List LI) (b : Int) : Option (LI) :=
if (Bq b 0) then
none
else
j12 b a
def Ic := Hz Hv
def Ix (j11 : (List LI) → Int → Option (LI)) (bk9 : Int → Int → Option (LI)) (a : List LI) (b h : Int) : Option (LI) :=
if (Bq h (Aa a)) then
(Al a h).bind fun n =>
if (Bq (Ac b (Aa n)) 0) then
none
else
bk9 (Ac b (Aa n)) (Ac h 1)
else
j11 a b
def Fl (a : List LI) : Nat → Int → Int → Option (LI)
| 0, _, _ => none
| q + 1, b, h => Ix Ic (Fl a q) a b h
def Iy a := Fl a Bw
def Ja (j9 : (List LI) → Int → Int → Option (LI)) (a : List LI) : Option (LI) :=
j9 a 0 0
def Lh := Ja Iy
def Abh (a b : LI) : Option (LI) :=
(Lh ([a, b] : List LI)).bind fun f =>
some f
def Ajo (a b : Int) : Option (LI × Int) :=
(Tq a b).bind fun (f, g) =>
if (Bf g 0) then
some (([] : LI), g)
else
(Kw a).bind fun (h, n) =>
(Lg ([h] : LI) (Af f 1)).bind fun k =>
(Abh k ([(Af b (De (Af f 1) h))] : LI)).bind fun m =>
some (m, 0)
def Ek (g h k a b : Int) : Option (LI × Int) :=
(Ww g h k a b).bind fun f =>
if (Bf f 0) then
some (([] : LI), f)
else
(Ajo a b).bind fun (m, n) =>
some (m, n)
def Lc (a f g h k : Int) (b : LB) : Option Int :=
if ((b == ([] : LB)) != (geq a 1)) then
some 26
else
some 0
def Akm (w : Int) (o p : LB) (h b f k m : Int) (g : LI) (a : Int) (n : LB) (u : Bool) (v : Int) : Option Bool :=
some (gle (Aa n) w)
def Yq := Akm
def Zn (j8 : Int → LB → LB → Int → Int → Int → Int → Int → LI → Int → LB → Bool → Int → Option Bool) (bk6 : Int → Int → Option Bool) (y : LI) (o p : LB) (h b f k m : Int) (g : LI) (a : Int) (n : LB) (u : Bool) (v w aa : Int) : Option Bool :=
if (Bq aa (Aa y)) then
(Al y aa).bind fun ac =>
bk6 (Ac w (Fw (De (De ac b) f) 8)) (Ac aa 1)
else
j8 w o p h b f k m g a n u v
def Mx (y : LI) (o p : LB) (h b f k m : Int) (g : LI) (a : Int) (n : LB) (u : Bool) (v : Int) : Nat → Int → Int → Option Bool
| 0, _, _ => none
| q + 1, w, aa => Zn Yq (Mx y o p h b f k m g a n u v q) y o p h b f k m g a n u v w aa
def Zz y o p h b f k m g a n u v := Mx y o p h b f k m g a n u v Bw
def Ya (j6 : LI → LB → LB → Int → Int → Int → Int → Int → LI → Int → LB → Bool → Int → Int → Int → Option Bool) (o p : LB) (h b f k m : Int) (g : LI) (a : Int) (n : LB) (u : Bool) (v : Int) (ab : LI) : Option Bool :=
if (geq (Aa g) 0) then
some ((geq a 0) && (geq (Aa n) 0))
else
(Rs g).bind fun ad =>
if ((((Bf ad 0) || (Bf (Aa g) (Aa ab))) || (Bq a 0)) || (Eh a (Aa ab))) then
some false
else
(Cl ab 0 a).bind fun y =>
j6 y o p h b f k m g a n u v 0 0
def Ye := Ya Zz
def Zr (j5 : LB → LB → Int → Int → Int → Int → Int → LI → Int → LB → Bool → Int → LI → Option Bool) (o p : LB) (h b f k m : Int) (g : LI) (a : Int) (n : LB) (u : Bool) (v : Int) : Option Bool :=
if ((geq h 0) && ((geq b 0) && ((geq f 0) && ((geq k 0) && ((geq m 0) && true))))) then
some (((geq (Aa g) 0) && (geq a 0)) && (geq (Aa n) 0))
else
(Ek h b f k m).bind fun (ab, ae) =>
if (Bf ae 0) then
some false
else
(Lc h b f k m o).bind fun af =>
if (Bf af 0) then
some false
else
j5 o p h b f k m g a n u v ab
def Xc := Zr Ye
def Ho (a b : LB) : Option Bool :=
some (a == b)
def Gs (b a : LB) : Option Bool :=
if (Gd (Aa b) (Aa a)) then
(Cl b 0 (Aa a)).bind fun f =>
(Ho f a).bind fun g =>
some g
else
some false
abbrev Ed := Option (Int × Int)
def Aiw (b : Int) : Ed :=
some (b, 0)
def Vo := Aiw
def Vb (j6 : Int → Ed) (bk4 : Int → Int → Ed) (a : LB) (b f : Int) : Ed :=
if (Bq f (Aa a)) then
(Al a f).bind fun g =>
if (Eh g 127) then
some (0, 12)
else
bk4 (gor (Fv b (GI.toZ (7 : UInt64)).toNat) (Ao g : Int)) (Ac f 1)
else
j6 b
def Ly (a : LB) : Nat → Int → Int → Ed
| 0, _, _ => none
| q + 1, b, f => Vb Vo (Ly a q) a b f
def Wl a := Ly a Bw
def Wc (j4 : LB → Int → Int → Ed) (a : LB) : Ed :=
if (Bf (Aa a) 4) then
some (0, 2)
else
j4 a 0 0
def Ad7 := Wc Wl
abbrev Da := Option (Int × Int)
def Akl (a : LB) (b : UInt8) (h : Int) : Da :=
if (Eh h 4000) then
some (0, 4)
else
if (Bq (Aa a) h) then
some (0, 24)
else
if (geq b 16) then
(Cl a (Af h 10) h).bind fun k =>
(Cl k 0 3).bind fun u =>
if (u != ([51, 68, 73] : LB)) then
some (0, 12)
else
(Cl k 3 (Aa k)).bind fun v =>
(Cl a 3 10).bind fun w =>
(Ho v w).bind fun y =>
if (!y) then
some (0, 12)
else
some (h, 0)
else
some (h, 0)
def Yu := Akl
def Ys (j8 : LB → UInt8 → Int → Da) (a : LB) (g : Int) (b : UInt8) : Da :=
if (geq b 16) then
j8 a b (Ac (Ac g 10) 10)
else
j8 a b (Ac g 10)
def Yv := Ys Yu
def Aab (j7 : LB → Int → UInt8 → Da) (a : LB) (g : Int) (b : UInt8) (m : Bool) : Da :=
if m then
some (0, 12)
else
j7 a g b
def Aad := Aab Yv
def Yf (j6 : LB → Int → UInt8 → Bool → Da) (a : LB) (f b : UInt8) : Da :=
(Cl a 6 10).bind fun aa =>
(Ad7 aa).bind fun (g, ab) =>
if (Bf ab 0) then
if true then
j6 a g b true
else
if (geq b 0) then
j6 a g b (!((Gd f 2) && (gle f 4)))
else
if (geq b 16) then
j6 a g b (!(geq f 4))
else
j6 a g b (!false)
else
(Al a 4).bind fun ac =>
if (Bf ac 0) then
j6 a g b true
else
if (geq b 0) then
j6 a g b (!((Gd f 2) && (gle f 4)))
else
if (geq b 16) then
j6 a g b (!(geq f 4))
else
j6 a g b (!false)
def Yx := Yf Aad
def Nh (j5 : LB → UInt8 → UInt8 → Da) (a : LB) : Da :=
(Gs a ([(73 : UInt8), (68 : UInt8), (51 : UInt8)] : LB)).bind fun n =>
if (!n) then
some (0, 6)
else
if (Bq (Aa a) 10) then
some (0, 24)
else
(Al a 3).bind fun f =>
(Al a 5).bind fun b =>
(
(
(
j5 a f b)))
def Ahj := Nh Yx
abbrev Jn := Option (UInt64 × Int)
def Arc (b : UInt64) : Jn :=
some (b, 0)
def Aj9 := Arc
def Akf (j6 : UInt64 → Jn) (bk4 : UInt64 → Int → Jn) (a : LB) (b : UInt64) (f : Int) : Jn :=
if (Bq f (Aa a)) then
(Al a f).bind fun g =>
(Eg (Gd (De 8 f) 0)).bind fun _ =>
bk4 (gor b (Fv (Ao g : UInt64) (GI.toZ (De 8 f)).toNat)) (Ac f 1)
else
j6 b
def Ab3 (a : LB) : Nat → UInt64 → Int → Jn
| 0, _, _ => none
| q + 1, b, f => Akf Aj9 (Ab3 a q) a b f
def Ajm a := Ab3 a Bw
def Ajw (j4 : LB → UInt64 → Int → Jn) (a : LB) : Jn :=
if ((Bq (Aa a) 1) || (Eh (Aa a) 8)) then
some (0, 2)
else
j4 a 0 0
def Ala := Ajw Ajm
def Alv (f : LB) (a b : Int) : Option (UInt64 × Int) :=
if (((Bq b 1) || (Eh b 8)) || (Bq a 0)) then
some (0, 2)
else
if (Eh a (Af (Aa f) b)) then
some (0, 24)
else
(Cl f a (Ac a b)).bind fun g =>
(Ala g).bind fun (h, k) =>
some (h, k)
def Asp (g : LB) : Option (LB) :=
some g
def Ale := Asp
def Am3 (j6 : LB → Option (LB)) (bk4 : Int → LB → Option (LB)) (a b : Int) (f : UInt64) (h : Int) (g : LB) : Option (LB) :=
if (Bq h (Aa ([(2000 : UInt64), (Ao (Ac a 32) : UInt64), (Ao b : UInt64), f, (0 : UInt64), (0 : UInt64)] : LQ))) then
(Al ([(2000 : UInt64), (Ao (Ac a 32) : UInt64), (Ao b : UInt64), f, (0 : UInt64), (0 : UInt64)] : LQ) h).bind fun _ =>
(Al ([(2000 : UInt64), (Ao (Ac a 32) : UInt64), (Ao b : UInt64), f, (0 : UInt64), (0 : UInt64)] : LQ) h).bind fun k =>
(Mm k 4).bind fun (m, o) =>
(Ck g m).bind fun n =>
bk4 (Ac h 1) n
else
j6 g
def Afv (a b : Int) (f : UInt64) : Nat → Int → LB → Option (LB)
| 0, _, _ => none
| q + 1, h, g => Am3 Ale (Afv a b f q) a b f h g
def Ak7 a b f := Afv a b f Bw
def Al6 (j4 : Int → Int → UInt64 → Int → LB → Option (LB)) (a b : Int) (f : UInt64) : Option (LB) :=
j4 a b f 0 ([(65 : UInt8), (80 : UInt8), (69 : UInt8), (84 : UInt8), (65 : UInt8), (71 : UInt8), (69 : UInt8), (88 : UInt8)] : LB)
def Ak1 := Al6 Ak7
def Ac5 (b : LB) (g : UInt64) : Option (Int × Int × Bool) :=
(Alv b 12 4).bind fun (a, m) =>
(Alv b 16 4).bind fun (f, n) =>
if (((Bq a 32) || (Eh a 3032)) || (Eh f 1000)) then
some (0, 0, false)
else
(Ak1 (Af (Ao a : Int) 32) (Ao f : Int) g).bind fun h =>
(Ho b h).bind fun k =>
some ((Af (Ao a : Int) 32), (Ao f : Int), k)
def Aoq (a : LB) : Option (Int × Int) :=
(Gs a ([(65 : UInt8), (80 : UInt8), (69 : UInt8), (84 : UInt8), (65 : UInt8), (71 : UInt8), (69 : UInt8), (88 : UInt8)] : LB)).bind fun f =>
if (!f) then
some (0, 6)
else
if (Bq (Aa a) 32) then
some (0, 24)
else
(Cl a 0 32).bind fun g =>
(Ac5 g 2684354560).bind fun (b, h, k) =>
if (!k) then
some (0, 12)
else
if (Bq (Aa a) (Ac b 64)) then
some (0, 24)
else
(Cl a (Af (Ac b 64) 32) (Ac b 64)).bind fun m =>
(Ak1 b h 2147483648).bind fun n =>
(Ho m n).bind fun o =>
if (!o) then
some (0, 12)
else
some ((Ac b 64), 0)
def Lz (a : LB) : Option (Int × Int) :=
(Ahj a).bind fun (f, b) =>
if (Bf b 6) then
some (f, b)
else
(Aoq a).bind fun (g, h) =>
some (g, h)
def Mg (b : List UInt8) : Nat → Int → Option (Int × Int)
  | 0, _ => none
  | q + 1, x => Option.bind (Cl b x (Aa b)) fun s => Option.bind (Lz s) fun r =>
    if geq r.2 (6 : Int) = true then some (x, 0)
    else if (geq r.2 (0 : Int) && Eh (Ac x r.1) (4000 : Int)) = true then some (0, 4)
    else if Bf r.2 (0 : Int) = true then some (0, r.2)
    else Mg b q (Ac x r.1)
def Fj (b : List UInt8) : Option (Int × Int) := Mg b Bw 0
def Ae (a : Int) : Option (Bool × Int) :=
some (false, a)
def Gb (b a : LB) : Option Bool :=
if (Gd (Aa b) (Aa a)) then
(Cl b 0 (Aa a)).bind fun f =>
some (f == a)
else
some false
def Kr (a b : LB) : Option Bool :=
(Gb a b).bind fun f =>
some f
def Akj : Option Bool :=
some false
def Zb := Akj
def Zg (j6 : Option Bool) (bk4 : Int → Option Bool) (a : LB) (b : Int) : Option Bool :=
if (Bq b 2) then
(Al ([([73, 68, 51] : LB), ([65, 80, 69, 84, 65, 71, 69, 88] : LB)] : List LB) b).bind fun f =>
if (Bq (Aa a) (Aa f)) then
(Kr f a).bind fun g =>
if g then
some true
else
bk4 (Ac b 1)
else
bk4 (Ac b 1)
else
j6
def Nf (a : LB) : Nat → Int → Option Bool
| 0, _ => none
| q + 1, b => Zg Zb (Nf a q) a b
def Zw a := Nf a Bw
def Zj (j4 : LB → Int → Option Bool) (a : LB) : Option Bool :=
j4 a 0
def Kt := Zj Zw
abbrev Fp := Option (Int × Int × Int × Int × Int × Int)
def Amq (a : LI) : Fp :=
(Al a 0).bind fun _ =>
(Al a 0).bind fun h =>
(Al a 1).bind fun _ =>
(Al a 1).bind fun k =>
(Al a 2).bind fun _ =>
(Al a 2).bind fun m =>
(Al a 3).bind fun _ =>
(Al a 3).bind fun n =>
(Al a 4).bind fun _ =>
(Al a 4).bind fun o =>
(Uf h k m n o).bind fun p =>
if (!p) then
some (0, 0, 0, 0, 0, 12)
else
(Abx h k m n o).bind fun u =>
if (!u) then
some (0, 0, 0, 0, 0, 4)
else
some (h, k, m, n, o, 0)
def Acy := Amq
def Aal (j6 : LI → Fp) (bk4 : Int → Int → LI → Fp) (b : LB) (g f : Int) (a : LI) : Fp :=
if (Bq f 5) then
(Al ([(2 : Int), (2 : Int), (2 : Int), (4 : Int), (4 : Int)] : LI) f).bind fun h =>
(Alv b g h).bind fun (v, ae) =>
(Al a f).bind fun _ =>
(Io a f (Ao v : Int)).bind fun w =>
bk4 (Ac g h) (Ac f 1) w
else
j6 a
def Qt (b : LB) : Nat → Int → Int → LI → Fp
| 0, _, _, _ => none
| q + 1, g, f, a => Aal Acy (Qt b q) b g f a
def Acz b := Qt b Bw
def Aa6 (j4 : LB → Int → Int → LI → Fp) (b : LB) : Fp :=
(Cl b 0 (Cv 4 (Aa b))).bind fun y =>
(Kr ([84, 84, 65, 49] : LB) y).bind fun aa =>
if (!aa) then
some (0, 0, 0, 0, 0, 12)
else
if (Bq (Aa b) 22) then
some (0, 0, 0, 0, 0, 24)
else
(Alv b 18 4).bind fun (ab, af) =>
(Cl b 0 18).bind fun ac =>
(Ma ac).bind fun (ad, ag) =>
if (Bf (Ao ad : UInt64) ab) then
some (0, 0, 0, 0, 0, 22)
else
j4 b 4 0 (List.replicate 5 (0 : Int))
def Jy := Aa6 Acz
def Xg (a f : LB) : Option (Bool × Int) :=
(Xm f).bind fun (b, g) =>
if ((Bf g 0) || (Bf (Aa a) (Aa b))) then
some (false, 2)
else
(Ho a b).bind fun h =>
some (h, 0)
abbrev Gl := Option (LI × Int)
def Anq (a : LI) : Gl :=
(Rs a).bind fun k =>
if (Bf k 0) then
some (([] : LI), 12)
else
some (a, 0)
def Aei := Anq
def Aeq (j6 : LI → Gl) (bk4 : Int → LI → Gl) (b : LB) (f : LI) (g : Int) (a : LI) : Gl :=
if (Bq g (Aa f)) then
(Alv b (De 4 g) 4).bind fun (k, u) =>
(Al a g).bind fun _ =>
(Io a g (Ao k : Int)).bind fun m =>
bk4 (Ac g 1) m
else
j6 a
def Ug (b : LB) (f : LI) : Nat → Int → LI → Gl
| 0, _, _ => none
| q + 1, g, a => Aeq Aei (Ug b f q) b f g a
def Aec b f := Ug b f Bw
def Adr (j4 : LB → LI → Int → LI → Gl) (b : LB) (h : Int) : Gl :=
if ((Bq h 1) || (Eh h 1000)) then
some (([] : LI), 2)
else
if (Bq (Aa b) (Ac (De 4 h) 4)) then
some (([] : LI), 24)
else
(Alv b (De 4 h) 4).bind fun (n, v) =>
(Cl b 0 (De 4 h)).bind fun o =>
(Ma o).bind fun (p, w) =>
if (Bf (Ao p : UInt64) n) then
some (([] : LI), 22)
else
(mkI h (0 : Int)).bind fun f =>
(Eg (geq h h)).bind fun _ =>
j4 b f 0 f
def Afw := Adr Aec
def To (f a b g h : Int) : Option (Int × Int) :=
some (a, b)
def Aai (a : LB) : Option (LB × Int) :=
if (Bq (Aa a) 5) then
some (([] : LB), 24)
else
if (Eh (Aa a) 41254) then
some (([] : LB), 4)
else
(Cl a 0 (Af (Aa a) 4)).bind fun f =>
(Ma f).bind fun (g, b) =>
if (Bf b 0) then
some (([] : LB), b)
else
(Cl a (Af (Aa a) 4) (Aa a)).bind fun h =>
(Ala h).bind fun (k, m) =>
if ((Bf m 0) || (Bf k (Ao g : UInt64))) then
some (([] : LB), 22)
else
(Cl a 0 (Af (Aa a) 4)).bind fun n =>
some (n, 0)
def Atk (a : LB) : Option (LB × Int × Int) :=
if (Eh (Aa a) 41250) then
some (([] : LB), 0, 4)
else
(Bg a).bind fun b =>
some (b, (De 8 (Aa a)), 0)
def Aqn (g : UInt64) : Option UInt64 :=
some g
def Ai5 := Aqn
def Ajd (j6 : UInt64 → Option UInt64) (bk4 : UInt64 → Int → Option UInt64) (b f : Int) (h : LB) (k : Int) (g : UInt64) (a : Int) : Option UInt64 :=
if (Bq a f) then
(Al h (Auk (Ac b a) (GI.toZ (3 : UInt64)).toNat)).bind fun m =>
(Eg (Gd (Cj (Ac b a) 7) 0)).bind fun _ =>
(Eg (Gd (Cv (Af f a) (Af 8 (Cj (Ac b a) 7))) 0)).bind fun _ =>
(Eg (Gd a 0)).bind fun _ =>
bk4 (gor g (Fv (Ao (Cj (Bn m (GI.toZ (Cj (Ac b a) 7)).toNat) (Af (Fv (1 : UInt8) (GI.toZ (Cv (Af f a) (Af 8 (Cj (Ac b a) 7)))).toNat) 1)) : UInt64) (GI.toZ a).toNat)) (Ac a (Cv (Af f a) (Af 8 (Cj (Ac b a) 7))))
else
j6 g
def Abq (b f : Int) (h : LB) (k : Int) : Nat → UInt64 → Int → Option UInt64
| 0, _, _ => none
| q + 1, g, a => Ajd Ai5 (Abq b f h k q) b f h k g a
def Ajj b f h k := Abq b f h k Bw
def Aj0 (j4 : Int → Int → LB → Int → UInt64 → Int → Option UInt64) (h : LB) (k b f : Int) : Option UInt64 :=
j4 b f h k 0 0
def Amb := Aj0 Ajj
abbrev By := Option (LB × Int × Int)
def Ap0 (o : Int) (p : LB) : By :=
some (p, o, 0)
def Agx := Ap0
def Apb (bk27 : Int → Int → LB → By) (a : Int) (g : LB) (f b h : Int) (u : LB) : By :=
bk27 (Ac b 64) h u
def Agp bk27 := Apb bk27
def Apo (bk44 : UInt64 → Int → Int → LB → By) (a b : Int) (g : LB) (f : Int) (k n : UInt64) (m h : Int) (w : LB) : By :=
(Eg (Gd (Cv m (Af 8 (Cj h 7))) 0)).bind fun _ =>
bk44 (Bn n (GI.toZ (Cv m (Af 8 (Cj h 7)))).toNat) (Af m (Cv m (Af 8 (Cj h 7)))) (Ac h (Cv m (Af 8 (Cj h 7)))) w
def Aga bk44 := Apo bk44
def Ago (j48 : UInt64 → Int → Int → LB → By) (a b : Int) (g : LB) (f : Int) (k n : UInt64) (m h : Int) (v : LB) : By :=
(Al v (Af (Aa v) 1)).bind fun _ =>
(Eg (Gd (Cv m (Af 8 (Cj h 7))) 0)).bind fun _ =>
(Eg (Gd (Cj h 7) 0)).bind fun _ =>
(Al v (Af (Aa v) 1)).bind fun aa =>
(Al v (Af (Aa v) 1)).bind fun _ =>
Option.bind (Io v (Af (Aa v) 1) (gor aa (Fv (Ao (Cj n (Af (Fv (1 : UInt64) (GI.toZ (Cv m (Af 8 (Cj h 7)))).toNat) 1)) : UInt8) (GI.toZ (Cj h 7)).toNat))) fun w =>
j48 n m h w
def Ahx bk44 a b g f k := Ago (Aga bk44 a b g f k) a b g f k
def Ahd (j47 : UInt64 → Int → Int → LB → By) (j50 : Int → Int → LB → By) (a : Int) (g : LB) (f b : Int) (k n : UInt64) (m h : Int) (u : LB) : By :=
if (Eh m 0) then
if (geq (Cj h 7) 0) then
(Ck u ([(0 : UInt8)] : LB)).bind fun ab =>
j47 n m h ab
else
j47 n m h u
else
j50 b h u
def Xx (bk27 : Int → Int → LB → By) (a : Int) (g : LB) (f b : Int) (k : UInt64) : Nat → UInt64 → Int → Int → LB → By
| 0, _, _, _, _ => none
| q + 1, n, m, h, u => Ahd (Ahx (Xx bk27 a g f b k q) a b g f k) (Agp bk27 a g f) a g f b k n m h u
def Ahv bk27 a g f b k := Xx bk27 a g f b k Bw
def Agz (j44 : Int → UInt64 → UInt64 → Int → Int → LB → By) (j52 : Int → LB → By) (a : Int) (g : LB) (f b o : Int) (p : LB) : By :=
if (Bq b a) then
(Amb g f b (Cv 64 (Af a b))).bind fun k =>
j44 b k k (Cv 64 (Af a b)) o p
else
j52 o p
def Xf (a : Int) (g : LB) (f : Int) : Nat → Int → Int → LB → By
| 0, _, _, _ => none
| q + 1, b, o, p => Agz (Ahv (Xf a g f q) a g f) Agx a g f b o p
def Agw a g f := Xf a g f Bw
def Aj8 (j27 : Int → LB → Int → Int → Int → LB → By) (g : LB) (f y a : Int) : By :=
(Ev g f).bind fun ac =>
if (Bf ac 0) then
some (([] : LB), 0, 8)
else
if (((Bq y 0) || (Eh y a)) || (Eh a f)) then
some (([] : LB), 0, 2)
else
j27 a g f y 0 ([] : LB)
def Anb := Aj8 Agw
def Qa (g : LB) (b f a : Int) : Option (UInt64 × Int) :=
(Ev g b).bind fun h =>
if (Bf h 0) then
some (0, 8)
else
if (((Bq a 0) || (Eh a 64)) || (Bq f 0)) then
some (0, 2)
else
if (Eh f (Af b a)) then
some (0, 24)
else
(Amb g b f a).bind fun k =>
some (k, 0)
def Ia (a : UInt64) : Option Int :=
if (geq a 0) then
some 64
else
(Al ([(0 : UInt8), (1 : UInt8), (56 : UInt8), (2 : UInt8), (57 : UInt8), (49 : UInt8), (28 : UInt8), (3 : UInt8), (61 : UInt8), (58 : UInt8), (42 : UInt8), (50 : UInt8), (38 : UInt8), (29 : UInt8), (17 : UInt8), (4 : UInt8), (62 : UInt8), (47 : UInt8), (59 : UInt8), (36 : UInt8), (45 : UInt8), (43 : UInt8), (51 : UInt8), (22 : UInt8), (53 : UInt8), (39 : UInt8), (33 : UInt8), (30 : UInt8), (24 : UInt8), (18 : UInt8), (12 : UInt8), (5 : UInt8), (63 : UInt8), (55 : UInt8), (48 : UInt8), (27 : UInt8), (60 : UInt8), (41 : UInt8), (37 : UInt8), (16 : UInt8), (46 : UInt8), (35 : UInt8), (44 : UInt8), (21 : UInt8), (52 : UInt8), (32 : UInt8), (23 : UInt8), (11 : UInt8), (54 : UInt8), (26 : UInt8), (40 : UInt8), (15 : UInt8), (34 : UInt8), (20 : UInt8), (31 : UInt8), (10 : UInt8), (25 : UInt8), (14 : UInt8), (19 : UInt8), (9 : UInt8), (13 : UInt8), (8 : UInt8), (7 : UInt8), (6 : UInt8)] : LB) (GI.toZ (Bn (De (Cj a (Aul a)) 285870213051353865) (GI.toZ (58 : UInt64)).toNat))).bind fun b =>
some (Ao b : Int)
abbrev Cx := Option (Int × Int × Int)
def Ak8 : Cx :=
some (0, 0, 24)
def Acv := Ak8
def Adx (j10 : Cx) : Cx :=
j10
def Adu := Adx Acv
def Aef (j9 : Cx) (f a : Int) : Cx :=
if (geq f 48) then
some (f, (Ac 0 (Ac a f)), 0)
else
j9
def Ad3 := Aef Adu
def Ae1 (j8 : Int → Int → Cx) (f b a : Int) : Cx :=
if (Bq f (Cv 48 (Af b a))) then
some (f, (Ac (Ac (0 : Int) (1 : Int)) (Ac a f)), 0)
else
j8 f a
def Ad6 := Ae1 Ad3
def Adw (j7 : Int → Int → Int → Cx) (h : Int) (k : UInt64) (a : Int) (g : LB) (b : Int) : Cx :=
if (Bf h 0) then
some (0, 0, h)
else
(Ia (Awg k)).bind fun f =>
j7 f b a
def Adt := Adw Ad6
def Ua (j6 : Int → UInt64 → Int → LB → Int → Cx) (g : LB) (b a : Int) : Cx :=
(Ev g b).bind fun m =>
if (Bf m 0) then
some (0, 0, m)
else
if (Bq a 0) then
some (0, 0, 2)
else
if (Gd a b) then
some (0, 0, 24)
else
(
(
(Qa g b a (Cv 48 (Af b a))).bind fun (k, h) =>
j6 h k a g b))
def Amc := Ua Adt
abbrev Aat := Option (UInt32 × Int × Int)
def Ao6 (a b f : Int) (g : LB) (h k : Int) : Aat :=
(Qa g h b k).bind fun (m, n) =>
if (Bf n 0) then
some (0, 0, n)
else
if (Bq f 48) then
(Eg (Gd a 0)).bind fun _ =>
some ((gor (Fv (Ao f : UInt32) (GI.toZ a).toNat) (Ao m : UInt32)), (Ac b k), 0)
else
(Xp (Ao m : UInt32) a).bind fun u =>
if (!u) then
some (0, 0, 12)
else
some ((Ao m : UInt32), (Ac b k), 0)
def Ag1 := Ao6
def Ag2 (j2 : Int → Int → Int → LB → Int → Int → Aat) (g : LB) (h v a : Int) : Aat :=
(Ev g h).bind fun o =>
if (Bf o 0) then
some (0, 0, o)
else
if ((Bq a 0) || (Eh a 24)) then
some (0, 0, 2)
else
(Amc g h v).bind fun (f, b, p) =>
if (Bf p 0) then
some (0, 0, p)
else
if (geq f 48) then
j2 a b f g h 32
else
j2 a b f g h a
def Aob := Ag2 Ag1
abbrev Dr := Option (UInt32 × Int × Int × Int × UInt64 × UInt64 × Int)
def Anu (f : UInt32) (k w m : Int) (a n : UInt64) : Dr :=
some (f, k, w, m, (Ac a (Af (Ao f : UInt64) (Bn a (GI.toZ (4 : UInt64)).toNat))), n, 0)
def Aek := Anu
def Af9 (j10 : UInt32 → Int → Int → Int → UInt64 → UInt64 → Dr) (f : UInt32) (k m : Int) (a n : UInt64) (w : Int) : Dr :=
j10 f k w m a n
def Ag7 := Af9 Aek
def Agd (j9 : UInt32 → Int → Int → UInt64 → UInt64 → Int → Dr) (f : UInt32) (k b : Int) (a : UInt64) (m : Int) (n : UInt64) : Dr :=
if (Eh b 0) then
(Eg (Gd b 0)).bind fun _ =>
if (Bq (Ac a (Af (Ao f : UInt64) (Bn a (GI.toZ (4 : UInt64)).toNat))) (Fv (16 : UInt64) (GI.toZ b).toNat)) then
j9 f k m a n (Af b 1)
else
if (Bq b 24) then
(Eg (Gd b 0)).bind fun _ =>
if (Eh (Ac a (Af (Ao f : UInt64) (Bn a (GI.toZ (4 : UInt64)).toNat))) (Fv (32 : UInt64) (GI.toZ b).toNat)) then
j9 f k m a n (Ac b 1)
else
j9 f k m a n b
else
j9 f k m a n b
else
if (Bq b 24) then
(Eg (Gd b 0)).bind fun _ =>
if (Eh (Ac a (Af (Ao f : UInt64) (Bn a (GI.toZ (4 : UInt64)).toNat))) (Fv (32 : UInt64) (GI.toZ b).toNat)) then
j9 f k m a n (Ac b 1)
else
j9 f k m a n b
else
j9 f k m a n b
def Af6 := Agd Ag7
def Ag6 (j8 : UInt32 → Int → Int → UInt64 → Int → UInt64 → Dr) (b h : Int) (a g : UInt64) (f : UInt32) (k : Int) : Dr :=
(Xi b h a g f).bind fun (ad, o) =>
if (geq ad 1) then
if (Eh h 0) then
(Eg (Gd h 0)).bind fun _ =>
if (Bq (Ac g (Af (Ao o : UInt64) (Bn g (GI.toZ (4 : UInt64)).toNat))) (Fv (16 : UInt64) (GI.toZ h).toNat)) then
j8 f k b a (Af h 1) (Ac g (Af (Ao o : UInt64) (Bn g (GI.toZ (4 : UInt64)).toNat)))
else
if (Bq h 24) then
(Eg (Gd h 0)).bind fun _ =>
if (Eh (Ac g (Af (Ao o : UInt64) (Bn g (GI.toZ (4 : UInt64)).toNat))) (Fv (32 : UInt64) (GI.toZ h).toNat)) then
j8 f k b a (Ac h 1) (Ac g (Af (Ao o : UInt64) (Bn g (GI.toZ (4 : UInt64)).toNat)))
else
j8 f k b a h (Ac g (Af (Ao o : UInt64) (Bn g (GI.toZ (4 : UInt64)).toNat)))
else
j8 f k b a h (Ac g (Af (Ao o : UInt64) (Bn g (GI.toZ (4 : UInt64)).toNat)))
else
if (Bq h 24) then
(Eg (Gd h 0)).bind fun _ =>
if (Eh (Ac g (Af (Ao o : UInt64) (Bn g (GI.toZ (4 : UInt64)).toNat))) (Fv (32 : UInt64) (GI.toZ h).toNat)) then
j8 f k b a (Ac h 1) (Ac g (Af (Ao o : UInt64) (Bn g (GI.toZ (4 : UInt64)).toNat)))
else
j8 f k b a h (Ac g (Af (Ao o : UInt64) (Bn g (GI.toZ (4 : UInt64)).toNat)))
else
j8 f k b a h (Ac g (Af (Ao o : UInt64) (Bn g (GI.toZ (4 : UInt64)).toNat)))
else
j8 f k b a h g
def Ahg := Ag6 Af6
def Agu (j7 : Int → Int → UInt64 → UInt64 → UInt32 → Int → Dr) (p : Int) (u : LB) (v b h : Int) (a g : UInt64) : Dr :=
(Qa u v p 1).bind fun (ae, aa) =>
if (Bf aa 0) then
some (0, 0, 0, 0, 0, 0, aa)
else
if (geq ae 0) then
(Qa u v (Ac p 1) b).bind fun (af, ab) =>
if (Bf ab 0) then
some (0, 0, 0, 0, 0, 0, ab)
else
j7 b h a g (Ao af : UInt32) (Ac (Ac p 1) b)
else
(Aob u v (Ac p 1) h).bind fun (y, ag, ac) =>
if (Bf ac 0) then
some (0, 0, 0, 0, 0, 0, ac)
else
(Eg (Gd b 0)).bind fun _ =>
if (Bq (Ac y (Fv (1 : UInt32) (GI.toZ b).toNat)) y) then
some (0, 0, 0, 0, 0, 0, 12)
else
j7 b h a g (Ac y (Fv (1 : UInt32) (GI.toZ b).toNat)) ag
def Agy := Agu Ahg
def Ahb (j6 : Int → LB → Int → Int → Int → UInt64 → UInt64 → Dr) (u : LB) (v p b h : Int) (a g : UInt64) : Dr :=
(Ev u v).bind fun ah =>
if (Bf ah 0) then
some (0, 0, 0, 0, 0, 0, 8)
else
(Afm b h a g).bind fun ai =>
if (Bf ai 0) then
some (0, 0, 0, 0, 0, 0, 8)
else
j6 p u v b h a g
def Uz := Ahb Agy
abbrev As := Option (LU × Int × Int)
def Afz (k : Int) (m : LU) : As :=
some (m, k, 0)
def Pb := Afz
def Ae7 (bk16 : Int → Int → (List (Int × Int × UInt64 × UInt64 × Unit)) → LU → As) (a f : Int) (g : LB) (b k v : Int) (w : UInt32) (h : Int) (ag : List (Int × Int × UInt64 × UInt64 × Unit)) (m : LU) : As :=
(Ck m ([w] : LU)).bind fun ak =>
bk16 (Ac k v) (Ac h 1) ag ak
def Ox bk16 := Ae7 bk16
def Ra (j22 : Int → Int → UInt32 → Int → (List (Int × Int × UInt64 × UInt64 × Unit)) → LU → As) (a f : Int) (g : LB) (b k h y : Int) (w : UInt32) (v : Int) (n : List (Int × Int × UInt64 × UInt64 × Unit)) (m : LU) (aa ab : Int) (ac ad : UInt64) : As :=
if (Bf y 0) then
some (([] : LU), 0, y)
else
(Eg (Bf a 0)).bind fun _ =>
(Al n (Dl h a)).bind fun _ =>
(Io n (Dl h a) (aa, ab, ac, ad, ())).bind fun ag =>
j22 k v w h ag m
def Pu bk16 a f g b := Ra (Ox bk16 a f g b) a f g b
def Ju (j21 : Int → Int → Int → UInt32 → Int → (List (Int × Int × UInt64 × UInt64 × Unit)) → LU → Int → Int → UInt64 → UInt64 → As) (j24 : Int → LU → As) (a f : Int) (g : LB) (b k h : Int) (n : List (Int × Int × UInt64 × UInt64 × Unit)) (m : LU) : As :=
if (Bq h (De f a)) then
(Anb g b k (Cv (Ac k 81) b)).bind fun (ah, ae, af) =>
if (Bf af 0) then
some (([] : LU), 0, af)
else
(Eg (Bf a 0)).bind fun _ =>
(Al n (Dl h a)).bind fun _ =>
(
(
(Al n (Dl h a)).bind fun p =>
(
(Uz ah ae 0 p.1 p.2.1 p.2.2.1 p.2.2.2.1).bind fun (w, v, aa, ab, ac, ad, y) =>
j21 k h y w v n m aa ab ac ad)))
else
j24 k m
def Jv (a f : Int) (g : LB) (b : Int) : Nat → Int → Int → (List (Int × Int × UInt64 × UInt64 × Unit)) → LU → As
| 0, _, _, _, _ => none
| q + 1, k, h, n, m => Ju (Pu (Jv a f g b q) a f g b) Pb a f g b k h n m
def Qw a f g b := Jv a f g b Bw
def Ql (j16 : Int → Int → LB → Int → Int → Int → (List (Int × Int × UInt64 × UInt64 × Unit)) → LU → As) (a f : Int) (g : LB) (b : Int) (o : List (Int × Int × UInt64 × UInt64 × Unit)) : As :=
j16 a f g b 0 0 o ([] : LU)
def Qp := Ql Qw
def Qu (j15 : Int → Int → LB → Int → (List (Int × Int × UInt64 × UInt64 × Unit)) → As) (bk13 : Int → (List (Int × Int × UInt64 × UInt64 × Unit)) → As) (a f : Int) (g : LB) (b u : Int) (o : List (Int × Int × UInt64 × UInt64 × Unit)) : As :=
if (Bq u 6) then
(Aft).bind fun (al, ae, af, am) =>
(Al o u).bind fun _ =>
(Io o u (al, ae, af, am, ())).bind fun an =>
bk13 (Ac u 1) an
else
j15 a f g b o
def Jq (a f : Int) (g : LB) (b : Int) : Nat → Int → (List (Int × Int × UInt64 × UInt64 × Unit)) → As
| 0, _, _ => none
| q + 1, u, o => Qu Qp (Jq a f g b q) a f g b u o
def Qs a f g b := Jq a f g b Bw
def Se (j13 : Int → Int → LB → Int → Int → (List (Int × Int × UInt64 × UInt64 × Unit)) → As) (a f : Int) (g : LB) (b : Int) : As :=
j13 a f g b 0 (List.replicate 6 ((0 : Int), (0 : Int), (0 : UInt64), (0 : UInt64), ()))
def Ab4 := Se Qs
def Lm (a : UInt32) : Option Int32 :=
some (Aif (Ao (Bn a (GI.toZ (1 : UInt64)).toNat) : Int32) (Aul (Ao (Cj a 1) : Int32)))
def Alf (b : Int) (f g : LX) (a : Int32) : Option (Int32 × Int × LX × LX × Int) :=
(Af0 b f g).bind fun (h, k) =>
if (Bf k 0) then
some (0, 0, (List.replicate 16 (0 : Int32)), (List.replicate 16 (0 : Int32)), k)
else
(Afc b f g (Ac a h) a).bind fun (m, n, o) =>
some ((Ac a h), m, n, o, 0)
def Fq (a : Int) (b : Int32) (f : Int) (g h : LX) (o : Int32) : Option (Int32 × Int × Int32 × Int × LX × LX × Int) :=
(Mn a b f g h).bind fun k =>
if (Bf k 0) then
some (0, 0, 0, 0, (List.replicate 16 (0 : Int32)), (List.replicate 16 (0 : Int32)), k)
else
(Mv a b).bind fun (m, y) =>
(Alf f g h o).bind fun (n, p, u, v, w) =>
(
some ((Ac n m), a, (Ac n m), p, u, v, w))
abbrev Ci := Option (LX × Int)
def Ap8 (f : LX) : Ci :=
some (f, 0)
def Ahq := Ap8
def Apk (bk12 : Int → LX → Ci) (b a : Int) (h : LX) : Ci :=
bk12 (Ac a b) h
def Ahk bk12 := Apk bk12
def Ahf (j20 : Int → LX → Ci) (bk18 : Int → LX → Ci) (b a g : Int) (h : LX) : Ci :=
if (Gd g 0) then
(Eg (decide (0 ≤ (Ac g 1) ∧ (Ac g 1) < ((Ac a b) - a)))).bind fun _ =>
(Eg (decide (0 ≤ g ∧ g < ((Ac a b) - a)))).bind fun _ =>
(Al h (a + (Ac g 1))).bind fun o =>
(Al h (a + g)).bind fun p =>
(Eg (decide (0 ≤ g ∧ g < ((Ac a b) - a)))).bind fun _ =>
(Io h (a + g) (Af o p)).bind fun u =>
bk18 (Af g 1) u
else
j20 a h
def Xl (bk12 : Int → LX → Ci) (b a : Int) : Nat → Int → LX → Ci
| 0, _, _ => none
| q + 1, g, h => Ahf (Ahk bk12 b) (Xl bk12 b a q) b a g h
def Ah2 bk12 b a := Xl bk12 b a Bw
def Af5 (j18 : Int → Int → LX → Ci) (b a : Int) (k : LX) : Ci :=
j18 a (Af (Af ((Ac a b) - a) 1) 1) k
def Ag4 bk12 b := Af5 (Ah2 bk12 b) b
def Af8 (j17 : Int → LX → Ci) (j22 : LX → Ci) (b a : Int) (f : LX) : Ci :=
if (Bq a (Aa f)) then
(vwI (Aa f) a (Ac a b)).bind fun _ =>
if (Eh (Af ((Ac a b) - a) 1) 0) then
(Eg (decide (0 ≤ (Af ((Ac a b) - a) 1) ∧ (Af ((Ac a b) - a) 1) < ((Ac a b) - a)))).bind fun _ =>
Option.bind (Eg (decide (0 ≤ (Af (Af ((Ac a b) - a) 1) 1) ∧ (Af (Af ((Ac a b) - a) 1) 1) < ((Ac a b) - a)))) fun _ =>
(Al f (a + (Af ((Ac a b) - a) 1))).bind fun v =>
(Al f (a + (Af (Af ((Ac a b) - a) 1) 1))).bind fun w =>
(Eg (decide (0 ≤ (Af ((Ac a b) - a) 1) ∧ (Af ((Ac a b) - a) 1) < ((Ac a b) - a)))).bind fun _ =>
(Io f (a + (Af ((Ac a b) - a) 1)) (Ac v (Fw w 2))).bind fun y =>
j17 a y
else
j17 a f
else
j22 f
def Xv (b : Int) : Nat → Int → LX → Ci
| 0, _, _ => none
| q + 1, a, f => Af8 (Ag4 (Xv b q) b) Ahq b a f
def Ahp b := Xv b Bw
def Ajv (j12 : Int → Int → LX → Ci) (b : Int) (m : LX) : Ci :=
(Aii b m).bind fun n =>
if (Bf n 0) then
some (([] : LX), n)
else
(Bv m).bind fun aa =>
j12 b 0 aa
def Aq6 := Ajv Ahp
abbrev Ay := Option (LX × Int)
def Adl (a b : Int) (k : LX) : Ay :=
(Aq6 a k).bind fun (ah, af) =>
if (Bf af 0) then
some (([] : LX), af)
else
(Mo b ah).bind fun ae =>
if (Bf ae 0) then
some (([] : LX), ae)
else
some (ah, 0)
def Of := Adl
def Adk (bk13 : Int → (List (Int × Int32 × (Int × LX × LX × Unit) × Unit)) → LX → Ay) (a : Int) (f : LU) (b g : Int) (w : Int32) (u : Int) (h : List (Int × Int32 × (Int × LX × LX × Unit) × Unit)) (k : LX) (y : Int) (v : Int32) (aa : Int) (ab ac : LX) : Ay :=
if (Bf u 0) then
some (([] : LX), u)
else
(Io h (Dl g a) (y, v, (aa, ab, ac, ()), ())).bind fun ai =>
(Ck k ([w] : LX)).bind fun aj =>
bk13 (Ac g 1) ai aj
def Nz bk13 := Adk bk13
def Ig (j16 : Int → Int32 → Int → (List (Int × Int32 × (Int × LX × LX × Unit) × Unit)) → LX → Int → Int32 → Int → LX → LX → Ay) (j18 : Int → Int → LX → Ay) (f : LU) (a b g : Int) (h : List (Int × Int32 × (Int × LX × LX × Unit) × Unit)) (k : LX) : Ay :=
if (Bq g (Aa f)) then
(Al f g).bind fun ag =>
(Eg (Bf a 0)).bind fun _ =>
(Al h (Dl g a)).bind fun _ =>
(
(Al h (Dl g a)).bind fun m =>
(
(Lm ag).bind fun ae =>
(
(Fq m.1 m.2.1 m.2.2.1.1 m.2.2.1.2.1 m.2.2.1.2.2.1 ae).bind fun (w, y, v, aa, ab, ac, u) =>
j16 g w u h k y v aa ab ac)))
else
j18 a b k
def Il (f : LU) (a b : Int) : Nat → Int → (List (Int × Int32 × (Int × LX × LX × Unit) × Unit)) → LX → Ay
| 0, _, _, _ => none
| q + 1, g, h, k => Ig (Nz (Il f a b q) a f b) Of f a b g h k
def Ok f a b := Il f a b Bw
def Nx (j13 : LU → Int → Int → Int → (List (Int × Int32 × (Int × LX × LX × Unit) × Unit)) → LX → Ay) (f : LU) (a b : Int) (n : List (Int × Int32 × (Int × LX × LX × Unit) × Unit)) : Ay :=
j13 f a b 0 n ([] : LX)
def Np := Nx Ok
def Nt (j12 : LU → Int → Int → (List (Int × Int32 × (Int × LX × LX × Unit) × Unit)) → Ay) (bk10 : Int → (List (Int × Int32 × (Int × LX × LX × Unit) × Unit)) → Ay) (f : LU) (a b : Int) (o : LX) (p : Int) (n : List (Int × Int32 × (Int × LX × LX × Unit) × Unit)) : Ay :=
if (Bq p 6) then
(Ais b o).bind fun (ak, af, ae, al, am, v) =>
(Al n p).bind fun _ =>
(Io n p (ak, af, (ae, al, am, ()), ())).bind fun an =>
bk10 (Ac p 1) an
else
j12 f a b n
def Im (f : LU) (a b : Int) (o : LX) : Nat → Int → (List (Int × Int32 × (Int × LX × LX × Unit) × Unit)) → Ay
| 0, _, _ => none
| q + 1, p, n => Nt Np (Im f a b o q) f a b o p n
def Nv f a b o := Im f a b o Bw
def Qx (j10 : LU → Int → Int → LX → Int → (List (Int × Int32 × (Int × LX × LX × Unit) × Unit)) → Ay) (a b : Int) (o : LX) (f : LU) : Ay :=
j10 f a b o 0 (List.replicate 6 ((0 : Int), (0 : Int32), ((0 : Int), (List.replicate 16 (0 : Int32)), (List.replicate 16 (0 : Int32)), ()), ()))
def Zc := Qx Nv
def Oy (a h : Int) (u : LX) (f : Int) (v : LB) : Option (LX × Int) :=
(Mh a h).bind fun k =>
if (Bf k 0) then
some (([] : LX), k)
else
if (Bq f 1) then
some (([] : LX), 2)
else
(Eg (Bf a 0)).bind fun _ =>
if (Eh f (Fw 4000 a)) then
some (([] : LX), 2)
else
(Aai v).bind fun (w, m) =>
if (Bf m 0) then
some (([] : LX), m)
else
(Atk w).bind fun (n, b, o) =>
if (Bf o 0) then
some (([] : LX), o)
else
(Ab4 a f n b).bind fun (y, g, p) =>
if (Bf p 0) then
some (([] : LX), p)
else
if (Gd (Af b g) 8) then
some (([] : LX), 12)
else
(Qa n b g (Af b g)).bind fun (aa, ab) =>
if ((Bf ab 0) || (Bf aa 0)) then
some (([] : LX), 12)
else
(Zc a h u y).bind fun (ac, ad) =>
some (ac, ad)
abbrev Bk := Option (LB × Int)
def Akn (g : LB) : Bk :=
some (g, 0)
def Yo := Akn
def Akp (bk16 : Int → LB → Bk) (b : Int) (a : LX) (f : Int) (h : LB) : Bk :=
bk16 (Ac f 1) h
def Xz bk16 := Akp bk16
def Zf (j28 : Int → LB → Bk) (bk26 : Int → LB → Bk) (b : Int) (a : LX) (k : Int32) (f m : Int) (h : LB) : Bk :=
if (Bq m (Fw b 8)) then
(Eg (Gd (De 8 m) 0)).bind fun _ =>
(Ck h ([(Ao (Bn k (GI.toZ (De 8 m)).toNat) : UInt8)] : LB)).bind fun p =>
bk26 (Ac m 1) p
else
j28 f h
def Nk (bk16 : Int → LB → Bk) (b : Int) (a : LX) (k : Int32) (f : Int) : Nat → Int → LB → Bk
| 0, _, _ => none
| q + 1, m, h => Zf (Xz bk16 b a) (Nk bk16 b a k f q) b a k f m h
def Yz bk16 b a k f := Nk bk16 b a k f Bw
def Zs (j26 : Int32 → Int → Int → LB → Bk) (b : Int) (a : LX) (f : Int) (g : LB) (k : Int32) : Bk :=
j26 k f 0 g
def Zl bk16 b a := Zs (Yz bk16 b a) b a
def Zo (j25 : Int → LB → Int32 → Bk) (j30 : LB → Bk) (b : Int) (a : LX) (f : Int) (g : LB) : Bk :=
if (Bq f (Aa a)) then
(Al a f).bind fun n =>
if (geq b 8) then
j25 f g (Ac n 128)
else
j25 f g n
else
j30 g
def Na (b : Int) (a : LX) : Nat → Int → LB → Bk
| 0, _, _ => none
| q + 1, f, g => Zo (Zl (Na b a q) b a) Yo b a f g
def Aaa b a := Na b a Bw
def Abp (j16 : Int → LX → Int → LB → Bk) (b : Int) (a : LX) : Bk :=
(Mo b a).bind fun o =>
if (Bf o 0) then
some (([] : LB), o)
else
j16 b a 0 ([] : LB)
def Ml := Abp Aaa
def Iv : Option Int :=
some (-1 : Int)
def El := Iv
def Ep (j6 : Option Int) (bk4 : Int → Option Int) (a : LI) (b f : Int) : Option Int :=
if (Bq f (Aa a)) then
(Al a f).bind fun g =>
if (geq b g) then
some f
else
bk4 (Ac f 1)
else
j6
def Cm (a : LI) (b : Int) : Nat → Int → Option Int
| 0, _ => none
| q + 1, f => Ep El (Cm a b q) a b f
def Eo a b := Cm a b Bw
def Em (j4 : LI → Int → Int → Option Int) (a : LI) (b : Int) : Option Int :=
j4 a b 0
def Fi := Em Eo
def En (a : LI) (b : Int) : Option Bool :=
(Fi a b).bind fun f =>
some (Gd f 0)
def Jf (a : Int) : Option Bool :=
(En ([(4 : Int), (12 : Int), (16 : Int), (22 : Int), (24 : Int), (26 : Int), (38 : Int)] : LI) a).bind fun b =>
some b
def Ahh (bi : Bool) : Option Int :=
if (!bi) then
some 8
else
some 0
def Dy := Ahh
def Tn (j22 : Bool → Option Int) : Option Int :=
j22 ((true == true) && ((geq (0 : Int) (0 : Int)) && true))
def Ru := Tn Dy
def Rk (j22 : Bool → Option Int) (bj : Bool) (bk : Int) : Option Int :=
j22 ((bj == true) && ((geq bk 0) && true))
def Kl := Rk Dy
def Rw (j13 : Bool → Int → Option Int) (g ak : LB) (ae af aa ag ab b : Int) (m : Bool) (n : Int) (f : LI) (h : LB) : Option Int :=
(Lc ae af aa ag ab g).bind fun dm =>
(Ae dm).bind fun (dn, am) =>
j13 dn am
def Rr := Rw Kl
def Tk (j22 : Bool → Option Int) (bl : Bool) (bm : Int) : Option Int :=
j22 ((bl == true) && ((geq bm 0) && true))
def Gz := Tk Dy
def Rj (j25 : Bool → Int → Option Int) (g a : LB) (k p o u v b : Int) (m : Bool) (n : Int) (f : LI) (h : LB) (bg : Int) : Option Int :=
(Ek k p o u v).bind fun (dp, bh) =>
if (Bf bh 0) then
(Ae bh).bind fun (an, bn) =>
j25 an bn
else
(Cl a bg (Aa a)).bind fun dq =>
(Afw dq (Aa dp)).bind fun (dr, aa) =>
if (geq aa 24) then
j25 true 0
else
if (Bf aa 0) then
(Ae aa).bind fun (ds, ab) =>
j25 ds ab
else
(Cl a (Ac (Ac bg (De 4 (Aa dr))) 4) (Aa a)).bind fun fc =>
j25 false 0
def Km := Rj Gz
def Ri (j25 : Bool → Int → Option Int) (j24 : LB → LB → Int → Int → Int → Int → Int → Int → Bool → Int → LI → LB → Int → Option Int) (bd : Bool) (bc : Int) (g a : LB) (k p o u v b : Int) (m : Bool) (n : Int) (f : LI) (h : LB) : Option Int :=
if (Bf bc 0) then
(Ae bc).bind fun (dt, bh) =>
j25 dt bh
else
if (!bd) then
(Ae 26).bind fun (an, bn) =>
j25 an bn
else
j24 g a k p o u v b m n f h 8
def Th := Ri Gz Km
def Rq (j15 : Bool → Int → LB → LB → Int → Int → Int → Int → Int → Int → Bool → Int → LI → LB → Option Int) (g a : LB) (k p o u v b : Int) (m : Bool) (n : Int) (f : LI) (h : LB) : Option Int :=
(Cl a 0 8).bind fun du =>
(Xg du g).bind fun (bd, bc) =>
j15 bd bc g a k p o u v b m n f h
def Ti := Rq Th
def Rl (j22 : Bool → Option Int) (bp : Bool) (bq : Int) : Option Int :=
j22 ((bp == true) && ((geq bq 0) && true))
def Kf := Rl Dy
def Kg (j28 : Bool → Int → Option Int) (w ah : Int) (g a : LB) (k p o u v b : Int) (m : Bool) (n : Int) (ao : LX) (f : LI) (h : LB) : Option Int :=
if (Bf ah 0) then
(Ae ah).bind fun (br, bs) =>
j28 br bs
else
(Ml o ao).bind fun (bt, be) =>
if (Bf be 0) then
(Ae be).bind fun (bu, bv) =>
j28 bu bv
else
(Ck h bt).bind fun dv =>
(
(Cl a w (Aa a)).bind fun dw =>
j28 false 0)
def Sf := Kg Kf
def Tc (j27 : Int → Int → LB → LB → Int → Int → Int → Int → Int → Int → Bool → Int → LX → LI → LB → Option Int) (w : Int) (g a : LB) (k p o u v b : Int) (m : Bool) (n : Int) (ap : LX) (ad f : LI) (h : LB) : Option Int :=
(Al ad b).bind fun _ =>
(Cl a 0 w).bind fun dx =>
(Al ad b).bind fun dy =>
(To k p o u v).bind fun (dz, bf) =>
(Oy dz bf ap dy dx).bind fun (ao, ah) =>
j27 w ah g a k p o u v b m n ao f h
def Sd := Tc Sf
def Li (j13 : Bool → Int → Option Int) (j12 : LB → LB → Int → Int → Int → Int → Int → Int → Bool → Int → LI → LB → Option Int) (j25 : Bool → Int → Option Int) (j23 : LB → LB → Int → Int → Int → Int → Int → Int → Bool → Int → LI → LB → Option Int) (j24 : LB → LB → Int → Int → Int → Int → Int → Int → Bool → Int → LI → LB → Int → Option Int) (j28 : Bool → Int → Option Int) (j26 : Int → LB → LB → Int → Int → Int → Int → Int → Int → Bool → Int → LX → LI → LI → LB → Option Int) (j22 : Bool → Option Int) (j21 : Option Int) (aq ar : LB) (au av aw ax ay : Int) (az : LI) (ai : Int) (aj : LB) (ac : Bool) (y : Int) : Option Int :=
if (Eh (Aa aq) 64) then
some 8
else
if ((geq y 0) && (!ac)) then
(Cz aq ar au av aw ax ay az ai aj ac y).bind fun (g, a, k, p, o, u, v, f, b, h, m, n) =>
(Xc aq ar au av aw ax ay az ai aj ac y).bind fun bw =>
if bw then
if (geq k 0) then
(Fj a).bind fun (al, ba) =>
if (geq ba 24) then
j13 true 0
else
if (Bf ba 0) then
(Ae ba).bind fun (bx, bz) =>
j13 bx bz
else
(Cl a al (Aa a)).bind fun da =>
(Kt da).bind fun an =>
if an then
j13 true 0
else
(Cl a al (Aa a)).bind fun db =>
(Jy db).bind fun (ae, af, aa, ag, ab, bb) =>
if (geq bb 24) then
j13 true 0
else
if (Bf bb 0) then
(Ae bb).bind fun (dc, dd) =>
j13 dc dd
else
(
(Cl a (Ac al 22) (Aa a)).bind fun ak =>
(
j12 g ak ae af aa ag ab b m n f h))
else
if (geq (Aa f) 0) then
if (geq k 2) then
if (Bq (Aa a) 8) then
j25 true 0
else
j23 g a k p o u v b m n f h
else
j24 g a k p o u v b m n f h 0
else
if (Bq b (Aa f)) then
(Al f b).bind fun _ =>
(Al f b).bind fun w =>
if (Bq (Aa a) w) then
j28 true 0
else
(Md g).bind fun (ap, am) =>
if (Bf am 0) then
(Ae am).bind fun (de, df) =>
j28 de df
else
(Ek k p o u v).bind fun (ad, dg) =>
if ((Bf dg 0) || (Gd b (Aa ad))) then
(Ae 8).bind fun (dh, di) =>
j28 dh di
else
j26 w g a k p o u v b m n ap ad f h
else
if (Eh (Aa a) 4000) then
(Ae 38).bind fun (dj, bf) =>
j22 ((dj == true) && ((geq bf 0) && true))
else
j21
else
j22 false
else
if ((geq (Aa ar) 0) && (geq (Aa az) 0)) then
if ((((geq au 0) && ((geq av 0) && ((geq aw 0) && ((geq ax 0) && ((geq ay 0) && true))))) && (geq ai 0)) && (gle (Aa aj) 12000)) then
if (geq y 0) then
j22 true
else
if (!ac) then
(Jf y).bind fun dk =>
j22 dk
else
j22 false
else
j22 false
else
if ((false && (geq ai 0)) && (gle (Aa aj) 12000)) then
if (geq y 0) then
j22 true
else
if (!ac) then
(Jf y).bind fun dl =>
j22 dl
else
j22 false
else
j22 false
def Ui := Li Kl Rr Gz Ti Km Kf Sd Dy Ru
def Ji (f g : LB) (h k m n o : Int) (p : LI) (u : Int) (v : LB) (b : Bool) (a : Int) : Option (LB × LB × Int × Int × Int × Int × Int × LI × Int × LB × Bool × Int × Int) :=
(Ui f g h k m n o p u v b a).bind fun w =>
if (Bf w 0) then
some (([] : LB), ([] : LB), 0, 0, 0, 0, 0, ([] : LI), 0, ([] : LB), false, 0, w)
else
if (Bf a 0) then
(
(
(Cz f g h k m n o p u v b a).bind fun (y, aa, ab, ac, ad, ae, af, ag, ah, ai, aj, ak) =>
(
some (y, aa, ab, ac, ad, ae, af, ag, ah, ai, aj, ak, a))))
else
if b then
(Cz f g h k m n o p u v b a).bind fun (al, am, an, ao, ap, aq, ar, au, av, aw, ax, ay) =>
some (al, am, an, ao, ap, aq, ar, au, av, aw, ax, ay, 36)
else
(Cz f g h k m n o p u v b a).bind fun (az, ba, bb, bc, bd, be, bf, bg, bh, bi, bj, bk) =>
some (az, ba, bb, bc, bd, be, bf, bg, bh, bi, bj, bk, 0)
def Xo (b g : LB) (h k m n o : Int) (p : LI) (u : Int) (f : LB) (v : Bool) (w a : Int) : Option (LB × LB × Int × Int × Int × Int × Int × LI × Int × LB × Bool × Int × Int) :=
some (b, ([] : LB), 0, 0, 0, 0, 0, ([] : LI), 0, f, false, a, a)
abbrev Ad := Option (LB × LB × Int × Int × Int × Int × Int × LI × Int × LB × Bool × Int × Int)
def Ai2 (bk37 : LB → Int → Int → Int → Int → Int → Int → LI → LB → Ad) (a : LB) (b : Bool) (f : Int) (ar : LB) (au av aw ax ay az : Int) (bh : Bool) (be : Int) (ba : LI) (bb : LB) : Ad :=
if bh then
(Cz a ar au av aw ax ay ba az bb b f).bind fun (fh, fi, fj, bc, bi, ai, fk, fl, fm, fn, fo, aj) =>
some (fh, fi, fj, bc, bi, ai, fk, fl, fm, fn, fo, aj, 0)
else
if (Bf be 0) then
(Xo a ar au av aw ax ay ba az bb b f be).bind fun (fp, fq, fs, ft, fu, fv, fw, fx, fy, fz, ga, gb, gc) =>
some (fp, fq, fs, ft, fu, fv, fw, fx, fy, fz, ga, gb, gc)
else
bk37 ar au av aw ax ay az ba bb
def Et bk37 := Ai2 bk37
def Vt (j71 : LB → Int → Int → Int → Int → Int → Int → Bool → Int → LI → LB → Ad) (a : LB) (b : Bool) (f : Int) (g : LB) (m p o u v h : Int) (k : LI) (n : LB) : Ad :=
j71 g m p o u v h true 0 k n
def Wg bk37 a b f := Vt (Et bk37 a b f) a b f
def Vi (j71 : LB → Int → Int → Int → Int → Int → Int → Bool → Int → LI → LB → Ad) (a : LB) (b : Bool) (f h : Int) (k : LI) (n : LB) (bj : Bool) (bk : Int) (bl : LB) (bm bn bp bq br : Int) : Ad :=
j71 bl bm bn bp bq br h bj bk k n
def Lp bk37 a b f := Vi (Et bk37 a b f) a b f
def Wa (j62 : Int → LI → LB → Bool → Int → LB → Int → Int → Int → Int → Int → Ad) (a : LB) (b : Bool) (f : Int) (af : LB) (ab ac y ad aa h : Int) (k : LI) (n : LB) : Ad :=
(Lc ab ac y ad aa a).bind fun gd =>
(Ae gd).bind fun (ge, ak) =>
j62 h k n ge ak af ab ac y ad aa
def Ws bk37 a b f := Wa (Lp bk37 a b f) a b f
def Ut (j71 : LB → Int → Int → Int → Int → Int → Int → Bool → Int → LI → LB → Ad) (a : LB) (b : Bool) (f m p o u v h : Int) (n : LB) (bs : Bool) (bt : Int) (bu : LB) (bv : LI) : Ad :=
j71 bu m p o u v h bs bt bv n
def Hs bk37 a b f := Ut (Et bk37 a b f) a b f
def Wm (j75 : Int → Int → Int → Int → Int → Int → LB → Bool → Int → LB → LI → Ad) (a : LB) (b : Bool) (f : Int) (g : LB) (m p o u v h : Int) (k : LI) (n : LB) (bf : Int) : Ad :=
(Ek m p o u v).bind fun (gf, bg) =>
if (Bf bg 0) then
(Ae bg).bind fun (al, bw) =>
j75 m p o u v h n al bw g k
else
(Cl g bf (Aa g)).bind fun gg =>
(Afw gg (Aa gf)).bind fun (dw, y) =>
if (geq y 24) then
j75 m p o u v h n true 0 g k
else
if (Bf y 0) then
(Ae y).bind fun (gh, aa) =>
j75 m p o u v h n gh aa g k
else
(Cl g (Ac (Ac bf (De 4 (Aa dw))) 4) (Aa g)).bind fun gi =>
j75 m p o u v h n false 0 gi dw
def Mf bk37 a b f := Wm (Hs bk37 a b f) a b f
def Vp (j75 : Int → Int → Int → Int → Int → Int → LB → Bool → Int → LB → LI → Ad) (j74 : LB → Int → Int → Int → Int → Int → Int → LI → LB → Int → Ad) (a : LB) (b : Bool) (f : Int) (bd : Bool) (aq : Int) (g : LB) (m p o u v h : Int) (k : LI) (n : LB) : Ad :=
if (Bf aq 0) then
(Ae aq).bind fun (gj, bg) =>
j75 m p o u v h n gj bg g k
else
if (!bd) then
(Ae 26).bind fun (al, bw) =>
j75 m p o u v h n al bw g k
else
j74 g m p o u v h k n 8
def Wf bk37 a b f := Vp (Hs bk37 a b f) (Mf bk37 a b f) a b f
def Ur (j64 : Bool → Int → LB → Int → Int → Int → Int → Int → Int → LI → LB → Ad) (a : LB) (b : Bool) (f : Int) (g : LB) (m p o u v h : Int) (k : LI) (n : LB) : Ad :=
(Cl g 0 8).bind fun gk =>
(Xg gk a).bind fun (bd, aq) =>
j64 bd aq g m p o u v h k n
def Vf bk37 a b f := Ur (Wf bk37 a b f) a b f
def Up (j71 : LB → Int → Int → Int → Int → Int → Int → Bool → Int → LI → LB → Ad) (a : LB) (b : Bool) (f m p o u v : Int) (k : LI) (bx : Bool) (bz : Int) (da : LB) (db : Int) (dc : LB) : Ad :=
j71 da m p o u v db bx bz k dc
def Mb bk37 a b f := Up (Et bk37 a b f) a b f
def Lt (j78 : Int → Int → Int → Int → Int → LI → Bool → Int → LB → Int → LB → Ad) (a : LB) (b : Bool) (f w ag : Int) (g : LB) (m p o u v h : Int) (am : LX) (k : LI) (n : LB) : Ad :=
if (Bf ag 0) then
(Ae ag).bind fun (dd, de) =>
j78 m p o u v k dd de g h n
else
(Ml o am).bind fun (df, aj) =>
if (Bf aj 0) then
(Ae aj).bind fun (dg, dh) =>
j78 m p o u v k dg dh g h n
else
(Ck n df).bind fun di =>
(
(Cl g w (Aa g)).bind fun dj =>
j78 m p o u v k false 0 dj (Ac h 1) di)
def Uk bk37 a b f := Lt (Mb bk37 a b f) a b f
def Vh (j77 : Int → Int → LB → Int → Int → Int → Int → Int → Int → LX → LI → LB → Ad) (a : LB) (b : Bool) (f w : Int) (g : LB) (m p o u v h : Int) (an : LX) (ae k : LI) (n : LB) : Ad :=
(Al ae h).bind fun _ =>
(Cl g 0 w).bind fun gl =>
(Al ae h).bind fun gm =>
(To m p o u v).bind fun (bi, ai) =>
(Oy bi ai an gm gl).bind fun (am, ag) =>
j77 w ag g m p o u v h am k n
def Vw bk37 a b f := Vh (Uk bk37 a b f) a b f
def Lr (j62 : Int → LI → LB → Bool → Int → LB → Int → Int → Int → Int → Int → Ad) (j61 : LB → Int → Int → Int → Int → Int → Int → LI → LB → Ad) (j75 : Int → Int → Int → Int → Int → Int → LB → Bool → Int → LB → LI → Ad) (j73 : LB → Int → Int → Int → Int → Int → Int → LI → LB → Ad) (j74 : LB → Int → Int → Int → Int → Int → Int → LI → LB → Int → Ad) (j78 : Int → Int → Int → Int → Int → LI → Bool → Int → LB → Int → LB → Ad) (j76 : Int → LB → Int → Int → Int → Int → Int → Int → LX → LI → LI → LB → Ad) (j71 : LB → Int → Int → Int → Int → Int → Int → Bool → Int → LI → LB → Ad) (j70 : LB → Int → Int → Int → Int → Int → Int → LI → LB → Ad) (a : LB) (b : Bool) (f : Int) (g : LB) (m p o u v h : Int) (k : LI) (n : LB) : Ad :=
if (geq m 0) then
(Fj g).bind fun (ah, ao) =>
if (geq ao 24) then
j62 h k n true 0 g m p o u v
else
if (Bf ao 0) then
(Ae ao).bind fun (dk, dl) =>
j62 h k n dk dl g m p o u v
else
(Cl g ah (Aa g)).bind fun dm =>
(Kt dm).bind fun al =>
if al then
j62 h k n true 0 g m p o u v
else
(Cl g ah (Aa g)).bind fun dn =>
(Jy dn).bind fun (ab, ac, y, ad, aa, ap) =>
if (geq ap 24) then
j62 h k n true 0 g m p o u v
else
if (Bf ap 0) then
(Ae ap).bind fun (dp, dq) =>
j62 h k n dp dq g m p o u v
else
(
(Cl g (Ac ah 22) (Aa g)).bind fun af =>
(
j61 af ab ac y ad aa h k n))
else
if (geq (Aa k) 0) then
if (geq m 2) then
if (Bq (Aa g) 8) then
j75 m p o u v h n true 0 g k
else
j73 g m p o u v h k n
else
j74 g m p o u v h k n 0
else
if (Bq h (Aa k)) then
(Al k h).bind fun _ =>
(Al k h).bind fun w =>
if (Bq (Aa g) w) then
j78 m p o u v k true 0 g h n
else
(Md a).bind fun (an, ak) =>
if (Bf ak 0) then
(Ae ak).bind fun (dr, ds) =>
j78 m p o u v k dr ds g h n
else
(Ek m p o u v).bind fun (ae, dt) =>
if ((Bf dt 0) || (Gd h (Aa ae))) then
(Ae 8).bind fun (du, bc) =>
j78 m p o u v k du bc g h n
else
j76 w g m p o u v h an ae k n
else
if (Eh (Aa g) 4000) then
(Ae 38).bind fun (dv, ai) =>
j71 g m p o u v h dv ai k n
else
j70 g m p o u v h k n
def Bo (a : LB) (b : Bool) (f : Int) : Nat → LB → Int → Int → Int → Int → Int → Int → LI → LB → Ad
| 0, _, _, _, _, _, _, _, _, _ => none
| q + 1, g, m, p, o, u, v, h, k, n => Lr (Lp (Bo a b f q) a b f) (Ws (Bo a b f q) a b f) (Hs (Bo a b f q) a b f) (Vf (Bo a b f q) a b f) (Mf (Bo a b f q) a b f) (Mb (Bo a b f q) a b f) (Vw (Bo a b f q) a b f) (Et (Bo a b f q) a b f) (Wg (Bo a b f q) a b f) a b f g m p o u v h k n
def Vy a b f := Bo a b f Bw
def Zt (j37 : LB → Bool → Int → LB → Int → Int → Int → Int → Int → Int → LI → LB → Ad) (gn go : LB) (gp gq gr gs gt : Int) (gu : LI) (gv : Int) (gw : LB) (gx : Bool) (gy : Int) (gz : LB) : Ad :=
(Ji gn go gp gq gr gs gt gu gv gw gx gy).bind fun (a, dx, dy, dz, fa, fb, fc, fd, fe, ff, b, f, fg) =>
if (Bf fg 0) then
some (a, dx, dy, dz, fa, fb, fc, fd, fe, ff, b, f, fg)
else
(Ck dx gz).bind fun ha =>
j37 a b f ha dy dz fa fb fc fe fd ff
def Ag0 := Zt Vy
abbrev Ae4 := Option (Int × Int)
def Arm (a : LB) : Ae4 :=
(Cl a (Af (Aa a) 32) (Aa a)).bind fun g =>
(Ac5 g 0).bind fun (f, y, h) =>
if h then
if (Bq (Af (Aa a) 32) f) then
some (0, 24)
else
some ((Ac f 32), 0)
else
(Cl a (Af (Aa a) 32) (Aa a)).bind fun k =>
(Ac5 k 2147483648).bind fun (b, m, n) =>
if (!n) then
some (0, 12)
else
if (Bq (Aa a) (Ac b 64)) then
some (0, 24)
else
(Cl a (Af (Aa a) (Ac b 64)) (Ac (Af (Aa a) (Ac b 64)) 32)).bind fun o =>
(Ak1 b m 2684354560).bind fun p =>
(Ho o p).bind fun u =>
if (!u) then
some (0, 12)
else
some ((Ac b 64), 0)
def Ajc := Arm
def Aju (j2 : LB → Ae4) (a : LB) : Ae4 :=
if (Bq (Af (Aa a) 32) 0) then
some (0, 6)
else
(Cl a (Af (Aa a) 32) (Aa a)).bind fun v =>
(Gs v ([(65 : UInt8), (80 : UInt8), (69 : UInt8), (84 : UInt8), (65 : UInt8), (71 : UInt8), (69 : UInt8), (88 : UInt8)] : LB)).bind fun w =>
if (!w) then
some (0, 6)
else
j2 a
def Aq8 := Aju Ajc
abbrev Cf := Option (Int × Int)
def Aim (a : Int) : Cf :=
some (a, 0)
def Um := Aim
def Aic (bk8 : Int → LB → Cf) (a : Int) (g : LB) : Cf :=
bk8 (Ac a 1) g
def Wo bk8 := Aic bk8
def Wp (j12 : Int → LB → Cf) (a f : Int) (b : LB) : Cf :=
if (geq f 0) then
some (0, 38)
else
(Cl b 0 (Af (Aa b) f)).bind fun g =>
j12 a g
def Vz bk8 := Wp (Wo bk8)
def Ze (j11 : Int → Int → LB → Cf) (j14 : Int → Cf) (a : Int) (b : LB) : Cf :=
if (Eh (Aa b) 0) then
(Aq8 b).bind fun (f, k) =>
j11 a f b
else
j14 a
def Nn : Nat → Int → LB → Cf
| 0, _, _ => none
| q + 1, a, b => Ze (Vz (Nn q)) Um a b
def Zx := Nn Bw
def Yj (j8 : Int → LB → Cf) (h : LB) : Cf :=
if (Eh (Aa h) 4000) then
some (0, 38)
else
j8 0 h
def Ahw := Yj Zx
def Aba (p a : LB) (g u v w y : Int) (b : LI) (h : Int) (aa : LB) (ab : Bool) (ac : Int) : Option Int :=
if (geq g 0) then
(Fj a).bind fun (k, f) =>
if (Bf f 0) then
some f
else
(Cl a k (Aa a)).bind fun m =>
(Jy m).bind fun (ad, ae, af, ag, ah, n) =>
some n
else
if ((Bq h (Aa b)) || (geq (Aa b) 0)) then
some 24
else
(Ahw a).bind fun (ai, o) =>
some o
def Abb (aa ab : LB) (ac ad ae af ag : Int) (ah : LI) (ai : Int) (aj : LB) (ak : Bool) (al : Int) : Option (LB × LB × Int × Int × Int × Int × Int × LI × Int × LB × Bool × Int × Int) :=
(Ji aa ab ac ad ae af ag ah ai aj ak al).bind fun (a, f, g, h, k, m, n, o, p, b, u, v, w) =>
if (Bf w 0) then
some (a, f, g, h, k, m, n, o, p, b, u, v, w)
else
(Aba a f g h k m n o p b u v).bind fun y =>
if (Bf y 0) then
(Xo a f g h k m n o p b u v y).bind fun (am, an, ao, ap, aq, ar, au, av, aw, ax, ay, az, ba) =>
some (am, an, ao, ap, aq, ar, au, av, aw, ax, ay, az, ba)
else
some (a, ([] : LB), 0, 0, 0, 0, 0, ([] : LI), 0, b, true, 0, 0)
abbrev Cp := Option (LB × Int)
def Agj (g : LB) (h k m n o p : Int) (u : LB) (v : Bool) (w : Int) (y : LB) (aa : LI) : Cp :=
(Abb g y h k m n o aa p u v w).bind fun (bj, ap, bk, bl, ac, ad, ae, bm, af, ab, bn, bp, ar) =>
some (ab, ar)
def Rm := Agj
def Ahm (bk7 : LB → Int → LB → Int → Int → Int → Int → Int → Int → LB → Bool → Int → LB → LI → Cp) (a : LI) (b : LB) (ag ah f : Int) (aj : LB) (ac ad ae ak af al : Int) (ai : LB) (am : Bool) (an : Int) (ao : LB) (ab : LI) : Cp :=
if (Bf ag 0) then
some (ai, ag)
else
(Cl b ah (Aa b)).bind fun au =>
bk7 au (Ac f 1) aj ac ad ae ak af al ai am an ao ab
def Te bk7 := Ahm bk7
def Vd (j10 : LB → Int → Int → Int → LB → Int → Int → Int → Int → Int → Int → LB → Bool → Int → LB → LI → Cp) (j12 : LB → Int → Int → Int → Int → Int → Int → LB → Bool → Int → LB → LI → Cp) (a : LI) (b : LB) (f : Int) (g : LB) (h k m n o p : Int) (u : LB) (v : Bool) (w : Int) (y : LB) (aa : LI) : Cp :=
if (Bq f (Aa a)) then
(Al a f).bind fun ah =>
(Cl b 0 ah).bind fun ap =>
(Ag0 g y h k m n o aa p u v w ap).bind fun (aj, ao, ac, ad, ae, ak, af, ab, al, ai, am, an, ag) =>
j10 b ag ah f aj ac ad ae ak af al ai am an ao ab
else
j12 g h k m n o p u v w y aa
def Ll (a : LI) : Nat → LB → Int → LB → Int → Int → Int → Int → Int → Int → LB → Bool → Int → LB → LI → Cp
| 0, _, _, _, _, _, _, _, _, _, _, _, _, _, _ => none
| q + 1, b, f, g, h, k, m, n, o, p, u, v, w, y, aa => Vd (Te (Ll a q) a) Rm a b f g h k m n o p u v w y aa
def Wk a := Ll a Bw
def Uu (j7 : LI → LB → Int → LB → Int → Int → Int → Int → Int → Int → LB → Bool → Int → LB → LI → Cp) (av aw : LB) (a : LI) : Cp :=
(Ai9 av).bind fun (ax, ay, az, ba, bb, bc, bd, be, bf, bg, bh, bi, aq) =>
if (Bf aq 0) then
some (([] : LB), aq)
else
j7 a aw 0 ax az ba bb bc bd bf bg bh bi ay be
def Aea := Uu Wk
def Aee (f a : LB) (g : UInt64) : Option (LB × Int) :=
(Dk (Aa a) g).bind fun (h, b) =>
if (Bf b 0) then
some (([] : LB), b)
else
(Aea f a h).bind fun (k, m) =>
some (k, m)
def Uj : Option Bool :=
some true
def Je := Uj
def Jd (j6 : Option Bool) (bk4 : Int → Option Bool) (a b : LI) (f : Int) : Option Bool :=
if (Bq f (Aa a)) then
(Al a f).bind fun g =>
(Al b f).bind fun h =>
if (Bf g h) then
some false
else
bk4 (Ac f 1)
else
j6
def Fu (a b : LI) : Nat → Int → Option Bool
| 0, _ => none
| q + 1, f => Jd Je (Fu a b q) a b f
def Is a b := Fu a b Bw
def Iu (j4 : LI → LI → Int → Option Bool) (a b : LI) : Option Bool :=
if (Bf (Aa a) (Aa b)) then
some false
else
j4 a b 0
def Lf := Iu Is
def Ih (a : Int) (b : UInt64) (f : LI) : Option Bool :=
(Dk a b).bind fun (g, h) =>
if (geq h 0) then
(Lf g f).bind fun k =>
some k
else
some false
def Gk : Option Bool :=
(Ad2 1 8 8000 ([] : LB) ([(200 : UInt8)] : LB) 0).bind fun (a, b) =>
(Aee ([] : LB) a 18446744073709551615).bind fun (f, g) =>
(Ih 7 10 ([(2 : Int), (2 : Int), (3 : Int)] : LI)).bind fun h =>
if h then
(Ih 130 1 ([(1 : Int), (64 : Int), (64 : Int), (1 : Int)] : LI)).bind fun k =>
some ((((k && (geq b 0)) && (geq (Aa a) 36)) && (geq g 0)) && (f == ([200] : LB)))
else
some ((((false && (geq b 0)) && (geq (Aa a) 36)) && (geq g 0)) && (f == ([200] : LB)))
def Gg (a : Int) (f : Bool) (h : Int) : Option Bool :=
some (f && (geq h a))
def Ds := Gg
def Ge (bk14 : Int → Int → Option Bool) (a : Int) (g : UInt64) (f : Bool) (b : LI) (h m k : Int) : Option Bool :=
bk14 (Ac h m) (Ac k 1)
def Bd bk14 := Ge bk14
def Dq (j24 : Int → Int → Int → Option Bool) (bk20 : Int → Option Bool) (a : Int) (g : UInt64) (f : Bool) (b : LI) (h m k n : Int) : Option Bool :=
if ((Bq n (Af (Ac h m) 1)) && (Bq n a)) then
(Eg (Gd (Dl n 64) 0)).bind fun _ =>
if (geq (Cj (Bn g (GI.toZ (Dl n 64)).toNat) 1) 1) then
some false
else
bk20 (Ac n 1)
else
j24 h m k
def Bp (bk14 : Int → Int → Option Bool) (a : Int) (g : UInt64) (f : Bool) (b : LI) (h m k : Int) : Nat → Int → Option Bool
| 0, _ => none
| q + 1, n => Dq (Bd bk14 a g f b) (Bp bk14 a g f b h m k q) a g f b h m k n
def Dp bk14 a g f b h m k := Bp bk14 a g f b h m k Bw
def Dt (j24 : Int → Int → Int → Option Bool) (bk22 : Int → Option Bool) (a : Int) (g : UInt64) (f : Bool) (b : LI) (h m k o : Int) : Option Bool :=
if ((Bq o (Af (Ac h m) 1)) && (Bq o a)) then
(Eg (Gd (Dl o 64) 0)).bind fun _ =>
if (geq (Cj (Bn g (GI.toZ (Dl o 64)).toNat) 1) 1) then
some false
else
bk22 (Ac o 1)
else
j24 h m k
def Bs (bk14 : Int → Int → Option Bool) (a : Int) (g : UInt64) (f : Bool) (b : LI) (h m k : Int) : Nat → Int → Option Bool
| 0, _ => none
| q + 1, o => Dt (Bd bk14 a g f b) (Bs bk14 a g f b h m k q) a g f b h m k o
def Du bk14 a g f b h m k := Bs bk14 a g f b h m k Bw
def Dw (j20 : Int → Int → Int → Int → Option Bool) (j22 : Int → Int → Int → Int → Option Bool) (j26 : Int → Bool → Int → Option Bool) (a : Int) (g : UInt64) (f : Bool) (b : LI) (h k : Int) : Option Bool :=
if (Bq k (Aa b)) then
(Al b k).bind fun _ =>
(Al b k).bind fun p =>
if (Bq p 1) then
some false
else
(Al b k).bind fun _ =>
(Al b k).bind fun m =>
if (Bq (Ac h m) a) then
(Eg (Gd (Dl (Af (Ac h m) 1) 64) 0)).bind fun _ =>
if (geq (Cj (Bn g (GI.toZ (Dl (Af (Ac h m) 1) 64)).toNat) 1) 0) then
some false
else
(Al b k).bind fun _ =>
(Al b k).bind fun u =>
j20 h m k (Af (Ac h m) u)
else
(Al b k).bind fun _ =>
(Al b k).bind fun v =>
j22 h m k (Af (Ac h m) v)
else
j26 a f h
def Bc (a : Int) (g : UInt64) (f : Bool) (b : LI) : Nat → Int → Int → Option Bool
| 0, _, _ => none
| q + 1, h, k => Dw (Dp (Bc a g f b q) a g f b) (Du (Bc a g f b q) a g f b) Ds a g f b h k
def Gf a g f b := Bc a g f b Bw
def Eb (j14 : Int → UInt64 → Bool → LI → Int → Int → Option Bool) (a : Int) (g : UInt64) : Option Bool :=
(Gk).bind fun f =>
if (((Bq a 0) || (Eh a 2000)) || (!f)) then
some f
else
(Dk a g).bind fun (b, w) =>
(Dk a 0).bind fun (y, aa) =>
(Dk a 18446744073709551615).bind fun (ab, ac) =>
if (((((Bf w 0) || (Bf aa 0)) || (Bf ac 0)) || (Bf (Aa y) (Cv 1 a))) || (Bf (Aa ab) a)) then
some false
else
j14 a g f b 0 0
def Dd := Eb Gf
end Go.Pl
