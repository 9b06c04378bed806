/- A part of the proof of a statement of this seat (see the text that ends in Proof): MtPure. No conditions of its own. -/
import Derived.Test.YtnoflhhhiiaclaaGreatDoorMtBA
set_option linter.unusedVariables false
namespace Go.Pl
open Go Go.Lv
abbrev LB := List UInt8
abbrev LI := List Int
abbrev LX := List Int32
abbrev LU := List UInt32
abbrev LQ := List UInt64
def An7 (u : Int) : Option Bool :=
some (((Cu u 4000) && (gle u 50000)) || (Cu u 50100))
def Adp := An7
def Ado (j9 : Int → Option Bool) (bk7 : Int → Int → Option Bool) (k m n : Int) (f g : LB) (h : LX) (a : List LB) (b : LB) (o : Bool) (p u w : Int) : Option Bool :=
if ((Cj w (Ac a)) && (gle u 60000)) then
(Aj a w).bind fun aa =>
bk7 (Ae u (Ac aa)) (Ae w 1)
else
j9 u
def Uj (k m n : Int) (f g : LB) (h : LX) (a : List LB) (b : LB) (o : Bool) (p : Int) : Nat → Int → Int → Option Bool
| 0, _, _ => none
| q + 1, u, w => Ado Adp (Uj k m n f g h a b o p q) k m n f g h a b o p u w
def Ad0 k m n f g h a b o p := Uj k m n f g h a b o p Ay
def Al7 (v : Int) : Option Bool :=
some (((Cu v 4000) && (gle v 50000)) || (Cu v 50100))
def Adc := Al7
def Ks (j12 : Int → Option Bool) (bk10 : Int → Int → Option Bool) (k m n : Int) (f g : LB) (h : LX) (a : List LB) (b : LB) (o : Bool) (p v y : Int) : Option Bool :=
if ((Cj y (Ac a)) && (gle v 60000)) then
(Aj a y).bind fun aa =>
bk10 (Ae v (Ac aa)) (Ae y 1)
else
j12 v
def Ek (k m n : Int) (f g : LB) (h : LX) (a : List LB) (b : LB) (o : Bool) (p : Int) : Nat → Int → Int → Option Bool
| 0, _, _ => none
| q + 1, v, y => Ks Adc (Ek k m n f g h a b o p q) k m n f g h a b o p v y
def Adb k m n f g h a b o p := Ek k m n f g h a b o p Ay
def Uk (j7 : Int → Int → Int → LB → LB → LX → (List LB) → LB → Bool → Int → Int → Int → Option Bool) (j10 : Int → Int → Int → LB → LB → LX → (List LB) → LB → Bool → Int → Int → Int → Option Bool) (k m n : Int) (f g : LB) (h : LX) (a : List LB) (b : LB) (o : Bool) (p : Int) : Option Bool :=
if ((((Cu (Ac h) 400) || (Cu (Ac a) 1010)) || (Cu (Ac g) 40)) || (Cu (Ac f) 100)) then
if (true || (Cu (Ac b) 100100)) then
some true
else
j7 k m n f g h a b o p 0 0
else
if (((Cu (Ac b) 3000) && (gle (Ac b) 100000)) || (Cu (Ac b) 100100)) then
some true
else
j10 k m n f g h a b o p 0 0
def Sm := Uk Ad0 Adb
def Tg (f g : LB) (h k m n o : Int) (b : LI) (p : Int) (a : LB) (u : Bool) (v : Int) : Option Bool :=
if ((Cu (Ac f) 100) || (Cu (Ac g) 5000)) then
some ((true || (Cu (Ac a) 12100)) || (Cu (Ac b) 1010))
else
some ((((Cu (Ac a) 5000) && (gle (Ac a) 12000)) || (Cu (Ac a) 12100)) || (Cu (Ac b) 1010))
def Nf (a : Int) : Option (Int × Int) :=
if ((Cj a 1) || (Cu a 1048576)) then
some (0, 2)
else
some ((An1 1 (Bq (Bb 256 a) 245)), 0)
abbrev Akx := Option (Int32 × Int32 × Int)
def Aoi (a : Int) (b : Bool) : Akx :=
if b then
(Oz (Nc (Ao a 1) 0)).bind fun _ =>
some ((Ate (Fc (1 : Int32) (GI.toZ (Ao a 1)).toNat)), (Ao (Fc (1 : Int32) (GI.toZ (Ao a 1)).toNat) 1), 0)
else
some (0, 0, 2)
def Ai0 := Aoi
def Ah4 (j2 : Int → Bool → Akx) (a : Int) : Akx :=
if (geq a 8) then
j2 a (geq a 8)
else
if (geq a 16) then
j2 a (geq a 16)
else
j2 a (geq a 24)
def Wy := Ah4 Ai0
def On (a b : Int) : Option Int :=
(Wy b).bind fun (g, h, f) =>
if (((Bm f 0) || (Cj a 1)) || (Cu a 6)) then
some 2
else
some 0
def Ake (a b f : Int) (g : LB) : Option (Int × Bool) :=
(Nf f).bind fun (h, k) =>
(On a b).bind fun m =>
some (h, (((geq m 0) && (geq k 0)) && (gle (Ac g) 64)))
def Aby (a b : Int) : Option Int :=
some (Bq (Bb a b) 8)
def Ax2 : Option Int :=
some 0
def Aph := Ax2
def Abp (j6 : Option Int) (bk4 : Int → Option Int) (b f : Int32) (a : LX) (g : Int) : Option Int :=
if (Cj g (Ac a)) then
(Aj a g).bind fun h =>
if ((Cj h b) || (Cu h f)) then
some 16
else
bk4 (Ae g 1)
else
j6
def Qx (b f : Int32) (a : LX) : Nat → Int → Option Int
| 0, _ => none
| q + 1, g => Abp Aph (Qx b f a q) b f a g
def Aoy b f a := Qx b f a Ay
def Ahu (j4 : Int32 → Int32 → LX → Int → Option Int) (m : Int) (a : LX) : Option Int :=
(Wy m).bind fun (b, f, k) =>
if (Bm k 0) then
some k
else
if (Cu (Ac a) 4000) then
some 4
else
j4 b f a 0
def Aa3 := Ahu Aoy
def Akr (a h k : Int) (m n : LB) (b : LX) (f : List LB) (o : LB) (p : Bool) (u g : Int) : Option Int :=
(Oz (Bm a 0)).bind fun _ =>
some (Ae (Bb (Ac f) g) (Bq (Ac b) a))
def Al0 (a g h : Int) (k m : LB) (n : LX) (o : List LB) (p : LB) (u : Bool) (v b f : Int) : Option Bool :=
some ((gle b 1000) && (gle (Bb f a) 4000))
def Ago (w : Bool) : Option Bool :=
some (!w)
def Ym := Ago
def Yb (j24 : Bool → Option Bool) (w : Bool) : Option Bool :=
j24 w
def Pc := Yb Ym
def Agi (j23 : Bool → Option Bool) : Option Bool :=
j23 (Nc (-1 : Int) (0 : Int))
def Agw := Agi Pc
def Agn (bk16 : Int → Option Bool) (b : List LB) (f a g : Int) : Option Bool :=
bk16 (Ae g 1)
def Ya bk16 := Agn bk16
def Yc (j23 : Bool → Option Bool) (j20 : Int → Option Bool) (b : List LB) (f a g : Int) (y : LB) : Option Bool :=
if ((Cj (Ac y) 5) || (Cu (Ac y) (Ae (Bq (Ae (Bb (Bb 81 f) a) 7) 8) 4))) then
j23 (Nc g 0)
else
j20 g
def Yj bk16 b f a := Yc Pc (Ya bk16 b f a) b f a
def Pf (j19 : Int → LB → Option Bool) (j22 : Option Bool) (b : List LB) (f a g : Int) : Option Bool :=
if (Cj g (Ac b)) then
(Aj b g).bind fun y =>
j19 g y
else
j22
def Hn (b : List LB) (f a : Int) : Nat → Int → Option Bool
| 0, _ => none
| q + 1, g => Pf (Yj (Hn b f a q) b f a) Agw b f a g
def Yx b f a := Hn b f a Ay
def Yo (j16 : (List LB) → Int → Int → Int → Option Bool) (f a k o : Int) (p m : LB) (h : LX) (b : List LB) (n : LB) (u : Bool) (v : Int) : Option Bool :=
j16 b f a 0
def Yq := Yo Yx
def Yd (j15 : Int → Int → Int → Int → LB → LB → LX → (List LB) → LB → Bool → Int → Option Bool) (f a k o : Int) (p m : LB) (h : LX) (b : List LB) (n : LB) (u : Bool) (v aa : Int) : Option Bool :=
(Akr a k o p m h b n u v f).bind fun ab =>
(Al0 a k o p m h b n u v aa ab).bind fun ac =>
if (!ac) then
some false
else
j15 f a k o p m h b n u v
def Pr := Yd Yq
def Yt (j14 : Int → Int → Int → Int → LB → LB → LX → (List LB) → LB → Bool → Int → Int → Option Bool) (f a k o : Int) (p m : LB) (h : LX) (b : List LB) (n : LB) (u : Bool) (v : Int) : Option Bool :=
(Aa3 k h).bind fun ad =>
if (Bm ad 0) then
some false
else
if (Cu (Ac h) 0) then
j14 f a k o p m h b n u v (Ae (Ac b) 1)
else
j14 f a k o p m h b n u v (Ac b)
def Yr := Yt Pr
def Aal (j13 : Int → Int → Int → Int → LB → LB → LX → (List LB) → LB → Bool → Int → Option Bool) (a k o : Int) (p m : LB) (h : LX) (b : List LB) (n : LB) (u : Bool) (v f : Int) : Option Bool :=
if (Cu (Ac n) 0) then
if true then
if true then
if (true || (Cu (Ac b) 1000)) then
some false
else
j13 f a k o p m h b n u v
else
(Oz (Bm a 0)).bind fun _ =>
if ((Nc (Bq (Ac h) a) f) || (Cu (Ac b) 1000)) then
some false
else
j13 f a k o p m h b n u v
else
(Oz (Bm a 0)).bind fun _ =>
if (Bm (Il (Ac h) a) 0) then
if (true || (Cu (Ac b) 1000)) then
some false
else
j13 f a k o p m h b n u v
else
(Oz (Bm a 0)).bind fun _ =>
if ((Nc (Bq (Ac h) a) f) || (Cu (Ac b) 1000)) then
some false
else
j13 f a k o p m h b n u v
else
(Aby a k).bind fun ae =>
if (Nc (Ac m) ae) then
if true then
if (true || (Cu (Ac b) 1000)) then
some false
else
j13 f a k o p m h b n u v
else
(Oz (Bm a 0)).bind fun _ =>
if ((Nc (Bq (Ac h) a) f) || (Cu (Ac b) 1000)) then
some false
else
j13 f a k o p m h b n u v
else
(Oz (Bm a 0)).bind fun _ =>
if (Bm (Il (Ac h) a) 0) then
if (true || (Cu (Ac b) 1000)) then
some false
else
j13 f a k o p m h b n u v
else
(Oz (Bm a 0)).bind fun _ =>
if ((Nc (Bq (Ac h) a) f) || (Cu (Ac b) 1000)) then
some false
else
j13 f a k o p m h b n u v
def Zr := Aal Yr
def Aer (m n o : Int) (p b : LB) (f : LX) (g : List LB) (h : LB) (k : Bool) (a : Int) : Option Int :=
(Ake m n o p).bind fun (u, v) =>
if (!v) then
some 8
else
if (Bm a 0) then
if (!(((((geq a 18) || (geq a 24)) && (!k)) && (geq (Ae (Ae (Ac b) (Ac f)) (Ac g)) 0)) && (geq (Ac h) 0))) then
some 8
else
some 0
else
if k then
if (!((geq (Ae (Ae (Ac b) (Ac f)) (Ac g)) 0) && (gle (Ac h) 100000))) then
some 8
else
some 0
else
(Zr m n o p b f g h k a u).bind fun w =>
if (!w) then
some 8
else
some 0
def Avh (a : Int) : Option Int :=
some a
def Ant := Avh
def Zo (j6 : Int → Option Int) (bk4 : Int → Int → Option Int) (b : List LB) (a f : Int) : Option Int :=
if (Cj f (Ac b)) then
(Aj b f).bind fun g =>
bk4 (Ae a (Ac g)) (Ae f 1)
else
j6 a
def Mr (b : List LB) : Nat → Int → Int → Option Int
| 0, _, _ => none
| q + 1, a, f => Zo Ant (Mr b q) b a f
def Anl b := Mr b Ay
def Anj (j4 : (List LB) → Int → Int → Option Int) (n o p : Int) (u h : LB) (k : LX) (b : List LB) (m : LB) (v : Bool) (w : Int) : Option Int :=
j4 b (Ae (Ae (Ac h) (Bb 4 (Ac k))) (Ac m)) 0
def Am3 := Anj Anl
def Aio (a b f : Int) (g h : LB) (k : LX) (m : List LB) (n : LB) (o : Bool) (p : Int) : Option (Int × Int) :=
(Aer a b f g h k m n o p).bind fun u =>
if (Bm u 0) then
some (0, u)
else
(Am3 a b f g h k m n o p).bind fun v =>
some (v, 0)
def Ja (a : Int) : Option (Int × Int) :=
if ((Cj a 1) || (Cu a 1048576)) then
some (0, 2)
else
if (geq (Bq (Bb a 256) 245) 0) then
some (1, 0)
else
some ((Bq (Bb a 256) 245), 0)
def Ez (a : Int) : Option Int :=
if (geq a 8) then
some 128
else
if (geq a 16) then
some 32768
else
if (geq a 24) then
some 8388608
else
some 0
def Gc (a b : Int) : Option Int :=
if ((Cj a 1) || (Cu a 6)) then
some 2
else
(Ez b).bind fun f =>
if (geq f 0) then
some 2
else
some 0
def Aan (a b f : Int) (g : LB) : Option Int :=
(Ja f).bind fun (m, h) =>
(Gc a b).bind fun k =>
if (((Bm k 0) || (Bm h 0)) || (Cu (Ac g) 64)) then
some 2
else
some 0
def Nq (f g a : Int) (h k : LB) (m : LX) (n : List LB) (o : LB) (p : Bool) (u : Int) : Option Int :=
(Ja a).bind fun (b, v) =>
some b
def Hk (a b : Int) : Option Int :=
some (Bq (Bb a b) 8)
def An6 : Option Int :=
some 0
def Ady := An6
def Cr (j6 : Option Int) (bk4 : Int → Option Int) (a : LX) (b f : Int) : Option Int :=
if (Cj f (Ac a)) then
(Aj a f).bind fun g =>
if (Cj (Ad g : Int) (Ate b)) then
some 16
else
(Aj a f).bind fun h =>
if (Nc (Ad h : Int) b) then
some 16
else
bk4 (Ae f 1)
else
j6
def Bd (a : LX) (b : Int) : Nat → Int → Option Int
| 0, _ => none
| q + 1, f => Cr Ady (Bd a b q) a b f
def Adv a b := Bd a b Ay
def Fh (j4 : LX → Int → Int → Option Int) (k : Int) (a : LX) : Option Int :=
(Ez k).bind fun b =>
if (geq b 0) then
some 2
else
if (Cu (Ac a) 4000) then
some 4
else
j4 a b 0
def Au := Fh Adv
def Aaq (a g h : Int) (k m : LB) (b : LX) (f : List LB) (n : LB) (o : Bool) (p : Int) : Option Int :=
(Oz (Bm a 0)).bind fun _ =>
(Nq a g h k m b f n o p).bind fun u =>
some (Ae (Bb (Ac f) u) (Bq (Ac b) a))
def Acg (a g h : Int) (k m : LB) (n : LX) (o : List LB) (p : LB) (u : Bool) (v b f : Int) : Option Bool :=
if (gle b 1000) then
(Oz (Bm a 0)).bind fun _ =>
some (gle f (Bq 4000 a))
else
some false
def Aka : Option Bool :=
some true
def Zj := Aka
def Iq (j12 : Option Bool) (bk10 : Int → Option Bool) (h f g n : Int) (o k : LB) (b : LX) (a : List LB) (m : LB) (p : Bool) (u v : Int) : Option Bool :=
if (Cj v (Ac a)) then
(Aj a v).bind fun y =>
if (Cj (Ac y) 5) then
some false
else
(Aj a v).bind fun aa =>
if (Cu (Ac aa) (Ae (Bq (Ae (Bb (Bb 81 h) f) 7) 8) 4)) then
some false
else
bk10 (Ae v 1)
else
j12
def Df (h f g n : Int) (o k : LB) (b : LX) (a : List LB) (m : LB) (p : Bool) (u : Int) : Nat → Int → Option Bool
| 0, _ => none
| q + 1, v => Iq Zj (Df h f g n o k b a m p u q) h f g n o k b a m p u v
def Oj h f g n o k b a m p u := Df h f g n o k b a m p u Ay
def Qn (j10 : Int → Int → Int → Int → LB → LB → LX → (List LB) → LB → Bool → Int → Int → Option Bool) (h f g n : Int) (o k : LB) (b : LX) (a : List LB) (m : LB) (p : Bool) (u : Int) : Option Bool :=
j10 h f g n o k b a m p u 0
def Qe := Qn Oj
def Qj (j9 : Int → Int → Int → Int → LB → LB → LX → (List LB) → LB → Bool → Int → Option Bool) (h f g n : Int) (o k : LB) (b : LX) (a : List LB) (m : LB) (p : Bool) (u w : Int) : Option Bool :=
(Aaq f g n o k b a m p u).bind fun ab =>
(Acg f g n o k b a m p u w ab).bind fun ac =>
if (!ac) then
some false
else
j9 h f g n o k b a m p u
def Jn := Qj Qe
def Qz (j8 : Int → Int → Int → Int → LB → LB → LX → (List LB) → LB → Bool → Int → Int → Option Bool) (h f g n : Int) (o k : LB) (b : LX) (a : List LB) (m : LB) (p : Bool) (u : Int) : Option Bool :=
if (Cu (Ac b) 0) then
j8 h f g n o k b a m p u (Ae (Ac a) 1)
else
j8 h f g n o k b a m p u (Ac a)
def Qf := Qz Jn
def Qd (j7 : Int → Int → Int → Int → LB → LB → LX → (List LB) → LB → Bool → Int → Option Bool) (f g n : Int) (o k : LB) (b : LX) (a : List LB) (m : LB) (p : Bool) (u : Int) : Option Bool :=
(Nq f g n o k b a m p u).bind fun h =>
if (Cu (Ac m) 0) then
if true then
if (true || (Nc (Ac b) (Bb h f))) then
if (true || (Cu (Ac a) 1000)) then
some false
else
j7 h f g n o k b a m p u
else
(Au g b).bind fun ad =>
if ((Bm ad 0) || (Cu (Ac a) 1000)) then
some false
else
j7 h f g n o k b a m p u
else
(Oz (Bm f 0)).bind fun _ =>
if ((Bm (Il (Ac b) f) 0) || (Nc (Ac b) (Bb h f))) then
if (true || (Cu (Ac a) 1000)) then
some false
else
j7 h f g n o k b a m p u
else
(Au g b).bind fun ae =>
if ((Bm ae 0) || (Cu (Ac a) 1000)) then
some false
else
j7 h f g n o k b a m p u
else
(Hk f g).bind fun af =>
if (Nc (Ac k) af) then
if (true || (Nc (Ac b) (Bb h f))) then
if (true || (Cu (Ac a) 1000)) then
some false
else
j7 h f g n o k b a m p u
else
(Au g b).bind fun ag =>
if ((Bm ag 0) || (Cu (Ac a) 1000)) then
some false
else
j7 h f g n o k b a m p u
else
(Oz (Bm f 0)).bind fun _ =>
if ((Bm (Il (Ac b) f) 0) || (Nc (Ac b) (Bb h f))) then
if (true || (Cu (Ac a) 1000)) then
some false
else
j7 h f g n o k b a m p u
else
(Au g b).bind fun ah =>
if ((Bm ah 0) || (Cu (Ac a) 1000)) then
some false
else
j7 h f g n o k b a m p u
def Np := Qd Qf
def Rw (m n o : Int) (p b : LB) (f : LX) (g : List LB) (h : LB) (k : Bool) (a : Int) : Option Int :=
(Aan m n o p).bind fun u =>
if (Bm u 0) then
some 8
else
if (Bm a 0) then
if (((((Bm a 18) && (Bm a 24)) || k) || (!(((geq (Ac b) 0) && (geq (Ac f) 0)) && (geq (Ac g) 0)))) || (Cu (Ac h) 0)) then
some 8
else
some 0
else
if k then
if ((!(((geq (Ac b) 0) && (geq (Ac f) 0)) && (geq (Ac g) 0))) || (Cu (Ac h) 100000)) then
some 8
else
some 0
else
(Np m n o p b f g h k a).bind fun v =>
if (!v) then
some 8
else
some 0
def Ag4 (a : Int) : Option Int :=
some a
def Vo := Ag4
def Gp (j6 : Int → Option Int) (bk4 : Int → Int → Option Int) (k m n : Int) (o f : LB) (g : LX) (b : List LB) (h : LB) (p : Bool) (u a v : Int) : Option Int :=
if (Cj v (Ac b)) then
(Aj b v).bind fun w =>
bk4 (Ae a (Ac w)) (Ae v 1)
else
j6 a
def Cm (k m n : Int) (o f : LB) (g : LX) (b : List LB) (h : LB) (p : Bool) (u : Int) : Nat → Int → Int → Option Int
| 0, _, _ => none
| q + 1, a, v => Gp Vo (Cm k m n o f g b h p u q) k m n o f g b h p u a v
def Vf k m n o f g b h p u := Cm k m n o f g b h p u Ay
def Vd (j4 : Int → Int → Int → LB → LB → LX → (List LB) → LB → Bool → Int → Int → Int → Option Int) (k m n : Int) (o f : LB) (g : LX) (b : List LB) (h : LB) (p : Bool) (u : Int) : Option Int :=
j4 k m n o f g b h p u (Ae (Ae (Ac f) (Bb 4 (Ac g))) (Ac h)) 0
def Ny := Vd Vf
def Xb (a b f : Int) (g h : LB) (k : LX) (m : List LB) (n : LB) (o : Bool) (p : Int) : Option (Int × Int) :=
(Rw a b f g h k m n o p).bind fun u =>
if (Bm u 0) then
some (0, u)
else
(Ny a b f g h k m n o p).bind fun v =>
some (v, 0)
def Wt (a : LB) : Option (LB) :=
(
(Fz ([] : LB) a).bind fun b =>
some b)
def Iv (a : LI) : Option (LI) :=
(
(Fz ([] : LI) a).bind fun b =>
some b)
def Aco (a b : LB) (f g h k m : Int) (n : LI) (o : Int) (p : LB) (u : Bool) (v : Int) : Option (LB × LB × Int × Int × Int × Int × Int × LI × Int × LB × Bool × Int) :=
(Wt b).bind fun w =>
(Wt p).bind fun y =>
(Iv n).bind fun aa =>
some (a, w, f, g, h, k, m, aa, o, y, u, v)
def Aef (b f a g h : Int) : Option Bool :=
some (((((((geq b 1) || (geq b 2)) && (Cu f 0)) && (gle f 6)) && (Cu g 0)) && (gle g 1048576)) && (Cu h 0))
def Kx := Aef
def Xs (j2 : Int → Int → Int → Int → Int → Option Bool) (b f a g h : Int) : Option Bool :=
if (geq a 8) then
if (geq a 8) then
j2 b f a g h
else
some false
else
if (geq a 16) then
if (geq a 16) then
j2 b f a g h
else
some false
else
if (geq a 24) then
j2 b f a g h
else
some false
def Oh := Xs Kx
def Zf (g b : Int) : Option (Int × Int) :=
(Nf g).bind fun (a, f) =>
if (Bm f 0) then
some (0, f)
else
if ((Cj b 1) || (Cu b 4000)) then
some (0, 2)
else
(Oz (Bm a 0)).bind fun _ =>
if (Cu (Bq (Ao (Ae b a) 1) a) 1000) then
some (0, 4)
else
some ((Bq (Ao (Ae b a) 1) a), 0)
def Ae6 (k a m f b : Int) : Option Bool :=
(Oz (Bm a 0)).bind fun _ =>
if (Cu b (Bq 4000 a)) then
some false
else
(Zf f b).bind fun (g, h) =>
some ((geq h 0) && (gle g 1000))
def Xv (a b f g h : Int) : Option Int :=
(Oh a b f g h).bind fun k =>
if (!k) then
some 8
else
(Ae6 a b f g h).bind fun m =>
if (!m) then
some 8
else
some 0
def Aga (a b : UInt64) : Option (UInt64 × UInt64) :=
some ((Ae (Ae (Bb (Cd a (GI.toZ (32 : UInt64)).toNat) (Cd b (GI.toZ (32 : UInt64)).toNat)) (Cd (Ae (Bb (Cd a (GI.toZ (32 : UInt64)).toNat) (Ik b 4294967295)) (Cd (Bb (Ik a 4294967295) (Ik b 4294967295)) (GI.toZ (32 : UInt64)).toNat)) (GI.toZ (32 : UInt64)).toNat)) (Cd (Ae (Ik (Ae (Bb (Cd a (GI.toZ (32 : UInt64)).toNat) (Ik b 4294967295)) (Cd (Bb (Ik a 4294967295) (Ik b 4294967295)) (GI.toZ (32 : UInt64)).toNat)) 4294967295) (Bb (Ik a 4294967295) (Cd b (GI.toZ (32 : UInt64)).toNat))) (GI.toZ (32 : UInt64)).toNat)), (Bb a b))
def Aem (a b : UInt64) : Option (UInt64 × UInt64) :=
(Aga a b).bind fun (f, g) =>
some (f, g)
def Mh (a : LI) : Option (LI) :=
some a
def Hw := Mh
def Fv (j10 : LI → Option (LI)) (bk8 : Int → LI → Option (LI)) (b : Int) (a : LI) : Option (LI) :=
if (Cj b (Ac a)) then
(
(vwI (Ac a) b (Ac a)).bind fun _ =>
(vwI (Ac a) 0 b).bind fun _ =>
bk8 (Ae b (Ah0 ((Ac a) - b) (Ak6 a 0 (b - (0 : Int))).length)) (Tv a b ((Ac a) - b) (Ak6 a 0 (b - (0 : Int)))))
else
j10 a
def Dg : Nat → Int → LI → Option (LI)
| 0, _, _ => none
| q + 1, b, a => Fv Hw (Dg q) b a
def Oo := Dg Ay
def Ot (j8 : Int → LI → Option (LI)) (f : LI) (g : UInt64) : Option (LI) :=
(mkI (Ad g : Int) (0 : Int)).bind fun k =>
(Oz (geq (Ad g : Int) (Ad g : Int))).bind fun _ =>
j8 (Ah0 (Ac k) f.length) (Axn k f)
def Ok := Ot Oo
def Oq (j7 : LI → UInt64 → Option (LI)) (f : LI) (h : Int) : Option (LI) :=
(Aem (Ad (Ac f) : UInt64) (Ad h : UInt64)).bind fun (m, g) =>
if ((Cu m 0) || (Cu g 9223372036854775807)) then
none
else
j7 f g
def Od := Oq Ok
def Og (j6 : LI → Int → Option (LI)) (f : LI) (h : Int) : Option (LI) :=
if (Cj h 0) then
none
else
j6 f h
def Mf := Og Od
def Aja (f : LI) : Option (LI) :=
some f
def Xw := Aja
def Er (j16 : LI → Option (LI)) (bk14 : Int → LI → Option (LI)) (a : List LI) (g : Int) (f : LI) : Option (LI) :=
if (Cj g (Ac a)) then
(Aj a g).bind fun o =>
(Fz f o).bind fun p =>
bk14 (Ae g 1) p
else
j16 f
def Cz (a : List LI) : Nat → Int → LI → Option (LI)
| 0, _, _ => none
| q + 1, g, f => Er Xw (Cz a q) a g f
def Mn a := Cz a Ay
def Ml (j14 : (List LI) → Int → LI → Option (LI)) (a : List LI) (k : LI) : Option (LI) :=
j14 a 0 k
def Hu := Ml Mn
def Mm (j13 : (List LI) → LI → Option (LI)) (b : Int) (a : List LI) : Option (LI) :=
if (Cu (Ao b (Ao (0 : Int) (0 : Int))) 0) then
(vwI 0 0 0).bind fun _ =>
(mkI (Ao b (Ao (0 : Int) (0 : Int))) (0 : Int)).bind fun u =>
(Fz ([] : LI) u).bind fun m =>
(vwI (Ac m) 0 0).bind fun _ =>
j13 a (Ak6 m 0 ((0 : Int) - (0 : Int)))
else
j13 a ([] : LI)
def Mk := Mm Hu
def Mp (j12 : Int → (List LI) → Option (LI)) (a : List LI) (b : Int) : Option (LI) :=
if (Cj b 0) then
none
else
j12 b a
def Mo := Mp Mk
def Fs (j11 : (List LI) → Int → Option (LI)) (bk9 : Int → Int → Option (LI)) (a : List LI) (b h : Int) : Option (LI) :=
if (Cj h (Ac a)) then
(Aj a h).bind fun n =>
if (Cj (Ae b (Ac n)) 0) then
none
else
bk9 (Ae b (Ac n)) (Ae h 1)
else
j11 a b
def Dh (a : List LI) : Nat → Int → Int → Option (LI)
| 0, _, _ => none
| q + 1, b, h => Fs Mo (Dh a q) a b h
def Oy a := Dh a Ay
def Oi (j9 : (List LI) → Int → Int → Option (LI)) (a : List LI) : Option (LI) :=
j9 a 0 0
def Lt := Oi Oy
def Aht (a b : LI) : Option (LI) :=
(Lt ([a, b] : List LI)).bind fun f =>
some f
def Aju (a b : Int) : Option (LI × Int) :=
(Zf a b).bind fun (f, g) =>
if (Bm g 0) then
some (([] : LI), g)
else
(Nf a).bind fun (h, n) =>
(Mf ([h] : LI) (Ao f 1)).bind fun k =>
(Aht k ([(Ao b (Bb (Ao f 1) h))] : LI)).bind fun m =>
some (m, 0)
def Eh (g h k a b : Int) : Option (LI × Int) :=
(Xv g h k a b).bind fun f =>
if (Bm f 0) then
some (([] : LI), f)
else
(Aju a b).bind fun (m, n) =>
some (m, n)
def Ws (a f g h k : Int) (b : LB) : Option Int :=
if ((b == ([] : LB)) != (geq a 1)) then
some 26
else
some 0
def Axa : Option Int :=
some 0
def Apm := Axa
def Ab5 (j6 : Option Int) (bk4 : Int → Int → Option Int) (a : LI) (f b : Int) : Option Int :=
if (Cj b (Ac a)) then
(Aj a b).bind fun g =>
if ((Cj g 5) || (Cu g f)) then
some 8
else
bk4 (Ao f g) (Ae b 1)
else
j6
def Qo (a : LI) : Nat → Int → Int → Option Int
| 0, _, _ => none
| q + 1, f, b => Ab5 Apm (Qo a q) a f b
def Aix a := Qo a Ay
def Abv (j4 : LI → Int → Int → Option Int) (a : LI) : Option Int :=
if ((geq (Ac a) 0) || (Cu (Ac a) 1000)) then
some 8
else
j4 a 100000 0
def Re := Abv Aix
def Anu (w : Int) (o p : LB) (h b f k m : Int) (g : LI) (a : Int) (n : LB) (u : Bool) (v : Int) : Option Bool :=
some (gle (Ac n) w)
def Agd := Anu
def Zl (j8 : Int → LB → LB → Int → Int → Int → Int → Int → LI → Int → LB → Bool → Int → Option Bool) (bk6 : Int → Int → Option Bool) (y : LI) (o p : LB) (h b f k m : Int) (g : LI) (a : Int) (n : LB) (u : Bool) (v w aa : Int) : Option Bool :=
if (Cj aa (Ac y)) then
(Aj y aa).bind fun ac =>
bk6 (Ae w (Bq (Bb (Bb ac b) f) 8)) (Ae aa 1)
else
j8 w o p h b f k m g a n u v
def Mt (y : LI) (o p : LB) (h b f k m : Int) (g : LI) (a : Int) (n : LB) (u : Bool) (v : Int) : Nat → Int → Int → Option Bool
| 0, _, _ => none
| q + 1, w, aa => Zl Agd (Mt y o p h b f k m g a n u v q) y o p h b f k m g a n u v w aa
def Af9 y o p h b f k m g a n u v := Mt y o p h b f k m g a n u v Ay
def Af5 (j6 : LI → LB → LB → Int → Int → Int → Int → Int → LI → Int → LB → Bool → Int → Int → Int → Option Bool) (o p : LB) (h b f k m : Int) (g : LI) (a : Int) (n : LB) (u : Bool) (v : Int) (ab : LI) : Option Bool :=
if (geq (Ac g) 0) then
some ((geq a 0) && (geq (Ac n) 0))
else
(Re g).bind fun ad =>
if ((((Bm ad 0) || (Bm (Ac g) (Ac ab))) || (Cj a 0)) || (Cu a (Ac ab))) then
some false
else
(Br ab 0 a).bind fun y =>
j6 y o p h b f k m g a n u v 0 0
def Afy := Af5 Af9
def Agg (j5 : LB → LB → Int → Int → Int → Int → Int → LI → Int → LB → Bool → Int → LI → Option Bool) (o p : LB) (h b f k m : Int) (g : LI) (a : Int) (n : LB) (u : Bool) (v : Int) : Option Bool :=
if ((geq h 0) && ((geq b 0) && ((geq f 0) && ((geq k 0) && ((geq m 0) && true))))) then
some (((geq (Ac g) 0) && (geq a 0)) && (geq (Ac n) 0))
else
(Eh h b f k m).bind fun (ab, ae) =>
if (Bm ae 0) then
some false
else
(Ws h b f k m o).bind fun af =>
if (Bm af 0) then
some false
else
j5 o p h b f k m g a n u v ab
def Xl := Agg Afy
def Kv (a b : LB) : Option Bool :=
some (a == b)
def Ms (b a : LB) : Option Bool :=
if (Nc (Ac b) (Ac a)) then
(Br b 0 (Ac a)).bind fun f =>
(Kv f a).bind fun g =>
some g
else
some false
abbrev Ju := Option (Int × Int)
def Auh (b : Int) : Ju :=
some (b, 0)
def Ak8 := Auh
def Xj (j6 : Int → Ju) (bk4 : Int → Int → Ju) (a : LB) (b f : Int) : Ju :=
if (Cj f (Ac a)) then
(Aj a f).bind fun g =>
if (Cu g 127) then
some (0, 12)
else
bk4 (gor (Fc b (GI.toZ (7 : UInt64)).toNat) (Ad g : Int)) (Ae f 1)
else
j6 b
def Ky (a : LB) : Nat → Int → Int → Ju
| 0, _, _ => none
| q + 1, b, f => Xj Ak8 (Ky a q) a b f
def Ad2 a := Ky a Ay
def Aei (j4 : LB → Int → Int → Ju) (a : LB) : Ju :=
if (Bm (Ac a) 4) then
some (0, 2)
else
j4 a 0 0
def Aev := Aei Ad2
abbrev Hf := Option (Int × Int)
def Anw (a : LB) (b : UInt8) (h : Int) : Hf :=
if (Cu h 4000) then
some (0, 4)
else
if (Cj (Ac a) h) then
some (0, 24)
else
if (geq b 16) then
(Br a (Ao h 10) h).bind fun k =>
(Br k 0 3).bind fun u =>
if (u != ([51, 68, 73] : LB)) then
some (0, 12)
else
(Br k 3 (Ac k)).bind fun v =>
(Br a 3 10).bind fun w =>
(Kv v w).bind fun y =>
if (!y) then
some (0, 12)
else
some (h, 0)
else
some (h, 0)
def Zt := Anw
def Af7 (j8 : LB → UInt8 → Int → Hf) (a : LB) (g : Int) (b : UInt8) : Hf :=
if (geq b 16) then
j8 a b (Ae (Ae g 10) 10)
else
j8 a b (Ae g 10)
def Zv := Af7 Zt
def Agb (j7 : LB → Int → UInt8 → Hf) (a : LB) (g : Int) (b : UInt8) (m : Bool) : Hf :=
if m then
some (0, 12)
else
j7 a g b
def Afw := Agb Zv
def Af2 (j6 : LB → Int → UInt8 → Bool → Hf) (a : LB) (f b : UInt8) : Hf :=
(Br a 6 10).bind fun aa =>
(Aev aa).bind fun (g, ab) =>
if (Bm ab 0) then
if true then
j6 a g b true
else
if (geq b 0) then
j6 a g b (!((Nc f 2) && (gle f 4)))
else
if (geq b 16) then
j6 a g b (!(geq f 4))
else
j6 a g b (!false)
else
(Aj a 4).bind fun ac =>
if (Bm ac 0) then
j6 a g b true
else
if (geq b 0) then
j6 a g b (!((Nc f 2) && (gle f 4)))
else
if (geq b 16) then
j6 a g b (!(geq f 4))
else
j6 a g b (!false)
def Agc := Af2 Afw
def Zu (j5 : LB → UInt8 → UInt8 → Hf) (a : LB) : Hf :=
(Ms a ([(73 : UInt8), (68 : UInt8), (51 : UInt8)] : LB)).bind fun n =>
if (!n) then
some (0, 6)
else
if (Cj (Ac a) 10) then
some (0, 24)
else
(Aj a 3).bind fun f =>
(Aj a 5).bind fun b =>
(
(
(
j5 a f b)))
def Ag1 := Zu Agc
abbrev Zx := Option (UInt64 × Int)
def Bel (b : UInt64) : Zx :=
some (b, 0)
def Aux := Bel
def Ajo (j6 : UInt64 → Zx) (bk4 : UInt64 → Int → Zx) (a : LB) (b : UInt64) (f : Int) : Zx :=
if (Cj f (Ac a)) then
(Aj a f).bind fun g =>
(Oz (Nc (Bb 8 f) 0)).bind fun _ =>
bk4 (gor b (Fc (Ad g : UInt64) (GI.toZ (Bb 8 f)).toNat)) (Ae f 1)
else
j6 b
def Abd (a : LB) : Nat → UInt64 → Int → Zx
| 0, _, _ => none
| q + 1, b, f => Ajo Aux (Abd a q) a b f
def Aop a := Abd a Ay
def Aov (j4 : LB → UInt64 → Int → Zx) (a : LB) : Zx :=
if ((Cj (Ac a) 1) || (Cu (Ac a) 8)) then
some (0, 2)
else
j4 a 0 0
def Api := Aov Aop
def Ak3 (f : LB) (a b : Int) : Option (UInt64 × Int) :=
if (((Cj b 1) || (Cu b 8)) || (Cj a 0)) then
some (0, 2)
else
if (Cu a (Ao (Ac f) b)) then
some (0, 24)
else
(Br f a (Ae a b)).bind fun g =>
(Api g).bind fun (h, k) =>
some (h, k)
def Avy (b : UInt64) (a : Int) : Option Bool :=
if (geq a 8) then
some true
else
(Oz (Nc (Bb 8 a) 0)).bind fun _ =>
some (geq (Cd b (GI.toZ (Bb 8 a)).toNat) 0)
abbrev Aao := Option (LB × Int)
def Au6 (a : LB) : Aao :=
some (a, 0)
def Aom := Au6
def Ajs (j6 : LB → Aao) (bk4 : Int → LB → Aao) (f : UInt64) (g : LB) (b : Int) (a : LB) : Aao :=
if (Cj b (Ac g)) then
(Oz (Nc (Bb 8 b) 0)).bind fun _ =>
(Aj a b).bind fun _ =>
(Rb a b (Ad (Cd f (GI.toZ (Bb 8 b)).toNat) : UInt8)).bind fun k =>
bk4 (Ae b 1) k
else
j6 a
def Abb (f : UInt64) (g : LB) : Nat → Int → LB → Aao
| 0, _, _ => none
| q + 1, b, a => Ajs Aom (Abb f g q) f g b a
def Apb f g := Abb f g Ay
def Apk (j4 : UInt64 → LB → Int → LB → Aao) (f : UInt64) (h : Int) : Aao :=
if ((Cj h 1) || (Cu h 8)) then
some (([] : LB), 2)
else
(Avy f h).bind fun m =>
if (!m) then
some (([] : LB), 16)
else
(mkI h (0 : UInt8)).bind fun g =>
(Oz (geq h h)).bind fun _ =>
j4 f g 0 g
def Ao2 := Apk Apb
def Av4 (g : LB) : Option (LB) :=
some g
def Ary := Av4
def Amg (j6 : LB → Option (LB)) (bk4 : Int → LB → Option (LB)) (a b : Int) (f : UInt64) (h : Int) (g : LB) : Option (LB) :=
if (Cj h (Ac ([(2000 : UInt64), (Ad (Ae a 32) : UInt64), (Ad b : UInt64), f, (0 : UInt64), (0 : UInt64)] : LQ))) then
(Aj ([(2000 : UInt64), (Ad (Ae a 32) : UInt64), (Ad b : UInt64), f, (0 : UInt64), (0 : UInt64)] : LQ) h).bind fun _ =>
(Aj ([(2000 : UInt64), (Ad (Ae a 32) : UInt64), (Ad b : UInt64), f, (0 : UInt64), (0 : UInt64)] : LQ) h).bind fun k =>
(Ao2 k 4).bind fun (m, o) =>
(Fz g m).bind fun n =>
bk4 (Ae h 1) n
else
j6 g
def Aai (a b : Int) (f : UInt64) : Nat → Int → LB → Option (LB)
| 0, _, _ => none
| q + 1, h, g => Amg Ary (Aai a b f q) a b f h g
def Arm a b f := Aai a b f Ay
def Ar0 (j4 : Int → Int → UInt64 → Int → LB → Option (LB)) (a b : Int) (f : UInt64) : Option (LB) :=
j4 a b f 0 ([(65 : UInt8), (80 : UInt8), (69 : UInt8), (84 : UInt8), (65 : UInt8), (71 : UInt8), (69 : UInt8), (88 : UInt8)] : LB)
def Asj := Ar0 Arm
def Ap0 (b : LB) (g : UInt64) : Option (Int × Int × Bool) :=
(Ak3 b 12 4).bind fun (a, m) =>
(Ak3 b 16 4).bind fun (f, n) =>
if (((Cj a 32) || (Cu a 3032)) || (Cu f 1000)) then
some (0, 0, false)
else
(Asj (Ao (Ad a : Int) 32) (Ad f : Int) g).bind fun h =>
(Kv b h).bind fun k =>
some ((Ao (Ad a : Int) 32), (Ad f : Int), k)
def Ap6 (a : LB) : Option (Int × Int) :=
(Ms a ([(65 : UInt8), (80 : UInt8), (69 : UInt8), (84 : UInt8), (65 : UInt8), (71 : UInt8), (69 : UInt8), (88 : UInt8)] : LB)).bind fun f =>
if (!f) then
some (0, 6)
else
if (Cj (Ac a) 32) then
some (0, 24)
else
(Br a 0 32).bind fun g =>
(Ap0 g 2684354560).bind fun (b, h, k) =>
if (!k) then
some (0, 12)
else
if (Cj (Ac a) (Ae b 64)) then
some (0, 24)
else
(Br a (Ao (Ae b 64) 32) (Ae b 64)).bind fun m =>
(Asj b h 2147483648).bind fun n =>
(Kv m n).bind fun o =>
if (!o) then
some (0, 12)
else
some ((Ae b 64), 0)
def Wn (a : LB) : Option (Int × Int) :=
(Ag1 a).bind fun (f, b) =>
if (Bm b 6) then
some (f, b)
else
(Ap6 a).bind fun (g, h) =>
some (g, h)
def To (b : List UInt8) : Nat → Int → Option (Int × Int)
  | 0, _ => none
  | q + 1, x => Option.bind (Br b x (Ac b)) fun s => Option.bind (Wn s) fun r =>
    if geq r.2 (6 : Int) = true then some (x, 0)
    else if (geq r.2 (0 : Int) && Cu (Ae x r.1) (4000 : Int)) = true then some (0, 4)
    else if Bm r.2 (0 : Int) = true then some (0, r.2)
    else To b q (Ae x r.1)
def Rf (b : List UInt8) : Option (Int × Int) := To b Ay 0
def Aq (a : Int) : Option (Bool × Int) :=
some (false, a)
def Em (b a : LB) : Option Bool :=
if (Nc (Ac b) (Ac a)) then
(Br b 0 (Ac a)).bind fun f =>
some (f == a)
else
some false
def Hb (a b : LB) : Option Bool :=
(Em a b).bind fun f =>
some f
def Avk : Option Bool :=
some false
def Ank := Avk
def Tj (j6 : Option Bool) (bk4 : Int → Option Bool) (a : LB) (b : Int) : Option Bool :=
if (Cj b 2) then
(Aj ([([73, 68, 51] : LB), ([65, 80, 69, 84, 65, 71, 69, 88] : LB)] : List LB) b).bind fun f =>
if (Cj (Ac a) (Ac f)) then
(Hb f a).bind fun g =>
if g then
some true
else
bk4 (Ae b 1)
else
bk4 (Ae b 1)
else
j6
def Hs (a : LB) : Nat → Int → Option Bool
| 0, _ => none
| q + 1, b => Tj Ank (Hs a q) a b
def Agf a := Hs a Ay
def Af3 (j4 : LB → Int → Option Bool) (a : LB) : Option Bool :=
j4 a 0
def Xn := Af3 Agf
abbrev Bj := Option (UInt32 × Int)
def Ao1 (h : UInt32) : Bj :=
some (h, 0)
def Ah9 := Ao1
def Abu (j30 : UInt32 → Bj) (bk28 : UInt32 → Int → Bj) (a : LB) (b : LU) (h : UInt32) (m : Int) : Bj :=
if (Cj m (Ac a)) then
(Aj a m).bind fun p =>
(Aj b (GI.toZ (Zi (Ad h : UInt8) p))).bind fun _ =>
(Aj b (GI.toZ (Zi (Ad h : UInt8) p))).bind fun u =>
bk28 (Zi (Cd h (GI.toZ (8 : UInt64)).toNat) u) (Ae m 1)
else
j30 h
def Qv (a : LB) (b : LU) : Nat → UInt32 → Int → Bj
| 0, _, _ => none
| q + 1, h, m => Abu Ah9 (Qv a b q) a b h m
def Aiy a b := Qv a b Ay
def Aiu (j28 : LB → LU → UInt32 → Int → Bj) (f : UInt32) (a : LB) (b : LU) : Bj :=
j28 a b f 0
def Ahx := Aiu Aiy
def Aik (j27 : UInt32 → LB → LU → Bj) (f : UInt32) (a : LB) (b : LU) : Bj :=
j27 f a b
def Ac1 := Aik Ahx
def Aod (bk16 : Int → LU → Bj) (f : UInt32) (a : LB) (g : Int) (o : LU) : Bj :=
bk16 (Ae g 1) o
def Ahp bk16 := Aod bk16
def Ahr (j24 : Int → LU → Bj) (f : UInt32) (a : LB) (g : Int) (k : UInt32) (b : LU) : Bj :=
(Aj b g).bind fun _ =>
(Rb b g k).bind fun o =>
j24 g o
def Abk bk16 f a := Ahr (Ahp bk16 f a) f a
def Abh (j23 : Int → UInt32 → LU → Bj) (bk21 : UInt32 → Int → Bj) (f : UInt32) (a : LB) (g : Int) (b : LU) (k : UInt32) (n : Int) : Bj :=
if (Cj n 8) then
bk21 (Zi (Cd k (GI.toZ (1 : UInt64)).toNat) (Bb 3988292384 (Ik k 1))) (Ae n 1)
else
j23 g k b
def Qr (bk16 : Int → LU → Bj) (f : UInt32) (a : LB) (g : Int) (b : LU) : Nat → UInt32 → Int → Bj
| 0, _, _ => none
| q + 1, k, n => Abh (Abk bk16 f a) (Qr bk16 f a g b q) f a g b k n
def Air bk16 f a g b := Qr bk16 f a g b Ay
def Acw (j21 : Int → LU → UInt32 → Int → Bj) (j26 : UInt32 → LB → LU → Bj) (f : UInt32) (a : LB) (g : Int) (b : LU) : Bj :=
if (Cj g 256) then
j21 g b (Ad g : UInt32) 0
else
j26 f a b
def Lg (f : UInt32) (a : LB) : Nat → Int → LU → Bj
| 0, _, _ => none
| q + 1, g, b => Acw (Air (Lg f a q) f a) Ac1 f a g b
def Ah3 f a := Lg f a Ay
def Akb (j16 : UInt32 → LB → Int → LU → Bj) (f : UInt32) (a : LB) : Bj :=
if (Cu (Ac a) 100000) then
some (0, 4)
else
j16 f a 0 (List.replicate 256 (0 : UInt32))
def Anf := Akb Ah3
def Ahe (b : LB) : Option (UInt32 × Int) :=
(Anf 4294967295 b).bind fun (f, a) =>
if (Bm a 0) then
some (0, a)
else
some ((Awx f), 0)
abbrev Ox := Option (Int × Int × Int × Int × Int × Int)
def Aok (a : LI) : Ox :=
(Aj a 0).bind fun _ =>
(Aj a 0).bind fun h =>
(Aj a 1).bind fun _ =>
(Aj a 1).bind fun k =>
(Aj a 2).bind fun _ =>
(Aj a 2).bind fun m =>
(Aj a 3).bind fun _ =>
(Aj a 3).bind fun n =>
(Aj a 4).bind fun _ =>
(Aj a 4).bind fun o =>
(Oh h k m n o).bind fun p =>
if (!p) then
some (0, 0, 0, 0, 0, 12)
else
(Ae6 h k m n o).bind fun u =>
if (!u) then
some (0, 0, 0, 0, 0, 4)
else
some (h, k, m, n, o, 0)
def Ac3 := Aok
def Ac2 (j6 : LI → Ox) (bk4 : Int → Int → LI → Ox) (b : LB) (g f : Int) (a : LI) : Ox :=
if (Cj f 5) then
(Aj ([(2 : Int), (2 : Int), (2 : Int), (4 : Int), (4 : Int)] : LI) f).bind fun h =>
(Ak3 b g h).bind fun (v, ae) =>
(Aj a f).bind fun _ =>
(Rb a f (Ad v : Int)).bind fun w =>
bk4 (Ae g h) (Ae f 1) w
else
j6 a
def Lk (b : LB) : Nat → Int → Int → LI → Ox
| 0, _, _, _ => none
| q + 1, g, f, a => Ac2 Ac3 (Lk b q) b g f a
def Ab2 b := Lk b Ay
def Aig (j4 : LB → Int → Int → LI → Ox) (b : LB) : Ox :=
(Br b 0 (Gs 4 (Ac b))).bind fun y =>
(Hb ([84, 84, 65, 49] : LB) y).bind fun aa =>
if (!aa) then
some (0, 0, 0, 0, 0, 12)
else
if (Cj (Ac b) 22) then
some (0, 0, 0, 0, 0, 24)
else
(Ak3 b 18 4).bind fun (ab, af) =>
(Br b 0 18).bind fun ac =>
(Ahe ac).bind fun (ad, ag) =>
if (Bm (Ad ad : UInt64) ab) then
some (0, 0, 0, 0, 0, 22)
else
j4 b 4 0 (List.replicate 5 (0 : Int))
def Aau := Aig Ab2
abbrev Bi := Option (UInt64 × Int)
def Aog (h : UInt64) : Bi :=
some (h, 0)
def Aim := Aog
def Ah8 (j30 : UInt64 → Bi) (h b : UInt64) (a : LB) (f : LQ) : Bi :=
j30 h
def Ahv := Ah8 Aim
def Acv (j29 : UInt64 → UInt64 → LB → LQ → Bi) (bk27 : UInt64 → Int → Bi) (a : LB) (b : UInt64) (f : LQ) (h : UInt64) (m : Int) : Bi :=
if (Cj m (Ac a)) then
(Aj a m).bind fun p =>
Option.bind (Aj f (GI.toZ (Zi (Ad (Cd h (GI.toZ (56 : UInt64)).toNat) : UInt8) p))) fun _ =>
Option.bind (Aj f (GI.toZ (Zi (Ad (Cd h (GI.toZ (56 : UInt64)).toNat) : UInt8) p))) fun u =>
bk27 (Zi (Fc h (GI.toZ (8 : UInt64)).toNat) u) (Ae m 1)
else
j29 h b a f
def Qg (a : LB) (b : UInt64) (f : LQ) : Nat → UInt64 → Int → Bi
| 0, _, _ => none
| q + 1, h, m => Acv Ahv (Qg a b f q) a b f h m
def Aia a b f := Qg a b f Ay
def Ain (j27 : LB → UInt64 → LQ → UInt64 → Int → Bi) (b : UInt64) (a : LB) (f : LQ) : Bi :=
j27 a b f b 0
def Abr := Ain Aia
def Aoj (bk16 : Int → LQ → Bi) (b : UInt64) (a : LB) (g : Int) (o : LQ) : Bi :=
bk16 (Ae g 1) o
def Aho bk16 := Aoj bk16
def Aic (j24 : Int → LQ → Bi) (b : UInt64) (a : LB) (g : Int) (k : UInt64) (f : LQ) : Bi :=
(Aj f g).bind fun _ =>
(Rb f g k).bind fun o =>
j24 g o
def Ac6 bk16 b a := Aic (Aho bk16 b a) b a
def Ac0 (j23 : Int → UInt64 → LQ → Bi) (bk21 : UInt64 → Int → Bi) (b : UInt64) (a : LB) (g : Int) (f : LQ) (k : UInt64) (n : Int) : Bi :=
if (Cj n 8) then
bk21 (Zi (Fc k (GI.toZ (1 : UInt64)).toNat) (Bb 4823603603198064275 (Cd k (GI.toZ (63 : UInt64)).toNat))) (Ae n 1)
else
j23 g k f
def Qt (bk16 : Int → LQ → Bi) (b : UInt64) (a : LB) (g : Int) (f : LQ) : Nat → UInt64 → Int → Bi
| 0, _, _ => none
| q + 1, k, n => Ac0 (Ac6 bk16 b a) (Qt bk16 b a g f q) b a g f k n
def Ahn bk16 b a g f := Qt bk16 b a g f Ay
def Abq (j21 : Int → LQ → UInt64 → Int → Bi) (j26 : UInt64 → LB → LQ → Bi) (b : UInt64) (a : LB) (g : Int) (f : LQ) : Bi :=
if (Cj g 256) then
j21 g f (Fc (Ad g : UInt64) (GI.toZ (56 : UInt64)).toNat) 0
else
j26 b a f
def Ll (b : UInt64) (a : LB) : Nat → Int → LQ → Bi
| 0, _, _ => none
| q + 1, g, f => Abq (Ahn (Ll b a q) b a) Abr b a g f
def Ahy b a := Ll b a Ay
def Ako (j16 : UInt64 → LB → Int → LQ → Bi) (b : UInt64) (a : LB) : Bi :=
if (Cu (Ac a) 100000) then
some (0, 4)
else
j16 b a 0 (List.replicate 256 (0 : UInt64))
def Al3 := Ako Ahy
def Ak7 (a : LB) : Option (UInt64 × Int) :=
(Al3 0 a).bind fun (b, f) =>
some (b, f)
def Aua (a : LB) : Option (UInt64 × Int) :=
if (Cu (Ac a) 64) then
some (0, 2)
else
(Ak7 a).bind fun (b, f) =>
some (b, 0)
def Aha (b : LB) : Option (LB × Int) :=
(Aua b).bind fun (f, a) =>
if (Bm a 0) then
some (([] : LB), a)
else
(Ao2 f 8).bind fun (g, h) =>
some (g, h)
def Ag2 (a f : LB) : Option (Bool × Int) :=
(Aha f).bind fun (b, g) =>
if ((Bm g 0) || (Bm (Ac a) (Ac b))) then
some (false, 2)
else
(Kv a b).bind fun h =>
some (h, 0)
abbrev Ru := Option (LI × Int)
def Aqu (a : LI) : Ru :=
(Re a).bind fun k =>
if (Bm k 0) then
some (([] : LI), 12)
else
some (a, 0)
def Aep := Aqu
def Ael (j6 : LI → Ru) (bk4 : Int → LI → Ru) (b : LB) (f : LI) (g : Int) (a : LI) : Ru :=
if (Cj g (Ac f)) then
(Ak3 b (Bb 4 g) 4).bind fun (k, u) =>
(Aj a g).bind fun _ =>
(Rb a g (Ad k : Int)).bind fun m =>
bk4 (Ae g 1) m
else
j6 a
def Tl (b : LB) (f : LI) : Nat → Int → LI → Ru
| 0, _, _ => none
| q + 1, g, a => Ael Aep (Tl b f q) b f g a
def Aj6 b f := Tl b f Ay
def Akp (j4 : LB → LI → Int → LI → Ru) (b : LB) (h : Int) : Ru :=
if ((Cj h 1) || (Cu h 1000)) then
some (([] : LI), 2)
else
if (Cj (Ac b) (Ae (Bb 4 h) 4)) then
some (([] : LI), 24)
else
(Ak3 b (Bb 4 h) 4).bind fun (n, v) =>
(Br b 0 (Bb 4 h)).bind fun o =>
(Ahe o).bind fun (p, w) =>
if (Bm (Ad p : UInt64) n) then
some (([] : LI), 22)
else
(mkI h (0 : Int)).bind fun f =>
(Oz (geq h h)).bind fun _ =>
j4 b f 0 f
def Ana := Akp Aj6
def Bgv (a : LX) : Option (LX) :=
some a
def Ay9 := Bgv
def Amr (j6 : LX → Option (LX)) (bk4 : Int → LX → Option (LX)) (f : UInt64) (b : Int) (a : LX) : Option (LX) :=
if (Cj b 8) then
(Oz (Nc (Bb 8 b) 0)).bind fun _ =>
(Aj a b).bind fun _ =>
(Rb a b (Ad (Ad (Cd f (GI.toZ (Bb 8 b)).toNat) : Int8) : Int32)).bind fun g =>
bk4 (Ae b 1) g
else
j6 a
def Aeh (f : UInt64) : Nat → Int → LX → Option (LX)
| 0, _, _ => none
| q + 1, b, a => Amr Ay9 (Aeh f q) f b a
def Ayv f := Aeh f Ay
def Aw8 (j4 : UInt64 → Int → LX → Option (LX)) (f : UInt64) : Option (LX) :=
j4 f 0 (List.replicate 16 (0 : Int32))
def Bb7 := Aw8 Ayv
def Ahg (a : LB) : Option (LX × Int) :=
if (Cu (Ac a) 64) then
some (([(0 : Int32), (0 : Int32), (0 : Int32), (0 : Int32), (0 : Int32), (0 : Int32), (0 : Int32), (0 : Int32), (0 : Int32), (0 : Int32), (0 : Int32), (0 : Int32), (0 : Int32), (0 : Int32), (0 : Int32), (0 : Int32)] : LX), 2)
else
(Ak7 a).bind fun (f, b) =>
if (Bm b 0) then
some (([(0 : Int32), (0 : Int32), (0 : Int32), (0 : Int32), (0 : Int32), (0 : Int32), (0 : Int32), (0 : Int32), (0 : Int32), (0 : Int32), (0 : Int32), (0 : Int32), (0 : Int32), (0 : Int32), (0 : Int32), (0 : Int32)] : LX), b)
else
(Bb7 f).bind fun g =>
some (g, 0)
def Akj (f a b g h : Int) : Option (Int × Int) :=
some (a, b)
def Ac7 (a : LB) : Option (LB × Int) :=
if (Cj (Ac a) 5) then
some (([] : LB), 24)
else
if (Cu (Ac a) 41254) then
some (([] : LB), 4)
else
(Br a 0 (Ao (Ac a) 4)).bind fun f =>
(Ahe f).bind fun (g, b) =>
if (Bm b 0) then
some (([] : LB), b)
else
(Br a (Ao (Ac a) 4) (Ac a)).bind fun h =>
(Api h).bind fun (k, m) =>
if ((Bm m 0) || (Bm k (Ad g : UInt64))) then
some (([] : LB), 22)
else
(Br a 0 (Ao (Ac a) 4)).bind fun n =>
some (n, 0)
def He (a : LB) : Option (LB) :=
(
(Fz ([] : LB) a).bind fun b =>
some b)
def Bbt (a : LB) : Option (LB × Int × Int) :=
if (Cu (Ac a) 41250) then
some (([] : LB), 0, 4)
else
(He a).bind fun b =>
some (b, (Bb 8 (Ac a)), 0)
def Axj : Option (Int × Int × UInt64 × UInt64) :=
some (10, 10, 16384, 16384)
def Se (b : LB) (a : Int) : Option Int :=
if (((Cj a 0) || (Cu a 330000)) || (Bm (Ac b) (Bb4 (Ae a 7) (GI.toZ (3 : UInt64)).toNat))) then
some 8
else
if (Cu (Ik a 7) 0) then
(Aj b (Ao (Ac b) 1)).bind fun f =>
(Oz (Nc (Ik a 7) 0)).bind fun _ =>
if (Bm (Cd f (GI.toZ (Ik a 7)).toNat) 0) then
some 8
else
some 0
else
some 0
def Bdr (g : UInt64) : Option UInt64 :=
some g
def Auy := Bdr
def Apo (j6 : UInt64 → Option UInt64) (bk4 : UInt64 → Int → Option UInt64) (b f : Int) (h : LB) (k : Int) (g : UInt64) (a : Int) : Option UInt64 :=
if (Cj a f) then
(Aj h (Bb4 (Ae b a) (GI.toZ (3 : UInt64)).toNat)).bind fun m =>
(Oz (Nc (Ik (Ae b a) 7) 0)).bind fun _ =>
(Oz (Nc (Gs (Ao f a) (Ao 8 (Ik (Ae b a) 7))) 0)).bind fun _ =>
(Oz (Nc a 0)).bind fun _ =>
bk4 (gor g (Fc (Ad (Ik (Cd m (GI.toZ (Ik (Ae b a) 7)).toNat) (Ao (Fc (1 : UInt8) (GI.toZ (Gs (Ao f a) (Ao 8 (Ik (Ae b a) 7)))).toNat) 1)) : UInt64) (GI.toZ a).toNat)) (Ae a (Gs (Ao f a) (Ao 8 (Ik (Ae b a) 7))))
else
j6 g
def Aey (b f : Int) (h : LB) (k : Int) : Nat → UInt64 → Int → Option UInt64
| 0, _, _ => none
| q + 1, g, a => Apo Auy (Aey b f h k q) b f h k g a
def Aur b f h k := Aey b f h k Ay
def Au2 (j4 : Int → Int → LB → Int → UInt64 → Int → Option UInt64) (h : LB) (k b f : Int) : Option UInt64 :=
j4 b f h k 0 0
def Asl := Au2 Aur
abbrev Dm := Option (LB × Int × Int)
def As6 (o : Int) (p : LB) : Dm :=
some (p, o, 0)
def Am8 := As6
def As1 (bk27 : Int → Int → LB → Dm) (a : Int) (g : LB) (f b h : Int) (u : LB) : Dm :=
bk27 (Ae b 64) h u
def Ag0 bk27 := As1 bk27
def As5 (bk44 : UInt64 → Int → Int → LB → Dm) (a b : Int) (g : LB) (f : Int) (k n : UInt64) (m h : Int) (w : LB) : Dm :=
(Oz (Nc (Gs m (Ao 8 (Ik h 7))) 0)).bind fun _ =>
bk44 (Cd n (GI.toZ (Gs m (Ao 8 (Ik h 7)))).toNat) (Ao m (Gs m (Ao 8 (Ik h 7)))) (Ae h (Gs m (Ao 8 (Ik h 7)))) w
def Am6 bk44 := As5 bk44
def Amp (j48 : UInt64 → Int → Int → LB → Dm) (a b : Int) (g : LB) (f : Int) (k n : UInt64) (m h : Int) (v : LB) : Dm :=
(Aj v (Ao (Ac v) 1)).bind fun _ =>
(Oz (Nc (Gs m (Ao 8 (Ik h 7))) 0)).bind fun _ =>
(Oz (Nc (Ik h 7) 0)).bind fun _ =>
(Aj v (Ao (Ac v) 1)).bind fun aa =>
(Aj v (Ao (Ac v) 1)).bind fun _ =>
Option.bind (Rb v (Ao (Ac v) 1) (gor aa (Fc (Ad (Ik n (Ao (Fc (1 : UInt64) (GI.toZ (Gs m (Ao 8 (Ik h 7)))).toNat) 1)) : UInt8) (GI.toZ (Ik h 7)).toNat))) fun w =>
j48 n m h w
def Agz bk44 a b g f k := Amp (Am6 bk44 a b g f k) a b g f k
def Ag6 (j47 : UInt64 → Int → Int → LB → Dm) (j50 : Int → Int → LB → Dm) (a : Int) (g : LB) (f b : Int) (k n : UInt64) (m h : Int) (u : LB) : Dm :=
if (Cu m 0) then
if (geq (Ik h 7) 0) then
(Fz u ([(0 : UInt8)] : LB)).bind fun ab =>
j47 n m h ab
else
j47 n m h u
else
j50 b h u
def Mz (bk27 : Int → Int → LB → Dm) (a : Int) (g : LB) (f b : Int) (k : UInt64) : Nat → UInt64 → Int → Int → LB → Dm
| 0, _, _, _, _ => none
| q + 1, n, m, h, u => Ag6 (Agz (Mz bk27 a g f b k q) a b g f k) (Ag0 bk27 a g f) a g f b k n m h u
def Amn bk27 a g f b k := Mz bk27 a g f b k Ay
def Ami (j44 : Int → UInt64 → UInt64 → Int → Int → LB → Dm) (j52 : Int → LB → Dm) (a : Int) (g : LB) (f b o : Int) (p : LB) : Dm :=
if (Cj b a) then
(Asl g f b (Gs 64 (Ao a b))).bind fun k =>
j44 b k k (Gs 64 (Ao a b)) o p
else
j52 o p
def Xo (a : Int) (g : LB) (f : Int) : Nat → Int → Int → LB → Dm
| 0, _, _, _ => none
| q + 1, b, o, p => Ami (Amn (Xo a g f q) a g f) Am8 a g f b o p
def Am9 a g f := Xo a g f Ay
def Apd (j27 : Int → LB → Int → Int → Int → LB → Dm) (g : LB) (f y a : Int) : Dm :=
(Se g f).bind fun ac =>
if (Bm ac 0) then
some (([] : LB), 0, 8)
else
if (((Cj y 0) || (Cu y a)) || (Cu a f)) then
some (([] : LB), 0, 2)
else
j27 a g f y 0 ([] : LB)
def Aoc := Apd Am9
def Aql (a b : Int) (f g : UInt64) : Option Int :=
if (!((geq (Gs (An1 a 0) 24) a) && ((geq (Gs (An1 b 0) 24) b) && ((geq (Gs f 68719476735) f) && ((geq (Gs g 68719476735) g) && true))))) then
some 8
else
some 0
def Aj0 := Aql
def Aej (j4 : Int → Int → UInt64 → UInt64 → Option Int) (a b : Int) (f g : UInt64) : Option Int :=
(
(
j4 a b f g))
def Akl := Aej Aj0
def Aek (j3 : Int → Int → UInt64 → UInt64 → Option Int) (a b : Int) (f g : UInt64) : Option Int :=
(
(
j3 a b f g))
def Alz := Aek Akl
def Acs (g : LB) (b f a : Int) : Option (UInt64 × Int) :=
(Se g b).bind fun h =>
if (Bm h 0) then
some (0, 8)
else
if (((Cj a 0) || (Cu a 64)) || (Cj f 0)) then
some (0, 2)
else
if (Cu f (Ao b a)) then
some (0, 24)
else
(Asl g b f a).bind fun k =>
some (k, 0)
def Es (a : UInt64) : Option Int :=
if (geq a 0) then
some 64
else
(Aj ([(0 : UInt8), (1 : UInt8), (56 : UInt8), (2 : UInt8), (57 : UInt8), (49 : UInt8), (28 : UInt8), (3 : UInt8), (61 : UInt8), (58 : UInt8), (42 : UInt8), (50 : UInt8), (38 : UInt8), (29 : UInt8), (17 : UInt8), (4 : UInt8), (62 : UInt8), (47 : UInt8), (59 : UInt8), (36 : UInt8), (45 : UInt8), (43 : UInt8), (51 : UInt8), (22 : UInt8), (53 : UInt8), (39 : UInt8), (33 : UInt8), (30 : UInt8), (24 : UInt8), (18 : UInt8), (12 : UInt8), (5 : UInt8), (63 : UInt8), (55 : UInt8), (48 : UInt8), (27 : UInt8), (60 : UInt8), (41 : UInt8), (37 : UInt8), (16 : UInt8), (46 : UInt8), (35 : UInt8), (44 : UInt8), (21 : UInt8), (52 : UInt8), (32 : UInt8), (23 : UInt8), (11 : UInt8), (54 : UInt8), (26 : UInt8), (40 : UInt8), (15 : UInt8), (34 : UInt8), (20 : UInt8), (31 : UInt8), (10 : UInt8), (25 : UInt8), (14 : UInt8), (19 : UInt8), (9 : UInt8), (13 : UInt8), (8 : UInt8), (7 : UInt8), (6 : UInt8)] : LB) (GI.toZ (Cd (Bb (Ik a (Ate a)) 285870213051353865) (GI.toZ (58 : UInt64)).toNat))).bind fun b =>
some (Ad b : Int)
abbrev Hc := Option (Int × Int × Int)
def Axv : Hc :=
some (0, 0, 24)
def Ao9 := Axv
def Aqp (j10 : Hc) : Hc :=
j10
def Aqh := Aqp Ao9
def Aj8 (j9 : Hc) (f a : Int) : Hc :=
if (geq f 48) then
some (f, (Ae 0 (Ae a f)), 0)
else
j9
def Aks := Aj8 Aqh
def Akd (j8 : Int → Int → Hc) (f b a : Int) : Hc :=
if (Cj f (Gs 48 (Ao b a))) then
some (f, (Ae (Ae (0 : Int) (1 : Int)) (Ae a f)), 0)
else
j8 f a
def Aj2 := Akd Aks
def Aku (j7 : Int → Int → Int → Hc) (h : Int) (k : UInt64) (a : Int) (g : LB) (b : Int) : Hc :=
if (Bm h 0) then
some (0, 0, h)
else
(Es (Awx k)).bind fun f =>
j7 f b a
def Akc := Aku Aj2
def Zc (j6 : Int → UInt64 → Int → LB → Int → Hc) (g : LB) (b a : Int) : Hc :=
(Se g b).bind fun m =>
if (Bm m 0) then
some (0, 0, m)
else
if (Cj a 0) then
some (0, 0, 2)
else
if (Nc a b) then
some (0, 0, 24)
else
(
(
(Acs g b a (Gs 48 (Ao b a))).bind fun (k, h) =>
j6 h k a g b))
def Aeb := Zc Akc
def Aly (b : UInt32) (a : Int) : Option Bool :=
(Oz (Nc a 0)).bind fun _ =>
some (Nc (Cd b (GI.toZ a).toNat) 48)
abbrev Apq := Option (UInt32 × Int × Int)
def Amb (a b f : Int) (g : LB) (h k : Int) : Apq :=
(Acs g h b k).bind fun (m, n) =>
if (Bm n 0) then
some (0, 0, n)
else
if (Cj f 48) then
(Oz (Nc a 0)).bind fun _ =>
some ((gor (Fc (Ad f : UInt32) (GI.toZ a).toNat) (Ad m : UInt32)), (Ae b k), 0)
else
(Aly (Ad m : UInt32) a).bind fun u =>
if (!u) then
some (0, 0, 12)
else
some ((Ad m : UInt32), (Ae b k), 0)
def Ahb := Amb
def Al2 (j2 : Int → Int → Int → LB → Int → Int → Apq) (g : LB) (h v a : Int) : Apq :=
(Se g h).bind fun o =>
if (Bm o 0) then
some (0, 0, o)
else
if ((Cj a 0) || (Cu a 24)) then
some (0, 0, 2)
else
(Aeb g h v).bind fun (f, b, p) =>
if (Bm p 0) then
some (0, 0, p)
else
if (geq f 48) then
j2 a b f g h 32
else
j2 a b f g h a
def Apy := Al2 Ahb
def Amd (a f : Int) (g h : UInt64) (b : UInt32) : Option (Int × UInt32) :=
(Oz (Nc a 0)).bind fun _ =>
if (geq (Cd b (GI.toZ a).toNat) 0) then
some (0, b)
else
(Oz (Nc a 0)).bind fun _ =>
some (1, (Ao b (Fc (1 : UInt32) (GI.toZ a).toNat)))
abbrev Iz := Option (UInt32 × Int × Int × Int × UInt64 × UInt64 × Int)
def Aqo (f : UInt32) (k w m : Int) (a n : UInt64) : Iz :=
some (f, k, w, m, (Ae a (Ao (Ad f : UInt64) (Cd a (GI.toZ (4 : UInt64)).toNat))), n, 0)
def Akq := Aqo
def Amm (j10 : UInt32 → Int → Int → Int → UInt64 → UInt64 → Iz) (f : UInt32) (k m : Int) (a n : UInt64) (w : Int) : Iz :=
j10 f k w m a n
def Amz := Amm Akq
def Al1 (j9 : UInt32 → Int → Int → UInt64 → UInt64 → Int → Iz) (f : UInt32) (k b : Int) (a : UInt64) (m : Int) (n : UInt64) : Iz :=
if (Cu b 0) then
(Oz (Nc b 0)).bind fun _ =>
if (Cj (Ae a (Ao (Ad f : UInt64) (Cd a (GI.toZ (4 : UInt64)).toNat))) (Fc (16 : UInt64) (GI.toZ b).toNat)) then
j9 f k m a n (Ao b 1)
else
if (Cj b 24) then
(Oz (Nc b 0)).bind fun _ =>
if (Cu (Ae a (Ao (Ad f : UInt64) (Cd a (GI.toZ (4 : UInt64)).toNat))) (Fc (32 : UInt64) (GI.toZ b).toNat)) then
j9 f k m a n (Ae b 1)
else
j9 f k m a n b
else
j9 f k m a n b
else
if (Cj b 24) then
(Oz (Nc b 0)).bind fun _ =>
if (Cu (Ae a (Ao (Ad f : UInt64) (Cd a (GI.toZ (4 : UInt64)).toNat))) (Fc (32 : UInt64) (GI.toZ b).toNat)) then
j9 f k m a n (Ae b 1)
else
j9 f k m a n b
else
j9 f k m a n b
def Ab6 := Al1 Amz
def Amf (j8 : UInt32 → Int → Int → UInt64 → Int → UInt64 → Iz) (b h : Int) (a g : UInt64) (f : UInt32) (k : Int) : Iz :=
(Amd b h a g f).bind fun (ad, o) =>
if (geq ad 1) then
if (Cu h 0) then
(Oz (Nc h 0)).bind fun _ =>
if (Cj (Ae g (Ao (Ad o : UInt64) (Cd g (GI.toZ (4 : UInt64)).toNat))) (Fc (16 : UInt64) (GI.toZ h).toNat)) then
j8 f k b a (Ao h 1) (Ae g (Ao (Ad o : UInt64) (Cd g (GI.toZ (4 : UInt64)).toNat)))
else
if (Cj h 24) then
(Oz (Nc h 0)).bind fun _ =>
if (Cu (Ae g (Ao (Ad o : UInt64) (Cd g (GI.toZ (4 : UInt64)).toNat))) (Fc (32 : UInt64) (GI.toZ h).toNat)) then
j8 f k b a (Ae h 1) (Ae g (Ao (Ad o : UInt64) (Cd g (GI.toZ (4 : UInt64)).toNat)))
else
j8 f k b a h (Ae g (Ao (Ad o : UInt64) (Cd g (GI.toZ (4 : UInt64)).toNat)))
else
j8 f k b a h (Ae g (Ao (Ad o : UInt64) (Cd g (GI.toZ (4 : UInt64)).toNat)))
else
if (Cj h 24) then
(Oz (Nc h 0)).bind fun _ =>
if (Cu (Ae g (Ao (Ad o : UInt64) (Cd g (GI.toZ (4 : UInt64)).toNat))) (Fc (32 : UInt64) (GI.toZ h).toNat)) then
j8 f k b a (Ae h 1) (Ae g (Ao (Ad o : UInt64) (Cd g (GI.toZ (4 : UInt64)).toNat)))
else
j8 f k b a h (Ae g (Ao (Ad o : UInt64) (Cd g (GI.toZ (4 : UInt64)).toNat)))
else
j8 f k b a h (Ae g (Ao (Ad o : UInt64) (Cd g (GI.toZ (4 : UInt64)).toNat)))
else
j8 f k b a h g
def Ahd := Amf Ab6
def Amu (j7 : Int → Int → UInt64 → UInt64 → UInt32 → Int → Iz) (p : Int) (u : LB) (v b h : Int) (a g : UInt64) : Iz :=
(Acs u v p 1).bind fun (ae, aa) =>
if (Bm aa 0) then
some (0, 0, 0, 0, 0, 0, aa)
else
if (geq ae 0) then
(Acs u v (Ae p 1) b).bind fun (af, ab) =>
if (Bm ab 0) then
some (0, 0, 0, 0, 0, 0, ab)
else
j7 b h a g (Ad af : UInt32) (Ae (Ae p 1) b)
else
(Apy u v (Ae p 1) h).bind fun (y, ag, ac) =>
if (Bm ac 0) then
some (0, 0, 0, 0, 0, 0, ac)
else
(Oz (Nc b 0)).bind fun _ =>
if (Cj (Ae y (Fc (1 : UInt32) (GI.toZ b).toNat)) y) then
some (0, 0, 0, 0, 0, 0, 12)
else
j7 b h a g (Ae y (Fc (1 : UInt32) (GI.toZ b).toNat)) ag
def Am7 := Amu Ahd
def Ane (j6 : Int → LB → Int → Int → Int → UInt64 → UInt64 → Iz) (u : LB) (v p b h : Int) (a g : UInt64) : Iz :=
(Se u v).bind fun ah =>
if (Bm ah 0) then
some (0, 0, 0, 0, 0, 0, 8)
else
(Alz b h a g).bind fun ai =>
if (Bm ai 0) then
some (0, 0, 0, 0, 0, 0, 8)
else
j6 p u v b h a g
def Aea := Ane Am7
abbrev Bh := Option (LU × Int × Int)
def Arb (k : Int) (m : LU) : Bh :=
some (m, k, 0)
def Aip := Arb
def Aih (bk16 : Int → Int → (List (Int × Int × UInt64 × UInt64 × Unit)) → LU → Bh) (a f : Int) (g : LB) (b k v : Int) (w : UInt32) (h : Int) (ag : List (Int × Int × UInt64 × UInt64 × Unit)) (m : LU) : Bh :=
(Fz m ([w] : LU)).bind fun ak =>
bk16 (Ae k v) (Ae h 1) ag ak
def Zz bk16 := Aih bk16
def Ri (j22 : Int → Int → UInt32 → Int → (List (Int × Int × UInt64 × UInt64 × Unit)) → LU → Bh) (a f : Int) (g : LB) (b k h y : Int) (w : UInt32) (v : Int) (n : List (Int × Int × UInt64 × UInt64 × Unit)) (m : LU) (aa ab : Int) (ac ad : UInt64) : Bh :=
if (Bm y 0) then
some (([] : LU), 0, y)
else
(Oz (Bm a 0)).bind fun _ =>
(Aj n (Il h a)).bind fun _ =>
(Rb n (Il h a) (aa, ab, ac, ad, ())).bind fun ag =>
j22 k v w h ag m
def Sy bk16 a f g b := Ri (Zz bk16 a f g b) a f g b
def Sk (j21 : Int → Int → Int → UInt32 → Int → (List (Int × Int × UInt64 × UInt64 × Unit)) → LU → Int → Int → UInt64 → UInt64 → Bh) (j24 : Int → LU → Bh) (a f : Int) (g : LB) (b k h : Int) (n : List (Int × Int × UInt64 × UInt64 × Unit)) (m : LU) : Bh :=
if (Cj h (Bb f a)) then
(Aoc g b k (Gs (Ae k 81) b)).bind fun (ah, ae, af) =>
if (Bm af 0) then
some (([] : LU), 0, af)
else
(Oz (Bm a 0)).bind fun _ =>
(Aj n (Il h a)).bind fun _ =>
(
(
(Aj n (Il h a)).bind fun p =>
(
(Aea ah ae 0 p.1 p.2.1 p.2.2.1 p.2.2.2.1).bind fun (w, v, aa, ab, ac, ad, y) =>
j21 k h y w v n m aa ab ac ad)))
else
j24 k m
def Lc (a f : Int) (g : LB) (b : Int) : Nat → Int → Int → (List (Int × Int × UInt64 × UInt64 × Unit)) → LU → Bh
| 0, _, _, _, _ => none
| q + 1, k, h, n, m => Sk (Sy (Lc a f g b q) a f g b) Aip a f g b k h n m
def Aid a f g b := Lc a f g b Ay
def Ah6 (j16 : Int → Int → LB → Int → Int → Int → (List (Int × Int × UInt64 × UInt64 × Unit)) → LU → Bh) (a f : Int) (g : LB) (b : Int) (o : List (Int × Int × UInt64 × UInt64 × Unit)) : Bh :=
j16 a f g b 0 0 o ([] : LU)
def Aap := Ah6 Aid
def Aiv (j15 : Int → Int → LB → Int → (List (Int × Int × UInt64 × UInt64 × Unit)) → Bh) (bk13 : Int → (List (Int × Int × UInt64 × UInt64 × Unit)) → Bh) (a f : Int) (g : LB) (b u : Int) (o : List (Int × Int × UInt64 × UInt64 × Unit)) : Bh :=
if (Cj u 6) then
(Axj).bind fun (al, ae, af, am) =>
(Aj o u).bind fun _ =>
(Rb o u (al, ae, af, am, ())).bind fun an =>
bk13 (Ae u 1) an
else
j15 a f g b o
def Zw (a f : Int) (g : LB) (b : Int) : Nat → Int → (List (Int × Int × UInt64 × UInt64 × Unit)) → Bh
| 0, _, _ => none
| q + 1, u, o => Aiv Aap (Zw a f g b q) a f g b u o
def Tf a f g b := Zw a f g b Ay
def Abz (j13 : Int → Int → LB → Int → Int → (List (Int × Int × UInt64 × UInt64 × Unit)) → Bh) (a f : Int) (g : LB) (b : Int) : Bh :=
j13 a f g b 0 (List.replicate 6 ((0 : Int), (0 : Int), (0 : UInt64), (0 : UInt64), ()))
def Acl := Abz Tf
abbrev Arq := Option (Int × LX × LX × Int)
def Be5 (a : Int) (b : LX) (f : Bool) : Arq :=
if f then
some (10, b, (List.replicate 16 (0 : Int32)), 0)
else
if (geq a 16) then
some (9, b, (List.replicate 16 (0 : Int32)), 0)
else
some (0, (List.replicate 16 (0 : Int32)), (List.replicate 16 (0 : Int32)), 2)
def Avd := Be5
def Auj (j2 : Int → LX → Bool → Arq) (a : Int) (b : LX) : Arq :=
if (geq a 8) then
j2 a b (geq a 8)
else
j2 a b (geq a 24)
def Ash := Auj Avd
def Azz (a : Int) (f : LX) : Option (Int × Int32 × Int × LX × LX × Int) :=
(Ash a f).bind fun (g, h, k, b) =>
if (Bm b 0) then
some (0, 0, 0, (List.replicate 16 (0 : Int32)), (List.replicate 16 (0 : Int32)), b)
else
some (a, 0, g, h, k, 0)
def Xk (a : UInt32) : Option Int32 :=
some (Zi (Ad (Cd a (GI.toZ (1 : UInt64)).toNat) : Int32) (Ate (Ad (Ik a 1) : Int32)))
def Ae7 (a : Int) (k : Int32) (b : Int) (f m : LX) : Option Int :=
(Ash a f).bind fun (g, n, o, h) =>
if ((Bm h 0) || (Bm g b)) then
some 8
else
some 0
def Aox (a : Int) : Option (Int × Int) :=
if (geq a 8) then
some (4, 0)
else
if (geq a 16) then
if (geq a 16) then
some (5, 0)
else
some (0, 2)
else
if (geq a 24) then
some (5, 0)
else
some (0, 2)
def Aji (a : Int) (b : Int32) : Option Int32 :=
(Oz (Nc a 0)).bind fun _ =>
(Oz (Nc a 0)).bind fun _ =>
some (Ad (Bb4 (Ao (Fc (Ad b : Int) (GI.toZ a).toNat) (Ad b : Int)) (GI.toZ a).toNat) : Int32)
def Ae5 (b : Int) (f : Int32) : Option (Int32 × Int) :=
(Aox b).bind fun (g, a) =>
if (Bm a 0) then
some (0, a)
else
(Aji g f).bind fun h =>
some (h, 0)
def Ad7 (a : Int) (b f : LX) : Option Int :=
if ((Bm a 9) && (Bm a 10)) then
some 8
else
some 0
abbrev Sn := Option (Int32 × Int)
def Aqy (g : Int32) (a : Int) (b f : LX) : Sn :=
(Oz (Nc a 0)).bind fun _ =>
some ((Cd g (GI.toZ a).toNat), 0)
def Akk := Aqy
def Aes (j6 : Int32 → Int → LX → LX → Sn) (bk4 : Int32 → Int → Sn) (b : LX) (a : Int) (f : LX) (g : Int32) (h : Int) : Sn :=
if (Cj h 16) then
(Aj b h).bind fun m =>
(Aj f h).bind fun _ =>
(Aj f h).bind fun n =>
bk4 (Ae g (Bb m n)) (Ae h 1)
else
j6 g a b f
def Tm (b : LX) (a : Int) (f : LX) : Nat → Int32 → Int → Sn
| 0, _, _ => none
| q + 1, g, h => Aes Akk (Tm b a f q) b a f g h
def Aj7 b a f := Tm b a f Ay
def Akg (j4 : LX → Int → LX → Int32 → Int → Sn) (a : Int) (b f : LX) : Sn :=
(Ad7 a b f).bind fun k =>
if (Bm k 0) then
some (0, k)
else
(Oz (Nc (Ao a 1) 0)).bind fun _ =>
j4 b a f (Fc (1 : Int32) (GI.toZ (Ao a 1)).toNat) 0
def Anc := Akg Aj7
def Ak4 (a : Int) : Option Int32 :=
if (geq a 0) then
some 4
else
if (Cj a 4) then
some 2
else
some 1
abbrev Sr := Option (Int × LX × LX × Int)
def Azj (g : Int) (b f : LX) : Sr :=
some (g, b, f, 0)
def Aqm := Azj
def Aet (j6 : Int → LX → LX → Sr) (bk4 : Int → LX → Sr) (h : Int32) (f : LX) (g a : Int) (b : LX) : Sr :=
if (Cj a 16) then
(Aj f a).bind fun m =>
if (geq m 0) then
bk4 (Ae a 1) b
else
if ((Cj m 0) == (Cj h 0)) then
(Aj b a).bind fun _ =>
(Aj b a).bind fun o =>
(Ak4 a).bind fun p =>
(Aj b a).bind fun _ =>
(Rb b a (Ae o p)).bind fun u =>
bk4 (Ae a 1) u
else
(Aj b a).bind fun _ =>
(Aj b a).bind fun v =>
(Ak4 a).bind fun w =>
(Aj b a).bind fun _ =>
(Rb b a (Ao v w)).bind fun y =>
bk4 (Ae a 1) y
else
j6 g b f
def Tp (h : Int32) (f : LX) (g : Int) : Nat → Int → LX → Sr
| 0, _, _ => none
| q + 1, a, b => Aet Aqm (Tp h f g q) h f g a b
def Aqt h f g := Tp h f g Ay
def Ajz (j4 : Int32 → LX → Int → Int → LX → Sr) (g : Int) (k f : LX) (h : Int32) : Sr :=
(Ad7 g k f).bind fun n =>
if (Bm n 0) then
some (0, (List.replicate 16 (0 : Int32)), (List.replicate 16 (0 : Int32)), n)
else
if (geq h 0) then
some (g, k, f, 0)
else
j4 h f g 0 k
def Alw := Ajz Aqt
abbrev Ape := Option (Int × LX × LX × Int)
def Asx (g : Int32) (b : Int) (f a : LX) : Ape :=
(Aj (Tv a 1 ((16 : Int) - (1 : Int)) (Ak6 a 0 ((16 : Int) - (0 : Int)))) 0).bind fun _ =>
(Rb (Tv a 1 ((16 : Int) - (1 : Int)) (Ak6 a 0 ((16 : Int) - (0 : Int)))) 0 g).bind fun k =>
some (b, f, k, 0)
def Alu := Asx
def Ag5 (j2 : Int32 → Int → LX → LX → Ape) (b : Int) (f a : LX) (g : Int32) : Ape :=
(Ad7 b f a).bind fun h =>
if (Bm h 0) then
some (0, (List.replicate 16 (0 : Int32)), (List.replicate 16 (0 : Int32)), h)
else
(
(vwI 16 1 16).bind fun _ =>
(vwI 16 0 16).bind fun _ =>
j2 g b f a)
def Apu := Ag5 Alu
def Aq3 (a : Int) (b f : LX) (g h : Int32) : Option (Int × LX × LX) :=
(Alw a b f h).bind fun (k, m, n, v) =>
(Apu k m n g).bind fun (o, p, u, w) =>
some (o, p, u)
def Aot (b : Int) (f g : LX) (a : Int32) : Option (Int32 × Int × LX × LX × Int) :=
(Anc b f g).bind fun (h, k) =>
if (Bm k 0) then
some (0, 0, (List.replicate 16 (0 : Int32)), (List.replicate 16 (0 : Int32)), k)
else
(Aq3 b f g (Ae a h) a).bind fun (m, n, o) =>
some ((Ae a h), m, n, o, 0)
def Jr (a : Int) (b : Int32) (f : Int) (g h : LX) (o : Int32) : Option (Int32 × Int × Int32 × Int × LX × LX × Int) :=
(Ae7 a b f g h).bind fun k =>
if (Bm k 0) then
some (0, 0, 0, 0, (List.replicate 16 (0 : Int32)), (List.replicate 16 (0 : Int32)), k)
else
(Ae5 a b).bind fun (m, y) =>
(Aot f g h o).bind fun (n, p, u, v, w) =>
(
some ((Ae n m), a, (Ae n m), p, u, v, w))
def Aqa (a : Int) (b : LX) : Option Int :=
if ((Cj a 1) || (Cu a 6)) then
some 2
else
if (Cu (Ac b) 4000) then
some 4
else
(Oz (Bm a 0)).bind fun _ =>
if (Bm (Il (Ac b) a) 0) then
some 2
else
some 0
def Fq (a : LX) : Option (LX) :=
(
(Fz ([] : LX) a).bind fun b =>
some b)
abbrev Et := Option (LX × Int)
def Bcr (f : LX) : Et :=
some (f, 0)
def Ase := Bcr
def Asq (bk12 : Int → LX → Et) (b a : Int) (h : LX) : Et :=
bk12 (Ae a b) h
def Amv bk12 := Asq bk12
def Ag7 (j20 : Int → LX → Et) (bk18 : Int → LX → Et) (b a g : Int) (h : LX) : Et :=
if (Nc g 0) then
(Oz (decide (0 ≤ (Ae g 1) ∧ (Ae g 1) < ((Ae a b) - a)))).bind fun _ =>
(Oz (decide (0 ≤ g ∧ g < ((Ae a b) - a)))).bind fun _ =>
(Aj h (a + (Ae g 1))).bind fun o =>
(Aj h (a + g)).bind fun p =>
(Oz (decide (0 ≤ g ∧ g < ((Ae a b) - a)))).bind fun _ =>
(Rb h (a + g) (Ao o p)).bind fun u =>
bk18 (Ao g 1) u
else
j20 a h
def Xm (bk12 : Int → LX → Et) (b a : Int) : Nat → Int → LX → Et
| 0, _, _ => none
| q + 1, g, h => Ag7 (Amv bk12 b) (Xm bk12 b a q) b a g h
def Alv bk12 b a := Xm bk12 b a Ay
def Amq (j18 : Int → Int → LX → Et) (b a : Int) (k : LX) : Et :=
j18 a (Ao (Ao ((Ae a b) - a) 1) 1) k
def Ag3 bk12 b := Amq (Alv bk12 b) b
def Am0 (j17 : Int → LX → Et) (j22 : LX → Et) (b a : Int) (f : LX) : Et :=
if (Cj a (Ac f)) then
(vwI (Ac f) a (Ae a b)).bind fun _ =>
if (Cu (Ao ((Ae a b) - a) 1) 0) then
(Oz (decide (0 ≤ (Ao ((Ae a b) - a) 1) ∧ (Ao ((Ae a b) - a) 1) < ((Ae a b) - a)))).bind fun _ =>
Option.bind (Oz (decide (0 ≤ (Ao (Ao ((Ae a b) - a) 1) 1) ∧ (Ao (Ao ((Ae a b) - a) 1) 1) < ((Ae a b) - a)))) fun _ =>
(Aj f (a + (Ao ((Ae a b) - a) 1))).bind fun v =>
(Aj f (a + (Ao (Ao ((Ae a b) - a) 1) 1))).bind fun w =>
(Oz (decide (0 ≤ (Ao ((Ae a b) - a) 1) ∧ (Ao ((Ae a b) - a) 1) < ((Ae a b) - a)))).bind fun _ =>
(Rb f (a + (Ao ((Ae a b) - a) 1)) (Ae v (Bq w 2))).bind fun y =>
j17 a y
else
j17 a f
else
j22 f
def Sj (b : Int) : Nat → Int → LX → Et
| 0, _, _ => none
| q + 1, a, f => Am0 (Ag3 (Sj b q) b) Ase b a f
def Amk b := Sj b Ay
def Ao0 (j12 : Int → Int → LX → Et) (b : Int) (m : LX) : Et :=
(Aqa b m).bind fun n =>
if (Bm n 0) then
some (([] : LX), n)
else
(Fq m).bind fun aa =>
j12 b 0 aa
def Asu := Ao0 Amk
abbrev Bk := Option (LX × Int)
def Agp (a b : Int) (k : LX) : Bk :=
(Asu a k).bind fun (ah, af) =>
if (Bm af 0) then
some (([] : LX), af)
else
(Aa3 b ah).bind fun ae =>
if (Bm ae 0) then
some (([] : LX), ae)
else
some (ah, 0)
def Kc := Agp
def Agl (bk13 : Int → (List (Int × Int32 × (Int × LX × LX × Unit) × Unit)) → LX → Bk) (a : Int) (f : LU) (b g : Int) (w : Int32) (u : Int) (h : List (Int × Int32 × (Int × LX × LX × Unit) × Unit)) (k : LX) (y : Int) (v : Int32) (aa : Int) (ab ac : LX) : Bk :=
if (Bm u 0) then
some (([] : LX), u)
else
(Rb h (Il g a) (y, v, (aa, ab, ac, ()), ())).bind fun ai =>
(Fz k ([w] : LX)).bind fun aj =>
bk13 (Ae g 1) ai aj
def Yv bk13 := Agl bk13
def Jz (j16 : Int → Int32 → Int → (List (Int × Int32 × (Int × LX × LX × Unit) × Unit)) → LX → Int → Int32 → Int → LX → LX → Bk) (j18 : Int → Int → LX → Bk) (f : LU) (a b g : Int) (h : List (Int × Int32 × (Int × LX × LX × Unit) × Unit)) (k : LX) : Bk :=
if (Cj g (Ac f)) then
(Aj f g).bind fun ag =>
(Oz (Bm a 0)).bind fun _ =>
(Aj h (Il g a)).bind fun _ =>
(
(Aj h (Il g a)).bind fun m =>
(
(Xk ag).bind fun ae =>
(
(Jr m.1 m.2.1 m.2.2.1.1 m.2.2.1.2.1 m.2.2.1.2.2.1 ae).bind fun (w, y, v, aa, ab, ac, u) =>
j16 g w u h k y v aa ab ac)))
else
j18 a b k
def Ho (f : LU) (a b : Int) : Nat → Int → (List (Int × Int32 × (Int × LX × LX × Unit) × Unit)) → LX → Bk
| 0, _, _, _ => none
| q + 1, g, h, k => Jz (Yv (Ho f a b q) a f b) Kc f a b g h k
def Agu f a b := Ho f a b Ay
def Ags (j13 : LU → Int → Int → Int → (List (Int × Int32 × (Int × LX × LX × Unit) × Unit)) → LX → Bk) (f : LU) (a b : Int) (n : List (Int × Int32 × (Int × LX × LX × Unit) × Unit)) : Bk :=
j13 f a b 0 n ([] : LX)
def Yi := Ags Agu
def Agr (j12 : LU → Int → Int → (List (Int × Int32 × (Int × LX × LX × Unit) × Unit)) → Bk) (bk10 : Int → (List (Int × Int32 × (Int × LX × LX × Unit) × Unit)) → Bk) (f : LU) (a b : Int) (o : LX) (p : Int) (n : List (Int × Int32 × (Int × LX × LX × Unit) × Unit)) : Bk :=
if (Cj p 6) then
(Azz b o).bind fun (ak, af, ae, al, am, v) =>
(Aj n p).bind fun _ =>
(Rb n p (ak, af, (ae, al, am, ()), ())).bind fun an =>
bk10 (Ae p 1) an
else
j12 f a b n
def Yk (f : LU) (a b : Int) (o : LX) : Nat → Int → (List (Int × Int32 × (Int × LX × LX × Unit) × Unit)) → Bk
| 0, _, _ => none
| q + 1, p, n => Agr Yi (Yk f a b o q) f a b o p n
def Pj f a b o := Yk f a b o Ay
def Aaj (j10 : LU → Int → Int → LX → Int → (List (Int × Int32 × (Int × LX × LX × Unit) × Unit)) → Bk) (a b : Int) (o : LX) (f : LU) : Bk :=
j10 f a b o 0 (List.replicate 6 ((0 : Int), (0 : Int32), ((0 : Int), (List.replicate 16 (0 : Int32)), (List.replicate 16 (0 : Int32)), ()), ()))
def Tk := Aaj Pj
def Ace (a h : Int) (u : LX) (f : Int) (v : LB) : Option (LX × Int) :=
(On a h).bind fun k =>
if (Bm k 0) then
some (([] : LX), k)
else
if (Cj f 1) then
some (([] : LX), 2)
else
(Oz (Bm a 0)).bind fun _ =>
if (Cu f (Bq 4000 a)) then
some (([] : LX), 2)
else
(Ac7 v).bind fun (w, m) =>
if (Bm m 0) then
some (([] : LX), m)
else
(Bbt w).bind fun (n, b, o) =>
if (Bm o 0) then
some (([] : LX), o)
else
(Acl a f n b).bind fun (y, g, p) =>
if (Bm p 0) then
some (([] : LX), p)
else
if (Nc (Ao b g) 8) then
some (([] : LX), 12)
else
(Acs n b g (Ao b g)).bind fun (aa, ab) =>
if ((Bm ab 0) || (Bm aa 0)) then
some (([] : LX), 12)
else
(Tk a h u y).bind fun (ac, ad) =>
some (ac, ad)
abbrev Cf := Option (LB × Int)
def Avl (g : LB) : Cf :=
some (g, 0)
def Anm := Avl
def Anr (bk16 : Int → LB → Cf) (b : Int) (a : LX) (f : Int) (h : LB) : Cf :=
bk16 (Ae f 1) h
def Afv bk16 := Anr bk16
def Zm (j28 : Int → LB → Cf) (bk26 : Int → LB → Cf) (b : Int) (a : LX) (k : Int32) (f m : Int) (h : LB) : Cf :=
if (Cj m (Bq b 8)) then
(Oz (Nc (Bb 8 m) 0)).bind fun _ =>
(Fz h ([(Ad (Cd k (GI.toZ (Bb 8 m)).toNat) : UInt8)] : LB)).bind fun p =>
bk26 (Ae m 1) p
else
j28 f h
def Hq (bk16 : Int → LB → Cf) (b : Int) (a : LX) (k : Int32) (f : Int) : Nat → Int → LB → Cf
| 0, _, _ => none
| q + 1, m, h => Zm (Afv bk16 b a) (Hq bk16 b a k f q) b a k f m h
def Agh bk16 b a k f := Hq bk16 b a k f Ay
def Af6 (j26 : Int32 → Int → Int → LB → Cf) (b : Int) (a : LX) (f : Int) (g : LB) (k : Int32) : Cf :=
j26 k f 0 g
def Js bk16 b a := Af6 (Agh bk16 b a) b a
def Zq (j25 : Int → LB → Int32 → Cf) (j30 : LB → Cf) (b : Int) (a : LX) (f : Int) (g : LB) : Cf :=
if (Cj f (Ac a)) then
(Aj a f).bind fun n =>
if (geq b 8) then
j25 f g (Ae n 128)
else
j25 f g n
else
j30 g
def Ei (b : Int) (a : LX) : Nat → Int → LB → Cf
| 0, _, _ => none
| q + 1, f, g => Zq (Js (Ei b a q) b a) Anm b a f g
def Anq b a := Ei b a Ay
def Ai2 (j16 : Int → LX → Int → LB → Cf) (b : Int) (a : LX) : Cf :=
(Aa3 b a).bind fun o =>
if (Bm o 0) then
some (([] : LB), o)
else
j16 b a 0 ([] : LB)
def Afu := Ai2 Anq
def Za : Option Int :=
some (-1 : Int)
def Ku := Za
def Cw (j6 : Option Int) (bk4 : Int → Option Int) (a : LI) (b f : Int) : Option Int :=
if (Cj f (Ac a)) then
(Aj a f).bind fun g =>
if (geq b g) then
some f
else
bk4 (Ae f 1)
else
j6
def Bf (a : LI) (b : Int) : Nat → Int → Option Int
| 0, _ => none
| q + 1, f => Cw Ku (Bf a b q) a b f
def Fw a b := Bf a b Ay
def Ft (j4 : LI → Int → Int → Option Int) (a : LI) (b : Int) : Option Int :=
j4 a b 0
def Gy := Ft Fw
def Fu (a : LI) (b : Int) : Option Bool :=
(Gy a b).bind fun f =>
some (Nc f 0)
def Oc (a : Int) : Option Bool :=
(Fu ([(4 : Int), (12 : Int), (16 : Int), (22 : Int), (24 : Int), (26 : Int), (38 : Int)] : LI) a).bind fun b =>
some b
def Ajd (bi : Bool) : Option Int :=
if (!bi) then
some 8
else
some 0
def Bc := Ajd
def Acr (j22 : Bool → Option Int) : Option Int :=
j22 ((true == true) && ((geq (0 : Int) (0 : Int)) && true))
def Uz := Acr Bc
def Aca (j22 : Bool → Option Int) (bj : Bool) (bk : Int) : Option Int :=
j22 ((bj == true) && ((geq bk 0) && true))
def Cv := Aca Bc
def Ab0 (j13 : Bool → Int → Option Int) (g ak : LB) (ae af aa ag ab b : Int) (m : Bool) (n : Int) (f : LI) (h : LB) : Option Int :=
(Ws ae af aa ag ab g).bind fun dm =>
(Aq dm).bind fun (dn, am) =>
j13 dn am
def Vq := Ab0 Cv
def Acy (j22 : Bool → Option Int) (bl : Bool) (bm : Int) : Option Int :=
j22 ((bl == true) && ((geq bm 0) && true))
def Ha := Acy Bc
def Ach (j25 : Bool → Int → Option Int) (g a : LB) (k p o u v b : Int) (m : Bool) (n : Int) (f : LI) (h : LB) (bg : Int) : Option Int :=
(Eh k p o u v).bind fun (dp, bh) =>
if (Bm bh 0) then
(Aq bh).bind fun (an, bn) =>
j25 an bn
else
(Br a bg (Ac a)).bind fun dq =>
(Ana dq (Ac dp)).bind fun (dr, aa) =>
if (geq aa 24) then
j25 true 0
else
if (Bm aa 0) then
(Aq aa).bind fun (ds, ab) =>
j25 ds ab
else
(Br a (Ae (Ae bg (Bb 4 (Ac dr))) 4) (Ac a)).bind fun fc =>
j25 false 0
def Gv := Ach Ha
def Ab7 (j25 : Bool → Int → Option Int) (j24 : LB → LB → Int → Int → Int → Int → Int → Int → Bool → Int → LI → LB → Int → Option Int) (bd : Bool) (bc : Int) (g a : LB) (k p o u v b : Int) (m : Bool) (n : Int) (f : LI) (h : LB) : Option Int :=
if (Bm bc 0) then
(Aq bc).bind fun (dt, bh) =>
j25 dt bh
else
if (!bd) then
(Aq 26).bind fun (an, bn) =>
j25 an bn
else
j24 g a k p o u v b m n f h 8
def Abl := Ab7 Ha Gv
def Abm (j15 : Bool → Int → LB → LB → Int → Int → Int → Int → Int → Int → Bool → Int → LI → LB → Option Int) (g a : LB) (k p o u v b : Int) (m : Bool) (n : Int) (f : LI) (h : LB) : Option Int :=
(Br a 0 8).bind fun du =>
(Ag2 du g).bind fun (bd, bc) =>
j15 bd bc g a k p o u v b m n f h
def Vj := Abm Abl
def Aci (j22 : Bool → Option Int) (bp : Bool) (bq : Int) : Option Int :=
j22 ((bp == true) && ((geq bq 0) && true))
def Fa := Aci Bc
def Vu (j28 : Bool → Int → Option Int) (w ah : Int) (g a : LB) (k p o u v b : Int) (m : Bool) (n : Int) (ao : LX) (f : LI) (h : LB) : Option Int :=
if (Bm ah 0) then
(Aq ah).bind fun (br, bs) =>
j28 br bs
else
(Afu o ao).bind fun (bt, be) =>
if (Bm be 0) then
(Aq be).bind fun (bu, bv) =>
j28 bu bv
else
(Fz h bt).bind fun dv =>
(
(Br a w (Ac a)).bind fun dw =>
j28 false 0)
def Acz := Vu Fa
def Ab4 (j27 : Int → Int → LB → LB → Int → Int → Int → Int → Int → Int → Bool → Int → LX → LI → LB → Option Int) (w : Int) (g a : LB) (k p o u v b : Int) (m : Bool) (n : Int) (ap : LX) (ad f : LI) (h : LB) : Option Int :=
(Aj ad b).bind fun _ =>
(Br a 0 w).bind fun dx =>
(Aj ad b).bind fun dy =>
(Akj k p o u v).bind fun (dz, bf) =>
(Ace dz bf ap dy dx).bind fun (ao, ah) =>
j27 w ah g a k p o u v b m n ao f h
def Vb := Ab4 Acz
def Xr (j13 : Bool → Int → Option Int) (j12 : LB → LB → Int → Int → Int → Int → Int → Int → Bool → Int → LI → LB → Option Int) (j25 : Bool → Int → Option Int) (j23 : LB → LB → Int → Int → Int → Int → Int → Int → Bool → Int → LI → LB → Option Int) (j24 : LB → LB → Int → Int → Int → Int → Int → Int → Bool → Int → LI → LB → Int → Option Int) (j28 : Bool → Int → Option Int) (j26 : Int → LB → LB → Int → Int → Int → Int → Int → Int → Bool → Int → LX → LI → LI → LB → Option Int) (j22 : Bool → Option Int) (j21 : Option Int) (aq ar : LB) (au av aw ax ay : Int) (az : LI) (ai : Int) (aj : LB) (ac : Bool) (y : Int) : Option Int :=
if (Cu (Ac aq) 64) then
some 8
else
if ((geq y 0) && (!ac)) then
(Aco aq ar au av aw ax ay az ai aj ac y).bind fun (g, a, k, p, o, u, v, f, b, h, m, n) =>
(Xl aq ar au av aw ax ay az ai aj ac y).bind fun bw =>
if bw then
if (geq k 0) then
(Rf a).bind fun (al, ba) =>
if (geq ba 24) then
j13 true 0
else
if (Bm ba 0) then
(Aq ba).bind fun (bx, bz) =>
j13 bx bz
else
(Br a al (Ac a)).bind fun da =>
(Xn da).bind fun an =>
if an then
j13 true 0
else
(Br a al (Ac a)).bind fun db =>
(Aau db).bind fun (ae, af, aa, ag, ab, bb) =>
if (geq bb 24) then
j13 true 0
else
if (Bm bb 0) then
(Aq bb).bind fun (dc, dd) =>
j13 dc dd
else
(
(Br a (Ae al 22) (Ac a)).bind fun ak =>
(
j12 g ak ae af aa ag ab b m n f h))
else
if (geq (Ac f) 0) then
if (geq k 2) then
if (Cj (Ac a) 8) then
j25 true 0
else
j23 g a k p o u v b m n f h
else
j24 g a k p o u v b m n f h 0
else
if (Cj b (Ac f)) then
(Aj f b).bind fun _ =>
(Aj f b).bind fun w =>
if (Cj (Ac a) w) then
j28 true 0
else
(Ahg g).bind fun (ap, am) =>
if (Bm am 0) then
(Aq am).bind fun (de, df) =>
j28 de df
else
(Eh k p o u v).bind fun (ad, dg) =>
if ((Bm dg 0) || (Nc b (Ac ad))) then
(Aq 8).bind fun (dh, di) =>
j28 dh di
else
j26 w g a k p o u v b m n ap ad f h
else
if (Cu (Ac a) 4000) then
(Aq 38).bind fun (dj, bf) =>
j22 ((dj == true) && ((geq bf 0) && true))
else
j21
else
j22 false
else
if ((geq (Ac ar) 0) && (geq (Ac az) 0)) then
if ((((geq au 0) && ((geq av 0) && ((geq aw 0) && ((geq ax 0) && ((geq ay 0) && true))))) && (geq ai 0)) && (gle (Ac aj) 12000)) then
if (geq y 0) then
j22 true
else
if (!ac) then
(Oc y).bind fun dk =>
j22 dk
else
j22 false
else
j22 false
else
if ((false && (geq ai 0)) && (gle (Ac aj) 12000)) then
if (geq y 0) then
j22 true
else
if (!ac) then
(Oc y).bind fun dl =>
j22 dl
else
j22 false
else
j22 false
def Aeu := Xr Cv Vq Ha Vj Gv Fa Vb Bc Uz
def Ah2 (g a : LB) (h k m n o : Int) (b : LI) (p : Int) (u : LB) (v : Bool) (w : Int) : Option (Int × Int) :=
(Aeu g a h k m n o b p u v w).bind fun f =>
if (Bm f 0) then
some (0, f)
else
some ((Ae (Ac a) (Bb 8 (Ac b))), 0)
def Ew (f g b a h : Int) : Option Bool :=
if ((((geq f 1) || (geq f 2)) && (Nc g 1)) && (gle g 6)) then
some ((((((geq b 8) || (geq b 16)) || (geq b 24)) && (Nc a 1)) && (gle a 1048576)) && (Nc h 1))
else
some (((false && (Nc a 1)) && (gle a 1048576)) && (Nc h 1))
def Nd (a : Int) : Option Int :=
some (An1 1 (Bq (Bb 256 a) 245))
def Lo (a : LI) : Option (LI) :=
some a
def Hx := Lo
def Fk (j6 : LI → Option (LI)) (bk4 : Int → LI → Option (LI)) (b f : Int) (a : LI) : Option (LI) :=
if (Cu f 0) then
(Nd b).bind fun g =>
(Fz a ([(Gs f g)] : LI)).bind fun h =>
(Nd b).bind fun k =>
bk4 (Ao f k) h
else
j6 a
def Cq (b : Int) : Nat → Int → LI → Option (LI)
| 0, _, _ => none
| q + 1, f, a => Fk Hx (Cq b q) b f a
def Um b := Cq b Ay
def Ul (j4 : Int → Int → LI → Option (LI)) (b m : Int) : Option (LI) :=
j4 b m ([] : LI)
def If := Ul Um
def Gu (h a k f b : Int) : Option Bool :=
(
(Oz (Bm a 0)).bind fun _ =>
(
if (Cu b (Bq 4000 a)) then
some true
else
(If f b).bind fun g =>
some (Cu (Ac g) 1000)))
def Ge (a b f g h : Int) : Option Int :=
(Ew a b f g h).bind fun k =>
if (!k) then
some 8
else
(Gu a b f g h).bind fun m =>
if m then
some 8
else
some 0
def Ih (a f g h k : Int) (b : LB) : Option Int :=
if ((b == ([] : LB)) != (geq a 1)) then
some 26
else
some 0
def Ab8 (b : Int) : Option Int :=
if (Cu b 100000) then
some 8
else
some 0
def Ro := Ab8
def Adw (bk6 : Int → Int → Option Int) (a : LI) (b f : Int) : Option Int :=
(Aj a f).bind fun g =>
bk6 (Ae b g) (Ae f 1)
def Ut bk6 := Adw bk6
def Md (j8 : Int → Int → Option Int) (j10 : Int → Option Int) (a : LI) (b f : Int) : Option Int :=
if (Cj f (Ac a)) then
(Aj a f).bind fun h =>
if (Cj h 5) then
some 8
else
(Aj a f).bind fun k =>
if (Cu k 100000) then
some 8
else
j8 b f
else
j10 b
def Fj (a : LI) : Nat → Int → Int → Option Int
| 0, _, _ => none
| q + 1, b, f => Md (Ut (Fj a q) a) Ro a b f
def Ux a := Fj a Ay
def Lr (j6 : LI → Int → Int → Option Int) (a : LI) : Option Int :=
if ((Cj (Ac a) 1) || (Cu (Ac a) 1000)) then
some 8
else
j6 a 0 0
def Ec := Lr Ux
def Cy (g h k a b : Int) : Option (LI) :=
(If a b).bind fun f =>
some f
def Ld (f a b g h : Int) : Option (Int × Int) :=
some (a, b)
def Afc (k a b f g h : Int) : Option Int :=
(Ld a b f g h).bind fun (p, u) =>
(Hk p u).bind fun v =>
some (Bb k v)
def Wk := Afc
def Nu (j6 : Int → Int → Int → Int → Int → Int → Option Int) (bk4 : Int → Int → Option Int) (n a b f g h : Int) (m : LI) (k o : Int) : Option Int :=
if (Cj o n) then
(Aj m o).bind fun _ =>
(Aj m o).bind fun w =>
bk4 (Ae k w) (Ae o 1)
else
j6 k a b f g h
def Gg (n a b f g h : Int) (m : LI) : Nat → Int → Int → Option Int
| 0, _, _ => none
| q + 1, k, o => Nu Wk (Gg n a b f g h m q) n a b f g h m k o
def Aft n a b f g h m := Gg n a b f g h m Ay
def Wj (j4 : Int → Int → Int → Int → Int → Int → LI → Int → Int → Option Int) (a b f g h n : Int) : Option Int :=
(Cy a b f g h).bind fun m =>
j4 n a b f g h m 0 0
def Nw := Wj Aft
abbrev Eb := Option (Int × Int)
def An0 (a : Int) : Eb :=
some (a, 0)
def Adh := An0
def Mb (j6 : Int → Eb) (bk4 : Int → Int → Eb) (b : LB) (a f : Int) : Eb :=
if (Cj f 4) then
(Aj b f).bind fun g =>
if (Nc g 128) then
some (0, 12)
else
(Aj b f).bind fun h =>
bk4 (Ae (Bb 128 a) (Ad h : Int)) (Ae f 1)
else
j6 a
def Fl (b : LB) : Nat → Int → Int → Eb
| 0, _, _ => none
| q + 1, a, f => Mb Adh (Fl b q) b a f
def Up b := Fl b Ay
def Uu (j4 : LB → Int → Int → Eb) (b : LB) : Eb :=
if (Bm (Ac b) 4) then
some (0, 2)
else
j4 b 0 0
def Td := Uu Up
abbrev Ex := Option (Int × Int)
def Afp (a : LB) (g : Int) : Ex :=
if (Cu g 4000) then
some (0, 4)
else
if (Cj (Ac a) g) then
some (0, 24)
else
(Aj a 5).bind fun h =>
if (geq h 16) then
(Br a (Ao g 10) g).bind fun k =>
(Br a 3 10).bind fun m =>
(Fz ([51, 68, 73] : LB) m).bind fun n =>
if (k != n) then
some (0, 12)
else
some (g, 0)
else
some (g, 0)
def My := Afp
def Wi (j6 : LB → Int → Ex) (a : LB) (b : Int) : Ex :=
(Aj a 5).bind fun o =>
if (geq o 16) then
j6 a (Ae (Ae 10 b) 10)
else
j6 a (Ae 10 b)
def Nb := Wi My
def Wr (j5 : LB → Int → Ex) (a : LB) : Ex :=
if (Cj (Ac a) 10) then
some (0, 24)
else
(Br a 6 10).bind fun p =>
(Td p).bind fun (b, f) =>
(Aj a 3).bind fun u =>
if (Cj u 2) then
if true then
if true then
if (true || (Bm f 0)) then
some (0, 12)
else
j5 a b
else
(Aj a 5).bind fun v =>
if (Bm v 0) then
(Aj a 5).bind fun w =>
if (Bm w 16) then
if (true || (Bm f 0)) then
some (0, 12)
else
j5 a b
else
(Aj a 3).bind fun y =>
if ((Bm y 4) || (Bm f 0)) then
some (0, 12)
else
j5 a b
else
if (false || (Bm f 0)) then
some (0, 12)
else
j5 a b
else
(Aj a 4).bind fun aa =>
if (Bm aa 0) then
if (true || (Bm f 0)) then
some (0, 12)
else
j5 a b
else
(Aj a 5).bind fun ab =>
if (Bm ab 0) then
(Aj a 5).bind fun ac =>
if (Bm ac 16) then
if (true || (Bm f 0)) then
some (0, 12)
else
j5 a b
else
(Aj a 3).bind fun ad =>
if ((Bm ad 4) || (Bm f 0)) then
some (0, 12)
else
j5 a b
else
if (false || (Bm f 0)) then
some (0, 12)
else
j5 a b
else
(Aj a 3).bind fun ae =>
if (Cu ae 4) then
if true then
if (true || (Bm f 0)) then
some (0, 12)
else
j5 a b
else
(Aj a 5).bind fun af =>
if (Bm af 0) then
(Aj a 5).bind fun ag =>
if (Bm ag 16) then
if (true || (Bm f 0)) then
some (0, 12)
else
j5 a b
else
(Aj a 3).bind fun ah =>
if ((Bm ah 4) || (Bm f 0)) then
some (0, 12)
else
j5 a b
else
if (false || (Bm f 0)) then
some (0, 12)
else
j5 a b
else
(Aj a 4).bind fun ai =>
if (Bm ai 0) then
if (true || (Bm f 0)) then
some (0, 12)
else
j5 a b
else
(Aj a 5).bind fun aj =>
if (Bm aj 0) then
(Aj a 5).bind fun ak =>
if (Bm ak 16) then
if (true || (Bm f 0)) then
some (0, 12)
else
j5 a b
else
(Aj a 3).bind fun al =>
if ((Bm al 4) || (Bm f 0)) then
some (0, 12)
else
j5 a b
else
if (false || (Bm f 0)) then
some (0, 12)
else
j5 a b
def Wb := Wr Nb
def Xf (j4 : LB → Ex) (a : LB) : Ex :=
if (Cj (Ac a) 3) then
some (0, 6)
else
(Br a 0 3).bind fun am =>
if (am != ([73, 68, 51] : LB)) then
some (0, 6)
else
j4 a
def Vv := Xf Wb
def Ait (a : UInt64) : Option UInt64 :=
some a
def Aaf := Ait
def Sa (j6 : UInt64 → Option UInt64) (bk4 : UInt64 → Int → Option UInt64) (b : LB) (a : UInt64) (f : Int) : Option UInt64 :=
if (Nc f 0) then
(Aj b f).bind fun g =>
bk4 (Ae (Bb 256 a) (Ad g : UInt64)) (Ao f 1)
else
j6 a
def Ij (b : LB) : Nat → UInt64 → Int → Option UInt64
| 0, _, _ => none
| q + 1, a, f => Sa Aaf (Ij b q) b a f
def Aak b := Ij b Ay
def Aag (j4 : LB → UInt64 → Int → Option UInt64) (b : LB) : Option UInt64 :=
j4 b 0 (Ao (Ac b) 1)
def Ah := Aag Aak
def Vc (b : LB) : Option (Int × Int × Bool) :=
(Br b 12 16).bind fun g =>
(Ah g).bind fun a =>
(Br b 16 20).bind fun h =>
(Ah h).bind fun f =>
if (((Cj a 32) || (Cu a 3032)) || (Cu f 1000)) then
some (0, 0, false)
else
some ((Ao (Ad a : Int) 32), (Ad f : Int), true)
def Aa7 (a : LB) : Option (LB) :=
some a
def Ql := Aa7
def Jb (j6 : LB → Option (LB)) (bk4 : UInt64 → Int → LB → Option (LB)) (b : Int) (f : UInt64) (g : Int) (a : LB) : Option (LB) :=
if (Cj g b) then
(Fz a ([(Ad (Abg f 256) : UInt8)] : LB)).bind fun h =>
bk4 (Bq f 256) (Ae g 1) h
else
j6 a
def Dx (b : Int) : Nat → UInt64 → Int → LB → Option (LB)
| 0, _, _, _ => none
| q + 1, f, g, a => Jb Ql (Dx b q) b f g a
def Qa b := Dx b Ay
def Qk (j4 : Int → UInt64 → Int → LB → Option (LB)) (k : UInt64) (b : Int) : Option (LB) :=
j4 b k 0 ([] : LB)
def Ck := Qk Qa
def Kz (a b : Int) (f : UInt64) : Option (LB) :=
(Ck 2000 4).bind fun g =>
(Fz ([(65 : UInt8), (80 : UInt8), (69 : UInt8), (84 : UInt8), (65 : UInt8), (71 : UInt8), (69 : UInt8), (88 : UInt8)] : LB) g).bind fun h =>
(Ck (Ad (Ae a 32) : UInt64) 4).bind fun k =>
(Fz h k).bind fun m =>
(Ck (Ad b : UInt64) 4).bind fun n =>
(Fz m n).bind fun o =>
(Ck f 4).bind fun p =>
(Fz o p).bind fun u =>
(mkI (8 : Int) (0 : UInt8)).bind fun v =>
(Fz u v).bind fun w =>
some w
def Abt (a b : Int) : Option (LB) :=
(Kz a b 2684354560).bind fun f =>
some f
def Ada (a b : Int) (f : Bool) : Option (LB) :=
if f then
(Kz a b 2147483648).bind fun g =>
some g
else
(Kz a b 0).bind fun h =>
some h
abbrev It := Option (Int × Int)
def Adj (a : LB) (b f : Int) : It :=
if (Cj (Ac a) (Ae 64 b)) then
some (0, 24)
else
(Br a (Ao (Ae 64 b) 32) (Ae 64 b)).bind fun g =>
(Ada b f true).bind fun h =>
if (g != h) then
some (0, 12)
else
some ((Ae 64 b), 0)
def Ug := Adj
def Uv (j4 : LB → Int → Int → It) (a : LB) : It :=
if (Cj (Ac a) 32) then
some (0, 24)
else
(Br a 0 32).bind fun k =>
(Vc k).bind fun (b, f, m) =>
if (!m) then
some (0, 12)
else
(Br a 0 32).bind fun n =>
(Abt b f).bind fun o =>
if (n != o) then
some (0, 12)
else
j4 a b f
def Uf := Uv Ug
def Tt (j3 : LB → It) (a : LB) : It :=
if (Cj (Ac a) 8) then
some (0, 6)
else
(Br a 0 8).bind fun p =>
if (p != ([65, 80, 69, 84, 65, 71, 69, 88] : LB)) then
some (0, 6)
else
j3 a
def Te := Tt Uf
abbrev Ef := Option (LI × Int)
def Adn (bk6 : Int → LI → Ef) (a : LB) (b : Int) (f : LI) (g h : Int) : Ef :=
if (geq h 6) then
some (f, 0)
else
if (Bm h 0) then
some (([] : LI), h)
else
if (Cu (Ae b g) 4000) then
some (([] : LI), 4)
else
(Fz f ([g] : LI)).bind fun m =>
bk6 (Ae b g) m
def Ib bk6 := Adn bk6
def Mg (j9 : Int → LI → Int → Int → Ef) (a : LB) (b : Int) (f : LI) : Ef :=
(Br a b (Ac a)).bind fun n =>
(Vv n).bind fun (o, k) =>
if (geq k 6) then
(Br a b (Ac a)).bind fun p =>
(Te p).bind fun (u, v) =>
j9 b f u v
else
j9 b f o k
def Ie (a : LB) : Nat → Int → LI → Ef
| 0, _, _ => none
| q + 1, b, f => Mg (Ib (Ie a q) a) a b f
def Ads a := Ie a Ay
def Adm (j6 : LB → Int → LI → Ef) (a : LB) : Ef :=
j6 a 0 ([] : LI)
def Aam := Adm Ads
abbrev Ed := Option (Int × Int)
def Adl (a b : Int) : Ed :=
some (b, a)
def Uc := Adl
def Ls (j6 : Int → Int → Ed) (bk4 : Int → Int → Ed) (a : Int) (f : LI) (b g : Int) : Ed :=
if (Cj g (Ac f)) then
(Aj f g).bind fun _ =>
(Aj f g).bind fun h =>
bk4 (Ae b h) (Ae g 1)
else
j6 a b
def Fo (a : Int) (f : LI) : Nat → Int → Int → Ed
| 0, _, _ => none
| q + 1, b, g => Ls Uc (Fo a f q) a f b g
def Ly a f := Fo a f Ay
def Us (j4 : Int → LI → Int → Int → Ed) (k : LB) : Ed :=
(Aam k).bind fun (f, a) =>
j4 a f 0 0
def Sg := Us Ly
def Jw (a b : LB) : Option Bool :=
if (Cj (Ac a) (Ac b)) then
(Br b 0 (Ac a)).bind fun f =>
some (a == f)
else
some false
def Afl (a : UInt32) (b : Bool) : Option UInt32 :=
if b then
some (Zi (Bq a 2) 3988292384)
else
some (Bq a 2)
def Wc := Afl
def Vw (j2 : UInt32 → Bool → Option UInt32) (a : UInt32) (f : Int) : Option UInt32 :=
if (geq f 1) then
j2 a (!(geq (Abg a 2) 1))
else
j2 a (geq (Abg a 2) 1)
def Vl := Vw Wc
def Afo (a : UInt32) : Option UInt32 :=
some a
def Wf := Afo
def Nm (j6 : UInt32 → Option UInt32) (bk4 : UInt32 → UInt8 → Int → Option UInt32) (a : UInt32) (b : UInt8) (f : Int) : Option UInt32 :=
if (Cj f 8) then
(Vl a (Ad (Abg b 2) : Int)).bind fun g =>
bk4 g (Bq b 2) (Ae f 1)
else
j6 a
def Gj : Nat → UInt32 → UInt8 → Int → Option UInt32
| 0, _, _, _ => none
| q + 1, a, b, f => Nm Wf (Gj q) a b f
def Afj := Gj Ay
def Afg (j4 : UInt32 → UInt8 → Int → Option UInt32) (h : UInt32) (k : UInt8) : Option UInt32 :=
j4 h k 0
def Acq := Afg Afj
def Abx (a : UInt32) : Option UInt32 :=
some a
def So := Abx
def Kl (j6 : UInt32 → Option UInt32) (bk4 : UInt32 → Int → Option UInt32) (b : LB) (a : UInt32) (f : Int) : Option UInt32 :=
if (Cj f (Ac b)) then
(Aj b f).bind fun g =>
(Acq a g).bind fun h =>
bk4 h (Ae f 1)
else
j6 a
def Eo (b : LB) : Nat → UInt32 → Int → Option UInt32
| 0, _, _ => none
| q + 1, a, f => Kl So (Eo b q) b a f
def Tc b := Eo b Ay
def Sd (j4 : LB → UInt32 → Int → Option UInt32) (k : UInt32) (b : LB) : Option UInt32 :=
j4 b k 0
def Yg := Sd Tc
def Mu (a : LB) : Option UInt32 :=
(Yg 4294967295 a).bind fun b =>
some (Ao 4294967295 b)
abbrev Ey := Option (Int × Int × Int × Int × Int × Int)
def Aez (k h g f b : UInt64) : Ey :=
(Ew (Ad k : Int) (Ad h : Int) (Ad g : Int) (Ad f : Int) (Ad b : Int)).bind fun v =>
if (!v) then
some (0, 0, 0, 0, 0, 12)
else
(Gu (Ad k : Int) (Ad h : Int) (Ad g : Int) (Ad f : Int) (Ad b : Int)).bind fun w =>
if w then
some (0, 0, 0, 0, 0, 4)
else
some ((Ad k : Int), (Ad h : Int), (Ad g : Int), (Ad f : Int), (Ad b : Int), 0)
def Wm := Aez
def Nn (j6 : UInt64 → UInt64 → UInt64 → UInt64 → UInt64 → Ey) (a : LB) : Ey :=
(Br a 4 6).bind fun u =>
(Br a 6 8).bind fun p =>
(Br a 8 10).bind fun o =>
(Br a 10 14).bind fun n =>
(Br a 14 18).bind fun m =>
(
(Ah u).bind fun k =>
(
(Ah p).bind fun h =>
(
(Ah o).bind fun g =>
(
(Ah n).bind fun f =>
(
(Ah m).bind fun b =>
(
j6 k h g f b))))))
def Xd := Nn Wm
def Wa (j5 : LB → Ey) (a : LB) : Ey :=
if (Cj (Ac a) 22) then
some (0, 0, 0, 0, 0, 24)
else
(Br a 18 22).bind fun y =>
(Br a 0 18).bind fun aa =>
(Ah y).bind fun ab =>
(Mu aa).bind fun ac =>
if (Bm ab (Ad ac : UInt64)) then
some (0, 0, 0, 0, 0, 22)
else
j5 a
def We := Wa Xd
def Xh (j4 : LB → Ey) (a : LB) : Ey :=
(Br a 0 (Gs 4 (Ac a))).bind fun ad =>
(Br ([84, 84, 65, 49] : LB) 0 (Gs 4 (Ac a))).bind fun ae =>
if (ad != ae) then
some (0, 0, 0, 0, 0, 12)
else
j4 a
def Vt := Xh We
abbrev Rj := Option (Int × Int × Int × Int × Int × Int × Int)
def Aav (b : Int) (a : LB) : Rj :=
(Vt a).bind fun (k, m, n, o, p, h) =>
if (geq h 24) then
some (0, 0, 0, 0, 0, 0, (-1 : Int))
else
some ((Ae b 22), k, m, n, o, p, h)
def Qq := Aav
def Qm (j2 : Int → LB → Rj) (f : LB) : Rj :=
(Sg f).bind fun (b, g) =>
if (geq g 24) then
some (0, 0, 0, 0, 0, 0, (-1 : Int))
else
if (Bm g 0) then
some (0, 0, 0, 0, 0, 0, g)
else
(Br f b (Ac f)).bind fun a =>
(Jw a ([73, 68, 51] : LB)).bind fun u =>
if u then
some (0, 0, 0, 0, 0, 0, (-1 : Int))
else
(Jw a ([65, 80, 69, 84, 65, 71, 69, 88] : LB)).bind fun v =>
if v then
some (0, 0, 0, 0, 0, 0, (-1 : Int))
else
j2 b a
def Iu := Qm Qq
def Afb (a : UInt64) (b : Bool) : Option UInt64 :=
if b then
some (Zi (Bb a 2) 4823603603198064275)
else
some (Bb a 2)
def Nv := Afb
def Vx (j2 : UInt64 → Bool → Option UInt64) (a : UInt64) (f : Int) : Option UInt64 :=
if (geq f 1) then
j2 a (!(Nc a 9223372036854775808))
else
j2 a (Nc a 9223372036854775808)
def Vi := Vx Nv
def Ae4 (a : UInt64) : Option UInt64 :=
some a
def Wp := Ae4
def Ng (j6 : UInt64 → Option UInt64) (bk4 : UInt64 → Int → Option UInt64) (b : UInt8) (a : UInt64) (f : Int) : Option UInt64 :=
if (Cu f 0) then
(Oz (Bm f 0)).bind fun _ =>
(Vi a (Il (Bq (Ad b : Int) f) 2)).bind fun g =>
bk4 g (Bq f 2)
else
j6 a
def Gi (b : UInt8) : Nat → UInt64 → Int → Option UInt64
| 0, _, _ => none
| q + 1, a, f => Ng Wp (Gi b q) b a f
def Ae2 b := Gi b Ay
def Afq (j4 : UInt8 → UInt64 → Int → Option UInt64) (h : UInt64) (b : UInt8) : Option UInt64 :=
j4 b h 128
def Acb := Afq Ae2
def Abi (a : UInt64) : Option UInt64 :=
some a
def Rg := Abi
def Kr (j6 : UInt64 → Option UInt64) (bk4 : UInt64 → Int → Option UInt64) (b : LB) (a : UInt64) (f : Int) : Option UInt64 :=
if (Cj f (Ac b)) then
(Aj b f).bind fun g =>
(Acb a g).bind fun h =>
bk4 h (Ae f 1)
else
j6 a
def Ep (b : LB) : Nat → UInt64 → Int → Option UInt64
| 0, _, _ => none
| q + 1, a, f => Kr Rg (Ep b q) b a f
def Acu b := Ep b Ay
def Ab9 (j4 : LB → UInt64 → Int → Option UInt64) (k : UInt64) (b : LB) : Option UInt64 :=
j4 b k 0
def Pu := Ab9 Acu
def Abw (a : LB) : Option UInt64 :=
(Pu 0 a).bind fun b =>
some b
def Nr (a : LB) : Option (LB) :=
(Abw a).bind fun b =>
(Ck b 8).bind fun f =>
some f
abbrev Cs := Option (LI × Int)
def Aew (f : LI) : Cs :=
(Ec f).bind fun h =>
if (Bm h 0) then
some (([] : LI), 12)
else
some (f, 0)
def Ni := Aew
def Nk (j8 : LI → Cs) (bk6 : Int → LI → Cs) (b : LB) (a g : Int) (f : LI) : Cs :=
if (Cj g a) then
(Br b (Bb 4 g) (Ae (Bb 4 g) 4)).bind fun k =>
(Ah k).bind fun m =>
(Fz f ([(Ad m : Int)] : LI)).bind fun n =>
bk6 (Ae g 1) n
else
j8 f
def Gm (b : LB) (a : Int) : Nat → Int → LI → Cs
| 0, _, _ => none
| q + 1, g, f => Nk Ni (Gm b a q) b a g f
def Wh b a := Gm b a Ay
def Wu (j6 : LB → Int → Int → LI → Cs) (b : LB) (a : Int) : Cs :=
j6 b a 0 ([] : LI)
def Wv := Wu Wh
def Vz (j5 : LB → Int → Cs) (b : LB) (a : Int) : Cs :=
if ((Cj a 1) || (Cu a 1000)) then
some (([] : LI), 2)
else
if (Cj (Ac b) (Ae (Bb 4 a) 4)) then
some (([] : LI), 24)
else
(Br b (Bb 4 a) (Ae (Bb 4 a) 4)).bind fun o =>
(Br b 0 (Bb 4 a)).bind fun p =>
(Ah o).bind fun u =>
(Mu p).bind fun v =>
if (Bm u (Ad v : UInt64)) then
some (([] : LI), 22)
else
j5 b a
def Vm := Vz Wv
abbrev Ia := Option (Int × LI × Int)
def Abo (b g : Int) (h : LI) : Ia :=
if (geq g 24) then
some (0, ([] : LI), (-1 : Int))
else
some ((Ae (Ae b (Bb 4 (Ac h))) 4), h, g)
def Ta := Abo
def Rk (j4 : Int → Int → LI → Ia) (a : LB) (f k m n o b : Int) : Ia :=
(Br a b (Ac a)).bind fun p =>
(Cy f k m n o).bind fun u =>
(Vm p (Ac u)).bind fun (h, g) =>
j4 b g h
def Hg := Rk Ta
def Rt (j3 : LB → Int → Int → Int → Int → Int → Int → Ia) (a : LB) (f k m n o : Int) (v : LB) : Ia :=
if (geq f 2) then
if (Cj (Ac a) 8) then
some (0, ([] : LI), (-1 : Int))
else
(Br a 0 8).bind fun w =>
(Nr v).bind fun y =>
if (w != y) then
some (0, ([] : LI), 26)
else
j3 a f k m n o 8
else
j3 a f k m n o 0
def Ph := Rt Hg
def Acj (b : UInt64) (a : LB) : Option (UInt64 × Int) :=
if (Cu (Ac a) 100000) then
some (0, 4)
else
(Pu b a).bind fun f =>
some (f, 0)
def Aec (a : LB) : Option (UInt64 × Int) :=
(Acj 0 a).bind fun (b, f) =>
some (b, f)
def Aqd (a : LX) : Option (LX) :=
some a
def Agj := Aqd
def Ai4 (bk6 : UInt64 → Int → LX → Option (LX)) (b : UInt64) (f : Int) (a : LX) (g : Int32) : Option (LX) :=
(Aj a f).bind fun _ =>
(Rb a f g).bind fun h =>
bk6 (Bq b 256) (Ae f 1) h
def Rs bk6 := Ai4 bk6
def Sf (j8 : UInt64 → Int → LX → Int32 → Option (LX)) (j10 : LX → Option (LX)) (b : UInt64) (f : Int) (a : LX) : Option (LX) :=
if (Cj f 8) then
if (Cu (Ad (Abg b 256) : Int32) 127) then
j8 b f a (Ao (Ad (Abg b 256) : Int32) 256)
else
j8 b f a (Ad (Abg b 256) : Int32)
else
j10 a
def Ga : Nat → UInt64 → Int → LX → Option (LX)
| 0, _, _, _ => none
| q + 1, b, f, a => Sf (Rs (Ga q)) Agj b f a
def Ai7 := Ga Ay
def Aif (j6 : UInt64 → Int → LX → Option (LX)) (k : UInt64) : Option (LX) :=
j6 k 0 (List.replicate 16 (0 : Int32))
def Afz := Aif Ai7
def Ve (a : LB) : Option (LX × Int) :=
if (Cu (Ac a) 64) then
some (([(0 : Int32), (0 : Int32), (0 : Int32), (0 : Int32), (0 : Int32), (0 : Int32), (0 : Int32), (0 : Int32), (0 : Int32), (0 : Int32), (0 : Int32), (0 : Int32), (0 : Int32), (0 : Int32), (0 : Int32), (0 : Int32)] : LX), 2)
else
(Aec a).bind fun (b, g) =>
(Afz b).bind fun f =>
some (f, 0)
def Im (a f b : Int) : Option Int :=
(Gc a f).bind fun g =>
if ((Bm g 0) || (Cj b 1)) then
some 2
else
(Oz (Bm a 0)).bind fun _ =>
if (Cu b (Bq 4000 a)) then
some 2
else
some 0
def Pn (b : LB) : Option (LB) :=
(Mu b).bind fun a =>
(Fz ([] : LB) b).bind fun f =>
(Fz f ([(Ad a : UInt8), (Ad (Cd a (GI.toZ (8 : UInt64)).toNat) : UInt8), (Ad (Cd a (GI.toZ (16 : UInt64)).toNat) : UInt8), (Ad (Cd a (GI.toZ (24 : UInt64)).toNat) : UInt8)] : LB)).bind fun g =>
some g
def Kb (a : LB) : Option Int :=
if (Cj (Ac a) 5) then
some 24
else
if (Cu (Ac a) 41254) then
some 4
else
(Br a 0 (Ao (Ac a) 4)).bind fun b =>
(Pn b).bind fun f =>
if (f != a) then
some 22
else
some 0
def Ii : Option (Int × Int × UInt64 × UInt64) :=
some (10, 10, 16384, 16384)
def An2 (a : UInt64) : Option UInt64 :=
some a
def Adi := An2
def Lp (j6 : UInt64 → Option UInt64) (bk4 : UInt64 → Int → Option UInt64) (b : Int) (a : UInt64) (f : Int) : Option UInt64 :=
if (Cj f b) then
bk4 (Bb a 2) (Ae f 1)
else
j6 a
def Ff (b : Int) : Nat → UInt64 → Int → Option UInt64
| 0, _, _ => none
| q + 1, a, f => Lp Adi (Ff b q) b a f
def Adq b := Ff b Ay
def Adu (j4 : Int → UInt64 → Int → Option UInt64) (b : Int) : Option UInt64 :=
j4 b 1 0
def Dd := Adu Adq
def Qw (a g : Int) (h k : UInt64) (b : UInt32) : Option Bool :=
(Dd a).bind fun f =>
some (Cj (Ad b : UInt64) f)
def Je (a g : Int) (h k : UInt64) (b : UInt32) : Option UInt32 :=
(Dd a).bind fun f =>
some (Ad (Ao (Ad b : UInt64) f) : UInt32)
abbrev Yz := Option (Int × UInt64)
def Afh (b : Int) (a f : UInt64) : Yz :=
if (Cj b 24) then
(Dd (Ae b 5)).bind fun g =>
if (Cu (Ao (Ae a f) (Bq a 16)) g) then
some ((Ae b 1), (Ao (Ae a f) (Bq a 16)))
else
some (b, (Ao (Ae a f) (Bq a 16)))
else
some (b, (Ao (Ae a f) (Bq a 16)))
def Nh := Afh
def Wl (j2 : Int → UInt64 → UInt64 → Yz) (b : Int) (a f : UInt64) : Yz :=
if (Cu b 0) then
(Dd (Ae b 4)).bind fun h =>
if (Cj (Ao (Ae a f) (Bq a 16)) h) then
some ((Ao b 1), (Ao (Ae a f) (Bq a 16)))
else
j2 b a f
else
j2 b a f
def Gz := Wl Nh
abbrev Tw := Option (Int × Int × UInt64 × UInt64)
def Acn (h : UInt32) (f a : Int) (g b : UInt64) (o : Int) (p : UInt64) : Tw :=
(Gz f g (Ad h : UInt64)).bind fun (aa, ab) =>
some (aa, o, ab, p)
def Ko := Acn
def Kj (j2 : UInt32 → Int → Int → UInt64 → UInt64 → Int → UInt64 → Tw) (f a : Int) (g b : UInt64) (h : UInt32) : Tw :=
(Qw f a g b h).bind fun u =>
if (!u) then
(
(
(Je f a g b h).bind fun k =>
(Gz a b (Ad k : UInt64)).bind fun (m, n) =>
j2 h f a g b m n))
else
j2 h f a g b a b
def Pb := Kj Ko
abbrev Dl := Option (Int × Int × UInt64 × UInt64)
def Amy (a b : Int) (f g : UInt64) : Dl :=
some (a, b, f, g)
def Abj := Amy
def Th (j6 : Int → Int → UInt64 → UInt64 → Dl) (bk4 : Int → Int → Int → UInt64 → UInt64 → Dl) (h : Int) (k : LU) (m a b : Int) (f g : UInt64) : Dl :=
if (Cj m (Ac k)) then
(Aj k m).bind fun n =>
(Pb a b f g n).bind fun (o, p, u, v) =>
bk4 (Ae m h) o p u v
else
j6 a b f g
def Gx (h : Int) (k : LU) : Nat → Int → Int → Int → UInt64 → UInt64 → Dl
| 0, _, _, _, _, _ => none
| q + 1, m, a, b, f, g => Th Abj (Gx h k q) h k m a b f g
def Acx h k := Gx h k Ay
def Ry (j4 : Int → LU → Int → Int → Int → UInt64 → UInt64 → Dl) (h : Int) (k : LU) : Dl :=
(Ii).bind fun (w, y, aa, ab) =>
(Oz (Bm h 0)).bind fun _ =>
j4 h k (Il (Ac k) h) w y aa ab
def Ke := Ry Acx
def Ahs (a : Int) : Option Int :=
some (Il a 2)
def Aab := Ahs
def Rv (j6 : Int → Option Int) (bk4 : Int → Int → Option Int) (b a f : Int) : Option Int :=
if (Cj f (Il b 8)) then
bk4 (Bq a 2) (Ae f 1)
else
j6 a
def Ig (b : Int) : Nat → Int → Int → Option Int
| 0, _, _ => none
| q + 1, a, f => Rv Aab (Ig b q) b a f
def Aac b := Ig b Ay
def Aae (j4 : Int → Int → Int → Option Int) (g : LB) (k b : Int) : Option Int :=
(Aj g (Bq b 8)).bind fun h =>
j4 b (Ad h : Int) 0
def Hr := Aae Aac
abbrev Da := Option (LB × Int)
def Agt (b g a : Int) (f : LB) : Da :=
(Aj f (Bq a 8)).bind fun _ =>
(Aj f (Bq a 8)).bind fun m =>
(Aj f (Bq a 8)).bind fun _ =>
(Rb f (Bq a 8) (Ae m (Ad (Bb b g) : UInt8))).bind fun n =>
some (n, (Ae a 1))
def Pa := Agt
def Po (j8 : Int → Int → Int → LB → Da) (bk6 : Int → Int → Da) (b a : Int) (f : LB) (g h : Int) : Da :=
if (Cj h (Il a 8)) then
bk6 (Bb g 2) (Ae h 1)
else
j8 b g a f
def Hi (b a : Int) (f : LB) : Nat → Int → Int → Da
| 0, _, _ => none
| q + 1, g, h => Po Pa (Hi b a f q) b a f g h
def Xz b a f := Hi b a f Ay
def Yy (j6 : Int → Int → LB → Int → Int → Da) (b a : Int) (f : LB) : Da :=
j6 b a f 1 0
def Pk := Yy Xz
def Yp (j5 : Int → Int → LB → Da) (k : LB) (a b : Int) : Da :=
if (geq (Il a 8) 0) then
(Fz k ([(0 : UInt8)] : LB)).bind fun o =>
j5 b a o
else
j5 b a k
def Qp := Yp Pk
abbrev Db := Option (LB × Int)
def Ald (a : Int) (b : LB) : Db :=
some (b, a)
def Aar := Ald
def Jm (j6 : Int → LB → Db) (bk4 : Int → Int → LB → Db) (f : Int) (g : LB) (h k a : Int) (b : LB) : Db :=
if (Cj k f) then
(Hr g h k).bind fun m =>
(Qp b a m).bind fun (n, o) =>
bk4 (Ae k 1) o n
else
j6 a b
def Ds (f : Int) (g : LB) (h : Int) : Nat → Int → Int → LB → Db
| 0, _, _, _ => none
| q + 1, k, a, b => Jm Aar (Ds f g h q) f g h k a b
def Aay f g h := Ds f g h Ay
def Aas (j4 : Int → LB → Int → Int → Int → LB → Db) (g : LB) (h p f : Int) : Db :=
j4 f g h p 0 ([] : LB)
def Xg := Aas Aay
def An8 (a : UInt64) : Option UInt64 :=
some a
def Adr := An8
def Lw (j6 : UInt64 → Option UInt64) (bk4 : UInt64 → Int → Option UInt64) (b : Int) (f : LB) (g : Int) (a : UInt64) (h : Int) : Option UInt64 :=
if (Nc h 0) then
(Hr f g (Ae b h)).bind fun k =>
bk4 (Ae (Bb 2 a) (Ad k : UInt64)) (Ao h 1)
else
j6 a
def Fp (b : Int) (f : LB) (g : Int) : Nat → UInt64 → Int → Option UInt64
| 0, _, _ => none
| q + 1, a, h => Lw Adr (Fp b f g q) b f g a h
def Tr b f g := Fp b f g Ay
def Uh (j4 : Int → LB → Int → UInt64 → Int → Option UInt64) (f : LB) (g b m : Int) : Option UInt64 :=
j4 b f g 0 (Ao m 1)
def Li := Uh Tr
abbrev Gd := Option (Int × Int)
def Agv (b a : Int) (g : LB) (f : Int) : Gd :=
if (geq a 48) then
some (a, (Ae b a))
else
if (Nc (Ae b a) f) then
some ((-1 : Int), 0)
else
some (a, (Ae (Ae b a) 1))
def Pd := Agv
def Pv (j6 : Int → Int → LB → Int → Gd) (bk4 : Int → Gd) (b : Int) (g : LB) (f a : Int) : Gd :=
if ((Cj (Ae b a) f) && (Cj a 48)) then
(Hr g f (Ae b a)).bind fun h =>
if (geq h 1) then
bk4 (Ae a 1)
else
j6 b a g f
else
j6 b a g f
def Hl (b : Int) (g : LB) (f : Int) : Nat → Int → Gd
| 0, _ => none
| q + 1, a => Pv Pd (Hl b g f q) b g f a
def Agk b g f := Hl b g f Ay
def Agm (j4 : Int → LB → Int → Int → Gd) (g : LB) (f b : Int) : Gd :=
j4 b g f 0
def Ad9 := Agm Agk
def Vg (b : UInt32) (f : Int) : Option Int :=
(Dd f).bind fun a =>
(Oz (Bm a 0)).bind fun _ =>
some (Ad (Gs 48 (Bq (Ad b : UInt64) a)) : Int)
abbrev Aad := Option (UInt32 × Int × Int)
def Yn (g a b : Int) (h : LB) (f k : Int) : Aad :=
if ((Cj a 0) || (Cj (Ao f b) k)) then
some (0, 0, 24)
else
(Li h f b k).bind fun m =>
if (Cj a 48) then
(Dd g).bind fun o =>
some ((Ad (Ae (Bb (Ad a : UInt64) o) m) : UInt32), (Ae b k), 0)
else
(Vg (Ad m : UInt32) g).bind fun p =>
if (Cj p a) then
some (0, 0, 12)
else
some ((Ad m : UInt32), (Ae b k), 0)
def Pp := Yn
def Ye (j2 : Int → Int → Int → LB → Int → Int → Aad) (h : LB) (f n g : Int) : Aad :=
if (Nc n f) then
some (0, 0, 24)
else
(Ad9 h f n).bind fun (a, b) =>
if (geq a 48) then
j2 g a b h f 32
else
j2 g a b h f g
def Xt := Ye Pp
def Xu (g : LB) (b a f n : Int) (v w : UInt64) : Option (UInt32 × Int × Int) :=
if (Nc a b) then
some (0, 0, 24)
else
(Hr g b a).bind fun o =>
if (geq o 0) then
if (Cj (Ao (Ao b a) 1) f) then
some (0, 0, 24)
else
(Li g b (Ae a 1) f).bind fun p =>
some ((Ad p : UInt32), (Ae (Ae a 1) f), 0)
else
(Xt g b (Ae a 1) n).bind fun (h, u, k) =>
if (Bm k 0) then
some (0, 0, k)
else
(Dd f).bind fun m =>
if (Cu (Ae (Ad h : UInt64) m) 4294967295) then
some (0, 0, 12)
else
some ((Ad (Ae (Ad h : UInt64) m) : UInt32), u, 0)
abbrev Be := Option (LU × Int)
def An3 (b : LU) : Be :=
some (b, 0)
def Ad1 := An3
def Ln (j18 : LU → Be) (bk16 : Int → Be) (a : LB) (b : LU) (m : Int) : Be :=
if (Cj m (Bb 8 (Ac a))) then
(Hr a (Bb 8 (Ac a)) m).bind fun n =>
if (Bm n 0) then
some (b, 12)
else
bk16 (Ae m 1)
else
j18 b
def Fe (a : LB) (b : LU) : Nat → Int → Be
| 0, _ => none
| q + 1, m => Ln Ad1 (Fe a b q) a b m
def Ua a b := Fe a b Ay
def Tx (j16 : LB → LU → Int → Be) (f : Int) (a : LB) (b : LU) : Be :=
if (Cu (Ao (Bb 8 (Ac a)) f) 7) then
some (b, 12)
else
j16 a b f
def Mc := Tx Ua
def Adk (bk10 : Int → Int → LU → Be) (g h : Int) (a : LB) (f k : Int) (b : LU) (o p : Int) (u v : UInt64) : Be :=
(Xg a (Bb 8 (Ac a)) f (Gs (Ae f 81) (Bb 8 (Ac a)))).bind fun (y, aa) =>
(Xu y aa 0 o p u v).bind fun (ab, ac, w) =>
if (Bm w 0) then
some (b, w)
else
(Fz b ([ab] : LU)).bind fun ad =>
bk10 (Ae f ac) (Ae k 1) ad
def Fg bk10 := Adk bk10
def Uy (j13 : Int → Int → LU → Int → Int → UInt64 → UInt64 → Be) (j15 : Int → LB → LU → Be) (g h : Int) (a : LB) (f k : Int) (b : LU) : Be :=
if (Cj k (Bb h g)) then
(Ii).bind fun (n, ae, af, ag) =>
if (Nc k g) then
(Ke g b).bind fun (ah, ai, aj, ak) =>
j13 f k b ah ai aj ak
else
j13 f k b n ae af ag
else
j15 f a b
def Cp (g h : Int) (a : LB) : Nat → Int → Int → LU → Be
| 0, _, _, _ => none
| q + 1, f, k, b => Uy (Fg (Cp g h a q) g h a) Mc g h a f k b
def Adt g h a := Cp g h a Ay
def Wq (j10 : Int → Int → LB → Int → Int → LU → Be) (g h : Int) (a : LB) : Be :=
j10 g h a 0 0 ([] : LU)
def Vs := Wq Adt
def Ail (a : Int) : Option (Int × Int) :=
if (geq a 8) then
some (4, 0)
else
if ((geq a 16) || (geq a 24)) then
some (5, 0)
else
some (0, 2)
def Alc (a : Int) (b : LX) : Option (Int × LX × LX × Int) :=
(Ail a).bind fun (g, f) =>
if (Bm f 0) then
some (0, (List.replicate 16 (0 : Int32)), (List.replicate 16 (0 : Int32)), 2)
else
if (geq a 16) then
some (9, b, (List.replicate 16 (0 : Int32)), 0)
else
some (10, b, (List.replicate 16 (0 : Int32)), 0)
def Ad6 (a : Int) (b : LX) : Option (Int × Int32 × Int × LX × LX × Int) :=
(Alc a b).bind fun (f, g, h, k) =>
if (Bm k 0) then
some (0, 0, 0, (List.replicate 16 (0 : Int32)), (List.replicate 16 (0 : Int32)), 2)
else
some (a, 0, f, g, h, 0)
def Jd (a : UInt32) : Option Int32 :=
if (geq (Abg a 2) 0) then
some (Ad (Bq a 2) : Int32)
else
some (Ad (Bq (Ate (Ae (Ad a : Int) 1)) 2) : Int32)
def Bp (a : Int) : Option Int32 :=
some (Ad (Ad (Ad a : UInt64) : UInt32) : Int32)
def Agq (a : Int) : Option Int32 :=
some (Ad a : Int32)
def Yw := Agq
def Pq (j6 : Int → Option Int32) (bk4 : Int → Int → Option Int32) (h : Int) (f g : LX) (a b : Int) : Option Int32 :=
if (Cj b 16) then
(Aj f b).bind fun _ =>
(Aj g b).bind fun _ =>
(Aj f b).bind fun k =>
(Aj g b).bind fun m =>
(Bp (Bb (Ad k : Int) (Ad m : Int))).bind fun n =>
(Bp (Ae a (Ad n : Int))).bind fun o =>
bk4 (Ad o : Int) (Ae b 1)
else
j6 a
def Hp (h : Int) (f g : LX) : Nat → Int → Int → Option Int32
| 0, _, _ => none
| q + 1, a, b => Pq Yw (Hp h f g q) h f g a b
def Agy h f g := Hp h f g Ay
def Agx (j4 : Int → LX → LX → Int → Int → Option Int32) (h : Int) (f g : LX) : Option Int32 :=
j4 h f g 0 0
def Aee := Agx Agy
def Afi (b : Int) (f g : LX) (a : Int) : Option Int32 :=
(Aee b f g).bind fun k =>
(Bp (Ae (Ad k : Int) (Bq a 2))).bind fun h =>
(Oz (Bm a 0)).bind fun _ =>
(Oz (Bm a 0)).bind fun _ =>
if (Cj (Il (Ad h : Int) a) 0) then
some (Ad (Ao (Bq (Ad h : Int) a) 1) : Int32)
else
some (Ad (Bq (Ad h : Int) a) : Int32)
def Na := Afi
def Wd (j2 : Int → LX → LX → Int → Option Int32) (b : Int) (f g : LX) : Option Int32 :=
if (geq b 9) then
j2 b f g 512
else
j2 b f g 1024
def Vp := Wd Na
def Vk (a : Int) : Option Int32 :=
if (geq a 0) then
some 4
else
if (gle a 3) then
some 2
else
some 1
def Nl (a : Int32) : Option Int32 :=
if (Cj a 0) then
some (-1 : Int32)
else
if (Cu a 0) then
some 1
else
some 0
abbrev Dc := Option (Int × LX × LX)
def Ak9 (g : Int) (b a : LX) : Dc :=
some (g, b, a)
def Aa4 := Ak9
def Jp (j6 : Int → LX → LX → Dc) (bk4 : Int → LX → Dc) (h : Int32) (g : Int) (a : LX) (f : Int) (b : LX) : Dc :=
if (Cj f 16) then
(Aj b f).bind fun _ =>
(Aj a f).bind fun _ =>
(Aj b f).bind fun k =>
(Aj a f).bind fun m =>
(Vk f).bind fun n =>
(Nl m).bind fun o =>
(Nl h).bind fun p =>
(Aj b f).bind fun _ =>
(Rb b f (Ae k (Bb (Bb n o) p))).bind fun u =>
bk4 (Ae f 1) u
else
j6 g b a
def Dt (h : Int32) (g : Int) (a : LX) : Nat → Int → LX → Dc
| 0, _, _ => none
| q + 1, f, b => Jp Aa4 (Dt h g a q) h g a f b
def Aba h g a := Dt h g a Ay
def Aaw (j4 : Int32 → Int → LX → Int → LX → Dc) (g : Int) (v a : LX) (h : Int32) : Dc :=
j4 h g a 0 v
def Ww := Aaw Aba
abbrev Dk := Option (Int × LX × LX)
def Ab3 (b : Int32) (f : Int) (g a : LX) : Dk :=
(Aj a 0).bind fun _ =>
(Rb a 0 b).bind fun k =>
some (f, g, k)
def Rl := Ab3
def Kt (j6 : Int32 → Int → LX → LX → Dk) (bk4 : Int → LX → Dk) (b : Int32) (f : Int) (g : LX) (h : Int) (a : LX) : Dk :=
if (Cu h 0) then
(Aj a (Ao h 1)).bind fun _ =>
(Aj a (Ao h 1)).bind fun m =>
(Aj a h).bind fun _ =>
(Rb a h m).bind fun n =>
bk4 (Ao h 1) n
else
j6 b f g a
def En (b : Int32) (f : Int) (g : LX) : Nat → Int → LX → Dk
| 0, _, _ => none
| q + 1, h, a => Kt Rl (En b f g q) b f g h a
def Abn b f g := En b f g Ay
def Ac4 (j4 : Int32 → Int → LX → Int → LX → Dk) (f : Int) (g o : LX) (b : Int32) : Dk :=
j4 b f g 15 o
def Yl := Ac4 Abn
def Ns (a : Int) (b f : LX) (g : Int32) : Option (Int32 × Int × LX × LX) :=
(Vp a b f).bind fun k =>
(Bp (Ae (Ad g : Int) (Ad k : Int))).bind fun h =>
(Ww a b f g).bind fun (m, n, o) =>
(Yl m n o h).bind fun (p, u, v) =>
some (h, p, u, v)
def Ac8 (b : Int32) (a : Int) : Option Int32 :=
(Oz (Bm a 0)).bind fun _ =>
(Oz (Bm a 0)).bind fun _ =>
if (Cj (Il (Bb (Ao a 1) (Ad b : Int)) a) 0) then
some (Ad (Ao (Bq (Bb (Ao a 1) (Ad b : Int)) a) 1) : Int32)
else
some (Ad (Bq (Bb (Ao a 1) (Ad b : Int)) a) : Int32)
def Kk := Ac8
def Rn (j2 : Int32 → Int → Option Int32) (f : Int) (b : Int32) : Option Int32 :=
if (geq f 5) then
j2 b 32
else
j2 b 16
def Kf := Rn Kk
def Ps (b : Int) (a : Int32) (h : Int) (k m : LX) : Option Int :=
if (geq b 8) then
(Kf 4 a).bind fun f =>
some (Ad f : Int)
else
(Kf 5 a).bind fun g =>
some (Ad g : Int)
def Gl (a : Int) (k : Int32) (b : Int) (f g : LX) (m : Int32) : Option (Int32 × Int × Int32 × Int × LX × LX) :=
(Ns b f g m).bind fun (n, o, p, u) =>
(Ps a k b f g).bind fun v =>
(Bp (Ae (Ad n : Int) v)).bind fun h =>
some (h, a, h, o, p, u)
def Lj (a : Int) (b : LX) : Option Int :=
if ((Cj a 1) || (Cu a 6)) then
some 2
else
if (Cu (Ac b) 4000) then
some 4
else
(Oz (Bm a 0)).bind fun _ =>
if (Cu (Il (Ac b) a) 0) then
some 2
else
some 0
def Ak2 (b : LX) : Option (LX) :=
some b
def Aax := Ak2
def Jq (j8 : LX → Option (LX)) (bk6 : Int → LX → Option (LX)) (a : LX) (f : Int) (b : LX) : Option (LX) :=
if (Nc f 0) then
(Aj b (Ae f 1)).bind fun _ =>
(Aj a f).bind fun m =>
(Aj b (Ae f 1)).bind fun n =>
(Bp (Ao (Ad n : Int) (Ad m : Int))).bind fun o =>
(Aj b f).bind fun _ =>
(Rb b f o).bind fun p =>
bk6 (Ao f 1) p
else
j8 b
def Dy (a : LX) : Nat → Int → LX → Option (LX)
| 0, _, _ => none
| q + 1, f, b => Jq Aax (Dy a q) a f b
def Aa8 a := Dy a Ay
def Qc (j6 : LX → Int → LX → Option (LX)) (a g : LX) : Option (LX) :=
j6 a (Ao (Ac a) 2) g
def Jk := Qc Aa8
def Qu (j5 : LX → LX → Option (LX)) (a : LX) : Option (LX) :=
(mkI (Ac a) (0 : Int32)).bind fun k =>
(Oz (geq (Ac a) (Ac a))).bind fun _ =>
(Aj a (Ao (Ac a) 1)).bind fun u =>
(Aj k (Ao (Ac a) 1)).bind fun _ =>
(Rb k (Ao (Ac a) 1) u).bind fun h =>
if (Cu (Ac a) 1) then
(Aj a (Ao (Ac a) 1)).bind fun v =>
(Aj a (Ao (Ac a) 2)).bind fun w =>
(Bp (Ae (Ad v : Int) (Bq (Ad w : Int) 2))).bind fun y =>
(Aj h (Ao (Ac a) 1)).bind fun _ =>
(Rb h (Ao (Ac a) 1) y).bind fun aa =>
j5 a aa
else
j5 a h
def Nj := Qu Jk
abbrev Ev := Option (LX × Int)
def Apl (f : LX) : Ev :=
some (f, 0)
def Ae0 := Apl
def Wg (j6 : LX → Ev) (bk4 : Int → LX → Ev) (a : Int) (b : LX) (g : Int) (f : LX) : Ev :=
if (Cj g (Ac b)) then
(Br b g (Ae g a)).bind fun h =>
(Nj h).bind fun k =>
(Fz f k).bind fun m =>
bk4 (Ae g a) m
else
j6 f
def Ix (a : Int) (b : LX) : Nat → Int → LX → Ev
| 0, _, _ => none
| q + 1, g, f => Wg Ae0 (Ix a b q) a b g f
def Afd a b := Ix a b Ay
def Xe (j4 : Int → LX → Int → LX → Ev) (a : Int) (b : LX) : Ev :=
(Lj a b).bind fun n =>
if (Bm n 0) then
(Lj a b).bind fun o =>
some (([] : LX), o)
else
j4 a b 0 ([] : LX)
def Vn := Xe Afd
def Aa1 (a f : Int) (w : LX) : Option (LX) :=
(Vn a w).bind fun (aj, ai) =>
some aj
def Jh := Aa1
def Abe (bk18 : Int → LX → Option (LX)) (b : LU) (a f : Int) (g : LX) (h : Int) (m : LX) : Option (LX) :=
bk18 (Ae h 1) m
def Ra bk18 := Abe bk18
def Aa5 (bk26 : Int → LX → Int → Int32 → Int → LX → LX → Option (LX)) (b : LU) (h a f : Int) (g : LX) (k : Int) (af : LX) (y : Int) (aa : Int32) (ab : Int) (ac ad : LX) : Option (LX) :=
bk26 (Ae k a) af y aa ab ac ad
def Pz bk26 := Aa5 bk26
def Qs (j30 : Int → LX → Int → Int32 → Int → LX → LX → Option (LX)) (b : LU) (h a f : Int) (g : LX) (k : Int) (ae : Int32) (m : LX) (n : Int) (o : Int32) (p : Int) (u v : LX) (y : Int) (aa : Int32) (ab : Int) (ac ad : LX) : Option (LX) :=
(Aj m k).bind fun _ =>
(Rb m k ae).bind fun af =>
j30 k af y aa ab ac ad
def Pw bk26 b h a f g := Qs (Pz bk26 b h a f g) b h a f g
def Jj (j29 : Int → Int32 → LX → Int → Int32 → Int → LX → LX → Int → Int32 → Int → LX → LX → Option (LX)) (j32 : Int → LX → Option (LX)) (b : LU) (a f : Int) (g : LX) (h k : Int) (m : LX) (n : Int) (o : Int32) (p : Int) (u v : LX) : Option (LX) :=
if (Cj k (Ac b)) then
(Aj b k).bind fun ah =>
(
(Jd ah).bind fun ag =>
(
(Gl n o p u v ag).bind fun (ae, y, aa, ab, ac, ad) =>
j29 k ae m n o p u v y aa ab ac ad))
else
j32 h m
def Gh (bk18 : Int → LX → Option (LX)) (b : LU) (a f : Int) (g : LX) (h : Int) : Nat → Int → LX → Int → Int32 → Int → LX → LX → Option (LX)
| 0, _, _, _, _, _, _, _ => none
| q + 1, k, m, n, o, p, u, v => Jj (Pw (Gh bk18 b a f g h q) b h a f g) (Ra bk18 b a f g) b a f g h k m n o p u v
def Qh bk18 b a f g h := Gh bk18 b a f g h Ay
def Jl (j26 : Int → Int → LX → Int → Int32 → Int → LX → LX → Option (LX)) (j34 : Int → Int → LX → Option (LX)) (b : LU) (a f : Int) (g : LX) (h : Int) (w : LX) : Option (LX) :=
if (Cj h a) then
(Ad6 f g).bind fun (ak, ai, al, am, an, aq) =>
j26 h h w ak ai al am an
else
j34 a f w
def Ct (b : LU) (a f : Int) (g : LX) : Nat → Int → LX → Option (LX)
| 0, _, _ => none
| q + 1, h, w => Jl (Qh (Ct b a f g q) b a f g) Jh b a f g h w
def Qy b a f g := Ct b a f g Ay
def Sp (j18 : LU → Int → Int → LX → Int → LX → Option (LX)) (a f : Int) (g : LX) (b : LU) : Option (LX) :=
(mkI (Ac b) (0 : Int32)).bind fun ao =>
(Oz (geq (Ac b) (Ac b))).bind fun _ =>
j18 b a f g 0 ao
def Hm := Sp Qy
def Ka (g f : Int) (a : LX) : Option (LX × Int) :=
(Au f a).bind fun b =>
if (Bm b 0) then
some (([] : LX), b)
else
some (a, 0)
abbrev Uq := Option (LX × Int)
def De (f a b : Int) (g : LX) (h : LU) : Uq :=
if (Bm f 0) then
some (([] : LX), f)
else
(
(
(Hm a b g h).bind fun m =>
(Ka a b m).bind fun (n, o) =>
some (n, o)))
def El := De
def Kh (j2 : Int → Int → Int → LX → LU → Uq) (a b : Int) (g : LX) (p : Int) (k : LB) : Uq :=
(Im a b p).bind fun y =>
if (Bm y 0) then
some (([] : LX), 2)
else
(Kb k).bind fun aa =>
if (Bm aa 0) then
(Kb k).bind fun ab =>
some (([] : LX), ab)
else
(Br k 0 (Ao (Ac k) 4)).bind fun ac =>
(Vs a p ac).bind fun (h, f) =>
j2 f a b g h
def Hh := Kh El
def Yu (a b : Int) : Option (LB) :=
if (geq a 24) then
(Fz ([(Ad (Il b 256) : UInt8), (Ad (Il (Bq b 256) 256) : UInt8)] : LB) ([(Ad (Bq b 65536) : UInt8)] : LB)).bind fun g =>
some g
else
some ([(Ad (Il b 256) : UInt8), (Ad (Il (Bq b 256) 256) : UInt8)] : LB)
def Hj := Yu
def Yf (j2 : Int → Int → Option (LB)) (a : Int) (f : Int32) : Option (LB) :=
if (geq a 8) then
some ([(Ad (Ae (Ad f : Int) 128) : UInt8)] : LB)
else
if (Cj (Ad f : Int) 0) then
(Ez a).bind fun h =>
j2 a (Ae (Ad f : Int) (Bb 2 h))
else
j2 a (Ad f : Int)
def Xi := Yf Hj
abbrev Ee := Option (LB × Int)
def An4 (b : LB) : Ee :=
some (b, 0)
def Adg := An4
def Ma (j6 : LB → Ee) (bk4 : Int → LB → Ee) (f : Int) (a : LX) (g : Int) (b : LB) : Ee :=
if (Cj g (Ac a)) then
(Aj a g).bind fun h =>
(Xi f h).bind fun k =>
(Fz b k).bind fun m =>
bk4 (Ae g 1) m
else
j6 b
def Fi (f : Int) (a : LX) : Nat → Int → LB → Ee
| 0, _, _ => none
| q + 1, g, b => Ma Adg (Fi f a q) f a g b
def Adx f a := Fi f a Ay
def Ub (j4 : Int → LX → Int → LB → Ee) (f : Int) (a : LX) : Ee :=
(Au f a).bind fun n =>
if (Bm n 0) then
(Au f a).bind fun o =>
some (([] : LB), o)
else
j4 f a 0 ([] : LB)
def Ti := Ub Adx
abbrev Uo := Option (LB × Int)
def Ac5 (o : LX) (f : Int) (p g : LB) (h k a m n : Int) (u : LI) (b : Int) (v : LB) (w : Bool) (y : Int) : Uo :=
if (Bm f 0) then
some (([] : LB), f)
else
(Ti a o).bind fun (ac, ai) =>
some (ac, 0)
def Rz := Ac5
def Rm (j2 : LX → Int → LB → LB → Int → Int → Int → Int → Int → LI → Int → LB → Bool → Int → Uo) (p g : LB) (h k a m n : Int) (u : LI) (b : Int) (v : LB) (w : Bool) (y : Int) : Uo :=
(Aj u b).bind fun aa =>
if (Cj (Ac g) aa) then
some (([] : LB), (-1 : Int))
else
(Ve p).bind fun (ad, aj) =>
(Br g 0 aa).bind fun ae =>
(Ld h k a m n).bind fun (af, ag) =>
(Cy h k a m n).bind fun ab =>
(Aj ab b).bind fun _ =>
(Aj ab b).bind fun ah =>
(Hh af ag ad ah ae).bind fun (o, f) =>
j2 o f p g h k a m n u b v w y
def Pe := Rm Rz
abbrev Jy := Option (LB × LB × Int × Int × Int × Int × Int × LI × Int × LB × Bool × Int × Int)
def Iy (g a : LB) (m o p u v : Int) (b : LI) (f : Int) (n : LB) (h : Bool) (k : Int) : Jy :=
if (geq (Ac b) 0) then
(Ph a m o p u v g).bind fun (ag, ak, w) =>
if (Bm w 0) then
some (g, a, m, o, p, u, v, b, f, n, h, k, w)
else
(Br a ag (Ac a)).bind fun al =>
some (g, al, m, o, p, u, v, ak, f, n, h, k, 0)
else
if (geq f (Ac b)) then
if (Cu (Ac a) 4000) then
some (g, a, m, o, p, u, v, b, f, n, h, k, 38)
else
some (g, a, m, o, p, u, v, b, f, n, h, k, (-1 : Int))
else
(Pe g a m o p u v b f n h k).bind fun (am, y) =>
if (Bm y 0) then
some (g, a, m, o, p, u, v, b, f, n, h, k, y)
else
(Fz ([] : LB) n).bind fun an =>
(Fz an am).bind fun ah =>
(
(
(
(Aj b f).bind fun ad =>
(
(Br a ad (Ac a)).bind fun ae =>
some (g, ae, m, o, p, u, v, b, (Ae f 1), ah, h, k, 0)))))
def Nt := Iy
def Afe (g af : LB) (aa w ab ac y : Int) (b : LI) (f : Int) (n : LB) (h : Bool) (k : Int) : Jy :=
(Ih aa w ab ac y g).bind fun aw =>
some (g, af, aa, w, ab, ac, y, b, f, n, h, k, aw)
def Vy := Afe
def Gn (j3 : LB → LB → Int → Int → Int → Int → Int → LI → Int → LB → Bool → Int → Jy) (j4 : LB → LB → Int → Int → Int → Int → Int → LI → Int → LB → Bool → Int → Jy) (g a : LB) (m o p u v : Int) (b : LI) (f : Int) (n : LB) (h : Bool) (k : Int) : Jy :=
if (geq m 0) then
(Iu a).bind fun (ag, aa, w, ab, ac, y, ai) =>
if (Bm ai 0) then
some (g, a, m, o, p, u, v, b, f, n, h, k, ai)
else
(
(Br a ag (Ac a)).bind fun af =>
(
j3 g af aa w ab ac y b f n h k))
else
j4 g a m o p u v b f n h k
def Bv := Gn Vy Nt
def Adz (o p : LB) (b f g h k : Int) (m : LI) (a : Int) (n : LB) (u : Bool) (v : Int) : Option Bool :=
(Bv o p b f g h k m a n u v).bind fun (af, ag, ah, ai, aj, ak, al, am, an, ao, ap, aq, w) =>
some (geq w (-1 : Int))
def Bo := Adz
def Uw (j4 : LB → LB → Int → Int → Int → Int → Int → LI → Int → LB → Bool → Int → Option Bool) (o p : LB) (b f g h k : Int) (m : LI) (a : Int) (n : LB) (u : Bool) (v : Int) : Option Bool :=
if (geq (Ac m) 0) then
if ((Bm a 0) || (Cu (Ac n) 0)) then
some false
else
j4 o p b f g h k m a n u v
else
(Ec m).bind fun y =>
if (Bm y 0) then
if ((true || (Cj a 0)) || (Cu a (Ac m))) then
some false
else
(Nw b f g h k a).bind fun aa =>
if (Cu (Ac n) aa) then
some false
else
j4 o p b f g h k m a n u v
else
(Cy b f g h k).bind fun ab =>
if (((Bm (Ac m) (Ac ab)) || (Cj a 0)) || (Cu a (Ac m))) then
some false
else
(Nw b f g h k a).bind fun ac =>
if (Cu (Ac n) ac) then
some false
else
j4 o p b f g h k m a n u v
def Tu := Uw Bo
def Tz (j4 : LB → LB → Int → Int → Int → Int → Int → LI → Int → LB → Bool → Int → Option Bool) (j3 : LB → LB → Int → Int → Int → Int → Int → LI → Int → LB → Bool → Int → Option Bool) (o p : LB) (b f g h k : Int) (m : LI) (a : Int) (n : LB) (u : Bool) (v : Int) : Option Bool :=
if ((geq b 0) && ((geq f 0) && ((geq g 0) && ((geq h 0) && ((geq k 0) && true))))) then
if (((Cu (Ac m) 0) || (Bm a 0)) || (Cu (Ac n) 0)) then
some false
else
j4 o p b f g h k m a n u v
else
(Ge b f g h k).bind fun ad =>
if (Bm ad 0) then
some false
else
(Ih b f g h k o).bind fun ae =>
if (Bm ae 0) then
some false
else
j3 o p b f g h k m a n u v
def Lb := Tz Bo Tu
def Mw (a : Int) : Option Bool :=
some (((((((geq a 4) || (geq a 12)) || (geq a 16)) || (geq a 22)) || (geq a 24)) || (geq a 26)) || (geq a 38))
def Rh (h k : LB) (m n o p u : Int) (v : LI) (f : Int) (g : LB) (b : Bool) (a : Int) : Option Int :=
if (Cu (Ac h) 64) then
some 8
else
if ((geq a 0) && (!b)) then
(Lb h k m n o p u v f g b a).bind fun w =>
if (!w) then
some 8
else
some 0
else
if ((geq (Ac k) 0) && (geq (Ac v) 0)) then
if ((!(((geq m 0) && ((geq n 0) && ((geq o 0) && ((geq p 0) && ((geq u 0) && true))))) && (geq f 0))) || (Cu (Ac g) 12000)) then
some 8
else
if (Bm a 0) then
if b then
some 8
else
(Mw a).bind fun y =>
if (!y) then
some 8
else
some 0
else
some 0
else
if ((!(false && (geq f 0))) || (Cu (Ac g) 12000)) then
some 8
else
if (Bm a 0) then
if b then
some 8
else
(Mw a).bind fun aa =>
if (!aa) then
some 8
else
some 0
else
some 0
def Nz (f a : LB) (g h k m n : Int) (b : LI) (o : Int) (p : LB) (u : Bool) (v : Int) : Option Int :=
some (Ae (Ac a) (Bb 8 (Ac b)))
def Wo (a b : LB) (f g h k m : Int) (n : LI) (o : Int) (p : LB) (u : Bool) (v : Int) : Option (Int × Int) :=
(Rh a b f g h k m n o p u v).bind fun w =>
if (Bm w 0) then
some (0, w)
else
(Nz a b f g h k m n o p u v).bind fun y =>
some (y, 0)
def Amw (a : Int) : Option (Int × Int) :=
if ((Cj a 0) || (Cu a 100000)) then
some (0, 2)
else
some ((Ae (An1 a 8022) 8000), 0)
def Lm (a : Int) : Option (Int × Int) :=
if ((Cj a 0) || (Cu a 100000)) then
some (0, 2)
else
some ((Ae (An1 a 8022) 8000), 0)
def Vr (ai a b f : Int) (g h : LB) (k : LX) (m : List LB) (n : LB) (o : Bool) (p : Int) (u v : LB) (w y aa ab ac : Int) (ad : LI) (ae : Int) (af : LB) (ag : Bool) (ah : Int) : Option Bool :=
(Aio a b f g h k m n o p).bind fun (aj, ak) =>
(Xb a b f g h k m n o p).bind fun (al, am) =>
(Ah2 u v w y aa ab ac ad ae af ag ah).bind fun (an, ao) =>
(Wo u v w y aa ab ac ad ae af ag ah).bind fun (ap, aq) =>
(Amw ai).bind fun (ar, au) =>
(Lm ai).bind fun (av, aw) =>
some ((((((geq aj al) && (geq ak am)) && (geq an ap)) && (geq ao aq)) && (geq ar av)) && (geq au aw))
def Kq := Vr
def Kg (j2 : Int → Int → Int → Int → LB → LB → LX → (List LB) → LB → Bool → Int → LB → LB → Int → Int → Int → Int → Int → LI → Int → LB → Bool → Int → Option Bool) (a b f : Int) (g h : LB) (k : LX) (m : List LB) (n : LB) (o : Bool) (p : Int) (u v : LB) (w y aa ab ac : Int) (ad : LI) (ae : Int) (af : LB) (ag : Bool) (ah ai : Int) : Option Bool :=
(Sm a b f g h k m n o p).bind fun ax =>
if ax then
some true
else
(Tg u v w y aa ab ac ad ae af ag ah).bind fun ay =>
if ay then
some true
else
j2 ai a b f g h k m n o p u v w y aa ab ac ad ae af ag ah
def Ou := Kg Kq
end Go.Pl
