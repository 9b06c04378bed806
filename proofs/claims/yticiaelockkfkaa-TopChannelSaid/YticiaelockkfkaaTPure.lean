/- A part of the proof of a statement of this seat (see the text that ends in Proof): TPure. No conditions of its own. -/
import Derived.Test.YticiaelockkfkaaLvAll
set_option linter.unusedVariables false
namespace Go.Pl
open Go Go.Lv
def width_Range_s2 (bits_1 : Int) (x_t1 : Bool) : Option (Int32 × Int32 × Int) :=
if x_t1 = true then (
Option.bind (okI (gge (gsub bits_1 (1 : Int)) (0 : Int))) fun _ =>
some ((gneg (gshl (1 : Int32) (GI.toZ (gsub bits_1 (1 : Int))).toNat)), (gsub (gshl (1 : Int32) (GI.toZ (gsub bits_1 (1 : Int))).toNat) (1 : Int32)), (0 : Int)))
else (
some ((0 : Int32), (0 : Int32), (2 : Int)))

def width_Range_p2 (bits_1 : Int) (x_t1 : Bool) : Option (Int32 × Int32 × Int) := width_Range_s2 bits_1 x_t1

def width_Range_s0 (j2 : Int → Bool → Option (Int32 × Int32 × Int)) (bits_1 : Int) : Option (Int32 × Int32 × Int) :=
if (geq bits_1 (8 : Int)) = true then (
j2 bits_1 (geq bits_1 (8 : Int)))
else (
if (geq bits_1 (16 : Int)) = true then (
j2 bits_1 (geq bits_1 (16 : Int)))
else (
j2 bits_1 (geq bits_1 (24 : Int))))

def width_Range (bits_1 : Int) : Option (Int32 × Int32 × Int) := width_Range_s0 width_Range_p2 bits_1

def width_Samples_s30 (x_t8 : List Int32) : Option ((List Int32) × Int) :=
some (x_t8, (0 : Int))

def width_Samples_p30 (x_t8 : List Int32) : Option ((List Int32) × Int) := width_Samples_s30 x_t8

def width_Samples_s28 (bk16 : Int → (List Int32) → Option ((List Int32) × Int)) (bits_1 : Int) (b_2 : List UInt8) (at_t7 : Int) (l_t11 : List Int32) : Option ((List Int32) × Int) :=
bk16 (gadd at_t7 (gquo bits_1 (8 : Int))) l_t11

def width_Samples_p28 (bk16 : Int → (List Int32) → Option ((List Int32) × Int)) (bits_1 : Int) (b_2 : List UInt8) (at_t7 : Int) (l_t11 : List Int32) : Option ((List Int32) × Int) := width_Samples_s28 bk16 bits_1 b_2 at_t7 l_t11

def width_Samples_s27 (j28 : Int → (List Int32) → Option ((List Int32) × Int)) (bits_1 : Int) (b_2 : List UInt8) (at_t7 : Int) (x_t9 : Int32) (x_t8 : List Int32) : Option ((List Int32) × Int) :=
Option.bind (okI (gge (gsub (32 : Int) bits_1) (0 : Int))) fun _ =>
Option.bind (okI (gge (gsub (32 : Int) bits_1) (0 : Int))) fun _ =>
Option.bind (appI x_t8 ([(gshr (gshl x_t9 (GI.toZ (gsub (32 : Int) bits_1)).toNat) (GI.toZ (gsub (32 : Int) bits_1)).toNat)] : List Int32)) fun l_6 =>
j28 at_t7 l_6

def width_Samples_p27 (bk16 : Int → (List Int32) → Option ((List Int32) × Int)) (bits_1 : Int) (b_2 : List UInt8) (at_t7 : Int) (x_t9 : Int32) (x_t8 : List Int32) : Option ((List Int32) × Int) := width_Samples_s27 (width_Samples_p28 bk16 bits_1 b_2) bits_1 b_2 at_t7 x_t9 x_t8

def width_Samples_s25 (j27 : Int → Int32 → (List Int32) → Option ((List Int32) × Int)) (bk25 : Int32 → Int → Option ((List Int32) × Int)) (bits_1 : Int) (b_2 : List UInt8) (at_t7 : Int) (x_t8 : List Int32) (x_t9 : Int32) (x_t10 : Int) : Option ((List Int32) × Int) :=
if (glt x_t10 (gquo bits_1 (8 : Int))) = true then (
Option.bind (getI b_2 (gadd at_t7 x_t10)) fun c_6 =>
Option.bind (okI (gge (gmul (8 : Int) x_t10) (0 : Int))) fun _ =>
bk25 (gor x_t9 (gshl (gconv c_6 : Int32) (GI.toZ (gmul (8 : Int) x_t10)).toNat)) (gadd x_t10 (1 : Int)))
else (
j27 at_t7 x_t9 x_t8)

def width_Samples_l25 (bk16 : Int → (List Int32) → Option ((List Int32) × Int)) (bits_1 : Int) (b_2 : List UInt8) (at_t7 : Int) (x_t8 : List Int32) : Nat → Int32 → Int → Option ((List Int32) × Int)
| 0, _, _ => none
| q + 1, x_t9, x_t10 => width_Samples_s25 (width_Samples_p27 bk16 bits_1 b_2) (width_Samples_l25 bk16 bits_1 b_2 at_t7 x_t8 q) bits_1 b_2 at_t7 x_t8 x_t9 x_t10

def width_Samples_p25 (bk16 : Int → (List Int32) → Option ((List Int32) × Int)) (bits_1 : Int) (b_2 : List UInt8) (at_t7 : Int) (x_t8 : List Int32) (x_t9 : Int32) (x_t10 : Int) : Option ((List Int32) × Int) := width_Samples_l25 bk16 bits_1 b_2 at_t7 x_t8 FUEL x_t9 x_t10

def width_Samples_s16 (j28 : Int → (List Int32) → Option ((List Int32) × Int)) (j25 : Int → (List Int32) → Int32 → Int → Option ((List Int32) × Int)) (j30 : (List Int32) → Option ((List Int32) × Int)) (bits_1 : Int) (b_2 : List UInt8) (at_t7 : Int) (x_t8 : List Int32) : Option ((List Int32) × Int) :=
if (glt at_t7 (lenI b_2)) = true then (
if (geq bits_1 (8 : Int)) = true then (
Option.bind (getI b_2 at_t7) fun c_6 =>
Option.bind (appI x_t8 ([(gsub (gconv c_6 : Int32) (128 : Int32))] : List Int32)) fun l_7 =>
j28 at_t7 l_7)
else (
j25 at_t7 x_t8 (0 : Int32) (0 : Int)))
else (
j30 x_t8)

def width_Samples_l16 (bits_1 : Int) (b_2 : List UInt8) : Nat → Int → (List Int32) → Option ((List Int32) × Int)
| 0, _, _ => none
| q + 1, at_t7, x_t8 => width_Samples_s16 (width_Samples_p28 (width_Samples_l16 bits_1 b_2 q) bits_1 b_2) (width_Samples_p25 (width_Samples_l16 bits_1 b_2 q) bits_1 b_2) width_Samples_p30 bits_1 b_2 at_t7 x_t8

def width_Samples_p16 (bits_1 : Int) (b_2 : List UInt8) (at_t7 : Int) (x_t8 : List Int32) : Option ((List Int32) × Int) := width_Samples_l16 bits_1 b_2 FUEL at_t7 x_t8

def width_Samples_s0 (j16 : Int → (List UInt8) → Int → (List Int32) → Option ((List Int32) × Int)) (bits_1 : Int) (b_2 : List UInt8) : Option ((List Int32) × Int) :=
Option.bind (width_Range bits_1) fun (r_3, r_4, r_5) =>
if (gne r_5 (0 : Int)) = true then (
some (([] : List Int32), r_5))
else (
Option.bind (okI (gne (gquo bits_1 (8 : Int)) (0 : Int))) fun _ =>
if (gne (irem (lenI b_2) (gquo bits_1 (8 : Int))) (0 : Int)) = true then (
some (([] : List Int32), (12 : Int)))
else (
Option.bind (okI (gne (gquo bits_1 (8 : Int)) (0 : Int))) fun _ =>
if (ggt (gquo (lenI b_2) (gquo bits_1 (8 : Int))) (4000 : Int)) = true then (
some (([] : List Int32), (4 : Int)))
else (
j16 bits_1 b_2 (0 : Int) ([] : List Int32))))

def width_Samples (bits_1 : Int) (b_2 : List UInt8) : Option ((List Int32) × Int) := width_Samples_s0 width_Samples_p16 bits_1 b_2

def taps_New_s2 (bits_1 : Int) (taps_2 : List Int32) (x_t1 : Bool) : Option (Int × (List Int32) × (List Int32) × Int) :=
if x_t1 = true then (
some ((10 : Int), taps_2, (List.replicate 16 (0 : Int32)), (0 : Int)))
else (
if (geq bits_1 (16 : Int)) = true then (
some ((9 : Int), taps_2, (List.replicate 16 (0 : Int32)), (0 : Int)))
else (
some ((0 : Int), (List.replicate 16 (0 : Int32)), (List.replicate 16 (0 : Int32)), (2 : Int))))

def taps_New_p2 (bits_1 : Int) (taps_2 : List Int32) (x_t1 : Bool) : Option (Int × (List Int32) × (List Int32) × Int) := taps_New_s2 bits_1 taps_2 x_t1

def taps_New_s0 (j2 : Int → (List Int32) → Bool → Option (Int × (List Int32) × (List Int32) × Int)) (bits_1 : Int) (taps_2 : List Int32) : Option (Int × (List Int32) × (List Int32) × Int) :=
if (geq bits_1 (8 : Int)) = true then (
j2 bits_1 taps_2 (geq bits_1 (8 : Int)))
else (
j2 bits_1 taps_2 (geq bits_1 (24 : Int)))

def taps_New (bits_1 : Int) (taps_2 : List Int32) : Option (Int × (List Int32) × (List Int32) × Int) := taps_New_s0 taps_New_p2 bits_1 taps_2

def chain_New (bits_1 : Int) (t_2 : List Int32) : Option (Int × Int32 × Int × (List Int32) × (List Int32) × Int) :=
Option.bind (taps_New bits_1 t_2) fun (r_3, a_4, a_5, r_6) =>
if (gne r_6 (0 : Int)) = true then (
some ((0 : Int), (0 : Int32), (0 : Int), (List.replicate 16 (0 : Int32)), (List.replicate 16 (0 : Int32)), r_6))
else (
some (bits_1, (0 : Int32), r_3, a_4, a_5, (0 : Int)))

def chain_Check (c_1 : Int) (c_2 : Int32) (c_3 : Int) (c_4 : List Int32) (c_5 : List Int32) : Option (Int) :=
Option.bind (taps_New c_1 c_4) fun (r_6, a_7, a_8, r_9) =>
if ((gne r_9 (0 : Int)) || (gne r_6 c_3)) = true then (
some (8 : Int))
else (
some (0 : Int))

def chain_check (c_1 : Int) (c_2 : Int32) (c_3 : Int) (c_4 : List Int32) (c_5 : List Int32) (l_6 : List Int32) : Option (Int) :=
Option.bind (chain_Check c_1 c_2 c_3 c_4 c_5) fun r_7 =>
if (gne r_7 (0 : Int)) = true then (
some r_7)
else (
if (ggt (lenI l_6) (4000 : Int)) = true then (
some (4 : Int))
else (
some (0 : Int)))

def first_Shift (bits_1 : Int) : Option (Int × Int) :=
if (geq bits_1 (8 : Int)) = true then (
some ((4 : Int), (0 : Int)))
else (
if (geq bits_1 (16 : Int)) = true then (
if (geq bits_1 (16 : Int)) = true then (
some ((5 : Int), (0 : Int)))
else (
some ((0 : Int), (2 : Int))))
else (
if (geq bits_1 (24 : Int)) = true then (
some ((5 : Int), (0 : Int)))
else (
some ((0 : Int), (2 : Int)))))

def first_guess (s_1 : Int) (last_2 : Int32) : Option (Int32) :=
Option.bind (okI (gge s_1 (0 : Int))) fun _ =>
Option.bind (okI (gge s_1 (0 : Int))) fun _ =>
some (gconv (ishr (gsub (gshl (gconv last_2 : Int) (GI.toZ s_1).toNat) (gconv last_2 : Int)) (GI.toZ s_1).toNat) : Int32)

def first_Guess (bits_1 : Int) (last_2 : Int32) : Option (Int32 × Int) :=
Option.bind (first_Shift bits_1) fun (r_3, r_4) =>
if (gne r_4 (0 : Int)) = true then (
some ((0 : Int32), r_4))
else (
Option.bind (first_guess r_3 last_2) fun r_5 =>
some (r_5, (0 : Int)))

def taps_Check (f_1 : Int) (f_2 : List Int32) (f_3 : List Int32) : Option (Int) :=
if ((gne f_1 (9 : Int)) && (gne f_1 (10 : Int))) = true then (
some (8 : Int))
else (
some (0 : Int))

def taps_Guess_s6 (sum_t1 : Int32) (f_1 : Int) (f_2 : List Int32) (f_3 : List Int32) : Option (Int32 × Int) :=
Option.bind (okI (gge f_1 (0 : Int))) fun _ =>
some ((gshr sum_t1 (GI.toZ f_1).toNat), (0 : Int))

def taps_Guess_p6 (sum_t1 : Int32) (f_1 : Int) (f_2 : List Int32) (f_3 : List Int32) : Option (Int32 × Int) := taps_Guess_s6 sum_t1 f_1 f_2 f_3

def taps_Guess_s4 (j6 : Int32 → Int → (List Int32) → (List Int32) → Option (Int32 × Int)) (bk4 : Int32 → Int → Option (Int32 × Int)) (f_2 : List Int32) (f_1 : Int) (f_3 : List Int32) (sum_t1 : Int32) (x_t2 : Int) : Option (Int32 × Int) :=
if (glt x_t2 (16 : Int)) = true then (
Option.bind (getI f_2 x_t2) fun c_5 =>
Option.bind (getI f_3 x_t2) fun _ =>
Option.bind (getI f_3 x_t2) fun c_6 =>
bk4 (gadd sum_t1 (gmul c_5 c_6)) (gadd x_t2 (1 : Int)))
else (
j6 sum_t1 f_1 f_2 f_3)

def taps_Guess_l4 (f_2 : List Int32) (f_1 : Int) (f_3 : List Int32) : Nat → Int32 → Int → Option (Int32 × Int)
| 0, _, _ => none
| q + 1, sum_t1, x_t2 => taps_Guess_s4 taps_Guess_p6 (taps_Guess_l4 f_2 f_1 f_3 q) f_2 f_1 f_3 sum_t1 x_t2

def taps_Guess_p4 (f_2 : List Int32) (f_1 : Int) (f_3 : List Int32) (sum_t1 : Int32) (x_t2 : Int) : Option (Int32 × Int) := taps_Guess_l4 f_2 f_1 f_3 FUEL sum_t1 x_t2

def taps_Guess_s0 (j4 : (List Int32) → Int → (List Int32) → Int32 → Int → Option (Int32 × Int)) (f_1 : Int) (f_2 : List Int32) (f_3 : List Int32) : Option (Int32 × Int) :=
Option.bind (taps_Check f_1 f_2 f_3) fun r_4 =>
if (gne r_4 (0 : Int)) = true then (
some ((0 : Int32), r_4))
else (
Option.bind (okI (gge (gsub f_1 (1 : Int)) (0 : Int))) fun _ =>
j4 f_2 f_1 f_3 (gshl (1 : Int32) (GI.toZ (gsub f_1 (1 : Int))).toNat) (0 : Int))

def taps_Guess (f_1 : Int) (f_2 : List Int32) (f_3 : List Int32) : Option (Int32 × Int) := taps_Guess_s0 taps_Guess_p4 f_1 f_2 f_3

def taps_step (i_1 : Int) : Option (Int32) :=
if (geq i_1 (0 : Int)) = true then (
some (4 : Int32))
else (
if (glt i_1 (4 : Int)) = true then (
some (2 : Int32))
else (
some (1 : Int32)))

def taps_Learn_s6 (f_1 : Int) (f_t2 : List Int32) (f_3 : List Int32) : Option (Int × (List Int32) × (List Int32) × Int) :=
some (f_1, f_t2, f_3, (0 : Int))

def taps_Learn_p6 (f_1 : Int) (f_t2 : List Int32) (f_3 : List Int32) : Option (Int × (List Int32) × (List Int32) × Int) := taps_Learn_s6 f_1 f_t2 f_3

def taps_Learn_s4 (j6 : Int → (List Int32) → (List Int32) → Option (Int × (List Int32) × (List Int32) × Int)) (bk4 : Int → (List Int32) → Option (Int × (List Int32) × (List Int32) × Int)) (wrong_4 : Int32) (f_3 : List Int32) (f_1 : Int) (x_t1 : Int) (f_t2 : List Int32) : Option (Int × (List Int32) × (List Int32) × Int) :=
if (glt x_t1 (16 : Int)) = true then (
Option.bind (getI f_3 x_t1) fun c_6 =>
if (geq c_6 (0 : Int32)) = true then (
bk4 (gadd x_t1 (1 : Int)) f_t2)
else (
if ((glt c_6 (0 : Int32)) == (glt wrong_4 (0 : Int32))) = true then (
Option.bind (getI f_t2 x_t1) fun _ =>
Option.bind (getI f_t2 x_t1) fun c_7 =>
Option.bind (taps_step x_t1) fun r_8 =>
Option.bind (getI f_t2 x_t1) fun _ =>
Option.bind (setI f_t2 x_t1 (gadd c_7 r_8)) fun l_9 =>
bk4 (gadd x_t1 (1 : Int)) l_9)
else (
Option.bind (getI f_t2 x_t1) fun _ =>
Option.bind (getI f_t2 x_t1) fun c_10 =>
Option.bind (taps_step x_t1) fun r_11 =>
Option.bind (getI f_t2 x_t1) fun _ =>
Option.bind (setI f_t2 x_t1 (gsub c_10 r_11)) fun l_12 =>
bk4 (gadd x_t1 (1 : Int)) l_12)))
else (
j6 f_1 f_t2 f_3)

def taps_Learn_l4 (wrong_4 : Int32) (f_3 : List Int32) (f_1 : Int) : Nat → Int → (List Int32) → Option (Int × (List Int32) × (List Int32) × Int)
| 0, _, _ => none
| q + 1, x_t1, f_t2 => taps_Learn_s4 taps_Learn_p6 (taps_Learn_l4 wrong_4 f_3 f_1 q) wrong_4 f_3 f_1 x_t1 f_t2

def taps_Learn_p4 (wrong_4 : Int32) (f_3 : List Int32) (f_1 : Int) (x_t1 : Int) (f_t2 : List Int32) : Option (Int × (List Int32) × (List Int32) × Int) := taps_Learn_l4 wrong_4 f_3 f_1 FUEL x_t1 f_t2

def taps_Learn_s0 (j4 : Int32 → (List Int32) → Int → Int → (List Int32) → Option (Int × (List Int32) × (List Int32) × Int)) (f_1 : Int) (f_2 : List Int32) (f_3 : List Int32) (wrong_4 : Int32) : Option (Int × (List Int32) × (List Int32) × Int) :=
Option.bind (taps_Check f_1 f_2 f_3) fun r_5 =>
if (gne r_5 (0 : Int)) = true then (
some ((0 : Int), (List.replicate 16 (0 : Int32)), (List.replicate 16 (0 : Int32)), r_5))
else (
if (geq wrong_4 (0 : Int32)) = true then (
some (f_1, f_2, f_3, (0 : Int)))
else (
j4 wrong_4 f_3 f_1 (0 : Int) f_2))

def taps_Learn (f_1 : Int) (f_2 : List Int32) (f_3 : List Int32) (wrong_4 : Int32) : Option (Int × (List Int32) × (List Int32) × Int) := taps_Learn_s0 taps_Learn_p4 f_1 f_2 f_3 wrong_4

def taps_Push_s2 (x_4 : Int32) (f_1 : Int) (f_2 : List Int32) (f_3 : List Int32) : Option (Int × (List Int32) × (List Int32) × Int) :=
Option.bind (getI (copyAt f_3 (1 : Int) ((16 : Int) - (1 : Int)) (subL f_3 (0 : Int) ((16 : Int) - (0 : Int)))) (0 : Int)) fun _ =>
Option.bind (setI (copyAt f_3 (1 : Int) ((16 : Int) - (1 : Int)) (subL f_3 (0 : Int) ((16 : Int) - (0 : Int)))) (0 : Int) x_4) fun l_6 =>
some (f_1, f_2, l_6, (0 : Int))

def taps_Push_p2 (x_4 : Int32) (f_1 : Int) (f_2 : List Int32) (f_3 : List Int32) : Option (Int × (List Int32) × (List Int32) × Int) := taps_Push_s2 x_4 f_1 f_2 f_3

def taps_Push_s0 (j2 : Int32 → Int → (List Int32) → (List Int32) → Option (Int × (List Int32) × (List Int32) × Int)) (f_1 : Int) (f_2 : List Int32) (f_3 : List Int32) (x_4 : Int32) : Option (Int × (List Int32) × (List Int32) × Int) :=
Option.bind (taps_Check f_1 f_2 f_3) fun r_5 =>
if (gne r_5 (0 : Int)) = true then (
some ((0 : Int), (List.replicate 16 (0 : Int32)), (List.replicate 16 (0 : Int32)), r_5))
else (
(
Option.bind (vwI (16 : Int) (1 : Int) (16 : Int)) fun _ =>
Option.bind (vwI (16 : Int) (0 : Int) (16 : Int)) fun _ =>
j2 x_4 f_1 f_2 f_3))

def taps_Push (f_1 : Int) (f_2 : List Int32) (f_3 : List Int32) (x_4 : Int32) : Option (Int × (List Int32) × (List Int32) × Int) := taps_Push_s0 taps_Push_p2 f_1 f_2 f_3 x_4

def lms_behind (f_1 : Int) (f_2 : List Int32) (f_3 : List Int32) (x_4 : Int32) (y_5 : Int32) : Option (Int × (List Int32) × (List Int32)) :=
Option.bind (taps_Learn f_1 f_2 f_3 y_5) fun (r_6, a_7, a_8, r_9) =>
Option.bind (taps_Push r_6 a_7 a_8 x_4) fun (r_10, a_11, a_12, r_13) =>
some (r_10, a_11, a_12)

def lms_Forward (f_1 : Int) (f_2 : List Int32) (f_3 : List Int32) (x_4 : Int32) : Option (Int32 × Int × (List Int32) × (List Int32) × Int) :=
Option.bind (taps_Guess f_1 f_2 f_3) fun (r_5, r_6) =>
if (gne r_6 (0 : Int)) = true then (
some ((0 : Int32), (0 : Int), (List.replicate 16 (0 : Int32)), (List.replicate 16 (0 : Int32)), r_6))
else (
Option.bind (lms_behind f_1 f_2 f_3 x_4 (gsub x_4 r_5)) fun (r_7, a_8, a_9) =>
some ((gsub x_4 r_5), r_7, a_8, a_9, (0 : Int)))

def chain_Forward (c_1 : Int) (c_2 : Int32) (c_3 : Int) (c_4 : List Int32) (c_5 : List Int32) (x_6 : Int32) : Option (Int32 × Int × Int32 × Int × (List Int32) × (List Int32) × Int) :=
Option.bind (chain_Check c_1 c_2 c_3 c_4 c_5) fun r_7 =>
if (gne r_7 (0 : Int)) = true then (
some ((0 : Int32), (0 : Int), (0 : Int32), (0 : Int), (List.replicate 16 (0 : Int32)), (List.replicate 16 (0 : Int32)), r_7))
else (
Option.bind (first_Guess c_1 c_2) fun (r_8, r_9) =>
Option.bind (lms_Forward c_3 c_4 c_5 (gsub x_6 r_8)) fun (r_10, r_11, a_12, a_13, r_14) =>
(
some (r_10, c_1, x_6, r_11, a_12, a_13, r_14)))

def chain_All_s6 (c_t2 : Int) (c_t3 : Int32) (c_t4 : Int) (c_t5 : List Int32) (c_t6 : List Int32) (x_t7 : List Int32) : Option ((List Int32) × Int × Int32 × Int × (List Int32) × (List Int32) × Int) :=
some (x_t7, c_t2, c_t3, c_t4, c_t5, c_t6, (0 : Int))

def chain_All_p6 (c_t2 : Int) (c_t3 : Int32) (c_t4 : Int) (c_t5 : List Int32) (c_t6 : List Int32) (x_t7 : List Int32) : Option ((List Int32) × Int × Int32 × Int × (List Int32) × (List Int32) × Int) := chain_All_s6 c_t2 c_t3 c_t4 c_t5 c_t6 x_t7

def chain_All_s4 (j6 : Int → Int32 → Int → (List Int32) → (List Int32) → (List Int32) → Option ((List Int32) × Int × Int32 × Int × (List Int32) × (List Int32) × Int)) (bk4 : Int → Int → Int32 → Int → (List Int32) → (List Int32) → (List Int32) → Option ((List Int32) × Int × Int32 × Int × (List Int32) × (List Int32) × Int)) (l_6 : List Int32) (x_t1 : Int) (c_t2 : Int) (c_t3 : Int32) (c_t4 : Int) (c_t5 : List Int32) (c_t6 : List Int32) (x_t7 : List Int32) : Option ((List Int32) × Int × Int32 × Int × (List Int32) × (List Int32) × Int) :=
if (glt x_t1 (lenI l_6)) = true then (
Option.bind (getI l_6 x_t1) fun c_8 =>
Option.bind (chain_Forward c_t2 c_t3 c_t4 c_t5 c_t6 c_8) fun (r_9, r_10, r_11, r_12, a_13, a_14, r_15) =>
Option.bind (appI x_t7 ([r_9] : List Int32)) fun l_16 =>
bk4 (gadd x_t1 (1 : Int)) r_10 r_11 r_12 a_13 a_14 l_16)
else (
j6 c_t2 c_t3 c_t4 c_t5 c_t6 x_t7)

def chain_All_l4 (l_6 : List Int32) : Nat → Int → Int → Int32 → Int → (List Int32) → (List Int32) → (List Int32) → Option ((List Int32) × Int × Int32 × Int × (List Int32) × (List Int32) × Int)
| 0, _, _, _, _, _, _, _ => none
| q + 1, x_t1, c_t2, c_t3, c_t4, c_t5, c_t6, x_t7 => chain_All_s4 chain_All_p6 (chain_All_l4 l_6 q) l_6 x_t1 c_t2 c_t3 c_t4 c_t5 c_t6 x_t7

def chain_All_p4 (l_6 : List Int32) (x_t1 : Int) (c_t2 : Int) (c_t3 : Int32) (c_t4 : Int) (c_t5 : List Int32) (c_t6 : List Int32) (x_t7 : List Int32) : Option ((List Int32) × Int × Int32 × Int × (List Int32) × (List Int32) × Int) := chain_All_l4 l_6 FUEL x_t1 c_t2 c_t3 c_t4 c_t5 c_t6 x_t7

def chain_All_s0 (j4 : (List Int32) → Int → Int → Int32 → Int → (List Int32) → (List Int32) → (List Int32) → Option ((List Int32) × Int × Int32 × Int × (List Int32) × (List Int32) × Int)) (c_1 : Int) (c_2 : Int32) (c_3 : Int) (c_4 : List Int32) (c_5 : List Int32) (l_6 : List Int32) : Option ((List Int32) × Int × Int32 × Int × (List Int32) × (List Int32) × Int) :=
Option.bind (chain_check c_1 c_2 c_3 c_4 c_5 l_6) fun r_7 =>
if (gne r_7 (0 : Int)) = true then (
some (([] : List Int32), (0 : Int), (0 : Int32), (0 : Int), (List.replicate 16 (0 : Int32)), (List.replicate 16 (0 : Int32)), r_7))
else (
j4 l_6 (0 : Int) c_1 c_2 c_3 c_4 c_5 ([] : List Int32))

def chain_All (c_1 : Int) (c_2 : Int32) (c_3 : Int) (c_4 : List Int32) (c_5 : List Int32) (l_6 : List Int32) : Option ((List Int32) × Int × Int32 × Int × (List Int32) × (List Int32) × Int) := chain_All_s0 chain_All_p4 c_1 c_2 c_3 c_4 c_5 l_6

def cadenzaref13_Same_s6 : Option (Bool) :=
some true

def cadenzaref13_Same_p6 : Option (Bool) := cadenzaref13_Same_s6

def cadenzaref13_Same_s4 (j6 : Option (Bool)) (bk4 : Int → Option (Bool)) (a_1 : List Int32) (b_2 : List Int32) (i_t1 : Int) : Option (Bool) :=
if (glt i_t1 (lenI a_1)) = true then (
Option.bind (getI a_1 i_t1) fun c_3 =>
Option.bind (getI b_2 i_t1) fun c_4 =>
if (gne c_3 c_4) = true then (
some false)
else (
bk4 (gadd i_t1 (1 : Int))))
else (
j6)

def cadenzaref13_Same_l4 (a_1 : List Int32) (b_2 : List Int32) : Nat → Int → Option (Bool)
| 0, _ => none
| q + 1, i_t1 => cadenzaref13_Same_s4 cadenzaref13_Same_p6 (cadenzaref13_Same_l4 a_1 b_2 q) a_1 b_2 i_t1

def cadenzaref13_Same_p4 (a_1 : List Int32) (b_2 : List Int32) (i_t1 : Int) : Option (Bool) := cadenzaref13_Same_l4 a_1 b_2 FUEL i_t1

def cadenzaref13_Same_s0 (j4 : (List Int32) → (List Int32) → Int → Option (Bool)) (a_1 : List Int32) (b_2 : List Int32) : Option (Bool) :=
if (gne (lenI a_1) (lenI b_2)) = true then (
some false)
else (
j4 a_1 b_2 (0 : Int))

def cadenzaref13_Same (a_1 : List Int32) (b_2 : List Int32) : Option (Bool) := cadenzaref13_Same_s0 cadenzaref13_Same_p4 a_1 b_2

def cadenzatop_alive19 : Option (Bool) :=
Option.bind (width_Samples (16 : Int) ([(100 : UInt8), (0 : UInt8), (100 : UInt8), (0 : UInt8)] : List UInt8)) fun (l_1, r_2) =>
Option.bind (chain_New (16 : Int) ([(0 : Int32), (0 : Int32), (0 : Int32), (0 : Int32), (0 : Int32), (0 : Int32), (0 : Int32), (0 : Int32), (0 : Int32), (0 : Int32), (0 : Int32), (0 : Int32), (0 : Int32), (0 : Int32), (0 : Int32), (0 : Int32)] : List Int32)) fun (r_3, r_4, r_5, a_6, a_7, r_8) =>
Option.bind (chain_All r_3 r_4 r_5 a_6 a_7 l_1) fun (l_9, r_10, r_11, r_12, a_13, a_14, r_15) =>
if (((geq r_2 (0 : Int)) && (geq r_8 (0 : Int))) && (geq r_15 (0 : Int))) = true then (
Option.bind (cadenzaref13_Same l_9 ([(100 : Int32), (4 : Int32)] : List Int32)) fun ok_16 =>
some ok_16)
else (
some false)

def cadenzaref17_Check (channels_1 : Int) (l_2 : List Int32) : Option (Int) :=
if ((glt channels_1 (1 : Int)) || (ggt channels_1 (6 : Int))) = true then (
some (2 : Int))
else (
if (ggt (lenI l_2) (4000 : Int)) = true then (
some (4 : Int))
else (
Option.bind (okI (gne channels_1 (0 : Int))) fun _ =>
if (ggt (irem (lenI l_2) channels_1) (0 : Int)) = true then (
some (2 : Int))
else (
some (0 : Int))))

def mix_check (channels_1 : Int) (l_2 : List Int32) : Option (Int) :=
if ((glt channels_1 (1 : Int)) || (ggt channels_1 (6 : Int))) = true then (
some (2 : Int))
else (
if (ggt (lenI l_2) (4000 : Int)) = true then (
some (4 : Int))
else (
Option.bind (okI (gne channels_1 (0 : Int))) fun _ =>
if (gne (irem (lenI l_2) channels_1) (0 : Int)) = true then (
some (2 : Int))
else (
some (0 : Int))))

def slices_Clone_int32_int32 (s_1 : List Int32) : Option ((List Int32)) :=
(
Option.bind (appI ([] : List Int32) s_1) fun l_2 =>
some l_2)

def mix_mix_s6 (l_1 : List Int32) (l_t2 : List Int32) : Option (Unit) :=
if (ggt (gsub (lenI l_1) (1 : Int)) (0 : Int)) = true then (
Option.bind (getI l_t2 (gsub (lenI l_1) (1 : Int))) fun _ =>
Option.bind (getI l_t2 (gsub (gsub (lenI l_1) (1 : Int)) (1 : Int))) fun _ =>
Option.bind (getI l_t2 (gsub (lenI l_1) (1 : Int))) fun c_2 =>
Option.bind (getI l_t2 (gsub (gsub (lenI l_1) (1 : Int)) (1 : Int))) fun c_3 =>
Option.bind (getI l_t2 (gsub (lenI l_1) (1 : Int))) fun _ =>
Option.bind (setI l_t2 (gsub (lenI l_1) (1 : Int)) (gsub c_2 (gquo c_3 (2 : Int32)))) fun l_4 =>
some ())
else (
some ())

def mix_mix_p6 (l_1 : List Int32) (l_t2 : List Int32) : Option (Unit) := mix_mix_s6 l_1 l_t2

def mix_mix_s4 (j6 : (List Int32) → (List Int32) → Option (Unit)) (bk4 : Int → (List Int32) → Option (Unit)) (l_1 : List Int32) (x_t1 : Int) (l_t2 : List Int32) : Option (Unit) :=
if (glt x_t1 (gsub (lenI l_1) (1 : Int))) = true then (
Option.bind (getI l_t2 (gadd x_t1 (1 : Int))) fun _ =>
Option.bind (getI l_t2 x_t1) fun _ =>
Option.bind (getI l_t2 (gadd x_t1 (1 : Int))) fun c_2 =>
Option.bind (getI l_t2 x_t1) fun c_3 =>
Option.bind (getI l_t2 x_t1) fun _ =>
Option.bind (setI l_t2 x_t1 (gsub c_2 c_3)) fun l_4 =>
bk4 (gadd x_t1 (1 : Int)) l_4)
else (
j6 l_1 l_t2)

def mix_mix_l4 (l_1 : List Int32) : Nat → Int → (List Int32) → Option (Unit)
| 0, _, _ => none
| q + 1, x_t1, l_t2 => mix_mix_s4 mix_mix_p6 (mix_mix_l4 l_1 q) l_1 x_t1 l_t2

def mix_mix_p4 (l_1 : List Int32) (x_t1 : Int) (l_t2 : List Int32) : Option (Unit) := mix_mix_l4 l_1 FUEL x_t1 l_t2

def mix_mix_s0 (j4 : (List Int32) → Int → (List Int32) → Option (Unit)) (l_1 : List Int32) : Option (Unit) :=
j4 l_1 (0 : Int) l_1

def mix_mix (l_1 : List Int32) : Option (Unit) := mix_mix_s0 mix_mix_p4 l_1

def mix_All_s22 (l_t5 : List Int32) : Option ((List Int32) × Int) :=
some (l_t5, (0 : Int))

def mix_All_p22 (l_t5 : List Int32) : Option ((List Int32) × Int) := mix_All_s22 l_t5

def mix_All_s20 (bk12 : Int → (List Int32) → Option ((List Int32) × Int)) (channels_1 : Int) (at_t4 : Int) (l_t8 : List Int32) : Option ((List Int32) × Int) :=
bk12 (gadd at_t4 channels_1) l_t8

def mix_All_p20 (bk12 : Int → (List Int32) → Option ((List Int32) × Int)) (channels_1 : Int) (at_t4 : Int) (l_t8 : List Int32) : Option ((List Int32) × Int) := mix_All_s20 bk12 channels_1 at_t4 l_t8

def mix_All_s19 (j20 : Int → (List Int32) → Option ((List Int32) × Int)) (channels_1 : Int) (at_t4 : Int) (l_t7 : List Int32) : Option ((List Int32) × Int) :=
if (ggt (gsub ((gadd at_t4 channels_1) - at_t4) (1 : Int)) (0 : Int)) = true then (
Option.bind (okI (decide (0 ≤ (gsub ((gadd at_t4 channels_1) - at_t4) (1 : Int)) ∧ (gsub ((gadd at_t4 channels_1) - at_t4) (1 : Int)) < ((gadd at_t4 channels_1) - at_t4)))) fun _ =>
Option.bind (okI (decide (0 ≤ (gsub (gsub ((gadd at_t4 channels_1) - at_t4) (1 : Int)) (1 : Int)) ∧ (gsub (gsub ((gadd at_t4 channels_1) - at_t4) (1 : Int)) (1 : Int)) < ((gadd at_t4 channels_1) - at_t4)))) fun _ =>
Option.bind (getI l_t7 (at_t4 + (gsub ((gadd at_t4 channels_1) - at_t4) (1 : Int)))) fun c_5 =>
Option.bind (getI l_t7 (at_t4 + (gsub (gsub ((gadd at_t4 channels_1) - at_t4) (1 : Int)) (1 : Int)))) fun c_6 =>
Option.bind (okI (decide (0 ≤ (gsub ((gadd at_t4 channels_1) - at_t4) (1 : Int)) ∧ (gsub ((gadd at_t4 channels_1) - at_t4) (1 : Int)) < ((gadd at_t4 channels_1) - at_t4)))) fun _ =>
Option.bind (setI l_t7 (at_t4 + (gsub ((gadd at_t4 channels_1) - at_t4) (1 : Int))) (gsub c_5 (gquo c_6 (2 : Int32)))) fun l_7 =>
j20 at_t4 l_7)
else (
j20 at_t4 l_t7)

def mix_All_p19 (bk12 : Int → (List Int32) → Option ((List Int32) × Int)) (channels_1 : Int) (at_t4 : Int) (l_t7 : List Int32) : Option ((List Int32) × Int) := mix_All_s19 (mix_All_p20 bk12 channels_1) channels_1 at_t4 l_t7

def mix_All_s17 (j19 : Int → (List Int32) → Option ((List Int32) × Int)) (bk17 : Int → (List Int32) → Option ((List Int32) × Int)) (channels_1 : Int) (at_t4 : Int) (x_t6 : Int) (l_t7 : List Int32) : Option ((List Int32) × Int) :=
if (glt x_t6 (gsub ((gadd at_t4 channels_1) - at_t4) (1 : Int))) = true then (
Option.bind (okI (decide (0 ≤ (gadd x_t6 (1 : Int)) ∧ (gadd x_t6 (1 : Int)) < ((gadd at_t4 channels_1) - at_t4)))) fun _ =>
Option.bind (okI (decide (0 ≤ x_t6 ∧ x_t6 < ((gadd at_t4 channels_1) - at_t4)))) fun _ =>
Option.bind (getI l_t7 (at_t4 + (gadd x_t6 (1 : Int)))) fun c_5 =>
Option.bind (getI l_t7 (at_t4 + x_t6)) fun c_6 =>
Option.bind (okI (decide (0 ≤ x_t6 ∧ x_t6 < ((gadd at_t4 channels_1) - at_t4)))) fun _ =>
Option.bind (setI l_t7 (at_t4 + x_t6) (gsub c_5 c_6)) fun l_7 =>
bk17 (gadd x_t6 (1 : Int)) l_7)
else (
j19 at_t4 l_t7)

def mix_All_l17 (bk12 : Int → (List Int32) → Option ((List Int32) × Int)) (channels_1 : Int) (at_t4 : Int) : Nat → Int → (List Int32) → Option ((List Int32) × Int)
| 0, _, _ => none
| q + 1, x_t6, l_t7 => mix_All_s17 (mix_All_p19 bk12 channels_1) (mix_All_l17 bk12 channels_1 at_t4 q) channels_1 at_t4 x_t6 l_t7

def mix_All_p17 (bk12 : Int → (List Int32) → Option ((List Int32) × Int)) (channels_1 : Int) (at_t4 : Int) (x_t6 : Int) (l_t7 : List Int32) : Option ((List Int32) × Int) := mix_All_l17 bk12 channels_1 at_t4 FUEL x_t6 l_t7

def mix_All_s12 (j17 : Int → Int → (List Int32) → Option ((List Int32) × Int)) (j22 : (List Int32) → Option ((List Int32) × Int)) (channels_1 : Int) (at_t4 : Int) (l_t5 : List Int32) : Option ((List Int32) × Int) :=
if (glt at_t4 (lenI l_t5)) = true then (
Option.bind (vwI (lenI l_t5) at_t4 (gadd at_t4 channels_1)) fun _ =>
j17 at_t4 (0 : Int) l_t5)
else (
j22 l_t5)

def mix_All_l12 (channels_1 : Int) : Nat → Int → (List Int32) → Option ((List Int32) × Int)
| 0, _, _ => none
| q + 1, at_t4, l_t5 => mix_All_s12 (mix_All_p17 (mix_All_l12 channels_1 q) channels_1) mix_All_p22 channels_1 at_t4 l_t5

def mix_All_p12 (channels_1 : Int) (at_t4 : Int) (l_t5 : List Int32) : Option ((List Int32) × Int) := mix_All_l12 channels_1 FUEL at_t4 l_t5

def mix_All_s0 (j12 : Int → Int → (List Int32) → Option ((List Int32) × Int)) (channels_1 : Int) (l_2 : List Int32) : Option ((List Int32) × Int) :=
Option.bind (mix_check channels_1 l_2) fun r_3 =>
if (gne r_3 (0 : Int)) = true then (
some (([] : List Int32), r_3))
else (
Option.bind (slices_Clone_int32_int32 l_2) fun l_4 =>
j12 channels_1 (0 : Int) l_4)

def mix_All (channels_1 : Int) (l_2 : List Int32) : Option ((List Int32) × Int) := mix_All_s0 mix_All_p12 channels_1 l_2

def crc64_Next_s30 (state_t7 : UInt64) : Option (UInt64 × Int) :=
some (state_t7, (0 : Int))

def crc64_Next_p30 (state_t7 : UInt64) : Option (UInt64 × Int) := crc64_Next_s30 state_t7

def crc64_Next_s29 (j30 : UInt64 → Option (UInt64 × Int)) (state_t7 : UInt64) (state_1 : UInt64) (b_2 : List UInt8) (x_t4 : List UInt64) : Option (UInt64 × Int) :=
j30 state_t7

def crc64_Next_p29 (state_t7 : UInt64) (state_1 : UInt64) (b_2 : List UInt8) (x_t4 : List UInt64) : Option (UInt64 × Int) := crc64_Next_s29 crc64_Next_p30 state_t7 state_1 b_2 x_t4

def crc64_Next_s27 (j29 : UInt64 → UInt64 → (List UInt8) → (List UInt64) → Option (UInt64 × Int)) (bk27 : UInt64 → Int → Option (UInt64 × Int)) (b_2 : List UInt8) (state_1 : UInt64) (x_t4 : List UInt64) (state_t7 : UInt64) (x_t8 : Int) : Option (UInt64 × Int) :=
if (glt x_t8 (lenI b_2)) = true then (
Option.bind (getI b_2 x_t8) fun c_3 =>
Option.bind (getI x_t4 (GI.toZ (gxor (gconv (gshr state_t7 (GI.toZ (56 : UInt64)).toNat) : UInt8) c_3))) fun _ =>
Option.bind (getI x_t4 (GI.toZ (gxor (gconv (gshr state_t7 (GI.toZ (56 : UInt64)).toNat) : UInt8) c_3))) fun c_4 =>
bk27 (gxor (gshl state_t7 (GI.toZ (8 : UInt64)).toNat) c_4) (gadd x_t8 (1 : Int)))
else (
j29 state_t7 state_1 b_2 x_t4)

def crc64_Next_l27 (b_2 : List UInt8) (state_1 : UInt64) (x_t4 : List UInt64) : Nat → UInt64 → Int → Option (UInt64 × Int)
| 0, _, _ => none
| q + 1, state_t7, x_t8 => crc64_Next_s27 crc64_Next_p29 (crc64_Next_l27 b_2 state_1 x_t4 q) b_2 state_1 x_t4 state_t7 x_t8

def crc64_Next_p27 (b_2 : List UInt8) (state_1 : UInt64) (x_t4 : List UInt64) (state_t7 : UInt64) (x_t8 : Int) : Option (UInt64 × Int) := crc64_Next_l27 b_2 state_1 x_t4 FUEL state_t7 x_t8

def crc64_Next_s26 (j27 : (List UInt8) → UInt64 → (List UInt64) → UInt64 → Int → Option (UInt64 × Int)) (state_1 : UInt64) (b_2 : List UInt8) (x_t4 : List UInt64) : Option (UInt64 × Int) :=
j27 b_2 state_1 x_t4 state_1 (0 : Int)

def crc64_Next_p26 (state_1 : UInt64) (b_2 : List UInt8) (x_t4 : List UInt64) : Option (UInt64 × Int) := crc64_Next_s26 crc64_Next_p27 state_1 b_2 x_t4

def crc64_Next_s24 (bk16 : Int → (List UInt64) → Option (UInt64 × Int)) (state_1 : UInt64) (b_2 : List UInt8) (x_t3 : Int) (l_3 : List UInt64) : Option (UInt64 × Int) :=
bk16 (gadd x_t3 (1 : Int)) l_3

def crc64_Next_p24 (bk16 : Int → (List UInt64) → Option (UInt64 × Int)) (state_1 : UInt64) (b_2 : List UInt8) (x_t3 : Int) (l_3 : List UInt64) : Option (UInt64 × Int) := crc64_Next_s24 bk16 state_1 b_2 x_t3 l_3

def crc64_Next_s23 (j24 : Int → (List UInt64) → Option (UInt64 × Int)) (state_1 : UInt64) (b_2 : List UInt8) (x_t3 : Int) (c_t5 : UInt64) (x_t4 : List UInt64) : Option (UInt64 × Int) :=
Option.bind (getI x_t4 x_t3) fun _ =>
Option.bind (setI x_t4 x_t3 c_t5) fun l_3 =>
j24 x_t3 l_3

def crc64_Next_p23 (bk16 : Int → (List UInt64) → Option (UInt64 × Int)) (state_1 : UInt64) (b_2 : List UInt8) (x_t3 : Int) (c_t5 : UInt64) (x_t4 : List UInt64) : Option (UInt64 × Int) := crc64_Next_s23 (crc64_Next_p24 bk16 state_1 b_2) state_1 b_2 x_t3 c_t5 x_t4

def crc64_Next_s21 (j23 : Int → UInt64 → (List UInt64) → Option (UInt64 × Int)) (bk21 : UInt64 → Int → Option (UInt64 × Int)) (state_1 : UInt64) (b_2 : List UInt8) (x_t3 : Int) (x_t4 : List UInt64) (c_t5 : UInt64) (x_t6 : Int) : Option (UInt64 × Int) :=
if (glt x_t6 (8 : Int)) = true then (
bk21 (gxor (gshl c_t5 (GI.toZ (1 : UInt64)).toNat) (gmul (4823603603198064275 : UInt64) (gshr c_t5 (GI.toZ (63 : UInt64)).toNat))) (gadd x_t6 (1 : Int)))
else (
j23 x_t3 c_t5 x_t4)

def crc64_Next_l21 (bk16 : Int → (List UInt64) → Option (UInt64 × Int)) (state_1 : UInt64) (b_2 : List UInt8) (x_t3 : Int) (x_t4 : List UInt64) : Nat → UInt64 → Int → Option (UInt64 × Int)
| 0, _, _ => none
| q + 1, c_t5, x_t6 => crc64_Next_s21 (crc64_Next_p23 bk16 state_1 b_2) (crc64_Next_l21 bk16 state_1 b_2 x_t3 x_t4 q) state_1 b_2 x_t3 x_t4 c_t5 x_t6

def crc64_Next_p21 (bk16 : Int → (List UInt64) → Option (UInt64 × Int)) (state_1 : UInt64) (b_2 : List UInt8) (x_t3 : Int) (x_t4 : List UInt64) (c_t5 : UInt64) (x_t6 : Int) : Option (UInt64 × Int) := crc64_Next_l21 bk16 state_1 b_2 x_t3 x_t4 FUEL c_t5 x_t6

def crc64_Next_s16 (j21 : Int → (List UInt64) → UInt64 → Int → Option (UInt64 × Int)) (j26 : UInt64 → (List UInt8) → (List UInt64) → Option (UInt64 × Int)) (state_1 : UInt64) (b_2 : List UInt8) (x_t3 : Int) (x_t4 : List UInt64) : Option (UInt64 × Int) :=
if (glt x_t3 (256 : Int)) = true then (
j21 x_t3 x_t4 (gshl (gconv x_t3 : UInt64) (GI.toZ (56 : UInt64)).toNat) (0 : Int))
else (
j26 state_1 b_2 x_t4)

def crc64_Next_l16 (state_1 : UInt64) (b_2 : List UInt8) : Nat → Int → (List UInt64) → Option (UInt64 × Int)
| 0, _, _ => none
| q + 1, x_t3, x_t4 => crc64_Next_s16 (crc64_Next_p21 (crc64_Next_l16 state_1 b_2 q) state_1 b_2) crc64_Next_p26 state_1 b_2 x_t3 x_t4

def crc64_Next_p16 (state_1 : UInt64) (b_2 : List UInt8) (x_t3 : Int) (x_t4 : List UInt64) : Option (UInt64 × Int) := crc64_Next_l16 state_1 b_2 FUEL x_t3 x_t4

def crc64_Next_s0 (j16 : UInt64 → (List UInt8) → Int → (List UInt64) → Option (UInt64 × Int)) (state_1 : UInt64) (b_2 : List UInt8) : Option (UInt64 × Int) :=
if (ggt (lenI b_2) (100000 : Int)) = true then (
some ((0 : UInt64), (4 : Int)))
else (
j16 state_1 b_2 (0 : Int) (List.replicate 256 (0 : UInt64)))

def crc64_Next (state_1 : UInt64) (b_2 : List UInt8) : Option (UInt64 × Int) := crc64_Next_s0 crc64_Next_p16 state_1 b_2

def crc64_Sum (b_1 : List UInt8) : Option (UInt64 × Int) :=
Option.bind (crc64_Next (0 : UInt64) b_1) fun (r_2, r_3) =>
some (r_2, r_3)

def seed_Of_s6 (x_t2 : List Int32) : Option ((List Int32)) :=
some x_t2

def seed_Of_p6 (x_t2 : List Int32) : Option ((List Int32)) := seed_Of_s6 x_t2

def seed_Of_s4 (j6 : (List Int32) → Option ((List Int32))) (bk4 : Int → (List Int32) → Option ((List Int32))) (digest_1 : UInt64) (x_t1 : Int) (x_t2 : List Int32) : Option ((List Int32)) :=
if (glt x_t1 (8 : Int)) = true then (
Option.bind (okI (gge (gmul (8 : Int) x_t1) (0 : Int))) fun _ =>
Option.bind (getI x_t2 x_t1) fun _ =>
Option.bind (setI x_t2 x_t1 (gconv (gconv (gshr digest_1 (GI.toZ (gmul (8 : Int) x_t1)).toNat) : Int8) : Int32)) fun l_2 =>
bk4 (gadd x_t1 (1 : Int)) l_2)
else (
j6 x_t2)

def seed_Of_l4 (digest_1 : UInt64) : Nat → Int → (List Int32) → Option ((List Int32))
| 0, _, _ => none
| q + 1, x_t1, x_t2 => seed_Of_s4 seed_Of_p6 (seed_Of_l4 digest_1 q) digest_1 x_t1 x_t2

def seed_Of_p4 (digest_1 : UInt64) (x_t1 : Int) (x_t2 : List Int32) : Option ((List Int32)) := seed_Of_l4 digest_1 FUEL x_t1 x_t2

def seed_Of_s0 (j4 : UInt64 → Int → (List Int32) → Option ((List Int32))) (digest_1 : UInt64) : Option ((List Int32)) :=
j4 digest_1 (0 : Int) (List.replicate 16 (0 : Int32))

def seed_Of (digest_1 : UInt64) : Option ((List Int32)) := seed_Of_s0 seed_Of_p4 digest_1

def seed_Taps (password_1 : List UInt8) : Option ((List Int32) × Int) :=
if (ggt (lenI password_1) (64 : Int)) = true then (
some (([(0 : Int32), (0 : Int32), (0 : Int32), (0 : Int32), (0 : Int32), (0 : Int32), (0 : Int32), (0 : Int32), (0 : Int32), (0 : Int32), (0 : Int32), (0 : Int32), (0 : Int32), (0 : Int32), (0 : Int32), (0 : Int32)] : List Int32), (2 : Int)))
else (
Option.bind (crc64_Sum password_1) fun (r_2, r_3) =>
if (gne r_3 (0 : Int)) = true then (
some (([(0 : Int32), (0 : Int32), (0 : Int32), (0 : Int32), (0 : Int32), (0 : Int32), (0 : Int32), (0 : Int32), (0 : Int32), (0 : Int32), (0 : Int32), (0 : Int32), (0 : Int32), (0 : Int32), (0 : Int32), (0 : Int32)] : List Int32), r_3))
else (
Option.bind (seed_Of r_2) fun a_4 =>
some (a_4, (0 : Int))))

def cadenzatop_every19_s6 (x_t2 : List Int32) : Option ((List Int32)) :=
some x_t2

def cadenzatop_every19_p6 (x_t2 : List Int32) : Option ((List Int32)) := cadenzatop_every19_s6 x_t2

def cadenzatop_every19_s4 (j6 : (List Int32) → Option ((List Int32))) (bk4 : Int → (List Int32) → Option ((List Int32))) (l_1 : List Int32) (by_3 : Int) (from_t1 : Int) (x_t2 : List Int32) : Option ((List Int32)) :=
if (glt from_t1 (lenI l_1)) = true then (
Option.bind (getI l_1 from_t1) fun c_4 =>
Option.bind (appI x_t2 ([c_4] : List Int32)) fun l_5 =>
bk4 (gadd from_t1 by_3) l_5)
else (
j6 x_t2)

def cadenzatop_every19_l4 (l_1 : List Int32) (by_3 : Int) : Nat → Int → (List Int32) → Option ((List Int32))
| 0, _, _ => none
| q + 1, from_t1, x_t2 => cadenzatop_every19_s4 cadenzatop_every19_p6 (cadenzatop_every19_l4 l_1 by_3 q) l_1 by_3 from_t1 x_t2

def cadenzatop_every19_p4 (l_1 : List Int32) (by_3 : Int) (from_t1 : Int) (x_t2 : List Int32) : Option ((List Int32)) := cadenzatop_every19_l4 l_1 by_3 FUEL from_t1 x_t2

def cadenzatop_every19_s0 (j4 : (List Int32) → Int → Int → (List Int32) → Option ((List Int32))) (l_1 : List Int32) (from_2 : Int) (by_3 : Int) : Option ((List Int32)) :=
j4 l_1 by_3 from_2 ([] : List Int32)

def cadenzatop_every19 (l_1 : List Int32) (from_2 : Int) (by_3 : Int) : Option ((List Int32)) := cadenzatop_every19_s0 cadenzatop_every19_p4 l_1 from_2 by_3

def first_check (bits_1 : Int) (l_2 : List Int32) : Option (Int × Int) :=
Option.bind (first_Shift bits_1) fun (r_3, r_4) =>
if ((geq r_4 (0 : Int)) && (ggt (lenI l_2) (4000 : Int))) = true then (
some (r_3, (4 : Int)))
else (
some (r_3, r_4))

def first_Forward_s6 (x_t3 : List Int32) : Option ((List Int32) × Int) :=
some (x_t3, (0 : Int))

def first_Forward_p6 (x_t3 : List Int32) : Option ((List Int32) × Int) := first_Forward_s6 x_t3

def first_Forward_s4 (j6 : (List Int32) → Option ((List Int32) × Int)) (bk4 : Int32 → Int → (List Int32) → Option ((List Int32) × Int)) (r_3 : Int) (l_2 : List Int32) (last_t1 : Int32) (x_t2 : Int) (x_t3 : List Int32) : Option ((List Int32) × Int) :=
if (glt x_t2 (lenI l_2)) = true then (
Option.bind (getI l_2 x_t2) fun c_5 =>
Option.bind (first_guess r_3 last_t1) fun r_6 =>
Option.bind (appI x_t3 ([(gsub c_5 r_6)] : List Int32)) fun l_7 =>
bk4 c_5 (gadd x_t2 (1 : Int)) l_7)
else (
j6 x_t3)

def first_Forward_l4 (r_3 : Int) (l_2 : List Int32) : Nat → Int32 → Int → (List Int32) → Option ((List Int32) × Int)
| 0, _, _, _ => none
| q + 1, last_t1, x_t2, x_t3 => first_Forward_s4 first_Forward_p6 (first_Forward_l4 r_3 l_2 q) r_3 l_2 last_t1 x_t2 x_t3

def first_Forward_p4 (r_3 : Int) (l_2 : List Int32) (last_t1 : Int32) (x_t2 : Int) (x_t3 : List Int32) : Option ((List Int32) × Int) := first_Forward_l4 r_3 l_2 FUEL last_t1 x_t2 x_t3

def first_Forward_s0 (j4 : Int → (List Int32) → Int32 → Int → (List Int32) → Option ((List Int32) × Int)) (bits_1 : Int) (l_2 : List Int32) : Option ((List Int32) × Int) :=
Option.bind (first_check bits_1 l_2) fun (r_3, r_4) =>
if (gne r_4 (0 : Int)) = true then (
some (([] : List Int32), r_4))
else (
j4 r_3 l_2 (0 : Int32) (0 : Int) ([] : List Int32))

def first_Forward (bits_1 : Int) (l_2 : List Int32) : Option ((List Int32) × Int) := first_Forward_s0 first_Forward_p4 bits_1 l_2

def lms_All_s20 (r_t6 : Int) (x_t7 : List Int32) (f_t8 : Int) (f_t9 : List Int32) (f_t10 : List Int32) : Option ((List Int32) × Int × (List Int32) × (List Int32) × Int) :=
some (x_t7, f_t8, f_t9, f_t10, r_t6)

def lms_All_p20 (r_t6 : Int) (x_t7 : List Int32) (f_t8 : Int) (f_t9 : List Int32) (f_t10 : List Int32) : Option ((List Int32) × Int × (List Int32) × (List Int32) × Int) := lms_All_s20 r_t6 x_t7 f_t8 f_t9 f_t10

def lms_All_s19 (j20 : Int → (List Int32) → Int → (List Int32) → (List Int32) → Option ((List Int32) × Int × (List Int32) × (List Int32) × Int)) (l_4 : List Int32) (f_1 : Int) (f_2 : List Int32) (f_3 : List Int32) (f_t2 : Int) (f_t3 : List Int32) (f_t4 : List Int32) (x_t5 : List Int32) : Option ((List Int32) × Int × (List Int32) × (List Int32) × Int) :=
j20 (0 : Int) x_t5 f_t2 f_t3 f_t4

def lms_All_p19 (l_4 : List Int32) (f_1 : Int) (f_2 : List Int32) (f_3 : List Int32) (f_t2 : Int) (f_t3 : List Int32) (f_t4 : List Int32) (x_t5 : List Int32) : Option ((List Int32) × Int × (List Int32) × (List Int32) × Int) := lms_All_s19 lms_All_p20 l_4 f_1 f_2 f_3 f_t2 f_t3 f_t4 x_t5

def lms_All_s17 (bk11 : Int → Int → (List Int32) → (List Int32) → (List Int32) → Option ((List Int32) × Int × (List Int32) × (List Int32) × Int)) (l_4 : List Int32) (f_1 : Int) (f_2 : List Int32) (f_3 : List Int32) (x_t1 : Int) (r_8 : Int) (a_9 : List Int32) (a_10 : List Int32) (l_12 : List Int32) : Option ((List Int32) × Int × (List Int32) × (List Int32) × Int) :=
bk11 (gadd x_t1 (1 : Int)) r_8 a_9 a_10 l_12

def lms_All_p17 (bk11 : Int → Int → (List Int32) → (List Int32) → (List Int32) → Option ((List Int32) × Int × (List Int32) × (List Int32) × Int)) (l_4 : List Int32) (f_1 : Int) (f_2 : List Int32) (f_3 : List Int32) (x_t1 : Int) (r_8 : Int) (a_9 : List Int32) (a_10 : List Int32) (l_12 : List Int32) : Option ((List Int32) × Int × (List Int32) × (List Int32) × Int) := lms_All_s17 bk11 l_4 f_1 f_2 f_3 x_t1 r_8 a_9 a_10 l_12

def lms_All_s16 (j17 : Int → Int → (List Int32) → (List Int32) → (List Int32) → Option ((List Int32) × Int × (List Int32) × (List Int32) × Int)) (l_4 : List Int32) (f_1 : Int) (f_2 : List Int32) (f_3 : List Int32) (r_7 : Int32) (x_t1 : Int) (f_t2 : Int) (f_t3 : List Int32) (f_t4 : List Int32) (x_t5 : List Int32) (r_8 : Int) (a_9 : List Int32) (a_10 : List Int32) : Option ((List Int32) × Int × (List Int32) × (List Int32) × Int) :=
(
(
(
(
Option.bind (appI x_t5 ([r_7] : List Int32)) fun l_12 =>
j17 x_t1 r_8 a_9 a_10 l_12))))

def lms_All_p16 (bk11 : Int → Int → (List Int32) → (List Int32) → (List Int32) → Option ((List Int32) × Int × (List Int32) × (List Int32) × Int)) (l_4 : List Int32) (f_1 : Int) (f_2 : List Int32) (f_3 : List Int32) (r_7 : Int32) (x_t1 : Int) (f_t2 : Int) (f_t3 : List Int32) (f_t4 : List Int32) (x_t5 : List Int32) (r_8 : Int) (a_9 : List Int32) (a_10 : List Int32) : Option ((List Int32) × Int × (List Int32) × (List Int32) × Int) := lms_All_s16 (lms_All_p17 bk11 l_4 f_1 f_2 f_3) l_4 f_1 f_2 f_3 r_7 x_t1 f_t2 f_t3 f_t4 x_t5 r_8 a_9 a_10

def lms_All_s11 (j16 : Int32 → Int → Int → (List Int32) → (List Int32) → (List Int32) → Int → (List Int32) → (List Int32) → Option ((List Int32) × Int × (List Int32) × (List Int32) × Int)) (j19 : (List Int32) → Int → (List Int32) → (List Int32) → Int → (List Int32) → (List Int32) → (List Int32) → Option ((List Int32) × Int × (List Int32) × (List Int32) × Int)) (l_4 : List Int32) (f_1 : Int) (f_2 : List Int32) (f_3 : List Int32) (x_t1 : Int) (f_t2 : Int) (f_t3 : List Int32) (f_t4 : List Int32) (x_t5 : List Int32) : Option ((List Int32) × Int × (List Int32) × (List Int32) × Int) :=
if (glt x_t1 (lenI l_4)) = true then (
Option.bind (getI l_4 x_t1) fun c_6 =>
Option.bind (lms_Forward f_t2 f_t3 f_t4 c_6) fun (r_7, r_8, a_9, a_10, r_11) =>
j16 r_7 x_t1 f_t2 f_t3 f_t4 x_t5 r_8 a_9 a_10)
else (
j19 l_4 f_1 f_2 f_3 f_t2 f_t3 f_t4 x_t5)

def lms_All_l11 (l_4 : List Int32) (f_1 : Int) (f_2 : List Int32) (f_3 : List Int32) : Nat → Int → Int → (List Int32) → (List Int32) → (List Int32) → Option ((List Int32) × Int × (List Int32) × (List Int32) × Int)
| 0, _, _, _, _, _ => none
| q + 1, x_t1, f_t2, f_t3, f_t4, x_t5 => lms_All_s11 (lms_All_p16 (lms_All_l11 l_4 f_1 f_2 f_3 q) l_4 f_1 f_2 f_3) lms_All_p19 l_4 f_1 f_2 f_3 x_t1 f_t2 f_t3 f_t4 x_t5

def lms_All_p11 (l_4 : List Int32) (f_1 : Int) (f_2 : List Int32) (f_3 : List Int32) (x_t1 : Int) (f_t2 : Int) (f_t3 : List Int32) (f_t4 : List Int32) (x_t5 : List Int32) : Option ((List Int32) × Int × (List Int32) × (List Int32) × Int) := lms_All_l11 l_4 f_1 f_2 f_3 FUEL x_t1 f_t2 f_t3 f_t4 x_t5

def lms_All_s0 (j20 : Int → (List Int32) → Int → (List Int32) → (List Int32) → Option ((List Int32) × Int × (List Int32) × (List Int32) × Int)) (j11 : (List Int32) → Int → (List Int32) → (List Int32) → Int → Int → (List Int32) → (List Int32) → (List Int32) → Option ((List Int32) × Int × (List Int32) × (List Int32) × Int)) (f_1 : Int) (f_2 : List Int32) (f_3 : List Int32) (l_4 : List Int32) : Option ((List Int32) × Int × (List Int32) × (List Int32) × Int) :=
Option.bind (taps_Check f_1 f_2 f_3) fun r_5 =>
if (gne r_5 (0 : Int)) = true then (
j20 r_5 ([] : List Int32) (0 : Int) (List.replicate 16 (0 : Int32)) (List.replicate 16 (0 : Int32)))
else (
if (ggt (lenI l_4) (4000 : Int)) = true then (
j20 (4 : Int) ([] : List Int32) (0 : Int) (List.replicate 16 (0 : Int32)) (List.replicate 16 (0 : Int32)))
else (
j11 l_4 f_1 f_2 f_3 (0 : Int) f_1 f_2 f_3 ([] : List Int32)))

def lms_All (f_1 : Int) (f_2 : List Int32) (f_3 : List Int32) (l_4 : List Int32) : Option ((List Int32) × Int × (List Int32) × (List Int32) × Int) := lms_All_s0 lms_All_p20 lms_All_p11 f_1 f_2 f_3 l_4

def lms_Back (f_1 : Int) (f_2 : List Int32) (f_3 : List Int32) (y_4 : Int32) : Option (Int32 × Int × (List Int32) × (List Int32) × Int) :=
Option.bind (taps_Guess f_1 f_2 f_3) fun (r_5, r_6) =>
if (gne r_6 (0 : Int)) = true then (
some ((0 : Int32), (0 : Int), (List.replicate 16 (0 : Int32)), (List.replicate 16 (0 : Int32)), r_6))
else (
Option.bind (lms_behind f_1 f_2 f_3 (gadd y_4 r_5) y_4) fun (r_7, a_8, a_9) =>
some ((gadd y_4 r_5), r_7, a_8, a_9, (0 : Int)))

def chain_Back (c_1 : Int) (c_2 : Int32) (c_3 : Int) (c_4 : List Int32) (c_5 : List Int32) (y_6 : Int32) : Option (Int32 × Int × Int32 × Int × (List Int32) × (List Int32) × Int) :=
Option.bind (chain_Check c_1 c_2 c_3 c_4 c_5) fun r_7 =>
if (gne r_7 (0 : Int)) = true then (
some ((0 : Int32), (0 : Int), (0 : Int32), (0 : Int), (List.replicate 16 (0 : Int32)), (List.replicate 16 (0 : Int32)), r_7))
else (
Option.bind (first_Guess c_1 c_2) fun (r_8, r_9) =>
Option.bind (lms_Back c_3 c_4 c_5 y_6) fun (r_10, r_11, a_12, a_13, r_14) =>
(
some ((gadd r_10 r_8), c_1, (gadd r_10 r_8), r_11, a_12, a_13, r_14)))

def chain_Undo_s6 (c_t2 : Int) (c_t3 : Int32) (c_t4 : Int) (c_t5 : List Int32) (c_t6 : List Int32) (x_t7 : List Int32) : Option ((List Int32) × Int × Int32 × Int × (List Int32) × (List Int32) × Int) :=
some (x_t7, c_t2, c_t3, c_t4, c_t5, c_t6, (0 : Int))

def chain_Undo_p6 (c_t2 : Int) (c_t3 : Int32) (c_t4 : Int) (c_t5 : List Int32) (c_t6 : List Int32) (x_t7 : List Int32) : Option ((List Int32) × Int × Int32 × Int × (List Int32) × (List Int32) × Int) := chain_Undo_s6 c_t2 c_t3 c_t4 c_t5 c_t6 x_t7

def chain_Undo_s4 (j6 : Int → Int32 → Int → (List Int32) → (List Int32) → (List Int32) → Option ((List Int32) × Int × Int32 × Int × (List Int32) × (List Int32) × Int)) (bk4 : Int → Int → Int32 → Int → (List Int32) → (List Int32) → (List Int32) → Option ((List Int32) × Int × Int32 × Int × (List Int32) × (List Int32) × Int)) (l_6 : List Int32) (x_t1 : Int) (c_t2 : Int) (c_t3 : Int32) (c_t4 : Int) (c_t5 : List Int32) (c_t6 : List Int32) (x_t7 : List Int32) : Option ((List Int32) × Int × Int32 × Int × (List Int32) × (List Int32) × Int) :=
if (glt x_t1 (lenI l_6)) = true then (
Option.bind (getI l_6 x_t1) fun c_8 =>
Option.bind (chain_Back c_t2 c_t3 c_t4 c_t5 c_t6 c_8) fun (r_9, r_10, r_11, r_12, a_13, a_14, r_15) =>
Option.bind (appI x_t7 ([r_9] : List Int32)) fun l_16 =>
bk4 (gadd x_t1 (1 : Int)) r_10 r_11 r_12 a_13 a_14 l_16)
else (
j6 c_t2 c_t3 c_t4 c_t5 c_t6 x_t7)

def chain_Undo_l4 (l_6 : List Int32) : Nat → Int → Int → Int32 → Int → (List Int32) → (List Int32) → (List Int32) → Option ((List Int32) × Int × Int32 × Int × (List Int32) × (List Int32) × Int)
| 0, _, _, _, _, _, _, _ => none
| q + 1, x_t1, c_t2, c_t3, c_t4, c_t5, c_t6, x_t7 => chain_Undo_s4 chain_Undo_p6 (chain_Undo_l4 l_6 q) l_6 x_t1 c_t2 c_t3 c_t4 c_t5 c_t6 x_t7

def chain_Undo_p4 (l_6 : List Int32) (x_t1 : Int) (c_t2 : Int) (c_t3 : Int32) (c_t4 : Int) (c_t5 : List Int32) (c_t6 : List Int32) (x_t7 : List Int32) : Option ((List Int32) × Int × Int32 × Int × (List Int32) × (List Int32) × Int) := chain_Undo_l4 l_6 FUEL x_t1 c_t2 c_t3 c_t4 c_t5 c_t6 x_t7

def chain_Undo_s0 (j4 : (List Int32) → Int → Int → Int32 → Int → (List Int32) → (List Int32) → (List Int32) → Option ((List Int32) × Int × Int32 × Int × (List Int32) × (List Int32) × Int)) (c_1 : Int) (c_2 : Int32) (c_3 : Int) (c_4 : List Int32) (c_5 : List Int32) (l_6 : List Int32) : Option ((List Int32) × Int × Int32 × Int × (List Int32) × (List Int32) × Int) :=
Option.bind (chain_check c_1 c_2 c_3 c_4 c_5 l_6) fun r_7 =>
if (gne r_7 (0 : Int)) = true then (
some (([] : List Int32), (0 : Int), (0 : Int32), (0 : Int), (List.replicate 16 (0 : Int32)), (List.replicate 16 (0 : Int32)), r_7))
else (
j4 l_6 (0 : Int) c_1 c_2 c_3 c_4 c_5 ([] : List Int32))

def chain_Undo (c_1 : Int) (c_2 : Int32) (c_3 : Int) (c_4 : List Int32) (c_5 : List Int32) (l_6 : List Int32) : Option ((List Int32) × Int × Int32 × Int × (List Int32) × (List Int32) × Int) := chain_Undo_s0 chain_Undo_p4 c_1 c_2 c_3 c_4 c_5 l_6

def mix_unmix_s5 (bk5 : Int → (List Int32) → Option (Unit)) (i_t2 : Int) (l_t3 : List Int32) : Option (Unit) :=
if (gge i_t2 (0 : Int)) = true then (
Option.bind (getI l_t3 (gadd i_t2 (1 : Int))) fun _ =>
Option.bind (getI l_t3 i_t2) fun _ =>
Option.bind (getI l_t3 (gadd i_t2 (1 : Int))) fun c_5 =>
Option.bind (getI l_t3 i_t2) fun c_6 =>
Option.bind (getI l_t3 i_t2) fun _ =>
Option.bind (setI l_t3 i_t2 (gsub c_5 c_6)) fun l_7 =>
bk5 (gsub i_t2 (1 : Int)) l_7)
else (
some ())

def mix_unmix_l5 : Nat → Int → (List Int32) → Option (Unit)
| 0, _, _ => none
| q + 1, i_t2, l_t3 => mix_unmix_s5 (mix_unmix_l5 q) i_t2 l_t3

def mix_unmix_p5 (i_t2 : Int) (l_t3 : List Int32) : Option (Unit) := mix_unmix_l5 FUEL i_t2 l_t3

def mix_unmix_s4 (j5 : Int → (List Int32) → Option (Unit)) (l_1 : List Int32) (l_t1 : List Int32) : Option (Unit) :=
j5 (gsub (gsub (lenI l_1) (1 : Int)) (1 : Int)) l_t1

def mix_unmix_p4 (l_1 : List Int32) (l_t1 : List Int32) : Option (Unit) := mix_unmix_s4 mix_unmix_p5 l_1 l_t1

def mix_unmix_s0 (j4 : (List Int32) → (List Int32) → Option (Unit)) (l_1 : List Int32) : Option (Unit) :=
if (ggt (gsub (lenI l_1) (1 : Int)) (0 : Int)) = true then (
Option.bind (getI l_1 (gsub (lenI l_1) (1 : Int))) fun _ =>
Option.bind (getI l_1 (gsub (gsub (lenI l_1) (1 : Int)) (1 : Int))) fun _ =>
Option.bind (getI l_1 (gsub (lenI l_1) (1 : Int))) fun c_2 =>
Option.bind (getI l_1 (gsub (gsub (lenI l_1) (1 : Int)) (1 : Int))) fun c_3 =>
Option.bind (getI l_1 (gsub (lenI l_1) (1 : Int))) fun _ =>
Option.bind (setI l_1 (gsub (lenI l_1) (1 : Int)) (gadd c_2 (gquo c_3 (2 : Int32)))) fun l_4 =>
j4 l_1 l_4)
else (
j4 l_1 l_1)

def mix_unmix (l_1 : List Int32) : Option (Unit) := mix_unmix_s0 mix_unmix_p4 l_1

def mix_Undo_s22 (l_t5 : List Int32) : Option ((List Int32) × Int) :=
some (l_t5, (0 : Int))

def mix_Undo_p22 (l_t5 : List Int32) : Option ((List Int32) × Int) := mix_Undo_s22 l_t5

def mix_Undo_s20 (bk12 : Int → (List Int32) → Option ((List Int32) × Int)) (channels_1 : Int) (at_t4 : Int) (l_t8 : List Int32) : Option ((List Int32) × Int) :=
bk12 (gadd at_t4 channels_1) l_t8

def mix_Undo_p20 (bk12 : Int → (List Int32) → Option ((List Int32) × Int)) (channels_1 : Int) (at_t4 : Int) (l_t8 : List Int32) : Option ((List Int32) × Int) := mix_Undo_s20 bk12 channels_1 at_t4 l_t8

def mix_Undo_s18 (j20 : Int → (List Int32) → Option ((List Int32) × Int)) (bk18 : Int → (List Int32) → Option ((List Int32) × Int)) (channels_1 : Int) (at_t4 : Int) (i_t7 : Int) (l_t8 : List Int32) : Option ((List Int32) × Int) :=
if (gge i_t7 (0 : Int)) = true then (
Option.bind (okI (decide (0 ≤ (gadd i_t7 (1 : Int)) ∧ (gadd i_t7 (1 : Int)) < ((gadd at_t4 channels_1) - at_t4)))) fun _ =>
Option.bind (okI (decide (0 ≤ i_t7 ∧ i_t7 < ((gadd at_t4 channels_1) - at_t4)))) fun _ =>
Option.bind (getI l_t8 (at_t4 + (gadd i_t7 (1 : Int)))) fun c_8 =>
Option.bind (getI l_t8 (at_t4 + i_t7)) fun c_9 =>
Option.bind (okI (decide (0 ≤ i_t7 ∧ i_t7 < ((gadd at_t4 channels_1) - at_t4)))) fun _ =>
Option.bind (setI l_t8 (at_t4 + i_t7) (gsub c_8 c_9)) fun l_10 =>
bk18 (gsub i_t7 (1 : Int)) l_10)
else (
j20 at_t4 l_t8)

def mix_Undo_l18 (bk12 : Int → (List Int32) → Option ((List Int32) × Int)) (channels_1 : Int) (at_t4 : Int) : Nat → Int → (List Int32) → Option ((List Int32) × Int)
| 0, _, _ => none
| q + 1, i_t7, l_t8 => mix_Undo_s18 (mix_Undo_p20 bk12 channels_1) (mix_Undo_l18 bk12 channels_1 at_t4 q) channels_1 at_t4 i_t7 l_t8

def mix_Undo_p18 (bk12 : Int → (List Int32) → Option ((List Int32) × Int)) (channels_1 : Int) (at_t4 : Int) (i_t7 : Int) (l_t8 : List Int32) : Option ((List Int32) × Int) := mix_Undo_l18 bk12 channels_1 at_t4 FUEL i_t7 l_t8

def mix_Undo_s17 (j18 : Int → Int → (List Int32) → Option ((List Int32) × Int)) (channels_1 : Int) (at_t4 : Int) (l_t6 : List Int32) : Option ((List Int32) × Int) :=
j18 at_t4 (gsub (gsub ((gadd at_t4 channels_1) - at_t4) (1 : Int)) (1 : Int)) l_t6

def mix_Undo_p17 (bk12 : Int → (List Int32) → Option ((List Int32) × Int)) (channels_1 : Int) (at_t4 : Int) (l_t6 : List Int32) : Option ((List Int32) × Int) := mix_Undo_s17 (mix_Undo_p18 bk12 channels_1) channels_1 at_t4 l_t6

def mix_Undo_s12 (j17 : Int → (List Int32) → Option ((List Int32) × Int)) (j22 : (List Int32) → Option ((List Int32) × Int)) (channels_1 : Int) (at_t4 : Int) (l_t5 : List Int32) : Option ((List Int32) × Int) :=
if (glt at_t4 (lenI l_t5)) = true then (
Option.bind (vwI (lenI l_t5) at_t4 (gadd at_t4 channels_1)) fun _ =>
if (ggt (gsub ((gadd at_t4 channels_1) - at_t4) (1 : Int)) (0 : Int)) = true then (
Option.bind (okI (decide (0 ≤ (gsub ((gadd at_t4 channels_1) - at_t4) (1 : Int)) ∧ (gsub ((gadd at_t4 channels_1) - at_t4) (1 : Int)) < ((gadd at_t4 channels_1) - at_t4)))) fun _ =>
Option.bind (okI (decide (0 ≤ (gsub (gsub ((gadd at_t4 channels_1) - at_t4) (1 : Int)) (1 : Int)) ∧ (gsub (gsub ((gadd at_t4 channels_1) - at_t4) (1 : Int)) (1 : Int)) < ((gadd at_t4 channels_1) - at_t4)))) fun _ =>
Option.bind (getI l_t5 (at_t4 + (gsub ((gadd at_t4 channels_1) - at_t4) (1 : Int)))) fun c_5 =>
Option.bind (getI l_t5 (at_t4 + (gsub (gsub ((gadd at_t4 channels_1) - at_t4) (1 : Int)) (1 : Int)))) fun c_6 =>
Option.bind (okI (decide (0 ≤ (gsub ((gadd at_t4 channels_1) - at_t4) (1 : Int)) ∧ (gsub ((gadd at_t4 channels_1) - at_t4) (1 : Int)) < ((gadd at_t4 channels_1) - at_t4)))) fun _ =>
Option.bind (setI l_t5 (at_t4 + (gsub ((gadd at_t4 channels_1) - at_t4) (1 : Int))) (gadd c_5 (gquo c_6 (2 : Int32)))) fun l_7 =>
j17 at_t4 l_7)
else (
j17 at_t4 l_t5))
else (
j22 l_t5)

def mix_Undo_l12 (channels_1 : Int) : Nat → Int → (List Int32) → Option ((List Int32) × Int)
| 0, _, _ => none
| q + 1, at_t4, l_t5 => mix_Undo_s12 (mix_Undo_p17 (mix_Undo_l12 channels_1 q) channels_1) mix_Undo_p22 channels_1 at_t4 l_t5

def mix_Undo_p12 (channels_1 : Int) (at_t4 : Int) (l_t5 : List Int32) : Option ((List Int32) × Int) := mix_Undo_l12 channels_1 FUEL at_t4 l_t5

def mix_Undo_s0 (j12 : Int → Int → (List Int32) → Option ((List Int32) × Int)) (channels_1 : Int) (l_2 : List Int32) : Option ((List Int32) × Int) :=
Option.bind (mix_check channels_1 l_2) fun r_3 =>
if (gne r_3 (0 : Int)) = true then (
some (([] : List Int32), r_3))
else (
Option.bind (slices_Clone_int32_int32 l_2) fun l_4 =>
j12 channels_1 (0 : Int) l_4)

def mix_Undo (channels_1 : Int) (l_2 : List Int32) : Option ((List Int32) × Int) := mix_Undo_s0 mix_Undo_p12 channels_1 l_2

def width_Check_s6 : Option (Int) :=
some (0 : Int)

def width_Check_p6 : Option (Int) := width_Check_s6

def width_Check_s4 (j6 : Option (Int)) (bk4 : Int → Option (Int)) (r_3 : Int32) (r_4 : Int32) (l_2 : List Int32) (x_t1 : Int) : Option (Int) :=
if (glt x_t1 (lenI l_2)) = true then (
Option.bind (getI l_2 x_t1) fun c_6 =>
if ((glt c_6 r_3) || (ggt c_6 r_4)) = true then (
some (16 : Int))
else (
bk4 (gadd x_t1 (1 : Int))))
else (
j6)

def width_Check_l4 (r_3 : Int32) (r_4 : Int32) (l_2 : List Int32) : Nat → Int → Option (Int)
| 0, _ => none
| q + 1, x_t1 => width_Check_s4 width_Check_p6 (width_Check_l4 r_3 r_4 l_2 q) r_3 r_4 l_2 x_t1

def width_Check_p4 (r_3 : Int32) (r_4 : Int32) (l_2 : List Int32) (x_t1 : Int) : Option (Int) := width_Check_l4 r_3 r_4 l_2 FUEL x_t1

def width_Check_s0 (j4 : Int32 → Int32 → (List Int32) → Int → Option (Int)) (bits_1 : Int) (l_2 : List Int32) : Option (Int) :=
Option.bind (width_Range bits_1) fun (r_3, r_4, r_5) =>
if (gne r_5 (0 : Int)) = true then (
some r_5)
else (
if (ggt (lenI l_2) (4000 : Int)) = true then (
some (4 : Int))
else (
j4 r_3 r_4 l_2 (0 : Int)))

def width_Check (bits_1 : Int) (l_2 : List Int32) : Option (Int) := width_Check_s0 width_Check_p4 bits_1 l_2

def width_Bytes_s30 (x_t8 : List UInt8) : Option ((List UInt8) × Int) :=
some (x_t8, (0 : Int))

def width_Bytes_p30 (x_t8 : List UInt8) : Option ((List UInt8) × Int) := width_Bytes_s30 x_t8

def width_Bytes_s28 (bk16 : Int → (List UInt8) → Option ((List UInt8) × Int)) (bits_1 : Int) (l_2 : List Int32) (x_t7 : Int) (x_t11 : List UInt8) : Option ((List UInt8) × Int) :=
bk16 (gadd x_t7 (1 : Int)) x_t11

def width_Bytes_p28 (bk16 : Int → (List UInt8) → Option ((List UInt8) × Int)) (bits_1 : Int) (l_2 : List Int32) (x_t7 : Int) (x_t11 : List UInt8) : Option ((List UInt8) × Int) := width_Bytes_s28 bk16 bits_1 l_2 x_t7 x_t11

def width_Bytes_s26 (j28 : Int → (List UInt8) → Option ((List UInt8) × Int)) (bk26 : Int → (List UInt8) → Option ((List UInt8) × Int)) (bits_1 : Int) (l_2 : List Int32) (c_t9 : Int32) (x_t7 : Int) (x_t10 : Int) (x_t11 : List UInt8) : Option ((List UInt8) × Int) :=
if (glt x_t10 (gquo bits_1 (8 : Int))) = true then (
Option.bind (okI (gge (gmul (8 : Int) x_t10) (0 : Int))) fun _ =>
Option.bind (appI x_t11 ([(gconv (gshr c_t9 (GI.toZ (gmul (8 : Int) x_t10)).toNat) : UInt8)] : List UInt8)) fun l_5 =>
bk26 (gadd x_t10 (1 : Int)) l_5)
else (
j28 x_t7 x_t11)

def width_Bytes_l26 (bk16 : Int → (List UInt8) → Option ((List UInt8) × Int)) (bits_1 : Int) (l_2 : List Int32) (c_t9 : Int32) (x_t7 : Int) : Nat → Int → (List UInt8) → Option ((List UInt8) × Int)
| 0, _, _ => none
| q + 1, x_t10, x_t11 => width_Bytes_s26 (width_Bytes_p28 bk16 bits_1 l_2) (width_Bytes_l26 bk16 bits_1 l_2 c_t9 x_t7 q) bits_1 l_2 c_t9 x_t7 x_t10 x_t11

def width_Bytes_p26 (bk16 : Int → (List UInt8) → Option ((List UInt8) × Int)) (bits_1 : Int) (l_2 : List Int32) (c_t9 : Int32) (x_t7 : Int) (x_t10 : Int) (x_t11 : List UInt8) : Option ((List UInt8) × Int) := width_Bytes_l26 bk16 bits_1 l_2 c_t9 x_t7 FUEL x_t10 x_t11

def width_Bytes_s25 (j26 : Int32 → Int → Int → (List UInt8) → Option ((List UInt8) × Int)) (bits_1 : Int) (l_2 : List Int32) (x_t7 : Int) (x_t8 : List UInt8) (c_t9 : Int32) : Option ((List UInt8) × Int) :=
j26 c_t9 x_t7 (0 : Int) x_t8

def width_Bytes_p25 (bk16 : Int → (List UInt8) → Option ((List UInt8) × Int)) (bits_1 : Int) (l_2 : List Int32) (x_t7 : Int) (x_t8 : List UInt8) (c_t9 : Int32) : Option ((List UInt8) × Int) := width_Bytes_s25 (width_Bytes_p26 bk16 bits_1 l_2) bits_1 l_2 x_t7 x_t8 c_t9

def width_Bytes_s16 (j25 : Int → (List UInt8) → Int32 → Option ((List UInt8) × Int)) (j30 : (List UInt8) → Option ((List UInt8) × Int)) (bits_1 : Int) (l_2 : List Int32) (x_t7 : Int) (x_t8 : List UInt8) : Option ((List UInt8) × Int) :=
if (glt x_t7 (lenI l_2)) = true then (
Option.bind (getI l_2 x_t7) fun c_4 =>
if (geq bits_1 (8 : Int)) = true then (
j25 x_t7 x_t8 (gadd c_4 (128 : Int32)))
else (
j25 x_t7 x_t8 c_4))
else (
j30 x_t8)

def width_Bytes_l16 (bits_1 : Int) (l_2 : List Int32) : Nat → Int → (List UInt8) → Option ((List UInt8) × Int)
| 0, _, _ => none
| q + 1, x_t7, x_t8 => width_Bytes_s16 (width_Bytes_p25 (width_Bytes_l16 bits_1 l_2 q) bits_1 l_2) width_Bytes_p30 bits_1 l_2 x_t7 x_t8

def width_Bytes_p16 (bits_1 : Int) (l_2 : List Int32) (x_t7 : Int) (x_t8 : List UInt8) : Option ((List UInt8) × Int) := width_Bytes_l16 bits_1 l_2 FUEL x_t7 x_t8

def width_Bytes_s0 (j16 : Int → (List Int32) → Int → (List UInt8) → Option ((List UInt8) × Int)) (bits_1 : Int) (l_2 : List Int32) : Option ((List UInt8) × Int) :=
Option.bind (width_Check bits_1 l_2) fun r_3 =>
if (gne r_3 (0 : Int)) = true then (
some (([] : List UInt8), r_3))
else (
j16 bits_1 l_2 (0 : Int) ([] : List UInt8))

def width_Bytes (bits_1 : Int) (l_2 : List Int32) : Option ((List UInt8) × Int) := width_Bytes_s0 width_Bytes_p16 bits_1 l_2

def cadenzatop_TopChannel_s24 (bits_1 : Int) (channels_2 : Int) (b_4 : List UInt8) (ok_5 : Bool) (l_t4 : List Int32) : Option (Bool) :=
Option.bind (mix_Undo channels_2 l_t4) fun (l_24, r_25) =>
Option.bind (width_Bytes bits_1 l_24) fun (l_26, r_27) =>
some (((ok_5 && (geq r_25 (0 : Int))) && (geq r_27 (0 : Int))) && (l_26 == b_4))

def cadenzatop_TopChannel_p24 (bits_1 : Int) (channels_2 : Int) (b_4 : List UInt8) (ok_5 : Bool) (l_t4 : List Int32) : Option (Bool) := cadenzatop_TopChannel_s24 bits_1 channels_2 b_4 ok_5 l_t4

def cadenzatop_TopChannel_s22 (bk14 : Int → (List Int32) → Option (Bool)) (bits_1 : Int) (channels_2 : Int) (b_4 : List UInt8) (ok_5 : Bool) (l_9 : List Int32) (r_13 : Int) (a_14 : List Int32) (a_15 : List Int32) (r_17 : Int) (r_18 : Int32) (r_19 : Int) (a_20 : List Int32) (a_21 : List Int32) (c_t3 : Int) (l_t6 : List Int32) : Option (Bool) :=
bk14 (gadd c_t3 (1 : Int)) l_t6

def cadenzatop_TopChannel_p22 (bk14 : Int → (List Int32) → Option (Bool)) (bits_1 : Int) (channels_2 : Int) (b_4 : List UInt8) (ok_5 : Bool) (l_9 : List Int32) (r_13 : Int) (a_14 : List Int32) (a_15 : List Int32) (r_17 : Int) (r_18 : Int32) (r_19 : Int) (a_20 : List Int32) (a_21 : List Int32) (c_t3 : Int) (l_t6 : List Int32) : Option (Bool) := cadenzatop_TopChannel_s22 bk14 bits_1 channels_2 b_4 ok_5 l_9 r_13 a_14 a_15 r_17 r_18 r_19 a_20 a_21 c_t3 l_t6

def cadenzatop_TopChannel_s20 (j22 : Int → (List Int32) → Option (Bool)) (bk20 : Int → (List Int32) → Option (Bool)) (bits_1 : Int) (channels_2 : Int) (b_4 : List UInt8) (ok_5 : Bool) (l_9 : List Int32) (r_13 : Int) (a_14 : List Int32) (a_15 : List Int32) (r_17 : Int) (r_18 : Int32) (r_19 : Int) (a_20 : List Int32) (a_21 : List Int32) (c_t3 : Int) (l_39 : List Int32) (x_t5 : Int) (l_t6 : List Int32) : Option (Bool) :=
if (glt x_t5 (lenI l_39)) = true then (
Option.bind (getI l_39 x_t5) fun _ =>
Option.bind (getI l_39 x_t5) fun c_49 =>
Option.bind (getI l_t6 (gadd c_t3 (gmul x_t5 channels_2))) fun _ =>
Option.bind (setI l_t6 (gadd c_t3 (gmul x_t5 channels_2)) c_49) fun l_50 =>
bk20 (gadd x_t5 (1 : Int)) l_50)
else (
j22 c_t3 l_t6)

def cadenzatop_TopChannel_l20 (bk14 : Int → (List Int32) → Option (Bool)) (bits_1 : Int) (channels_2 : Int) (b_4 : List UInt8) (ok_5 : Bool) (l_9 : List Int32) (r_13 : Int) (a_14 : List Int32) (a_15 : List Int32) (r_17 : Int) (r_18 : Int32) (r_19 : Int) (a_20 : List Int32) (a_21 : List Int32) (c_t3 : Int) (l_39 : List Int32) : Nat → Int → (List Int32) → Option (Bool)
| 0, _, _ => none
| q + 1, x_t5, l_t6 => cadenzatop_TopChannel_s20 (cadenzatop_TopChannel_p22 bk14 bits_1 channels_2 b_4 ok_5 l_9 r_13 a_14 a_15 r_17 r_18 r_19 a_20 a_21) (cadenzatop_TopChannel_l20 bk14 bits_1 channels_2 b_4 ok_5 l_9 r_13 a_14 a_15 r_17 r_18 r_19 a_20 a_21 c_t3 l_39 q) bits_1 channels_2 b_4 ok_5 l_9 r_13 a_14 a_15 r_17 r_18 r_19 a_20 a_21 c_t3 l_39 x_t5 l_t6

def cadenzatop_TopChannel_p20 (bk14 : Int → (List Int32) → Option (Bool)) (bits_1 : Int) (channels_2 : Int) (b_4 : List UInt8) (ok_5 : Bool) (l_9 : List Int32) (r_13 : Int) (a_14 : List Int32) (a_15 : List Int32) (r_17 : Int) (r_18 : Int32) (r_19 : Int) (a_20 : List Int32) (a_21 : List Int32) (c_t3 : Int) (l_39 : List Int32) (x_t5 : Int) (l_t6 : List Int32) : Option (Bool) := cadenzatop_TopChannel_l20 bk14 bits_1 channels_2 b_4 ok_5 l_9 r_13 a_14 a_15 r_17 r_18 r_19 a_20 a_21 c_t3 l_39 FUEL x_t5 l_t6

def cadenzatop_TopChannel_s19 (j20 : Int → (List Int32) → Int → (List Int32) → Option (Bool)) (bits_1 : Int) (channels_2 : Int) (b_4 : List UInt8) (ok_5 : Bool) (l_9 : List Int32) (r_13 : Int) (a_14 : List Int32) (a_15 : List Int32) (r_17 : Int) (r_18 : Int32) (r_19 : Int) (a_20 : List Int32) (a_21 : List Int32) (c_t3 : Int) (l_t4 : List Int32) (l_39 : List Int32) : Option (Bool) :=
j20 c_t3 l_39 (0 : Int) l_t4

def cadenzatop_TopChannel_p19 (bk14 : Int → (List Int32) → Option (Bool)) (bits_1 : Int) (channels_2 : Int) (b_4 : List UInt8) (ok_5 : Bool) (l_9 : List Int32) (r_13 : Int) (a_14 : List Int32) (a_15 : List Int32) (r_17 : Int) (r_18 : Int32) (r_19 : Int) (a_20 : List Int32) (a_21 : List Int32) (c_t3 : Int) (l_t4 : List Int32) (l_39 : List Int32) : Option (Bool) := cadenzatop_TopChannel_s19 (cadenzatop_TopChannel_p20 bk14 bits_1 channels_2 b_4 ok_5 l_9 r_13 a_14 a_15 r_17 r_18 r_19 a_20 a_21) bits_1 channels_2 b_4 ok_5 l_9 r_13 a_14 a_15 r_17 r_18 r_19 a_20 a_21 c_t3 l_t4 l_39

def cadenzatop_TopChannel_s14 (j19 : Int → (List Int32) → (List Int32) → Option (Bool)) (j24 : Int → Int → (List UInt8) → Bool → (List Int32) → Option (Bool)) (bits_1 : Int) (channels_2 : Int) (b_4 : List UInt8) (ok_5 : Bool) (l_9 : List Int32) (r_13 : Int) (a_14 : List Int32) (a_15 : List Int32) (r_17 : Int) (r_18 : Int32) (r_19 : Int) (a_20 : List Int32) (a_21 : List Int32) (c_t3 : Int) (l_t4 : List Int32) : Option (Bool) :=
if (glt c_t3 channels_2) = true then (
Option.bind (cadenzatop_every19 l_9 c_t3 channels_2) fun l_24 =>
Option.bind (chain_All r_17 r_18 r_19 a_20 a_21 l_24) fun (l_25, r_26, r_27, r_28, a_29, a_30, r_31) =>
Option.bind (first_Forward bits_1 l_24) fun (l_32, r_33) =>
Option.bind (lms_All r_13 a_14 a_15 l_32) fun (l_34, r_35, a_36, a_37, r_38) =>
Option.bind (chain_Undo r_17 r_18 r_19 a_20 a_21 l_25) fun (l_39, r_40, r_41, r_42, a_43, a_44, r_45) =>
if ((((gne r_31 (0 : Int)) || (gne r_33 (0 : Int))) || (gne r_38 (0 : Int))) || (gne r_45 (0 : Int))) = true then (
if ((true || (!((geq r_28 r_35) && ((geqL a_29 a_36) && ((geqL a_30 a_37) && true))))) || (!((geq r_40 r_26) && ((geq r_41 r_27) && (((geq r_42 r_28) && ((geqL a_43 a_29) && ((geqL a_44 a_30) && true))) && true))))) = true then (
some false)
else (
Option.bind (cadenzaref13_Same l_39 l_24) fun ok_46 =>
if (!ok_46) = true then (
some false)
else (
j19 c_t3 l_t4 l_39)))
else (
Option.bind (cadenzaref13_Same l_25 l_34) fun ok_47 =>
if (((!ok_47) || (!((geq r_28 r_35) && ((geqL a_29 a_36) && ((geqL a_30 a_37) && true))))) || (!((geq r_40 r_26) && ((geq r_41 r_27) && (((geq r_42 r_28) && ((geqL a_43 a_29) && ((geqL a_44 a_30) && true))) && true))))) = true then (
some false)
else (
Option.bind (cadenzaref13_Same l_39 l_24) fun ok_48 =>
if (!ok_48) = true then (
some false)
else (
j19 c_t3 l_t4 l_39))))
else (
j24 bits_1 channels_2 b_4 ok_5 l_t4)

def cadenzatop_TopChannel_l14 (bits_1 : Int) (channels_2 : Int) (b_4 : List UInt8) (ok_5 : Bool) (l_9 : List Int32) (r_13 : Int) (a_14 : List Int32) (a_15 : List Int32) (r_17 : Int) (r_18 : Int32) (r_19 : Int) (a_20 : List Int32) (a_21 : List Int32) : Nat → Int → (List Int32) → Option (Bool)
| 0, _, _ => none
| q + 1, c_t3, l_t4 => cadenzatop_TopChannel_s14 (cadenzatop_TopChannel_p19 (cadenzatop_TopChannel_l14 bits_1 channels_2 b_4 ok_5 l_9 r_13 a_14 a_15 r_17 r_18 r_19 a_20 a_21 q) bits_1 channels_2 b_4 ok_5 l_9 r_13 a_14 a_15 r_17 r_18 r_19 a_20 a_21) cadenzatop_TopChannel_p24 bits_1 channels_2 b_4 ok_5 l_9 r_13 a_14 a_15 r_17 r_18 r_19 a_20 a_21 c_t3 l_t4

def cadenzatop_TopChannel_p14 (bits_1 : Int) (channels_2 : Int) (b_4 : List UInt8) (ok_5 : Bool) (l_9 : List Int32) (r_13 : Int) (a_14 : List Int32) (a_15 : List Int32) (r_17 : Int) (r_18 : Int32) (r_19 : Int) (a_20 : List Int32) (a_21 : List Int32) (c_t3 : Int) (l_t4 : List Int32) : Option (Bool) := cadenzatop_TopChannel_l14 bits_1 channels_2 b_4 ok_5 l_9 r_13 a_14 a_15 r_17 r_18 r_19 a_20 a_21 FUEL c_t3 l_t4

def cadenzatop_TopChannel_s13 (j14 : Int → Int → (List UInt8) → Bool → (List Int32) → Int → (List Int32) → (List Int32) → Int → Int32 → Int → (List Int32) → (List Int32) → Int → (List Int32) → Option (Bool)) (bits_1 : Int) (channels_2 : Int) (password_3 : List UInt8) (b_4 : List UInt8) (ok_5 : Bool) (l_6 : List Int32) : Option (Bool) :=
Option.bind (mix_All channels_2 l_6) fun (l_9, r_10) =>
Option.bind (seed_Taps password_3) fun (a_11, r_12) =>
Option.bind (taps_New bits_1 a_11) fun (r_13, a_14, a_15, r_16) =>
Option.bind (chain_New bits_1 a_11) fun (r_17, r_18, r_19, a_20, a_21, r_22) =>
if (((((((gne r_10 (0 : Int)) || (gne r_12 (0 : Int))) || (gne r_16 (0 : Int))) || (gne r_22 (0 : Int))) || (gne (lenI l_9) (lenI l_6))) || (!((geq r_19 r_13) && ((geqL a_20 a_14) && ((geqL a_21 a_15) && true))))) || (gne r_18 (0 : Int32))) = true then (
some false)
else (
Option.bind (mkI (lenI l_6) (0 : Int32)) fun l_23 =>
Option.bind (okI (geq (lenI l_6) (lenI l_6))) fun _ =>
j14 bits_1 channels_2 b_4 ok_5 l_9 r_13 a_14 a_15 r_17 r_18 r_19 a_20 a_21 (0 : Int) l_23)

def cadenzatop_TopChannel_p13 (bits_1 : Int) (channels_2 : Int) (password_3 : List UInt8) (b_4 : List UInt8) (ok_5 : Bool) (l_6 : List Int32) : Option (Bool) := cadenzatop_TopChannel_s13 cadenzatop_TopChannel_p14 bits_1 channels_2 password_3 b_4 ok_5 l_6

def cadenzatop_TopChannel_s0 (j13 : Int → Int → (List UInt8) → (List UInt8) → Bool → (List Int32) → Option (Bool)) (bits_1 : Int) (channels_2 : Int) (password_3 : List UInt8) (b_4 : List UInt8) : Option (Bool) :=
Option.bind (cadenzatop_alive19) fun ok_5 =>
if (((ggt (lenI b_4) (600 : Int)) || (ggt (lenI password_3) (64 : Int))) || (!ok_5)) = true then (
some ok_5)
else (
Option.bind (width_Samples bits_1 b_4) fun (l_6, r_7) =>
if (gne r_7 (0 : Int)) = true then (
some ok_5)
else (
Option.bind (cadenzaref17_Check channels_2 l_6) fun r_8 =>
if (gne r_8 (0 : Int)) = true then (
some ok_5)
else (
j13 bits_1 channels_2 password_3 b_4 ok_5 l_6)))

def cadenzatop_TopChannel (bits_1 : Int) (channels_2 : Int) (password_3 : List UInt8) (b_4 : List UInt8) : Option (Bool) := cadenzatop_TopChannel_s0 cadenzatop_TopChannel_p13 bits_1 channels_2 password_3 b_4
end Go.Pl
