/- A part of the proof of a statement of this seat (see the text that ends in Proof): DPure. No conditions of its own. -/
import Derived.Test.YticiaelockkfkaaDoorLvAll
set_option linter.unusedVariables false
namespace Go.Pl
open Go Go.Lv
def cadenzaref35_Long (b_1 : List UInt8) : Option (Bool) :=
some (((ggt (lenI b_1) (4000 : Int)) && (glt (lenI b_1) (99900 : Int))) || (ggt (lenI b_1) (100100 : Int)))

def bytes_Equal (a_1 : List UInt8) (b_2 : List UInt8) : Option (Bool) :=
some (a_1 == b_2)

def bytes_HasPrefix (s_1 : List UInt8) (prefix_2 : List UInt8) : Option (Bool) :=
if (gge (lenI s_1) (lenI prefix_2)) = true then (
Option.bind (cutI s_1 (0 : Int) (lenI prefix_2)) fun s_3 =>
Option.bind (bytes_Equal s_3 prefix_2) fun ok_4 =>
some ok_4)
else (
some false)

def idthree_Value_s6 (n_t1 : Int) : Option (Int × Int) :=
some (n_t1, (0 : Int))

def idthree_Value_p6 (n_t1 : Int) : Option (Int × Int) := idthree_Value_s6 n_t1

def idthree_Value_s4 (j6 : Int → Option (Int × Int)) (bk4 : Int → Int → Option (Int × Int)) (b_1 : List UInt8) (n_t1 : Int) (x_t2 : Int) : Option (Int × Int) :=
if (glt x_t2 (lenI b_1)) = true then (
Option.bind (getI b_1 x_t2) fun c_2 =>
if (ggt c_2 (127 : UInt8)) = true then (
some ((0 : Int), (12 : Int)))
else (
bk4 (gor (gshl n_t1 (GI.toZ (7 : UInt64)).toNat) (gconv c_2 : Int)) (gadd x_t2 (1 : Int))))
else (
j6 n_t1)

def idthree_Value_l4 (b_1 : List UInt8) : Nat → Int → Int → Option (Int × Int)
| 0, _, _ => none
| q + 1, n_t1, x_t2 => idthree_Value_s4 idthree_Value_p6 (idthree_Value_l4 b_1 q) b_1 n_t1 x_t2

def idthree_Value_p4 (b_1 : List UInt8) (n_t1 : Int) (x_t2 : Int) : Option (Int × Int) := idthree_Value_l4 b_1 FUEL n_t1 x_t2

def idthree_Value_s0 (j4 : (List UInt8) → Int → Int → Option (Int × Int)) (b_1 : List UInt8) : Option (Int × Int) :=
if (gne (lenI b_1) (4 : Int)) = true then (
some ((0 : Int), (2 : Int)))
else (
j4 b_1 (0 : Int) (0 : Int))

def idthree_Value (b_1 : List UInt8) : Option (Int × Int) := idthree_Value_s0 idthree_Value_p4 b_1

def idthree_Size_s8 (b_1 : List UInt8) (c_4 : UInt8) (n_t2 : Int) : Option (Int × Int) :=
if (ggt n_t2 (4000 : Int)) = true then (
some ((0 : Int), (4 : Int)))
else (
if (glt (lenI b_1) n_t2) = true then (
some ((0 : Int), (24 : Int)))
else (
if (geq c_4 (16 : UInt8)) = true then (
Option.bind (cutI b_1 (gsub n_t2 (10 : Int)) n_t2) fun b_9 =>
Option.bind (cutI b_9 (0 : Int) (3 : Int)) fun b_10 =>
if (b_10 != ([51, 68, 73] : List UInt8)) = true then (
some ((0 : Int), (12 : Int)))
else (
Option.bind (cutI b_9 (3 : Int) (lenI b_9)) fun b_11 =>
Option.bind (cutI b_1 (3 : Int) (10 : Int)) fun b_12 =>
Option.bind (bytes_Equal b_11 b_12) fun ok_13 =>
if (!ok_13) = true then (
some ((0 : Int), (12 : Int)))
else (
some (n_t2, (0 : Int)))))
else (
some (n_t2, (0 : Int)))))

def idthree_Size_p8 (b_1 : List UInt8) (c_4 : UInt8) (n_t2 : Int) : Option (Int × Int) := idthree_Size_s8 b_1 c_4 n_t2

def idthree_Size_s7 (j8 : (List UInt8) → UInt8 → Int → Option (Int × Int)) (b_1 : List UInt8) (r_6 : Int) (c_4 : UInt8) : Option (Int × Int) :=
if (geq c_4 (16 : UInt8)) = true then (
j8 b_1 c_4 (gadd (gadd r_6 (10 : Int)) (10 : Int)))
else (
j8 b_1 c_4 (gadd r_6 (10 : Int)))

def idthree_Size_p7 (b_1 : List UInt8) (r_6 : Int) (c_4 : UInt8) : Option (Int × Int) := idthree_Size_s7 idthree_Size_p8 b_1 r_6 c_4

def idthree_Size_s6 (j7 : (List UInt8) → Int → UInt8 → Option (Int × Int)) (b_1 : List UInt8) (r_6 : Int) (c_4 : UInt8) (x_t1 : Bool) : Option (Int × Int) :=
if x_t1 = true then (
some ((0 : Int), (12 : Int)))
else (
j7 b_1 r_6 c_4)

def idthree_Size_p6 (b_1 : List UInt8) (r_6 : Int) (c_4 : UInt8) (x_t1 : Bool) : Option (Int × Int) := idthree_Size_s6 idthree_Size_p7 b_1 r_6 c_4 x_t1

def idthree_Size_s5 (j6 : (List UInt8) → Int → UInt8 → Bool → Option (Int × Int)) (b_1 : List UInt8) (c_3 : UInt8) (c_4 : UInt8) : Option (Int × Int) :=
Option.bind (cutI b_1 (6 : Int) (10 : Int)) fun b_5 =>
Option.bind (idthree_Value b_5) fun (r_6, r_7) =>
if (gne r_7 (0 : Int)) = true then (
if true = true then (
j6 b_1 r_6 c_4 true)
else (
if (geq c_4 (0 : UInt8)) = true then (
j6 b_1 r_6 c_4 (!((gge c_3 (2 : UInt8)) && (gle c_3 (4 : UInt8)))))
else (
if (geq c_4 (16 : UInt8)) = true then (
j6 b_1 r_6 c_4 (!(geq c_3 (4 : UInt8))))
else (
j6 b_1 r_6 c_4 (!false)))))
else (
Option.bind (getI b_1 (4 : Int)) fun c_8 =>
if (gne c_8 (0 : UInt8)) = true then (
j6 b_1 r_6 c_4 true)
else (
if (geq c_4 (0 : UInt8)) = true then (
j6 b_1 r_6 c_4 (!((gge c_3 (2 : UInt8)) && (gle c_3 (4 : UInt8)))))
else (
if (geq c_4 (16 : UInt8)) = true then (
j6 b_1 r_6 c_4 (!(geq c_3 (4 : UInt8))))
else (
j6 b_1 r_6 c_4 (!false)))))

def idthree_Size_p5 (b_1 : List UInt8) (c_3 : UInt8) (c_4 : UInt8) : Option (Int × Int) := idthree_Size_s5 idthree_Size_p6 b_1 c_3 c_4

def idthree_Size_s0 (j5 : (List UInt8) → UInt8 → UInt8 → Option (Int × Int)) (b_1 : List UInt8) : Option (Int × Int) :=
Option.bind (bytes_HasPrefix b_1 ([(73 : UInt8), (68 : UInt8), (51 : UInt8)] : List UInt8)) fun ok_2 =>
if (!ok_2) = true then (
some ((0 : Int), (6 : Int)))
else (
if (glt (lenI b_1) (10 : Int)) = true then (
some ((0 : Int), (24 : Int)))
else (
Option.bind (getI b_1 (3 : Int)) fun c_3 =>
Option.bind (getI b_1 (5 : Int)) fun c_4 =>
(
(
(
j5 b_1 c_3 c_4)))))

def idthree_Size (b_1 : List UInt8) : Option (Int × Int) := idthree_Size_s0 idthree_Size_p5 b_1

def le_Value_s6 (n_t1 : UInt64) : Option (UInt64 × Int) :=
some (n_t1, (0 : Int))

def le_Value_p6 (n_t1 : UInt64) : Option (UInt64 × Int) := le_Value_s6 n_t1

def le_Value_s4 (j6 : UInt64 → Option (UInt64 × Int)) (bk4 : UInt64 → Int → Option (UInt64 × Int)) (b_1 : List UInt8) (n_t1 : UInt64) (x_t2 : Int) : Option (UInt64 × Int) :=
if (glt x_t2 (lenI b_1)) = true then (
Option.bind (getI b_1 x_t2) fun c_2 =>
Option.bind (okI (gge (gmul (8 : Int) x_t2) (0 : Int))) fun _ =>
bk4 (gor n_t1 (gshl (gconv c_2 : UInt64) (GI.toZ (gmul (8 : Int) x_t2)).toNat)) (gadd x_t2 (1 : Int)))
else (
j6 n_t1)

def le_Value_l4 (b_1 : List UInt8) : Nat → UInt64 → Int → Option (UInt64 × Int)
| 0, _, _ => none
| q + 1, n_t1, x_t2 => le_Value_s4 le_Value_p6 (le_Value_l4 b_1 q) b_1 n_t1 x_t2

def le_Value_p4 (b_1 : List UInt8) (n_t1 : UInt64) (x_t2 : Int) : Option (UInt64 × Int) := le_Value_l4 b_1 FUEL n_t1 x_t2

def le_Value_s0 (j4 : (List UInt8) → UInt64 → Int → Option (UInt64 × Int)) (b_1 : List UInt8) : Option (UInt64 × Int) :=
if ((glt (lenI b_1) (1 : Int)) || (ggt (lenI b_1) (8 : Int))) = true then (
some ((0 : UInt64), (2 : Int)))
else (
j4 b_1 (0 : UInt64) (0 : Int))

def le_Value (b_1 : List UInt8) : Option (UInt64 × Int) := le_Value_s0 le_Value_p4 b_1

def le_At (b_1 : List UInt8) (at_2 : Int) (w_3 : Int) : Option (UInt64 × Int) :=
if (((glt w_3 (1 : Int)) || (ggt w_3 (8 : Int))) || (glt at_2 (0 : Int))) = true then (
some ((0 : UInt64), (2 : Int)))
else (
if (ggt at_2 (gsub (lenI b_1) w_3)) = true then (
some ((0 : UInt64), (24 : Int)))
else (
Option.bind (cutI b_1 at_2 (gadd at_2 w_3)) fun b_4 =>
Option.bind (le_Value b_4) fun (r_5, r_6) =>
some (r_5, r_6)))

def le_fits (n_1 : UInt64) (w_2 : Int) : Option (Bool) :=
if (geq w_2 (8 : Int)) = true then (
some true)
else (
Option.bind (okI (gge (gmul (8 : Int) w_2) (0 : Int))) fun _ =>
some (geq (gshr n_1 (GI.toZ (gmul (8 : Int) w_2)).toNat) (0 : UInt64)))

def le_Bytes_s6 (l_t2 : List UInt8) : Option ((List UInt8) × Int) :=
some (l_t2, (0 : Int))

def le_Bytes_p6 (l_t2 : List UInt8) : Option ((List UInt8) × Int) := le_Bytes_s6 l_t2

def le_Bytes_s4 (j6 : (List UInt8) → Option ((List UInt8) × Int)) (bk4 : Int → (List UInt8) → Option ((List UInt8) × Int)) (n_1 : UInt64) (l_4 : List UInt8) (x_t1 : Int) (l_t2 : List UInt8) : Option ((List UInt8) × Int) :=
if (glt x_t1 (lenI l_4)) = true then (
Option.bind (okI (gge (gmul (8 : Int) x_t1) (0 : Int))) fun _ =>
Option.bind (getI l_t2 x_t1) fun _ =>
Option.bind (setI l_t2 x_t1 (gconv (gshr n_1 (GI.toZ (gmul (8 : Int) x_t1)).toNat) : UInt8)) fun l_5 =>
bk4 (gadd x_t1 (1 : Int)) l_5)
else (
j6 l_t2)

def le_Bytes_l4 (n_1 : UInt64) (l_4 : List UInt8) : Nat → Int → (List UInt8) → Option ((List UInt8) × Int)
| 0, _, _ => none
| q + 1, x_t1, l_t2 => le_Bytes_s4 le_Bytes_p6 (le_Bytes_l4 n_1 l_4 q) n_1 l_4 x_t1 l_t2

def le_Bytes_p4 (n_1 : UInt64) (l_4 : List UInt8) (x_t1 : Int) (l_t2 : List UInt8) : Option ((List UInt8) × Int) := le_Bytes_l4 n_1 l_4 FUEL x_t1 l_t2

def le_Bytes_s0 (j4 : UInt64 → (List UInt8) → Int → (List UInt8) → Option ((List UInt8) × Int)) (n_1 : UInt64) (w_2 : Int) : Option ((List UInt8) × Int) :=
if ((glt w_2 (1 : Int)) || (ggt w_2 (8 : Int))) = true then (
some (([] : List UInt8), (2 : Int)))
else (
Option.bind (le_fits n_1 w_2) fun ok_3 =>
if (!ok_3) = true then (
some (([] : List UInt8), (16 : Int)))
else (
Option.bind (mkI w_2 (0 : UInt8)) fun l_4 =>
Option.bind (okI (geq w_2 w_2)) fun _ =>
j4 n_1 l_4 (0 : Int) l_4))

def le_Bytes (n_1 : UInt64) (w_2 : Int) : Option ((List UInt8) × Int) := le_Bytes_s0 le_Bytes_p4 n_1 w_2

def ape_end_s6 (x_t2 : List UInt8) : Option ((List UInt8)) :=
some x_t2

def ape_end_p6 (x_t2 : List UInt8) : Option ((List UInt8)) := ape_end_s6 x_t2

def ape_end_s4 (j6 : (List UInt8) → Option ((List UInt8))) (bk4 : Int → (List UInt8) → Option ((List UInt8))) (items_1 : Int) (count_2 : Int) (flags_3 : UInt64) (x_t1 : Int) (x_t2 : List UInt8) : Option ((List UInt8)) :=
if (glt x_t1 (lenI ([(2000 : UInt64), (gconv (gadd items_1 (32 : Int)) : UInt64), (gconv count_2 : UInt64), flags_3, (0 : UInt64), (0 : UInt64)] : List UInt64))) = true then (
Option.bind (getI ([(2000 : UInt64), (gconv (gadd items_1 (32 : Int)) : UInt64), (gconv count_2 : UInt64), flags_3, (0 : UInt64), (0 : UInt64)] : List UInt64) x_t1) fun _ =>
Option.bind (getI ([(2000 : UInt64), (gconv (gadd items_1 (32 : Int)) : UInt64), (gconv count_2 : UInt64), flags_3, (0 : UInt64), (0 : UInt64)] : List UInt64) x_t1) fun c_4 =>
Option.bind (le_Bytes c_4 (4 : Int)) fun (l_5, r_6) =>
Option.bind (appI x_t2 l_5) fun l_7 =>
bk4 (gadd x_t1 (1 : Int)) l_7)
else (
j6 x_t2)

def ape_end_l4 (items_1 : Int) (count_2 : Int) (flags_3 : UInt64) : Nat → Int → (List UInt8) → Option ((List UInt8))
| 0, _, _ => none
| q + 1, x_t1, x_t2 => ape_end_s4 ape_end_p6 (ape_end_l4 items_1 count_2 flags_3 q) items_1 count_2 flags_3 x_t1 x_t2

def ape_end_p4 (items_1 : Int) (count_2 : Int) (flags_3 : UInt64) (x_t1 : Int) (x_t2 : List UInt8) : Option ((List UInt8)) := ape_end_l4 items_1 count_2 flags_3 FUEL x_t1 x_t2

def ape_end_s0 (j4 : Int → Int → UInt64 → Int → (List UInt8) → Option ((List UInt8))) (items_1 : Int) (count_2 : Int) (flags_3 : UInt64) : Option ((List UInt8)) :=
j4 items_1 count_2 flags_3 (0 : Int) ([(65 : UInt8), (80 : UInt8), (69 : UInt8), (84 : UInt8), (65 : UInt8), (71 : UInt8), (69 : UInt8), (88 : UInt8)] : List UInt8)

def ape_end (items_1 : Int) (count_2 : Int) (flags_3 : UInt64) : Option ((List UInt8)) := ape_end_s0 ape_end_p4 items_1 count_2 flags_3

def ape_tells (b_1 : List UInt8) (flags_2 : UInt64) : Option (Int × Int × Bool) :=
Option.bind (le_At b_1 (12 : Int) (4 : Int)) fun (r_3, r_4) =>
Option.bind (le_At b_1 (16 : Int) (4 : Int)) fun (r_5, r_6) =>
if (((glt r_3 (32 : UInt64)) || (ggt r_3 (3032 : UInt64))) || (ggt r_5 (1000 : UInt64))) = true then (
some ((0 : Int), (0 : Int), false))
else (
Option.bind (ape_end (gsub (gconv r_3 : Int) (32 : Int)) (gconv r_5 : Int) flags_2) fun l_7 =>
Option.bind (bytes_Equal b_1 l_7) fun ok_8 =>
some ((gsub (gconv r_3 : Int) (32 : Int)), (gconv r_5 : Int), ok_8))

def ape_Front (b_1 : List UInt8) : Option (Int × Int) :=
Option.bind (bytes_HasPrefix b_1 ([(65 : UInt8), (80 : UInt8), (69 : UInt8), (84 : UInt8), (65 : UInt8), (71 : UInt8), (69 : UInt8), (88 : UInt8)] : List UInt8)) fun ok_2 =>
if (!ok_2) = true then (
some ((0 : Int), (6 : Int)))
else (
if (glt (lenI b_1) (32 : Int)) = true then (
some ((0 : Int), (24 : Int)))
else (
Option.bind (cutI b_1 (0 : Int) (32 : Int)) fun b_3 =>
Option.bind (ape_tells b_3 (2684354560 : UInt64)) fun (r_4, r_5, ok_6) =>
if (!ok_6) = true then (
some ((0 : Int), (12 : Int)))
else (
if (glt (lenI b_1) (gadd r_4 (64 : Int))) = true then (
some ((0 : Int), (24 : Int)))
else (
Option.bind (cutI b_1 (gsub (gadd r_4 (64 : Int)) (32 : Int)) (gadd r_4 (64 : Int))) fun b_7 =>
Option.bind (ape_end r_4 r_5 (2147483648 : UInt64)) fun l_8 =>
Option.bind (bytes_Equal b_7 l_8) fun ok_9 =>
if (!ok_9) = true then (
some ((0 : Int), (12 : Int)))
else (
some ((gadd r_4 (64 : Int)), (0 : Int)))))))

def strip_size (b_1 : List UInt8) : Option (Int × Int) :=
Option.bind (idthree_Size b_1) fun (r_2, r_3) =>
if (gne r_3 (6 : Int)) = true then (
some (r_2, r_3))
else (
Option.bind (ape_Front b_1) fun (r_4, r_5) =>
some (r_4, r_5))

def strip_Front_l (b : List UInt8) : Nat → Int → Option (Int × Int)
  | 0, _ => none
  | q + 1, x => Option.bind (cutI b x (lenI b)) fun s => Option.bind (strip_size s) fun r =>
    if geq r.2 (6 : Int) = true then some (x, 0)
    else if (geq r.2 (0 : Int) && ggt (gadd x r.1) (4000 : Int)) = true then some (0, 4)
    else if gne r.2 (0 : Int) = true then some (0, r.2)
    else strip_Front_l b q (gadd x r.1)
def strip_Front (b : List UInt8) : Option (Int × Int) := strip_Front_l b FUEL 0

def internal_stringslite_HasPrefix (s_1 : List UInt8) (prefix_2 : List UInt8) : Option (Bool) :=
if (gge (lenI s_1) (lenI prefix_2)) = true then (
Option.bind (cutI s_1 (0 : Int) (lenI prefix_2)) fun s_3 =>
some (s_3 == prefix_2))
else (
some false)

def strings_HasPrefix (s_1 : List UInt8) (prefix_2 : List UInt8) : Option (Bool) :=
Option.bind (internal_stringslite_HasPrefix s_1 prefix_2) fun ok_3 =>
some ok_3

def crc32_Next_s30 (state_t7 : UInt32) : Option (UInt32 × Int) :=
some (state_t7, (0 : Int))

def crc32_Next_p30 (state_t7 : UInt32) : Option (UInt32 × Int) := crc32_Next_s30 state_t7

def crc32_Next_s28 (j30 : UInt32 → Option (UInt32 × Int)) (bk28 : UInt32 → Int → Option (UInt32 × Int)) (b_2 : List UInt8) (x_t4 : List UInt32) (state_t7 : UInt32) (x_t8 : Int) : Option (UInt32 × Int) :=
if (glt x_t8 (lenI b_2)) = true then (
Option.bind (getI b_2 x_t8) fun c_3 =>
Option.bind (getI x_t4 (GI.toZ (gxor (gconv state_t7 : UInt8) c_3))) fun _ =>
Option.bind (getI x_t4 (GI.toZ (gxor (gconv state_t7 : UInt8) c_3))) fun c_4 =>
bk28 (gxor (gshr state_t7 (GI.toZ (8 : UInt64)).toNat) c_4) (gadd x_t8 (1 : Int)))
else (
j30 state_t7)

def crc32_Next_l28 (b_2 : List UInt8) (x_t4 : List UInt32) : Nat → UInt32 → Int → Option (UInt32 × Int)
| 0, _, _ => none
| q + 1, state_t7, x_t8 => crc32_Next_s28 crc32_Next_p30 (crc32_Next_l28 b_2 x_t4 q) b_2 x_t4 state_t7 x_t8

def crc32_Next_p28 (b_2 : List UInt8) (x_t4 : List UInt32) (state_t7 : UInt32) (x_t8 : Int) : Option (UInt32 × Int) := crc32_Next_l28 b_2 x_t4 FUEL state_t7 x_t8

def crc32_Next_s27 (j28 : (List UInt8) → (List UInt32) → UInt32 → Int → Option (UInt32 × Int)) (state_1 : UInt32) (b_2 : List UInt8) (x_t4 : List UInt32) : Option (UInt32 × Int) :=
j28 b_2 x_t4 state_1 (0 : Int)

def crc32_Next_p27 (state_1 : UInt32) (b_2 : List UInt8) (x_t4 : List UInt32) : Option (UInt32 × Int) := crc32_Next_s27 crc32_Next_p28 state_1 b_2 x_t4

def crc32_Next_s26 (j27 : UInt32 → (List UInt8) → (List UInt32) → Option (UInt32 × Int)) (state_1 : UInt32) (b_2 : List UInt8) (x_t4 : List UInt32) : Option (UInt32 × Int) :=
j27 state_1 b_2 x_t4

def crc32_Next_p26 (state_1 : UInt32) (b_2 : List UInt8) (x_t4 : List UInt32) : Option (UInt32 × Int) := crc32_Next_s26 crc32_Next_p27 state_1 b_2 x_t4

def crc32_Next_s24 (bk16 : Int → (List UInt32) → Option (UInt32 × Int)) (state_1 : UInt32) (b_2 : List UInt8) (x_t3 : Int) (l_3 : List UInt32) : Option (UInt32 × Int) :=
bk16 (gadd x_t3 (1 : Int)) l_3

def crc32_Next_p24 (bk16 : Int → (List UInt32) → Option (UInt32 × Int)) (state_1 : UInt32) (b_2 : List UInt8) (x_t3 : Int) (l_3 : List UInt32) : Option (UInt32 × Int) := crc32_Next_s24 bk16 state_1 b_2 x_t3 l_3

def crc32_Next_s23 (j24 : Int → (List UInt32) → Option (UInt32 × Int)) (state_1 : UInt32) (b_2 : List UInt8) (x_t3 : Int) (c_t5 : UInt32) (x_t4 : List UInt32) : Option (UInt32 × Int) :=
Option.bind (getI x_t4 x_t3) fun _ =>
Option.bind (setI x_t4 x_t3 c_t5) fun l_3 =>
j24 x_t3 l_3

def crc32_Next_p23 (bk16 : Int → (List UInt32) → Option (UInt32 × Int)) (state_1 : UInt32) (b_2 : List UInt8) (x_t3 : Int) (c_t5 : UInt32) (x_t4 : List UInt32) : Option (UInt32 × Int) := crc32_Next_s23 (crc32_Next_p24 bk16 state_1 b_2) state_1 b_2 x_t3 c_t5 x_t4

def crc32_Next_s21 (j23 : Int → UInt32 → (List UInt32) → Option (UInt32 × Int)) (bk21 : UInt32 → Int → Option (UInt32 × Int)) (state_1 : UInt32) (b_2 : List UInt8) (x_t3 : Int) (x_t4 : List UInt32) (c_t5 : UInt32) (x_t6 : Int) : Option (UInt32 × Int) :=
if (glt x_t6 (8 : Int)) = true then (
bk21 (gxor (gshr c_t5 (GI.toZ (1 : UInt64)).toNat) (gmul (3988292384 : UInt32) (gand c_t5 (1 : UInt32)))) (gadd x_t6 (1 : Int)))
else (
j23 x_t3 c_t5 x_t4)

def crc32_Next_l21 (bk16 : Int → (List UInt32) → Option (UInt32 × Int)) (state_1 : UInt32) (b_2 : List UInt8) (x_t3 : Int) (x_t4 : List UInt32) : Nat → UInt32 → Int → Option (UInt32 × Int)
| 0, _, _ => none
| q + 1, c_t5, x_t6 => crc32_Next_s21 (crc32_Next_p23 bk16 state_1 b_2) (crc32_Next_l21 bk16 state_1 b_2 x_t3 x_t4 q) state_1 b_2 x_t3 x_t4 c_t5 x_t6

def crc32_Next_p21 (bk16 : Int → (List UInt32) → Option (UInt32 × Int)) (state_1 : UInt32) (b_2 : List UInt8) (x_t3 : Int) (x_t4 : List UInt32) (c_t5 : UInt32) (x_t6 : Int) : Option (UInt32 × Int) := crc32_Next_l21 bk16 state_1 b_2 x_t3 x_t4 FUEL c_t5 x_t6

def crc32_Next_s16 (j21 : Int → (List UInt32) → UInt32 → Int → Option (UInt32 × Int)) (j26 : UInt32 → (List UInt8) → (List UInt32) → Option (UInt32 × Int)) (state_1 : UInt32) (b_2 : List UInt8) (x_t3 : Int) (x_t4 : List UInt32) : Option (UInt32 × Int) :=
if (glt x_t3 (256 : Int)) = true then (
j21 x_t3 x_t4 (gconv x_t3 : UInt32) (0 : Int))
else (
j26 state_1 b_2 x_t4)

def crc32_Next_l16 (state_1 : UInt32) (b_2 : List UInt8) : Nat → Int → (List UInt32) → Option (UInt32 × Int)
| 0, _, _ => none
| q + 1, x_t3, x_t4 => crc32_Next_s16 (crc32_Next_p21 (crc32_Next_l16 state_1 b_2 q) state_1 b_2) crc32_Next_p26 state_1 b_2 x_t3 x_t4

def crc32_Next_p16 (state_1 : UInt32) (b_2 : List UInt8) (x_t3 : Int) (x_t4 : List UInt32) : Option (UInt32 × Int) := crc32_Next_l16 state_1 b_2 FUEL x_t3 x_t4

def crc32_Next_s0 (j16 : UInt32 → (List UInt8) → Int → (List UInt32) → Option (UInt32 × Int)) (state_1 : UInt32) (b_2 : List UInt8) : Option (UInt32 × Int) :=
if (ggt (lenI b_2) (100000 : Int)) = true then (
some ((0 : UInt32), (4 : Int)))
else (
j16 state_1 b_2 (0 : Int) (List.replicate 256 (0 : UInt32)))

def crc32_Next (state_1 : UInt32) (b_2 : List UInt8) : Option (UInt32 × Int) := crc32_Next_s0 crc32_Next_p16 state_1 b_2

def crc32_Sum (b_1 : List UInt8) : Option (UInt32 × Int) :=
Option.bind (crc32_Next (4294967295 : UInt32) b_1) fun (r_2, r_3) =>
if (gne r_3 (0 : Int)) = true then (
some ((0 : UInt32), r_3))
else (
some ((gnot r_2), (0 : Int)))

def header_shaped_s2 (h_1 : Int) (h_2 : Int) (h_3 : Int) (h_4 : Int) (h_5 : Int) : Option (Bool) :=
some (((((((geq h_1 (1 : Int)) || (geq h_1 (2 : Int))) && (ggt h_2 (0 : Int))) && (gle h_2 (6 : Int))) && (ggt h_4 (0 : Int))) && (gle h_4 (1048576 : Int))) && (ggt h_5 (0 : Int)))

def header_shaped_p2 (h_1 : Int) (h_2 : Int) (h_3 : Int) (h_4 : Int) (h_5 : Int) : Option (Bool) := header_shaped_s2 h_1 h_2 h_3 h_4 h_5

def header_shaped_s0 (j2 : Int → Int → Int → Int → Int → Option (Bool)) (h_1 : Int) (h_2 : Int) (h_3 : Int) (h_4 : Int) (h_5 : Int) : Option (Bool) :=
if (geq h_3 (8 : Int)) = true then (
if (geq h_3 (8 : Int)) = true then (
j2 h_1 h_2 h_3 h_4 h_5)
else (
some false))
else (
if (geq h_3 (16 : Int)) = true then (
if (geq h_3 (16 : Int)) = true then (
j2 h_1 h_2 h_3 h_4 h_5)
else (
some false))
else (
if (geq h_3 (24 : Int)) = true then (
j2 h_1 h_2 h_3 h_4 h_5)
else (
some false)))

def header_shaped (h_1 : Int) (h_2 : Int) (h_3 : Int) (h_4 : Int) (h_5 : Int) : Option (Bool) := header_shaped_s0 header_shaped_p2 h_1 h_2 h_3 h_4 h_5

def lengths_Long (rate_1 : Int) : Option (Int × Int) :=
if ((glt rate_1 (1 : Int)) || (ggt rate_1 (1048576 : Int))) = true then (
some ((0 : Int), (2 : Int)))
else (
some ((gmax (1 : Int) (gquo (gmul (256 : Int) rate_1) (245 : Int))), (0 : Int)))

def lengths_Count (rate_1 : Int) (n_2 : Int) : Option (Int × Int) :=
Option.bind (lengths_Long rate_1) fun (r_3, r_4) =>
if (gne r_4 (0 : Int)) = true then (
some ((0 : Int), r_4))
else (
if ((glt n_2 (1 : Int)) || (ggt n_2 (4000 : Int))) = true then (
some ((0 : Int), (2 : Int)))
else (
Option.bind (okI (gne r_3 (0 : Int))) fun _ =>
if (ggt (gquo (gsub (gadd n_2 r_3) (1 : Int)) r_3) (1000 : Int)) = true then (
some ((0 : Int), (4 : Int)))
else (
some ((gquo (gsub (gadd n_2 r_3) (1 : Int)) r_3), (0 : Int)))))

def header_fits (h_1 : Int) (h_2 : Int) (h_3 : Int) (h_4 : Int) (h_5 : Int) : Option (Bool) :=
Option.bind (okI (gne h_2 (0 : Int))) fun _ =>
if (ggt h_5 (gquo (4000 : Int) h_2)) = true then (
some false)
else (
Option.bind (lengths_Count h_4 h_5) fun (r_6, r_7) =>
some ((geq r_7 (0 : Int)) && (gle r_6 (1000 : Int))))

def header_Read_s6 (x_t3 : List Int) : Option (Int × Int × Int × Int × Int × Int) :=
Option.bind (getI x_t3 (0 : Int)) fun _ =>
Option.bind (getI x_t3 (0 : Int)) fun c_9 =>
Option.bind (getI x_t3 (1 : Int)) fun _ =>
Option.bind (getI x_t3 (1 : Int)) fun c_10 =>
Option.bind (getI x_t3 (2 : Int)) fun _ =>
Option.bind (getI x_t3 (2 : Int)) fun c_11 =>
Option.bind (getI x_t3 (3 : Int)) fun _ =>
Option.bind (getI x_t3 (3 : Int)) fun c_12 =>
Option.bind (getI x_t3 (4 : Int)) fun _ =>
Option.bind (getI x_t3 (4 : Int)) fun c_13 =>
Option.bind (header_shaped c_9 c_10 c_11 c_12 c_13) fun ok_14 =>
if (!ok_14) = true then (
some ((0 : Int), (0 : Int), (0 : Int), (0 : Int), (0 : Int), (12 : Int)))
else (
Option.bind (header_fits c_9 c_10 c_11 c_12 c_13) fun ok_15 =>
if (!ok_15) = true then (
some ((0 : Int), (0 : Int), (0 : Int), (0 : Int), (0 : Int), (4 : Int)))
else (
some (c_9, c_10, c_11, c_12, c_13, (0 : Int))))

def header_Read_p6 (x_t3 : List Int) : Option (Int × Int × Int × Int × Int × Int) := header_Read_s6 x_t3

def header_Read_s4 (j6 : (List Int) → Option (Int × Int × Int × Int × Int × Int)) (bk4 : Int → Int → (List Int) → Option (Int × Int × Int × Int × Int × Int)) (b_1 : List UInt8) (at_t1 : Int) (x_t2 : Int) (x_t3 : List Int) : Option (Int × Int × Int × Int × Int × Int) :=
if (glt x_t2 (5 : Int)) = true then (
Option.bind (getI ([(2 : Int), (2 : Int), (2 : Int), (4 : Int), (4 : Int)] : List Int) x_t2) fun c_9 =>
Option.bind (le_At b_1 at_t1 c_9) fun (r_10, r_11) =>
Option.bind (getI x_t3 x_t2) fun _ =>
Option.bind (setI x_t3 x_t2 (gconv r_10 : Int)) fun l_12 =>
bk4 (gadd at_t1 c_9) (gadd x_t2 (1 : Int)) l_12)
else (
j6 x_t3)

def header_Read_l4 (b_1 : List UInt8) : Nat → Int → Int → (List Int) → Option (Int × Int × Int × Int × Int × Int)
| 0, _, _, _ => none
| q + 1, at_t1, x_t2, x_t3 => header_Read_s4 header_Read_p6 (header_Read_l4 b_1 q) b_1 at_t1 x_t2 x_t3

def header_Read_p4 (b_1 : List UInt8) (at_t1 : Int) (x_t2 : Int) (x_t3 : List Int) : Option (Int × Int × Int × Int × Int × Int) := header_Read_l4 b_1 FUEL at_t1 x_t2 x_t3

def header_Read_s0 (j4 : (List UInt8) → Int → Int → (List Int) → Option (Int × Int × Int × Int × Int × Int)) (b_1 : List UInt8) : Option (Int × Int × Int × Int × Int × Int) :=
Option.bind (cutI b_1 (0 : Int) (gmin (4 : Int) (lenI b_1))) fun b_2 =>
Option.bind (strings_HasPrefix ([84, 84, 65, 49] : List UInt8) b_2) fun ok_3 =>
if (!ok_3) = true then (
some ((0 : Int), (0 : Int), (0 : Int), (0 : Int), (0 : Int), (12 : Int)))
else (
if (glt (lenI b_1) (22 : Int)) = true then (
some ((0 : Int), (0 : Int), (0 : Int), (0 : Int), (0 : Int), (24 : Int)))
else (
Option.bind (le_At b_1 (18 : Int) (4 : Int)) fun (r_4, r_5) =>
Option.bind (cutI b_1 (0 : Int) (18 : Int)) fun b_6 =>
Option.bind (crc32_Sum b_6) fun (r_7, r_8) =>
if (gne (gconv r_7 : UInt64) r_4) = true then (
some ((0 : Int), (0 : Int), (0 : Int), (0 : Int), (0 : Int), (22 : Int)))
else (
j4 b_1 (4 : Int) (0 : Int) (List.replicate 5 (0 : Int)))))

def header_Read (b_1 : List UInt8) : Option (Int × Int × Int × Int × Int × Int) := header_Read_s0 header_Read_p4 b_1

def header_Check (h_1 : Int) (h_2 : Int) (h_3 : Int) (h_4 : Int) (h_5 : Int) : Option (Int) :=
Option.bind (header_shaped h_1 h_2 h_3 h_4 h_5) fun ok_6 =>
if (!ok_6) = true then (
some (8 : Int))
else (
Option.bind (header_fits h_1 h_2 h_3 h_4 h_5) fun ok_7 =>
if (!ok_7) = true then (
some (8 : Int))
else (
some (0 : Int)))

def math_bits_Mul32 (x_1 : UInt32) (y_2 : UInt32) : Option (UInt32 × UInt32) :=
some ((gconv (gshr (gmul (gconv x_1 : UInt64) (gconv y_2 : UInt64)) (GI.toZ (32 : UInt64)).toNat) : UInt32), (gconv (gmul (gconv x_1 : UInt64) (gconv y_2 : UInt64)) : UInt32))

def math_bits_Mul64 (x_1 : UInt64) (y_2 : UInt64) : Option (UInt64 × UInt64) :=
some ((gadd (gadd (gmul (gshr x_1 (GI.toZ (32 : UInt64)).toNat) (gshr y_2 (GI.toZ (32 : UInt64)).toNat)) (gshr (gadd (gmul (gshr x_1 (GI.toZ (32 : UInt64)).toNat) (gand y_2 (4294967295 : UInt64))) (gshr (gmul (gand x_1 (4294967295 : UInt64)) (gand y_2 (4294967295 : UInt64))) (GI.toZ (32 : UInt64)).toNat)) (GI.toZ (32 : UInt64)).toNat)) (gshr (gadd (gand (gadd (gmul (gshr x_1 (GI.toZ (32 : UInt64)).toNat) (gand y_2 (4294967295 : UInt64))) (gshr (gmul (gand x_1 (4294967295 : UInt64)) (gand y_2 (4294967295 : UInt64))) (GI.toZ (32 : UInt64)).toNat)) (4294967295 : UInt64)) (gmul (gand x_1 (4294967295 : UInt64)) (gshr y_2 (GI.toZ (32 : UInt64)).toNat))) (GI.toZ (32 : UInt64)).toNat)), (gmul x_1 y_2))

def math_bits_Mul (x_1 : UInt64) (y_2 : UInt64) : Option (UInt64 × UInt64) :=
Option.bind (math_bits_Mul64 x_1 y_2) fun (r_3, r_4) =>
some (r_3, r_4)

def slices_Repeat_int_int_s10 (x_t2 : List Int) : Option ((List Int)) :=
some x_t2

def slices_Repeat_int_int_p10 (x_t2 : List Int) : Option ((List Int)) := slices_Repeat_int_int_s10 x_t2

def slices_Repeat_int_int_s8 (j10 : (List Int) → Option ((List Int))) (bk8 : Int → (List Int) → Option ((List Int))) (n_t1 : Int) (x_t2 : List Int) : Option ((List Int)) :=
if (glt n_t1 (lenI x_t2)) = true then (
(
Option.bind (vwI (lenI x_t2) n_t1 (lenI x_t2)) fun _ =>
Option.bind (vwI (lenI x_t2) (0 : Int) n_t1) fun _ =>
bk8 (gadd n_t1 (copyN ((lenI x_t2) - n_t1) (subL x_t2 (0 : Int) (n_t1 - (0 : Int))).length)) (copyAt x_t2 n_t1 ((lenI x_t2) - n_t1) (subL x_t2 (0 : Int) (n_t1 - (0 : Int))))))
else (
j10 x_t2)

def slices_Repeat_int_int_l8 : Nat → Int → (List Int) → Option ((List Int))
| 0, _, _ => none
| q + 1, n_t1, x_t2 => slices_Repeat_int_int_s8 slices_Repeat_int_int_p10 (slices_Repeat_int_int_l8 q) n_t1 x_t2

def slices_Repeat_int_int_p8 (n_t1 : Int) (x_t2 : List Int) : Option ((List Int)) := slices_Repeat_int_int_l8 FUEL n_t1 x_t2

def slices_Repeat_int_int_s7 (j8 : Int → (List Int) → Option ((List Int))) (x_1 : List Int) (r_4 : UInt64) : Option ((List Int)) :=
Option.bind (mkI (gconv r_4 : Int) (0 : Int)) fun l_5 =>
Option.bind (okI (geq (gconv r_4 : Int) (gconv r_4 : Int))) fun _ =>
j8 (copyN (lenI l_5) x_1.length) (copyL l_5 x_1)

def slices_Repeat_int_int_p7 (x_1 : List Int) (r_4 : UInt64) : Option ((List Int)) := slices_Repeat_int_int_s7 slices_Repeat_int_int_p8 x_1 r_4

def slices_Repeat_int_int_s6 (j7 : (List Int) → UInt64 → Option ((List Int))) (x_1 : List Int) (count_2 : Int) : Option ((List Int)) :=
Option.bind (math_bits_Mul (gconv (lenI x_1) : UInt64) (gconv count_2 : UInt64)) fun (r_3, r_4) =>
if ((ggt r_3 (0 : UInt64)) || (ggt r_4 (9223372036854775807 : UInt64))) = true then (
none)
else (
j7 x_1 r_4)

def slices_Repeat_int_int_p6 (x_1 : List Int) (count_2 : Int) : Option ((List Int)) := slices_Repeat_int_int_s6 slices_Repeat_int_int_p7 x_1 count_2

def slices_Repeat_int_int_s0 (j6 : (List Int) → Int → Option ((List Int))) (x_1 : List Int) (count_2 : Int) : Option ((List Int)) :=
if (glt count_2 (0 : Int)) = true then (
none)
else (
j6 x_1 count_2)

def slices_Repeat_int_int (x_1 : List Int) (count_2 : Int) : Option ((List Int)) := slices_Repeat_int_int_s0 slices_Repeat_int_int_p6 x_1 count_2

def slices_Concat_int_int_s16 (x_t5 : List Int) : Option ((List Int)) :=
some x_t5

def slices_Concat_int_int_p16 (x_t5 : List Int) : Option ((List Int)) := slices_Concat_int_int_s16 x_t5

def slices_Concat_int_int_s14 (j16 : (List Int) → Option ((List Int))) (bk14 : Int → (List Int) → Option ((List Int))) (slices_1 : List (List Int)) (x_t4 : Int) (x_t5 : List Int) : Option ((List Int)) :=
if (glt x_t4 (lenI slices_1)) = true then (
Option.bind (getI slices_1 x_t4) fun c_4 =>
Option.bind (appI x_t5 c_4) fun l_5 =>
bk14 (gadd x_t4 (1 : Int)) l_5)
else (
j16 x_t5)

def slices_Concat_int_int_l14 (slices_1 : List (List Int)) : Nat → Int → (List Int) → Option ((List Int))
| 0, _, _ => none
| q + 1, x_t4, x_t5 => slices_Concat_int_int_s14 slices_Concat_int_int_p16 (slices_Concat_int_int_l14 slices_1 q) slices_1 x_t4 x_t5

def slices_Concat_int_int_p14 (slices_1 : List (List Int)) (x_t4 : Int) (x_t5 : List Int) : Option ((List Int)) := slices_Concat_int_int_l14 slices_1 FUEL x_t4 x_t5

def slices_Concat_int_int_s13 (j14 : (List (List Int)) → Int → (List Int) → Option ((List Int))) (slices_1 : List (List Int)) (x_t3 : List Int) : Option ((List Int)) :=
j14 slices_1 (0 : Int) x_t3

def slices_Concat_int_int_p13 (slices_1 : List (List Int)) (x_t3 : List Int) : Option ((List Int)) := slices_Concat_int_int_s13 slices_Concat_int_int_p14 slices_1 x_t3

def slices_Concat_int_int_s12 (j13 : (List (List Int)) → (List Int) → Option ((List Int))) (size_t1 : Int) (slices_1 : List (List Int)) : Option ((List Int)) :=
if (ggt (gsub size_t1 (gsub (0 : Int) (0 : Int))) (0 : Int)) = true then (
Option.bind (vwI (0 : Int) (0 : Int) (0 : Int)) fun _ =>
Option.bind (mkI (gsub size_t1 (gsub (0 : Int) (0 : Int))) (0 : Int)) fun l_2 =>
Option.bind (appI ([] : List Int) l_2) fun l_3 =>
Option.bind (vwI (lenI l_3) (0 : Int) (0 : Int)) fun _ =>
j13 slices_1 (subL l_3 (0 : Int) ((0 : Int) - (0 : Int))))
else (
j13 slices_1 ([] : List Int))

def slices_Concat_int_int_p12 (size_t1 : Int) (slices_1 : List (List Int)) : Option ((List Int)) := slices_Concat_int_int_s12 slices_Concat_int_int_p13 size_t1 slices_1

def slices_Concat_int_int_s11 (j12 : Int → (List (List Int)) → Option ((List Int))) (slices_1 : List (List Int)) (size_t1 : Int) : Option ((List Int)) :=
if (glt size_t1 (0 : Int)) = true then (
none)
else (
j12 size_t1 slices_1)

def slices_Concat_int_int_p11 (slices_1 : List (List Int)) (size_t1 : Int) : Option ((List Int)) := slices_Concat_int_int_s11 slices_Concat_int_int_p12 slices_1 size_t1

def slices_Concat_int_int_s9 (j11 : (List (List Int)) → Int → Option ((List Int))) (bk9 : Int → Int → Option ((List Int))) (slices_1 : List (List Int)) (size_t1 : Int) (x_t2 : Int) : Option ((List Int)) :=
if (glt x_t2 (lenI slices_1)) = true then (
Option.bind (getI slices_1 x_t2) fun c_2 =>
if (glt (gadd size_t1 (lenI c_2)) (0 : Int)) = true then (
none)
else (
bk9 (gadd size_t1 (lenI c_2)) (gadd x_t2 (1 : Int))))
else (
j11 slices_1 size_t1)

def slices_Concat_int_int_l9 (slices_1 : List (List Int)) : Nat → Int → Int → Option ((List Int))
| 0, _, _ => none
| q + 1, size_t1, x_t2 => slices_Concat_int_int_s9 slices_Concat_int_int_p11 (slices_Concat_int_int_l9 slices_1 q) slices_1 size_t1 x_t2

def slices_Concat_int_int_p9 (slices_1 : List (List Int)) (size_t1 : Int) (x_t2 : Int) : Option ((List Int)) := slices_Concat_int_int_l9 slices_1 FUEL size_t1 x_t2

def slices_Concat_int_int_s0 (j9 : (List (List Int)) → Int → Int → Option ((List Int))) (slices_1 : List (List Int)) : Option ((List Int)) :=
j9 slices_1 (0 : Int) (0 : Int)

def slices_Concat_int_int (slices_1 : List (List Int)) : Option ((List Int)) := slices_Concat_int_int_s0 slices_Concat_int_int_p9 slices_1

def lengths_behind (l_1 : List Int) (more_2 : List Int) : Option ((List Int)) :=
Option.bind (slices_Concat_int_int ([l_1, more_2] : List (List Int))) fun l_3 =>
some l_3

def lengths_All (rate_1 : Int) (n_2 : Int) : Option ((List Int) × Int) :=
Option.bind (lengths_Count rate_1 n_2) fun (r_3, r_4) =>
if (gne r_4 (0 : Int)) = true then (
some (([] : List Int), r_4))
else (
Option.bind (lengths_Long rate_1) fun (r_5, r_6) =>
Option.bind (slices_Repeat_int_int ([r_5] : List Int) (gsub r_3 (1 : Int))) fun l_7 =>
Option.bind (lengths_behind l_7 ([(gsub n_2 (gmul (gsub r_3 (1 : Int)) r_5))] : List Int)) fun l_8 =>
some (l_8, (0 : Int)))

def header_Frames (h_1 : Int) (h_2 : Int) (h_3 : Int) (h_4 : Int) (h_5 : Int) : Option ((List Int) × Int) :=
Option.bind (header_Check h_1 h_2 h_3 h_4 h_5) fun r_6 =>
if (gne r_6 (0 : Int)) = true then (
some (([] : List Int), r_6))
else (
Option.bind (lengths_All h_4 h_5) fun (l_7, r_8) =>
some (l_7, r_8))

def valid_start (b_1 : List UInt8) : Option (Int × Int × Int × Int × Int × Int × Int × Int × Int × Int × (List Int) × Int) :=
if (ggt (lenI b_1) (100000 : Int)) = true then (
some ((0 : Int), (0 : Int), (0 : Int), (0 : Int), (0 : Int), (0 : Int), (0 : Int), (0 : Int), (0 : Int), (0 : Int), ([] : List Int), (4 : Int)))
else (
Option.bind (strip_Front b_1) fun (r_2, r_3) =>
if (gne r_3 (0 : Int)) = true then (
some ((0 : Int), (0 : Int), (0 : Int), (0 : Int), (0 : Int), (0 : Int), (0 : Int), (0 : Int), (0 : Int), (0 : Int), ([] : List Int), r_3))
else (
Option.bind (cutI b_1 r_2 (lenI b_1)) fun b_4 =>
Option.bind (header_Read b_4) fun (r_5, r_6, r_7, r_8, r_9, r_10) =>
if (gne r_10 (0 : Int)) = true then (
some (r_5, r_6, r_7, r_8, r_9, (0 : Int), (0 : Int), (0 : Int), (0 : Int), (0 : Int), ([] : List Int), r_10))
else (
Option.bind (header_Frames r_5 r_6 r_7 r_8 r_9) fun (l_11, r_12) =>
if (geq r_5 (2 : Int)) = true then (
some (r_5, r_6, r_7, r_8, r_9, r_2, (gadd r_2 (22 : Int)), (gadd (gadd r_2 (22 : Int)) (8 : Int)), (0 : Int), (0 : Int), l_11, (0 : Int)))
else (
some (r_5, r_6, r_7, r_8, r_9, r_2, (gadd r_2 (22 : Int)), (gadd r_2 (22 : Int)), (0 : Int), (0 : Int), l_11, (0 : Int))))))

def seeks_Check_s6 : Option (Int) :=
some (0 : Int)

def seeks_Check_p6 : Option (Int) := seeks_Check_s6

def seeks_Check_s4 (j6 : Option (Int)) (bk4 : Int → Int → Option (Int)) (l_1 : List Int) (left_t1 : Int) (x_t2 : Int) : Option (Int) :=
if (glt x_t2 (lenI l_1)) = true then (
Option.bind (getI l_1 x_t2) fun c_2 =>
if ((glt c_2 (5 : Int)) || (ggt c_2 left_t1)) = true then (
some (8 : Int))
else (
bk4 (gsub left_t1 c_2) (gadd x_t2 (1 : Int))))
else (
j6)

def seeks_Check_l4 (l_1 : List Int) : Nat → Int → Int → Option (Int)
| 0, _, _ => none
| q + 1, left_t1, x_t2 => seeks_Check_s4 seeks_Check_p6 (seeks_Check_l4 l_1 q) l_1 left_t1 x_t2

def seeks_Check_p4 (l_1 : List Int) (left_t1 : Int) (x_t2 : Int) : Option (Int) := seeks_Check_l4 l_1 FUEL left_t1 x_t2

def seeks_Check_s0 (j4 : (List Int) → Int → Int → Option (Int)) (l_1 : List Int) : Option (Int) :=
if ((geq (lenI l_1) (0 : Int)) || (ggt (lenI l_1) (1000 : Int))) = true then (
some (8 : Int))
else (
j4 l_1 (100000 : Int) (0 : Int))

def seeks_Check (l_1 : List Int) : Option (Int) := seeks_Check_s0 seeks_Check_p4 l_1

def seeks_Read_s6 (l_t2 : List Int) : Option ((List Int) × Int) :=
Option.bind (seeks_Check l_t2) fun r_9 =>
if (gne r_9 (0 : Int)) = true then (
some (([] : List Int), (12 : Int)))
else (
some (l_t2, (0 : Int)))

def seeks_Read_p6 (l_t2 : List Int) : Option ((List Int) × Int) := seeks_Read_s6 l_t2

def seeks_Read_s4 (j6 : (List Int) → Option ((List Int) × Int)) (bk4 : Int → (List Int) → Option ((List Int) × Int)) (b_1 : List UInt8) (l_8 : List Int) (x_t1 : Int) (l_t2 : List Int) : Option ((List Int) × Int) :=
if (glt x_t1 (lenI l_8)) = true then (
Option.bind (le_At b_1 (gmul (4 : Int) x_t1) (4 : Int)) fun (r_9, r_10) =>
Option.bind (getI l_t2 x_t1) fun _ =>
Option.bind (setI l_t2 x_t1 (gconv r_9 : Int)) fun l_11 =>
bk4 (gadd x_t1 (1 : Int)) l_11)
else (
j6 l_t2)

def seeks_Read_l4 (b_1 : List UInt8) (l_8 : List Int) : Nat → Int → (List Int) → Option ((List Int) × Int)
| 0, _, _ => none
| q + 1, x_t1, l_t2 => seeks_Read_s4 seeks_Read_p6 (seeks_Read_l4 b_1 l_8 q) b_1 l_8 x_t1 l_t2

def seeks_Read_p4 (b_1 : List UInt8) (l_8 : List Int) (x_t1 : Int) (l_t2 : List Int) : Option ((List Int) × Int) := seeks_Read_l4 b_1 l_8 FUEL x_t1 l_t2

def seeks_Read_s0 (j4 : (List UInt8) → (List Int) → Int → (List Int) → Option ((List Int) × Int)) (b_1 : List UInt8) (n_2 : Int) : Option ((List Int) × Int) :=
if ((glt n_2 (1 : Int)) || (ggt n_2 (1000 : Int))) = true then (
some (([] : List Int), (2 : Int)))
else (
if (glt (lenI b_1) (gadd (gmul (4 : Int) n_2) (4 : Int))) = true then (
some (([] : List Int), (24 : Int)))
else (
Option.bind (le_At b_1 (gmul (4 : Int) n_2) (4 : Int)) fun (r_3, r_4) =>
Option.bind (cutI b_1 (0 : Int) (gmul (4 : Int) n_2)) fun b_5 =>
Option.bind (crc32_Sum b_5) fun (r_6, r_7) =>
if (gne (gconv r_6 : UInt64) r_3) = true then (
some (([] : List Int), (22 : Int)))
else (
Option.bind (mkI n_2 (0 : Int)) fun l_8 =>
Option.bind (okI (geq n_2 n_2)) fun _ =>
j4 b_1 l_8 (0 : Int) l_8)))

def seeks_Read (b_1 : List UInt8) (n_2 : Int) : Option ((List Int) × Int) := seeks_Read_s0 seeks_Read_p4 b_1 n_2

def valid_Parts_s12 (b_1 : List UInt8) (r_2 : Int) (r_3 : Int) (r_4 : Int) (r_5 : Int) (r_6 : Int) (r_7 : Int) (r_8 : Int) (r_9 : Int) (r_t4 : Int) (r_t5 : Int) (l_12 : List Int) : Option (Int × Int × Int × Int × Int × Int) :=
if (glt (lenI b_1) r_t5) = true then (
some ((0 : Int), (0 : Int), (0 : Int), (0 : Int), (0 : Int), (24 : Int)))
else (
some (r_7, r_8, r_9, r_t4, r_t5, (0 : Int)))

def valid_Parts_p12 (b_1 : List UInt8) (r_2 : Int) (r_3 : Int) (r_4 : Int) (r_5 : Int) (r_6 : Int) (r_7 : Int) (r_8 : Int) (r_9 : Int) (r_t4 : Int) (r_t5 : Int) (l_12 : List Int) : Option (Int × Int × Int × Int × Int × Int) := valid_Parts_s12 b_1 r_2 r_3 r_4 r_5 r_6 r_7 r_8 r_9 r_t4 r_t5 l_12

def valid_Parts_s11 (j12 : (List UInt8) → Int → Int → Int → Int → Int → Int → Int → Int → Int → Int → (List Int) → Option (Int × Int × Int × Int × Int × Int)) (b_1 : List UInt8) (r_2 : Int) (r_3 : Int) (r_4 : Int) (r_5 : Int) (r_6 : Int) (r_7 : Int) (r_8 : Int) (r_9 : Int) (l_12 : List Int) (r_t3 : Int) (r_t4 : Int) (r_t5 : Int) : Option (Int × Int × Int × Int × Int × Int) :=
if (gne r_t3 (0 : Int)) = true then (
some ((0 : Int), (0 : Int), (0 : Int), (0 : Int), (0 : Int), r_t3))
else (
j12 b_1 r_2 r_3 r_4 r_5 r_6 r_7 r_8 r_9 r_t4 r_t5 l_12)

def valid_Parts_p11 (b_1 : List UInt8) (r_2 : Int) (r_3 : Int) (r_4 : Int) (r_5 : Int) (r_6 : Int) (r_7 : Int) (r_8 : Int) (r_9 : Int) (l_12 : List Int) (r_t3 : Int) (r_t4 : Int) (r_t5 : Int) : Option (Int × Int × Int × Int × Int × Int) := valid_Parts_s11 valid_Parts_p12 b_1 r_2 r_3 r_4 r_5 r_6 r_7 r_8 r_9 l_12 r_t3 r_t4 r_t5

def valid_Parts_s10 (j11 : (List UInt8) → Int → Int → Int → Int → Int → Int → Int → Int → (List Int) → Int → Int → Int → Option (Int × Int × Int × Int × Int × Int)) (b_1 : List UInt8) (l_15 : List Int) (r_2 : Int) (r_3 : Int) (r_4 : Int) (r_5 : Int) (r_6 : Int) (r_7 : Int) (r_8 : Int) (r_9 : Int) (x_t2 : Int) (l_12 : List Int) : Option (Int × Int × Int × Int × Int × Int) :=
j11 b_1 r_2 r_3 r_4 r_5 r_6 r_7 r_8 r_9 l_12 (0 : Int) (gadd (gadd r_9 (gmul (4 : Int) (lenI l_15))) (4 : Int)) x_t2

def valid_Parts_p10 (b_1 : List UInt8) (l_15 : List Int) (r_2 : Int) (r_3 : Int) (r_4 : Int) (r_5 : Int) (r_6 : Int) (r_7 : Int) (r_8 : Int) (r_9 : Int) (x_t2 : Int) (l_12 : List Int) : Option (Int × Int × Int × Int × Int × Int) := valid_Parts_s10 valid_Parts_p11 b_1 l_15 r_2 r_3 r_4 r_5 r_6 r_7 r_8 r_9 x_t2 l_12

def valid_Parts_s8 (j10 : (List UInt8) → (List Int) → Int → Int → Int → Int → Int → Int → Int → Int → Int → (List Int) → Option (Int × Int × Int × Int × Int × Int)) (bk8 : Int → Int → Option (Int × Int × Int × Int × Int × Int)) (l_15 : List Int) (b_1 : List UInt8) (r_2 : Int) (r_3 : Int) (r_4 : Int) (r_5 : Int) (r_6 : Int) (r_7 : Int) (r_8 : Int) (r_9 : Int) (l_12 : List Int) (x_t1 : Int) (x_t2 : Int) : Option (Int × Int × Int × Int × Int × Int) :=
if (glt x_t1 (lenI l_15)) = true then (
Option.bind (getI l_15 x_t1) fun _ =>
Option.bind (getI l_15 x_t1) fun c_17 =>
bk8 (gadd x_t1 (1 : Int)) (gadd x_t2 c_17))
else (
j10 b_1 l_15 r_2 r_3 r_4 r_5 r_6 r_7 r_8 r_9 x_t2 l_12)

def valid_Parts_l8 (l_15 : List Int) (b_1 : List UInt8) (r_2 : Int) (r_3 : Int) (r_4 : Int) (r_5 : Int) (r_6 : Int) (r_7 : Int) (r_8 : Int) (r_9 : Int) (l_12 : List Int) : Nat → Int → Int → Option (Int × Int × Int × Int × Int × Int)
| 0, _, _ => none
| q + 1, x_t1, x_t2 => valid_Parts_s8 valid_Parts_p10 (valid_Parts_l8 l_15 b_1 r_2 r_3 r_4 r_5 r_6 r_7 r_8 r_9 l_12 q) l_15 b_1 r_2 r_3 r_4 r_5 r_6 r_7 r_8 r_9 l_12 x_t1 x_t2

def valid_Parts_p8 (l_15 : List Int) (b_1 : List UInt8) (r_2 : Int) (r_3 : Int) (r_4 : Int) (r_5 : Int) (r_6 : Int) (r_7 : Int) (r_8 : Int) (r_9 : Int) (l_12 : List Int) (x_t1 : Int) (x_t2 : Int) : Option (Int × Int × Int × Int × Int × Int) := valid_Parts_l8 l_15 b_1 r_2 r_3 r_4 r_5 r_6 r_7 r_8 r_9 l_12 FUEL x_t1 x_t2

def valid_Parts_s7 (j11 : (List UInt8) → Int → Int → Int → Int → Int → Int → Int → Int → (List Int) → Int → Int → Int → Option (Int × Int × Int × Int × Int × Int)) (j8 : (List Int) → (List UInt8) → Int → Int → Int → Int → Int → Int → Int → Int → (List Int) → Int → Int → Option (Int × Int × Int × Int × Int × Int)) (r_16 : Int) (b_1 : List UInt8) (r_2 : Int) (r_3 : Int) (r_4 : Int) (r_5 : Int) (r_6 : Int) (r_7 : Int) (r_8 : Int) (r_9 : Int) (r_10 : Int) (r_11 : Int) (l_15 : List Int) (l_12 : List Int) : Option (Int × Int × Int × Int × Int × Int) :=
if (gne r_16 (0 : Int)) = true then (
j11 b_1 r_2 r_3 r_4 r_5 r_6 r_7 r_8 r_9 l_12 r_16 r_10 r_11)
else (
j8 l_15 b_1 r_2 r_3 r_4 r_5 r_6 r_7 r_8 r_9 l_12 (0 : Int) (gadd (gadd r_9 (gmul (4 : Int) (lenI l_15))) (4 : Int)))

def valid_Parts_p7 (r_16 : Int) (b_1 : List UInt8) (r_2 : Int) (r_3 : Int) (r_4 : Int) (r_5 : Int) (r_6 : Int) (r_7 : Int) (r_8 : Int) (r_9 : Int) (r_10 : Int) (r_11 : Int) (l_15 : List Int) (l_12 : List Int) : Option (Int × Int × Int × Int × Int × Int) := valid_Parts_s7 valid_Parts_p11 valid_Parts_p8 r_16 b_1 r_2 r_3 r_4 r_5 r_6 r_7 r_8 r_9 r_10 r_11 l_15 l_12

def valid_Parts_s0 (j11 : (List UInt8) → Int → Int → Int → Int → Int → Int → Int → Int → (List Int) → Int → Int → Int → Option (Int × Int × Int × Int × Int × Int)) (j7 : Int → (List UInt8) → Int → Int → Int → Int → Int → Int → Int → Int → Int → Int → (List Int) → (List Int) → Option (Int × Int × Int × Int × Int × Int)) (b_1 : List UInt8) : Option (Int × Int × Int × Int × Int × Int) :=
Option.bind (valid_start b_1) fun (r_2, r_3, r_4, r_5, r_6, r_7, r_8, r_9, r_10, r_11, l_12, r_13) =>
if (gne r_13 (0 : Int)) = true then (
some ((0 : Int), (0 : Int), (0 : Int), (0 : Int), (0 : Int), r_13))
else (
if (glt (lenI b_1) r_9) = true then (
j11 b_1 r_2 r_3 r_4 r_5 r_6 r_7 r_8 r_9 l_12 (24 : Int) r_10 r_11)
else (
Option.bind (cutI b_1 r_9 (lenI b_1)) fun b_14 =>
Option.bind (seeks_Read b_14 (lenI l_12)) fun (l_15, r_16) =>
j7 r_16 b_1 r_2 r_3 r_4 r_5 r_6 r_7 r_8 r_9 r_10 r_11 l_15 l_12))

def valid_Parts (b_1 : List UInt8) : Option (Int × Int × Int × Int × Int × Int) := valid_Parts_s0 valid_Parts_p11 valid_Parts_p7 b_1

def cadenzaref28_Value_s6 (n_t1 : Int) : Option (Int × Int) :=
some (n_t1, (0 : Int))

def cadenzaref28_Value_p6 (n_t1 : Int) : Option (Int × Int) := cadenzaref28_Value_s6 n_t1

def cadenzaref28_Value_s4 (j6 : Int → Option (Int × Int)) (bk4 : Int → Int → Option (Int × Int)) (b_1 : List UInt8) (n_t1 : Int) (i_t2 : Int) : Option (Int × Int) :=
if (glt i_t2 (4 : Int)) = true then (
Option.bind (getI b_1 i_t2) fun c_2 =>
if (gge c_2 (128 : UInt8)) = true then (
some ((0 : Int), (12 : Int)))
else (
Option.bind (getI b_1 i_t2) fun c_3 =>
bk4 (gadd (gmul (128 : Int) n_t1) (gconv c_3 : Int)) (gadd i_t2 (1 : Int))))
else (
j6 n_t1)

def cadenzaref28_Value_l4 (b_1 : List UInt8) : Nat → Int → Int → Option (Int × Int)
| 0, _, _ => none
| q + 1, n_t1, i_t2 => cadenzaref28_Value_s4 cadenzaref28_Value_p6 (cadenzaref28_Value_l4 b_1 q) b_1 n_t1 i_t2

def cadenzaref28_Value_p4 (b_1 : List UInt8) (n_t1 : Int) (i_t2 : Int) : Option (Int × Int) := cadenzaref28_Value_l4 b_1 FUEL n_t1 i_t2

def cadenzaref28_Value_s0 (j4 : (List UInt8) → Int → Int → Option (Int × Int)) (b_1 : List UInt8) : Option (Int × Int) :=
if (gne (lenI b_1) (4 : Int)) = true then (
some ((0 : Int), (2 : Int)))
else (
j4 b_1 (0 : Int) (0 : Int))

def cadenzaref28_Value (b_1 : List UInt8) : Option (Int × Int) := cadenzaref28_Value_s0 cadenzaref28_Value_p4 b_1

def cadenzaref28_Size_s6 (b_1 : List UInt8) (size_t1 : Int) : Option (Int × Int) :=
if (ggt size_t1 (4000 : Int)) = true then (
some ((0 : Int), (4 : Int)))
else (
if (glt (lenI b_1) size_t1) = true then (
some ((0 : Int), (24 : Int)))
else (
Option.bind (getI b_1 (5 : Int)) fun c_23 =>
if (geq c_23 (16 : UInt8)) = true then (
Option.bind (cutI b_1 (gsub size_t1 (10 : Int)) size_t1) fun b_24 =>
Option.bind (cutI b_1 (3 : Int) (10 : Int)) fun b_25 =>
Option.bind (appI ([51, 68, 73] : List UInt8) b_25) fun s_26 =>
if (b_24 != s_26) = true then (
some ((0 : Int), (12 : Int)))
else (
some (size_t1, (0 : Int))))
else (
some (size_t1, (0 : Int)))))

def cadenzaref28_Size_p6 (b_1 : List UInt8) (size_t1 : Int) : Option (Int × Int) := cadenzaref28_Size_s6 b_1 size_t1

def cadenzaref28_Size_s5 (j6 : (List UInt8) → Int → Option (Int × Int)) (b_1 : List UInt8) (r_4 : Int) : Option (Int × Int) :=
Option.bind (getI b_1 (5 : Int)) fun c_22 =>
if (geq c_22 (16 : UInt8)) = true then (
j6 b_1 (gadd (gadd (10 : Int) r_4) (10 : Int)))
else (
j6 b_1 (gadd (10 : Int) r_4))

def cadenzaref28_Size_p5 (b_1 : List UInt8) (r_4 : Int) : Option (Int × Int) := cadenzaref28_Size_s5 cadenzaref28_Size_p6 b_1 r_4

def cadenzaref28_Size_s4 (j5 : (List UInt8) → Int → Option (Int × Int)) (b_1 : List UInt8) : Option (Int × Int) :=
if (glt (lenI b_1) (10 : Int)) = true then (
some ((0 : Int), (24 : Int)))
else (
Option.bind (cutI b_1 (6 : Int) (10 : Int)) fun b_3 =>
Option.bind (cadenzaref28_Value b_3) fun (r_4, r_5) =>
Option.bind (getI b_1 (3 : Int)) fun c_6 =>
if (glt c_6 (2 : UInt8)) = true then (
if true = true then (
if true = true then (
if (true || (gne r_5 (0 : Int))) = true then (
some ((0 : Int), (12 : Int)))
else (
j5 b_1 r_4))
else (
Option.bind (getI b_1 (5 : Int)) fun c_7 =>
if (gne c_7 (0 : UInt8)) = true then (
Option.bind (getI b_1 (5 : Int)) fun c_8 =>
if (gne c_8 (16 : UInt8)) = true then (
if (true || (gne r_5 (0 : Int))) = true then (
some ((0 : Int), (12 : Int)))
else (
j5 b_1 r_4))
else (
Option.bind (getI b_1 (3 : Int)) fun c_9 =>
if ((gne c_9 (4 : UInt8)) || (gne r_5 (0 : Int))) = true then (
some ((0 : Int), (12 : Int)))
else (
j5 b_1 r_4)))
else (
if (false || (gne r_5 (0 : Int))) = true then (
some ((0 : Int), (12 : Int)))
else (
j5 b_1 r_4))))
else (
Option.bind (getI b_1 (4 : Int)) fun c_10 =>
if (gne c_10 (0 : UInt8)) = true then (
if (true || (gne r_5 (0 : Int))) = true then (
some ((0 : Int), (12 : Int)))
else (
j5 b_1 r_4))
else (
Option.bind (getI b_1 (5 : Int)) fun c_11 =>
if (gne c_11 (0 : UInt8)) = true then (
Option.bind (getI b_1 (5 : Int)) fun c_12 =>
if (gne c_12 (16 : UInt8)) = true then (
if (true || (gne r_5 (0 : Int))) = true then (
some ((0 : Int), (12 : Int)))
else (
j5 b_1 r_4))
else (
Option.bind (getI b_1 (3 : Int)) fun c_13 =>
if ((gne c_13 (4 : UInt8)) || (gne r_5 (0 : Int))) = true then (
some ((0 : Int), (12 : Int)))
else (
j5 b_1 r_4)))
else (
if (false || (gne r_5 (0 : Int))) = true then (
some ((0 : Int), (12 : Int)))
else (
j5 b_1 r_4)))))
else (
Option.bind (getI b_1 (3 : Int)) fun c_14 =>
if (ggt c_14 (4 : UInt8)) = true then (
if true = true then (
if (true || (gne r_5 (0 : Int))) = true then (
some ((0 : Int), (12 : Int)))
else (
j5 b_1 r_4))
else (
Option.bind (getI b_1 (5 : Int)) fun c_15 =>
if (gne c_15 (0 : UInt8)) = true then (
Option.bind (getI b_1 (5 : Int)) fun c_16 =>
if (gne c_16 (16 : UInt8)) = true then (
if (true || (gne r_5 (0 : Int))) = true then (
some ((0 : Int), (12 : Int)))
else (
j5 b_1 r_4))
else (
Option.bind (getI b_1 (3 : Int)) fun c_17 =>
if ((gne c_17 (4 : UInt8)) || (gne r_5 (0 : Int))) = true then (
some ((0 : Int), (12 : Int)))
else (
j5 b_1 r_4)))
else (
if (false || (gne r_5 (0 : Int))) = true then (
some ((0 : Int), (12 : Int)))
else (
j5 b_1 r_4))))
else (
Option.bind (getI b_1 (4 : Int)) fun c_18 =>
if (gne c_18 (0 : UInt8)) = true then (
if (true || (gne r_5 (0 : Int))) = true then (
some ((0 : Int), (12 : Int)))
else (
j5 b_1 r_4))
else (
Option.bind (getI b_1 (5 : Int)) fun c_19 =>
if (gne c_19 (0 : UInt8)) = true then (
Option.bind (getI b_1 (5 : Int)) fun c_20 =>
if (gne c_20 (16 : UInt8)) = true then (
if (true || (gne r_5 (0 : Int))) = true then (
some ((0 : Int), (12 : Int)))
else (
j5 b_1 r_4))
else (
Option.bind (getI b_1 (3 : Int)) fun c_21 =>
if ((gne c_21 (4 : UInt8)) || (gne r_5 (0 : Int))) = true then (
some ((0 : Int), (12 : Int)))
else (
j5 b_1 r_4)))
else (
if (false || (gne r_5 (0 : Int))) = true then (
some ((0 : Int), (12 : Int)))
else (
j5 b_1 r_4))))))

def cadenzaref28_Size_p4 (b_1 : List UInt8) : Option (Int × Int) := cadenzaref28_Size_s4 cadenzaref28_Size_p5 b_1

def cadenzaref28_Size_s0 (j4 : (List UInt8) → Option (Int × Int)) (b_1 : List UInt8) : Option (Int × Int) :=
if (glt (lenI b_1) (3 : Int)) = true then (
some ((0 : Int), (6 : Int)))
else (
Option.bind (cutI b_1 (0 : Int) (3 : Int)) fun b_2 =>
if (b_2 != ([73, 68, 51] : List UInt8)) = true then (
some ((0 : Int), (6 : Int)))
else (
j4 b_1))

def cadenzaref28_Size (b_1 : List UInt8) : Option (Int × Int) := cadenzaref28_Size_s0 cadenzaref28_Size_p4 b_1

def cadenzaref01_Of_s6 (n_t1 : UInt64) : Option (UInt64) :=
some n_t1

def cadenzaref01_Of_p6 (n_t1 : UInt64) : Option (UInt64) := cadenzaref01_Of_s6 n_t1

def cadenzaref01_Of_s4 (j6 : UInt64 → Option (UInt64)) (bk4 : UInt64 → Int → Option (UInt64)) (b_1 : List UInt8) (n_t1 : UInt64) (i_t2 : Int) : Option (UInt64) :=
if (gge i_t2 (0 : Int)) = true then (
Option.bind (getI b_1 i_t2) fun c_2 =>
bk4 (gadd (gmul (256 : UInt64) n_t1) (gconv c_2 : UInt64)) (gsub i_t2 (1 : Int)))
else (
j6 n_t1)

def cadenzaref01_Of_l4 (b_1 : List UInt8) : Nat → UInt64 → Int → Option (UInt64)
| 0, _, _ => none
| q + 1, n_t1, i_t2 => cadenzaref01_Of_s4 cadenzaref01_Of_p6 (cadenzaref01_Of_l4 b_1 q) b_1 n_t1 i_t2

def cadenzaref01_Of_p4 (b_1 : List UInt8) (n_t1 : UInt64) (i_t2 : Int) : Option (UInt64) := cadenzaref01_Of_l4 b_1 FUEL n_t1 i_t2

def cadenzaref01_Of_s0 (j4 : (List UInt8) → UInt64 → Int → Option (UInt64)) (b_1 : List UInt8) : Option (UInt64) :=
j4 b_1 (0 : UInt64) (gsub (lenI b_1) (1 : Int))

def cadenzaref01_Of (b_1 : List UInt8) : Option (UInt64) := cadenzaref01_Of_s0 cadenzaref01_Of_p4 b_1

def cadenzaref29_told (b_1 : List UInt8) : Option (Int × Int × Bool) :=
Option.bind (cutI b_1 (12 : Int) (16 : Int)) fun b_2 =>
Option.bind (cadenzaref01_Of b_2) fun r_3 =>
Option.bind (cutI b_1 (16 : Int) (20 : Int)) fun b_4 =>
Option.bind (cadenzaref01_Of b_4) fun r_5 =>
if (((glt r_3 (32 : UInt64)) || (ggt r_3 (3032 : UInt64))) || (ggt r_5 (1000 : UInt64))) = true then (
some ((0 : Int), (0 : Int), false))
else (
some ((gsub (gconv r_3 : Int) (32 : Int)), (gconv r_5 : Int), true))

def cadenzaref01_Written_s6 (x_t3 : List UInt8) : Option ((List UInt8)) :=
some x_t3

def cadenzaref01_Written_p6 (x_t3 : List UInt8) : Option ((List UInt8)) := cadenzaref01_Written_s6 x_t3

def cadenzaref01_Written_s4 (j6 : (List UInt8) → Option ((List UInt8))) (bk4 : UInt64 → Int → (List UInt8) → Option ((List UInt8))) (w_2 : Int) (n_t1 : UInt64) (i_t2 : Int) (x_t3 : List UInt8) : Option ((List UInt8)) :=
if (glt i_t2 w_2) = true then (
Option.bind (appI x_t3 ([(gconv (grem n_t1 (256 : UInt64)) : UInt8)] : List UInt8)) fun l_3 =>
bk4 (gquo n_t1 (256 : UInt64)) (gadd i_t2 (1 : Int)) l_3)
else (
j6 x_t3)

def cadenzaref01_Written_l4 (w_2 : Int) : Nat → UInt64 → Int → (List UInt8) → Option ((List UInt8))
| 0, _, _, _ => none
| q + 1, n_t1, i_t2, x_t3 => cadenzaref01_Written_s4 cadenzaref01_Written_p6 (cadenzaref01_Written_l4 w_2 q) w_2 n_t1 i_t2 x_t3

def cadenzaref01_Written_p4 (w_2 : Int) (n_t1 : UInt64) (i_t2 : Int) (x_t3 : List UInt8) : Option ((List UInt8)) := cadenzaref01_Written_l4 w_2 FUEL n_t1 i_t2 x_t3

def cadenzaref01_Written_s0 (j4 : Int → UInt64 → Int → (List UInt8) → Option ((List UInt8))) (n_1 : UInt64) (w_2 : Int) : Option ((List UInt8)) :=
j4 w_2 n_1 (0 : Int) ([] : List UInt8)

def cadenzaref01_Written (n_1 : UInt64) (w_2 : Int) : Option ((List UInt8)) := cadenzaref01_Written_s0 cadenzaref01_Written_p4 n_1 w_2

def cadenzaref29_end (n_1 : Int) (many_2 : Int) (flags_3 : UInt64) : Option ((List UInt8)) :=
Option.bind (cadenzaref01_Written (2000 : UInt64) (4 : Int)) fun l_4 =>
Option.bind (appI ([(65 : UInt8), (80 : UInt8), (69 : UInt8), (84 : UInt8), (65 : UInt8), (71 : UInt8), (69 : UInt8), (88 : UInt8)] : List UInt8) l_4) fun l_5 =>
Option.bind (cadenzaref01_Written (gconv (gadd n_1 (32 : Int)) : UInt64) (4 : Int)) fun l_6 =>
Option.bind (appI l_5 l_6) fun l_7 =>
Option.bind (cadenzaref01_Written (gconv many_2 : UInt64) (4 : Int)) fun l_8 =>
Option.bind (appI l_7 l_8) fun l_9 =>
Option.bind (cadenzaref01_Written flags_3 (4 : Int)) fun l_10 =>
Option.bind (appI l_9 l_10) fun l_11 =>
Option.bind (mkI (8 : Int) (0 : UInt8)) fun l_12 =>
Option.bind (appI l_11 l_12) fun l_13 =>
some l_13

def cadenzaref29_head (n_1 : Int) (many_2 : Int) : Option ((List UInt8)) :=
Option.bind (cadenzaref29_end n_1 many_2 (2684354560 : UInt64)) fun l_3 =>
some l_3

def cadenzaref29_foot (n_1 : Int) (many_2 : Int) (with_3 : Bool) : Option ((List UInt8)) :=
if with_3 = true then (
Option.bind (cadenzaref29_end n_1 many_2 (2147483648 : UInt64)) fun l_4 =>
some l_4)
else (
Option.bind (cadenzaref29_end n_1 many_2 (0 : UInt64)) fun l_5 =>
some l_5)

def cadenzaref29_Front_s4 (b_1 : List UInt8) (r_4 : Int) (r_5 : Int) : Option (Int × Int) :=
if (glt (lenI b_1) (gadd (64 : Int) r_4)) = true then (
some ((0 : Int), (24 : Int)))
else (
Option.bind (cutI b_1 (gsub (gadd (64 : Int) r_4) (32 : Int)) (gadd (64 : Int) r_4)) fun b_9 =>
Option.bind (cadenzaref29_foot r_4 r_5 true) fun l_10 =>
if (b_9 != l_10) = true then (
some ((0 : Int), (12 : Int)))
else (
some ((gadd (64 : Int) r_4), (0 : Int))))

def cadenzaref29_Front_p4 (b_1 : List UInt8) (r_4 : Int) (r_5 : Int) : Option (Int × Int) := cadenzaref29_Front_s4 b_1 r_4 r_5

def cadenzaref29_Front_s3 (j4 : (List UInt8) → Int → Int → Option (Int × Int)) (b_1 : List UInt8) : Option (Int × Int) :=
if (glt (lenI b_1) (32 : Int)) = true then (
some ((0 : Int), (24 : Int)))
else (
Option.bind (cutI b_1 (0 : Int) (32 : Int)) fun b_3 =>
Option.bind (cadenzaref29_told b_3) fun (r_4, r_5, ok_6) =>
if (!ok_6) = true then (
some ((0 : Int), (12 : Int)))
else (
Option.bind (cutI b_1 (0 : Int) (32 : Int)) fun b_7 =>
Option.bind (cadenzaref29_head r_4 r_5) fun l_8 =>
if (b_7 != l_8) = true then (
some ((0 : Int), (12 : Int)))
else (
j4 b_1 r_4 r_5)))

def cadenzaref29_Front_p3 (b_1 : List UInt8) : Option (Int × Int) := cadenzaref29_Front_s3 cadenzaref29_Front_p4 b_1

def cadenzaref29_Front_s0 (j3 : (List UInt8) → Option (Int × Int)) (b_1 : List UInt8) : Option (Int × Int) :=
if (glt (lenI b_1) (8 : Int)) = true then (
some ((0 : Int), (6 : Int)))
else (
Option.bind (cutI b_1 (0 : Int) (8 : Int)) fun b_2 =>
if (b_2 != ([65, 80, 69, 84, 65, 71, 69, 88] : List UInt8)) = true then (
some ((0 : Int), (6 : Int)))
else (
j3 b_1))

def cadenzaref29_Front (b_1 : List UInt8) : Option (Int × Int) := cadenzaref29_Front_s0 cadenzaref29_Front_p3 b_1

def cadenzaref30_Parts_s9 (bk6 : Int → (List Int) → Option ((List Int) × Int)) (b_1 : List UInt8) (at_t5 : Int) (x_t6 : List Int) (r_t7 : Int) (r_t8 : Int) : Option ((List Int) × Int) :=
if (geq r_t8 (6 : Int)) = true then (
some (x_t6, (0 : Int)))
else (
if (gne r_t8 (0 : Int)) = true then (
some (([] : List Int), r_t8))
else (
if (ggt (gadd at_t5 r_t7) (4000 : Int)) = true then (
some (([] : List Int), (4 : Int)))
else (
Option.bind (appI x_t6 ([r_t7] : List Int)) fun l_8 =>
bk6 (gadd at_t5 r_t7) l_8)))

def cadenzaref30_Parts_p9 (bk6 : Int → (List Int) → Option ((List Int) × Int)) (b_1 : List UInt8) (at_t5 : Int) (x_t6 : List Int) (r_t7 : Int) (r_t8 : Int) : Option ((List Int) × Int) := cadenzaref30_Parts_s9 bk6 b_1 at_t5 x_t6 r_t7 r_t8

def cadenzaref30_Parts_s6 (j9 : Int → (List Int) → Int → Int → Option ((List Int) × Int)) (b_1 : List UInt8) (at_t5 : Int) (x_t6 : List Int) : Option ((List Int) × Int) :=
Option.bind (cutI b_1 at_t5 (lenI b_1)) fun b_2 =>
Option.bind (cadenzaref28_Size b_2) fun (r_3, r_4) =>
if (geq r_4 (6 : Int)) = true then (
Option.bind (cutI b_1 at_t5 (lenI b_1)) fun b_5 =>
Option.bind (cadenzaref29_Front b_5) fun (r_6, r_7) =>
j9 at_t5 x_t6 r_6 r_7)
else (
j9 at_t5 x_t6 r_3 r_4)

def cadenzaref30_Parts_l6 (b_1 : List UInt8) : Nat → Int → (List Int) → Option ((List Int) × Int)
| 0, _, _ => none
| q + 1, at_t5, x_t6 => cadenzaref30_Parts_s6 (cadenzaref30_Parts_p9 (cadenzaref30_Parts_l6 b_1 q) b_1) b_1 at_t5 x_t6

def cadenzaref30_Parts_p6 (b_1 : List UInt8) (at_t5 : Int) (x_t6 : List Int) : Option ((List Int) × Int) := cadenzaref30_Parts_l6 b_1 FUEL at_t5 x_t6

def cadenzaref30_Parts_s0 (j6 : (List UInt8) → Int → (List Int) → Option ((List Int) × Int)) (b_1 : List UInt8) : Option ((List Int) × Int) :=
j6 b_1 (0 : Int) ([] : List Int)

def cadenzaref30_Parts (b_1 : List UInt8) : Option ((List Int) × Int) := cadenzaref30_Parts_s0 cadenzaref30_Parts_p6 b_1

def cadenzaref30_Front_s6 (r_3 : Int) (n_t1 : Int) : Option (Int × Int) :=
some (n_t1, r_3)

def cadenzaref30_Front_p6 (r_3 : Int) (n_t1 : Int) : Option (Int × Int) := cadenzaref30_Front_s6 r_3 n_t1

def cadenzaref30_Front_s4 (j6 : Int → Int → Option (Int × Int)) (bk4 : Int → Int → Option (Int × Int)) (r_3 : Int) (l_2 : List Int) (n_t1 : Int) (i_t2 : Int) : Option (Int × Int) :=
if (glt i_t2 (lenI l_2)) = true then (
Option.bind (getI l_2 i_t2) fun _ =>
Option.bind (getI l_2 i_t2) fun c_4 =>
bk4 (gadd n_t1 c_4) (gadd i_t2 (1 : Int)))
else (
j6 r_3 n_t1)

def cadenzaref30_Front_l4 (r_3 : Int) (l_2 : List Int) : Nat → Int → Int → Option (Int × Int)
| 0, _, _ => none
| q + 1, n_t1, i_t2 => cadenzaref30_Front_s4 cadenzaref30_Front_p6 (cadenzaref30_Front_l4 r_3 l_2 q) r_3 l_2 n_t1 i_t2

def cadenzaref30_Front_p4 (r_3 : Int) (l_2 : List Int) (n_t1 : Int) (i_t2 : Int) : Option (Int × Int) := cadenzaref30_Front_l4 r_3 l_2 FUEL n_t1 i_t2

def cadenzaref30_Front_s0 (j4 : Int → (List Int) → Int → Int → Option (Int × Int)) (b_1 : List UInt8) : Option (Int × Int) :=
Option.bind (cadenzaref30_Parts b_1) fun (l_2, r_3) =>
j4 r_3 l_2 (0 : Int) (0 : Int)

def cadenzaref30_Front (b_1 : List UInt8) : Option (Int × Int) := cadenzaref30_Front_s0 cadenzaref30_Front_p4 b_1

def cadenzaref03_Step_s2 (state_1 : UInt32) (odd_t1 : Bool) : Option (UInt32) :=
if odd_t1 = true then (
some (gxor (gquo state_1 (2 : UInt32)) (3988292384 : UInt32)))
else (
some (gquo state_1 (2 : UInt32)))

def cadenzaref03_Step_p2 (state_1 : UInt32) (odd_t1 : Bool) : Option (UInt32) := cadenzaref03_Step_s2 state_1 odd_t1

def cadenzaref03_Step_s0 (j2 : UInt32 → Bool → Option (UInt32)) (state_1 : UInt32) (bit_2 : Int) : Option (UInt32) :=
if (geq bit_2 (1 : Int)) = true then (
j2 state_1 (!(geq (grem state_1 (2 : UInt32)) (1 : UInt32))))
else (
j2 state_1 (geq (grem state_1 (2 : UInt32)) (1 : UInt32)))

def cadenzaref03_Step (state_1 : UInt32) (bit_2 : Int) : Option (UInt32) := cadenzaref03_Step_s0 cadenzaref03_Step_p2 state_1 bit_2

def cadenzaref03_Byte_s6 (state_t1 : UInt32) : Option (UInt32) :=
some state_t1

def cadenzaref03_Byte_p6 (state_t1 : UInt32) : Option (UInt32) := cadenzaref03_Byte_s6 state_t1

def cadenzaref03_Byte_s4 (j6 : UInt32 → Option (UInt32)) (bk4 : UInt32 → UInt8 → Int → Option (UInt32)) (state_t1 : UInt32) (b_t2 : UInt8) (i_t3 : Int) : Option (UInt32) :=
if (glt i_t3 (8 : Int)) = true then (
Option.bind (cadenzaref03_Step state_t1 (gconv (grem b_t2 (2 : UInt8)) : Int)) fun r_3 =>
bk4 r_3 (gquo b_t2 (2 : UInt8)) (gadd i_t3 (1 : Int)))
else (
j6 state_t1)

def cadenzaref03_Byte_l4 : Nat → UInt32 → UInt8 → Int → Option (UInt32)
| 0, _, _, _ => none
| q + 1, state_t1, b_t2, i_t3 => cadenzaref03_Byte_s4 cadenzaref03_Byte_p6 (cadenzaref03_Byte_l4 q) state_t1 b_t2 i_t3

def cadenzaref03_Byte_p4 (state_t1 : UInt32) (b_t2 : UInt8) (i_t3 : Int) : Option (UInt32) := cadenzaref03_Byte_l4 FUEL state_t1 b_t2 i_t3

def cadenzaref03_Byte_s0 (j4 : UInt32 → UInt8 → Int → Option (UInt32)) (state_1 : UInt32) (b_2 : UInt8) : Option (UInt32) :=
j4 state_1 b_2 (0 : Int)

def cadenzaref03_Byte (state_1 : UInt32) (b_2 : UInt8) : Option (UInt32) := cadenzaref03_Byte_s0 cadenzaref03_Byte_p4 state_1 b_2

def cadenzaref03_Behind_s6 (state_t1 : UInt32) : Option (UInt32) :=
some state_t1

def cadenzaref03_Behind_p6 (state_t1 : UInt32) : Option (UInt32) := cadenzaref03_Behind_s6 state_t1

def cadenzaref03_Behind_s4 (j6 : UInt32 → Option (UInt32)) (bk4 : UInt32 → Int → Option (UInt32)) (b_2 : List UInt8) (state_t1 : UInt32) (i_t2 : Int) : Option (UInt32) :=
if (glt i_t2 (lenI b_2)) = true then (
Option.bind (getI b_2 i_t2) fun c_3 =>
Option.bind (cadenzaref03_Byte state_t1 c_3) fun r_4 =>
bk4 r_4 (gadd i_t2 (1 : Int)))
else (
j6 state_t1)

def cadenzaref03_Behind_l4 (b_2 : List UInt8) : Nat → UInt32 → Int → Option (UInt32)
| 0, _, _ => none
| q + 1, state_t1, i_t2 => cadenzaref03_Behind_s4 cadenzaref03_Behind_p6 (cadenzaref03_Behind_l4 b_2 q) b_2 state_t1 i_t2

def cadenzaref03_Behind_p4 (b_2 : List UInt8) (state_t1 : UInt32) (i_t2 : Int) : Option (UInt32) := cadenzaref03_Behind_l4 b_2 FUEL state_t1 i_t2

def cadenzaref03_Behind_s0 (j4 : (List UInt8) → UInt32 → Int → Option (UInt32)) (state_1 : UInt32) (b_2 : List UInt8) : Option (UInt32) :=
j4 b_2 state_1 (0 : Int)

def cadenzaref03_Behind (state_1 : UInt32) (b_2 : List UInt8) : Option (UInt32) := cadenzaref03_Behind_s0 cadenzaref03_Behind_p4 state_1 b_2

def cadenzaref03_Of (b_1 : List UInt8) : Option (UInt32) :=
Option.bind (cadenzaref03_Behind (4294967295 : UInt32) b_1) fun r_2 =>
some (gsub (4294967295 : UInt32) r_2)

def cadenzaref25_shaped (h_1 : Int) (h_2 : Int) (h_3 : Int) (h_4 : Int) (h_5 : Int) : Option (Bool) :=
if ((((geq h_1 (1 : Int)) || (geq h_1 (2 : Int))) && (gge h_2 (1 : Int))) && (gle h_2 (6 : Int))) = true then (
some ((((((geq h_3 (8 : Int)) || (geq h_3 (16 : Int))) || (geq h_3 (24 : Int))) && (gge h_4 (1 : Int))) && (gle h_4 (1048576 : Int))) && (gge h_5 (1 : Int))))
else (
some (((false && (gge h_4 (1 : Int))) && (gle h_4 (1048576 : Int))) && (gge h_5 (1 : Int))))

def cadenzaref25_Long (r_1 : Int) : Option (Int) :=
some (gmax (1 : Int) (gquo (gmul (256 : Int) r_1) (245 : Int)))

def cadenzaref25_Split_s6 (x_t2 : List Int) : Option ((List Int)) :=
some x_t2

def cadenzaref25_Split_p6 (x_t2 : List Int) : Option ((List Int)) := cadenzaref25_Split_s6 x_t2

def cadenzaref25_Split_s4 (j6 : (List Int) → Option ((List Int))) (bk4 : Int → (List Int) → Option ((List Int))) (r_1 : Int) (count_t1 : Int) (x_t2 : List Int) : Option ((List Int)) :=
if (ggt count_t1 (0 : Int)) = true then (
Option.bind (cadenzaref25_Long r_1) fun r_3 =>
Option.bind (appI x_t2 ([(gmin count_t1 r_3)] : List Int)) fun l_4 =>
Option.bind (cadenzaref25_Long r_1) fun r_5 =>
bk4 (gsub count_t1 r_5) l_4)
else (
j6 x_t2)

def cadenzaref25_Split_l4 (r_1 : Int) : Nat → Int → (List Int) → Option ((List Int))
| 0, _, _ => none
| q + 1, count_t1, x_t2 => cadenzaref25_Split_s4 cadenzaref25_Split_p6 (cadenzaref25_Split_l4 r_1 q) r_1 count_t1 x_t2

def cadenzaref25_Split_p4 (r_1 : Int) (count_t1 : Int) (x_t2 : List Int) : Option ((List Int)) := cadenzaref25_Split_l4 r_1 FUEL count_t1 x_t2

def cadenzaref25_Split_s0 (j4 : Int → Int → (List Int) → Option ((List Int))) (r_1 : Int) (count_2 : Int) : Option ((List Int)) :=
j4 r_1 count_2 ([] : List Int)

def cadenzaref25_Split (r_1 : Int) (count_2 : Int) : Option ((List Int)) := cadenzaref25_Split_s0 cadenzaref25_Split_p4 r_1 count_2

def cadenzaref25_many (h_1 : Int) (h_2 : Int) (h_3 : Int) (h_4 : Int) (h_5 : Int) : Option (Bool) :=
(
Option.bind (okI (gne h_2 (0 : Int))) fun _ =>
(
if (ggt h_5 (gquo (4000 : Int) h_2)) = true then (
some true)
else (
Option.bind (cadenzaref25_Split h_4 h_5) fun l_6 =>
some (ggt (lenI l_6) (1000 : Int)))))

def cadenzaref25_Read_s6 (r_13 : UInt64) (r_14 : UInt64) (r_15 : UInt64) (r_16 : UInt64) (r_17 : UInt64) : Option (Int × Int × Int × Int × Int × Int) :=
Option.bind (cadenzaref25_shaped (gconv r_13 : Int) (gconv r_14 : Int) (gconv r_15 : Int) (gconv r_16 : Int) (gconv r_17 : Int)) fun ok_18 =>
if (!ok_18) = true then (
some ((0 : Int), (0 : Int), (0 : Int), (0 : Int), (0 : Int), (12 : Int)))
else (
Option.bind (cadenzaref25_many (gconv r_13 : Int) (gconv r_14 : Int) (gconv r_15 : Int) (gconv r_16 : Int) (gconv r_17 : Int)) fun ok_19 =>
if ok_19 = true then (
some ((0 : Int), (0 : Int), (0 : Int), (0 : Int), (0 : Int), (4 : Int)))
else (
some ((gconv r_13 : Int), (gconv r_14 : Int), (gconv r_15 : Int), (gconv r_16 : Int), (gconv r_17 : Int), (0 : Int))))

def cadenzaref25_Read_p6 (r_13 : UInt64) (r_14 : UInt64) (r_15 : UInt64) (r_16 : UInt64) (r_17 : UInt64) : Option (Int × Int × Int × Int × Int × Int) := cadenzaref25_Read_s6 r_13 r_14 r_15 r_16 r_17

def cadenzaref25_Read_s5 (j6 : UInt64 → UInt64 → UInt64 → UInt64 → UInt64 → Option (Int × Int × Int × Int × Int × Int)) (b_1 : List UInt8) : Option (Int × Int × Int × Int × Int × Int) :=
Option.bind (cutI b_1 (4 : Int) (6 : Int)) fun b_8 =>
Option.bind (cutI b_1 (6 : Int) (8 : Int)) fun b_9 =>
Option.bind (cutI b_1 (8 : Int) (10 : Int)) fun b_10 =>
Option.bind (cutI b_1 (10 : Int) (14 : Int)) fun b_11 =>
Option.bind (cutI b_1 (14 : Int) (18 : Int)) fun b_12 =>
(
Option.bind (cadenzaref01_Of b_8) fun r_13 =>
(
Option.bind (cadenzaref01_Of b_9) fun r_14 =>
(
Option.bind (cadenzaref01_Of b_10) fun r_15 =>
(
Option.bind (cadenzaref01_Of b_11) fun r_16 =>
(
Option.bind (cadenzaref01_Of b_12) fun r_17 =>
(
j6 r_13 r_14 r_15 r_16 r_17))))))

def cadenzaref25_Read_p5 (b_1 : List UInt8) : Option (Int × Int × Int × Int × Int × Int) := cadenzaref25_Read_s5 cadenzaref25_Read_p6 b_1

def cadenzaref25_Read_s4 (j5 : (List UInt8) → Option (Int × Int × Int × Int × Int × Int)) (b_1 : List UInt8) : Option (Int × Int × Int × Int × Int × Int) :=
if (glt (lenI b_1) (22 : Int)) = true then (
some ((0 : Int), (0 : Int), (0 : Int), (0 : Int), (0 : Int), (24 : Int)))
else (
Option.bind (cutI b_1 (18 : Int) (22 : Int)) fun b_4 =>
Option.bind (cutI b_1 (0 : Int) (18 : Int)) fun b_5 =>
Option.bind (cadenzaref01_Of b_4) fun r_6 =>
Option.bind (cadenzaref03_Of b_5) fun r_7 =>
if (gne r_6 (gconv r_7 : UInt64)) = true then (
some ((0 : Int), (0 : Int), (0 : Int), (0 : Int), (0 : Int), (22 : Int)))
else (
j5 b_1))

def cadenzaref25_Read_p4 (b_1 : List UInt8) : Option (Int × Int × Int × Int × Int × Int) := cadenzaref25_Read_s4 cadenzaref25_Read_p5 b_1

def cadenzaref25_Read_s0 (j4 : (List UInt8) → Option (Int × Int × Int × Int × Int × Int)) (b_1 : List UInt8) : Option (Int × Int × Int × Int × Int × Int) :=
Option.bind (cutI b_1 (0 : Int) (gmin (4 : Int) (lenI b_1))) fun b_2 =>
Option.bind (cutI ([84, 84, 65, 49] : List UInt8) (0 : Int) (gmin (4 : Int) (lenI b_1))) fun s_3 =>
if (b_2 != s_3) = true then (
some ((0 : Int), (0 : Int), (0 : Int), (0 : Int), (0 : Int), (12 : Int)))
else (
j4 b_1)

def cadenzaref25_Read (b_1 : List UInt8) : Option (Int × Int × Int × Int × Int × Int) := cadenzaref25_Read_s0 cadenzaref25_Read_p4 b_1

def cadenzaref35_first (b_1 : List UInt8) : Option (Int × Int × Int × Int × Int × Int × Int) :=
if (ggt (lenI b_1) (100000 : Int)) = true then (
some ((0 : Int), (0 : Int), (0 : Int), (0 : Int), (0 : Int), (0 : Int), (4 : Int)))
else (
Option.bind (cadenzaref30_Front b_1) fun (r_2, r_3) =>
if (gne r_3 (0 : Int)) = true then (
some ((0 : Int), (0 : Int), (0 : Int), (0 : Int), (0 : Int), (0 : Int), r_3))
else (
Option.bind (cutI b_1 r_2 (lenI b_1)) fun b_4 =>
Option.bind (cadenzaref25_Read b_4) fun (r_5, r_6, r_7, r_8, r_9, r_10) =>
some (r_2, r_5, r_6, r_7, r_8, r_9, r_10)))

def cadenzaref26_Check_s10 (sum_t1 : Int) : Option (Int) :=
if (ggt sum_t1 (100000 : Int)) = true then (
some (8 : Int))
else (
some (0 : Int))

def cadenzaref26_Check_p10 (sum_t1 : Int) : Option (Int) := cadenzaref26_Check_s10 sum_t1

def cadenzaref26_Check_s8 (bk6 : Int → Int → Option (Int)) (l_1 : List Int) (sum_t1 : Int) (i_t2 : Int) : Option (Int) :=
Option.bind (getI l_1 i_t2) fun c_4 =>
bk6 (gadd sum_t1 c_4) (gadd i_t2 (1 : Int))

def cadenzaref26_Check_p8 (bk6 : Int → Int → Option (Int)) (l_1 : List Int) (sum_t1 : Int) (i_t2 : Int) : Option (Int) := cadenzaref26_Check_s8 bk6 l_1 sum_t1 i_t2

def cadenzaref26_Check_s6 (j8 : Int → Int → Option (Int)) (j10 : Int → Option (Int)) (l_1 : List Int) (sum_t1 : Int) (i_t2 : Int) : Option (Int) :=
if (glt i_t2 (lenI l_1)) = true then (
Option.bind (getI l_1 i_t2) fun c_2 =>
if (glt c_2 (5 : Int)) = true then (
some (8 : Int))
else (
Option.bind (getI l_1 i_t2) fun c_3 =>
if (ggt c_3 (100000 : Int)) = true then (
some (8 : Int))
else (
j8 sum_t1 i_t2)))
else (
j10 sum_t1)

def cadenzaref26_Check_l6 (l_1 : List Int) : Nat → Int → Int → Option (Int)
| 0, _, _ => none
| q + 1, sum_t1, i_t2 => cadenzaref26_Check_s6 (cadenzaref26_Check_p8 (cadenzaref26_Check_l6 l_1 q) l_1) cadenzaref26_Check_p10 l_1 sum_t1 i_t2

def cadenzaref26_Check_p6 (l_1 : List Int) (sum_t1 : Int) (i_t2 : Int) : Option (Int) := cadenzaref26_Check_l6 l_1 FUEL sum_t1 i_t2

def cadenzaref26_Check_s0 (j6 : (List Int) → Int → Int → Option (Int)) (l_1 : List Int) : Option (Int) :=
if ((glt (lenI l_1) (1 : Int)) || (ggt (lenI l_1) (1000 : Int))) = true then (
some (8 : Int))
else (
j6 l_1 (0 : Int) (0 : Int))

def cadenzaref26_Check (l_1 : List Int) : Option (Int) := cadenzaref26_Check_s0 cadenzaref26_Check_p6 l_1

def cadenzaref26_Read_s8 (x_t2 : List Int) : Option ((List Int) × Int) :=
Option.bind (cadenzaref26_Check x_t2) fun r_7 =>
if (gne r_7 (0 : Int)) = true then (
some (([] : List Int), (12 : Int)))
else (
some (x_t2, (0 : Int)))

def cadenzaref26_Read_p8 (x_t2 : List Int) : Option ((List Int) × Int) := cadenzaref26_Read_s8 x_t2

def cadenzaref26_Read_s6 (j8 : (List Int) → Option ((List Int) × Int)) (bk6 : Int → (List Int) → Option ((List Int) × Int)) (b_1 : List UInt8) (n_2 : Int) (i_t1 : Int) (x_t2 : List Int) : Option ((List Int) × Int) :=
if (glt i_t1 n_2) = true then (
Option.bind (cutI b_1 (gmul (4 : Int) i_t1) (gadd (gmul (4 : Int) i_t1) (4 : Int))) fun b_7 =>
Option.bind (cadenzaref01_Of b_7) fun r_8 =>
Option.bind (appI x_t2 ([(gconv r_8 : Int)] : List Int)) fun l_9 =>
bk6 (gadd i_t1 (1 : Int)) l_9)
else (
j8 x_t2)

def cadenzaref26_Read_l6 (b_1 : List UInt8) (n_2 : Int) : Nat → Int → (List Int) → Option ((List Int) × Int)
| 0, _, _ => none
| q + 1, i_t1, x_t2 => cadenzaref26_Read_s6 cadenzaref26_Read_p8 (cadenzaref26_Read_l6 b_1 n_2 q) b_1 n_2 i_t1 x_t2

def cadenzaref26_Read_p6 (b_1 : List UInt8) (n_2 : Int) (i_t1 : Int) (x_t2 : List Int) : Option ((List Int) × Int) := cadenzaref26_Read_l6 b_1 n_2 FUEL i_t1 x_t2

def cadenzaref26_Read_s5 (j6 : (List UInt8) → Int → Int → (List Int) → Option ((List Int) × Int)) (b_1 : List UInt8) (n_2 : Int) : Option ((List Int) × Int) :=
j6 b_1 n_2 (0 : Int) ([] : List Int)

def cadenzaref26_Read_p5 (b_1 : List UInt8) (n_2 : Int) : Option ((List Int) × Int) := cadenzaref26_Read_s5 cadenzaref26_Read_p6 b_1 n_2

def cadenzaref26_Read_s0 (j5 : (List UInt8) → Int → Option ((List Int) × Int)) (b_1 : List UInt8) (n_2 : Int) : Option ((List Int) × Int) :=
if ((glt n_2 (1 : Int)) || (ggt n_2 (1000 : Int))) = true then (
some (([] : List Int), (2 : Int)))
else (
if (glt (lenI b_1) (gadd (gmul (4 : Int) n_2) (4 : Int))) = true then (
some (([] : List Int), (24 : Int)))
else (
Option.bind (cutI b_1 (gmul (4 : Int) n_2) (gadd (gmul (4 : Int) n_2) (4 : Int))) fun b_3 =>
Option.bind (cutI b_1 (0 : Int) (gmul (4 : Int) n_2)) fun b_4 =>
Option.bind (cadenzaref01_Of b_3) fun r_5 =>
Option.bind (cadenzaref03_Of b_4) fun r_6 =>
if (gne r_5 (gconv r_6 : UInt64)) = true then (
some (([] : List Int), (22 : Int)))
else (
j5 b_1 n_2)))

def cadenzaref26_Read (b_1 : List UInt8) (n_2 : Int) : Option ((List Int) × Int) := cadenzaref26_Read_s0 cadenzaref26_Read_p5 b_1 n_2

def cadenzaref35_table (b_1 : List UInt8) (at_2 : Int) (h_3 : Int) (h_4 : Int) (h_5 : Int) (h_6 : Int) (h_7 : Int) : Option ((List Int) × Int) :=
Option.bind (cutI b_1 at_2 (lenI b_1)) fun b_8 =>
Option.bind (cadenzaref25_Split h_6 h_7) fun l_9 =>
Option.bind (cadenzaref26_Read b_8 (lenI l_9)) fun (l_10, r_11) =>
some (l_10, r_11)

def cadenzaref35_Parts_s8 (b_1 : List UInt8) (r_2 : Int) (x_t1 : Int) (l_9 : List Int) (x_t3 : Int) : Option (Int × Int × Int × Int × Int × Int) :=
if (glt (lenI b_1) x_t3) = true then (
some ((0 : Int), (0 : Int), (0 : Int), (0 : Int), (0 : Int), (24 : Int)))
else (
some (r_2, (gadd r_2 (22 : Int)), x_t1, (gadd (gadd x_t1 (gmul (4 : Int) (lenI l_9))) (4 : Int)), x_t3, (0 : Int)))

def cadenzaref35_Parts_p8 (b_1 : List UInt8) (r_2 : Int) (x_t1 : Int) (l_9 : List Int) (x_t3 : Int) : Option (Int × Int × Int × Int × Int × Int) := cadenzaref35_Parts_s8 b_1 r_2 x_t1 l_9 x_t3

def cadenzaref35_Parts_s6 (j8 : (List UInt8) → Int → Int → (List Int) → Int → Option (Int × Int × Int × Int × Int × Int)) (bk6 : Int → Int → Option (Int × Int × Int × Int × Int × Int)) (b_1 : List UInt8) (r_2 : Int) (x_t1 : Int) (l_9 : List Int) (i_t2 : Int) (x_t3 : Int) : Option (Int × Int × Int × Int × Int × Int) :=
if (glt i_t2 (lenI l_9)) = true then (
Option.bind (getI l_9 i_t2) fun _ =>
Option.bind (getI l_9 i_t2) fun c_11 =>
bk6 (gadd i_t2 (1 : Int)) (gadd x_t3 c_11))
else (
j8 b_1 r_2 x_t1 l_9 x_t3)

def cadenzaref35_Parts_l6 (b_1 : List UInt8) (r_2 : Int) (x_t1 : Int) (l_9 : List Int) : Nat → Int → Int → Option (Int × Int × Int × Int × Int × Int)
| 0, _, _ => none
| q + 1, i_t2, x_t3 => cadenzaref35_Parts_s6 cadenzaref35_Parts_p8 (cadenzaref35_Parts_l6 b_1 r_2 x_t1 l_9 q) b_1 r_2 x_t1 l_9 i_t2 x_t3

def cadenzaref35_Parts_p6 (b_1 : List UInt8) (r_2 : Int) (x_t1 : Int) (l_9 : List Int) (i_t2 : Int) (x_t3 : Int) : Option (Int × Int × Int × Int × Int × Int) := cadenzaref35_Parts_l6 b_1 r_2 x_t1 l_9 FUEL i_t2 x_t3

def cadenzaref35_Parts_s5 (j6 : (List UInt8) → Int → Int → (List Int) → Int → Int → Option (Int × Int × Int × Int × Int × Int)) (b_1 : List UInt8) (r_3 : Int) (r_4 : Int) (r_5 : Int) (r_6 : Int) (r_7 : Int) (r_2 : Int) (x_t1 : Int) : Option (Int × Int × Int × Int × Int × Int) :=
if (glt (lenI b_1) x_t1) = true then (
some ((0 : Int), (0 : Int), (0 : Int), (0 : Int), (0 : Int), (24 : Int)))
else (
Option.bind (cadenzaref35_table b_1 x_t1 r_3 r_4 r_5 r_6 r_7) fun (l_9, r_10) =>
if (gne r_10 (0 : Int)) = true then (
some ((0 : Int), (0 : Int), (0 : Int), (0 : Int), (0 : Int), r_10))
else (
j6 b_1 r_2 x_t1 l_9 (0 : Int) (gadd (gadd x_t1 (gmul (4 : Int) (lenI l_9))) (4 : Int))))

def cadenzaref35_Parts_p5 (b_1 : List UInt8) (r_3 : Int) (r_4 : Int) (r_5 : Int) (r_6 : Int) (r_7 : Int) (r_2 : Int) (x_t1 : Int) : Option (Int × Int × Int × Int × Int × Int) := cadenzaref35_Parts_s5 cadenzaref35_Parts_p6 b_1 r_3 r_4 r_5 r_6 r_7 r_2 x_t1

def cadenzaref35_Parts_s0 (j5 : (List UInt8) → Int → Int → Int → Int → Int → Int → Int → Option (Int × Int × Int × Int × Int × Int)) (b_1 : List UInt8) : Option (Int × Int × Int × Int × Int × Int) :=
Option.bind (cadenzaref35_first b_1) fun (r_2, r_3, r_4, r_5, r_6, r_7, r_8) =>
if (gne r_8 (0 : Int)) = true then (
some ((0 : Int), (0 : Int), (0 : Int), (0 : Int), (0 : Int), r_8))
else (
if (geq r_3 (2 : Int)) = true then (
j5 b_1 r_3 r_4 r_5 r_6 r_7 r_2 (gadd (gadd r_2 (22 : Int)) (8 : Int)))
else (
j5 b_1 r_3 r_4 r_5 r_6 r_7 r_2 (gadd r_2 (22 : Int))))

def cadenzaref35_Parts (b_1 : List UInt8) : Option (Int × Int × Int × Int × Int × Int) := cadenzaref35_Parts_s0 cadenzaref35_Parts_p5 b_1

def cadenzalaw35_ValidParts (b_1 : List UInt8) : Option (Bool) :=
Option.bind (cadenzaref35_Long b_1) fun ok_2 =>
if ok_2 = true then (
some true)
else (
Option.bind (valid_Parts b_1) fun (r_3, r_4, r_5, r_6, r_7, r_8) =>
Option.bind (cadenzaref35_Parts b_1) fun (r_9, r_10, r_11, r_12, r_13, r_14) =>
some (((geq r_3 r_9) && ((geq r_4 r_10) && ((geq r_5 r_11) && ((geq r_6 r_12) && ((geq r_7 r_13) && true))))) && (geq r_8 r_14)))
end Go.Pl
