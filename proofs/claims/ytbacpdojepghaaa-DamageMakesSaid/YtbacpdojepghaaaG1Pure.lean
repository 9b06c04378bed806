/- Proved for a statement of this seat: a part of the proof (see the text that ends in Proof). -/
import Derived.Test.YtbacpdojepghaaaLvPure
set_option linter.unusedVariables false
namespace Go.Proofs.Ytbacpdojepghaaa
open Go Go.Lv
def bytes_Clone (b : List UInt8) : Option (List UInt8) := appI [] b
def damage_Flip (b_1 : List UInt8) (at_8 : Int) (by_9 : UInt8) : Option ((List UInt8) × Int) :=
if (((glt at_8 (0 : Int)) || (gge at_8 (lenI b_1))) || (geq by_9 (0 : UInt8))) = true then (
some (([] : List UInt8), (2 : Int)))
else (
Option.bind (bytes_Clone b_1) fun l_23 =>
Option.bind (getI l_23 at_8) fun c_29 =>
Option.bind (setI l_23 at_8 (gxor c_29 by_9)) fun l_34 =>
some (l_34, (0 : Int)))

def cadenzaref44_Flip (b_1 : List UInt8) (at_8 : Int) (by_9 : UInt8) : Option ((List UInt8) × Int) :=
if (((glt at_8 (0 : Int)) || (gge at_8 (lenI b_1))) || (geq by_9 (0 : UInt8))) = true then (
some (([] : List UInt8), (2 : Int)))
else (
Option.bind (appI ([] : List UInt8) b_1) fun x_30 =>
Option.bind (getI x_30 at_8) fun c_35 =>
Option.bind (setI x_30 at_8 (gxor c_35 by_9)) fun l_40 =>
some (l_40, (0 : Int)))

def damage_Burst_l1 (bit_8 : Int) (mask_9 : UInt32) : Nat → Int → Bool → (List UInt8) → Option (Bool × (List UInt8))
| 0, _, _, _ => none
| k + 1, x_173, x_174, l_175 =>
if (glt x_173 (32 : Int)) = true then (
Option.bind (okI (gge x_173 0)) fun _ =>
if (geq (gand (gshr mask_9 x_173.toNat) (1 : UInt32)) (1 : UInt32)) = true then (
Option.bind (α := Bool × (List UInt8)) (
if (glt (gadd bit_8 x_173) (gmul (8 : Int) (lenI l_175))) = true then (
Option.bind (getI l_175 (gquo (gadd bit_8 x_173) (8 : Int))) fun c_243 =>
Option.bind (okI (gge (irem (gadd bit_8 x_173) (8 : Int)) 0)) fun _ =>
Option.bind (setI l_175 (gquo (gadd bit_8 x_173) (8 : Int)) (gxor c_243 (gshl (1 : UInt8) (irem (gadd bit_8 x_173) (8 : Int)).toNat))) fun l_249 =>
some (true, l_249))
else (
some (x_174, l_175))) fun (x_234, l_235) =>
damage_Burst_l1 bit_8 mask_9 k (gadd x_173 (1 : Int)) x_234 l_235)
else (
damage_Burst_l1 bit_8 mask_9 k (gadd x_173 (1 : Int)) x_174 l_175))
else (
some (x_174, l_175))
def damage_Burst (b_1 : List UInt8) (bit_8 : Int) (mask_9 : UInt32) : Option ((List UInt8) × Int) :=
if ((glt bit_8 (0 : Int)) || (gge bit_8 (gmul (8 : Int) (lenI b_1)))) = true then (
some (([] : List UInt8), (2 : Int)))
else (
Option.bind (bytes_Clone b_1) fun l_131 =>
Option.bind (damage_Burst_l1 bit_8 mask_9 FUEL (0 : Int) false l_131) fun (x_213, l_214) =>
if (!x_213) = true then (
some (([] : List UInt8), (2 : Int)))
else (
some (l_214, (0 : Int))))

def cadenzaref44_Burst_l2 (bit_8 : Int) (k_346 : Int) : Nat → UInt8 → Int → Option (UInt8 × Int)
| 0, _, _ => none
| k + 1, one_461, i_462 =>
if (glt i_462 (irem (gadd bit_8 k_346) (8 : Int))) = true then (
cadenzaref44_Burst_l2 bit_8 k_346 k (gmul one_461 (2 : UInt8)) (gadd i_462 (1 : Int)))
else (
some (one_461, i_462))
def cadenzaref44_Burst_l1 (b_1 : List UInt8) (bit_8 : Int) : Nat → Int → UInt32 → (List UInt8) → Bool → Option ((List UInt8) × Bool)
| 0, _, _, _, _ => none
| k + 1, k_346, mask_347, out_348, changed_353 =>
if ((glt k_346 (32 : Int)) && (glt (gadd bit_8 k_346) (gmul (8 : Int) (lenI b_1)))) = true then (
if (geq (grem mask_347 (2 : UInt32)) (1 : UInt32)) = true then (
Option.bind (cadenzaref44_Burst_l2 bit_8 k_346 FUEL (1 : UInt8) (0 : Int)) fun (one_481, i_482) =>
Option.bind (getI out_348 (gquo (gadd bit_8 k_346) (8 : Int))) fun c_503 =>
Option.bind (setI out_348 (gquo (gadd bit_8 k_346) (8 : Int)) (gxor c_503 one_481)) fun l_508 =>
cadenzaref44_Burst_l1 b_1 bit_8 k (gadd k_346 (1 : Int)) (gquo mask_347 (2 : UInt32)) l_508 true)
else (
cadenzaref44_Burst_l1 b_1 bit_8 k (gadd k_346 (1 : Int)) (gquo mask_347 (2 : UInt32)) out_348 changed_353))
else (
some (out_348, changed_353))
def cadenzaref44_Burst (b_1 : List UInt8) (bit_8 : Int) (mask_9 : UInt32) : Option ((List UInt8) × Int) :=
if ((glt bit_8 (0 : Int)) || (gge bit_8 (gmul (8 : Int) (lenI b_1)))) = true then (
some (([] : List UInt8), (2 : Int)))
else (
Option.bind (appI ([] : List UInt8) b_1) fun x_265 =>
Option.bind (cadenzaref44_Burst_l1 b_1 bit_8 FUEL (0 : Int) mask_9 x_265 false) fun (out_430, changed_435) =>
if (!changed_435) = true then (
some (([] : List UInt8), (2 : Int)))
else (
some (out_430, (0 : Int))))

def cadenzalaw44_DamageMakes (b_1 : List UInt8) (at_8 : Int) (by_9 : UInt8) (bit_10 : Int) (mask_11 : UInt32) : Option (Bool) :=
if (ggt (lenI b_1) (1000 : Int)) = true then (
some true)
else (
Option.bind (appI ([] : List UInt8) b_1) fun x_53 =>
Option.bind (damage_Flip x_53 at_8 by_9) fun (l_58, r_63) =>
Option.bind (cadenzaref44_Flip b_1 at_8 by_9) fun (l_65, r_70) =>
Option.bind (damage_Burst x_53 bit_10 mask_11) fun (l_72, r_77) =>
Option.bind (cadenzaref44_Burst b_1 bit_10 mask_11) fun (l_79, r_84) =>
some (((((l_58 == l_65) && (geq r_63 r_70)) && (l_72 == l_79)) && (geq r_77 r_84)) && (x_53 == b_1)))
end Go.Proofs.Ytbacpdojepghaaa
