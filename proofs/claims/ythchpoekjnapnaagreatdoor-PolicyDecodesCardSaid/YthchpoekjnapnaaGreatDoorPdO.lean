/- A part of the proof of a statement of this seat (see the text that ends in Proof): PdOk. No conditions of its own. -/
import Derived.Test.YthchpoekjnapnaaGreatDoorPdBC
import Derived.Test.YthchpoekjnapnaaGreatDoorPdPA
import Derived.Test.YthchpoekjnapnaaGreatDoorPdHA
import Derived.Test.YthchpoekjnapnaaGreatDoorProg
import Derived.KernelRfl
set_option linter.unusedVariables false
set_option linter.unusedSimpArgs false
set_option maxRecDepth 10000
namespace Go.Proofs.YthchpoekjnapnaaGreatDoor
open Go Go.Lv Go.Pl Go.Rx Go.Rx.PS
noncomputable section
def Tryz.g0 : List Value := [.int .i64 2, .int .i64 2, .int .i64 2, .int .i64 4, .int .i64 4]
def Tryz.g1 : List Value := [.int .u8 0, .int .u8 1, .int .u8 56, .int .u8 2, .int .u8 57, .int .u8 49, .int .u8 28, .int .u8 3, .int .u8 61, .int .u8 58, .int .u8 42, .int .u8 50, .int .u8 38, .int .u8 29, .int .u8 17, .int .u8 4, .int .u8 62, .int .u8 47, .int .u8 59, .int .u8 36, .int .u8 45, .int .u8 43, .int .u8 51, .int .u8 22, .int .u8 53, .int .u8 39, .int .u8 33, .int .u8 30, .int .u8 24, .int .u8 18, .int .u8 12, .int .u8 5, .int .u8 63, .int .u8 55, .int .u8 48, .int .u8 27, .int .u8 60, .int .u8 41, .int .u8 37, .int .u8 16, .int .u8 46, .int .u8 35, .int .u8 44, .int .u8 21, .int .u8 52, .int .u8 32, .int .u8 23, .int .u8 11, .int .u8 54, .int .u8 26, .int .u8 40, .int .u8 15, .int .u8 34, .int .u8 20, .int .u8 31, .int .u8 10, .int .u8 25, .int .u8 14, .int .u8 19, .int .u8 9, .int .u8 13, .int .u8 8, .int .u8 7, .int .u8 6]
def Tryz.gl : List (Nat × List Value) := []
def Tryz.Blm : List (Nat × List Value) := [(0, Tryz.g0)]
def Tryz.gl_0_1 : List (Nat × List Value) := [(0, Tryz.g0), (1, Tryz.g1)]
def Tryz.Av4 : List (Nat × List Value) := [(1, Tryz.g1)]
theorem Tryz.mixed : Tryz.prog.follows .mixedOrders = true := by kernel_rfl
noncomputable abbrev P_ := Tryz.prog
theorem Tryz.cr (H : Hd) {f : Nat} {F : LTy (shL H.p) → Option (LTy (shL H.r))} (hf : P_.funcs[f]? = some H.f) (hT : An2 P_ H.T) (hA : ∀ p ∈ H.s, Ent P_ p.1) (hb : okH H = true) (h : ∀ x, H.u P_ x = F x) : ConOk P_ H.T.gl f ⟨H.p, H.r, F⟩ := Hd.con Tryz.mixed H hf hT hA hb h
theorem Tryz.co (H : Hd) {f : Nat} {F : LTy (shL H.p) → Option (LTy (shL H.r))} (hf : P_.funcs[f]? = some H.f) (hT : An2 P_ H.T) (hb : (H.s.isEmpty && okH H) = true) (h : ∀ x, H.u P_ x = F x) : ConOk P_ H.T.gl f ⟨H.p, H.r, F⟩ := Hd.Bw3 Tryz.mixed H hf hT hb h
theorem Tryz.ent23 : Ent Tryz.prog 23 := Ent.mk Tryz.func23 (by kernel_rfl) rfl
theorem Tryz.ent29 : Ent Tryz.prog 29 := Ent.mk Tryz.func29 (by kernel_rfl) rfl
theorem Tryz.ent31 : Ent Tryz.prog 31 := Ent.mk Tryz.func31 (by kernel_rfl) rfl
theorem Tryz.ent40 : Ent Tryz.prog 40 := Ent.mk Tryz.func40 (by kernel_rfl) rfl
theorem Tryz.ent61 : Ent Tryz.prog 61 := Ent.mk Tryz.func61 (by kernel_rfl) rfl
theorem Tryz.ent70 : Ent Tryz.prog 70 := Ent.mk Tryz.func70 (by kernel_rfl) rfl
theorem Tryz.ent77 : Ent Tryz.prog 77 := Ent.mk Tryz.func77 (by kernel_rfl) rfl
theorem Tryz.ent78 : Ent Tryz.prog 78 := Ent.mk Tryz.func78 (by kernel_rfl) rfl
theorem Tryz.ent100 : Ent Tryz.prog 100 := Ent.mk Tryz.func100 (by kernel_rfl) rfl
theorem Tryz.ent127 : Ent Tryz.prog 127 := Ent.mk Tryz.func127 (by kernel_rfl) rfl
theorem Tryz.ent162 : Ent Tryz.prog 162 := Ent.mk Tryz.func162 (by kernel_rfl) rfl
theorem Tryz.ent165 : Ent Tryz.prog 165 := Ent.mk Tryz.func165 (by kernel_rfl) rfl
theorem Tryz.ent169 : Ent Tryz.prog 169 := Ent.mk Tryz.func169 (by kernel_rfl) rfl
theorem Tryz.ent170 : Ent Tryz.prog 170 := Ent.mk Tryz.func170 (by kernel_rfl) rfl
theorem Tryz.ent171 : Ent Tryz.prog 171 := Ent.mk Tryz.func171 (by kernel_rfl) rfl
theorem Tryz.ent174 : Ent Tryz.prog 174 := Ent.mk Tryz.func174 (by kernel_rfl) rfl
theorem Tryz.ent181 : Ent Tryz.prog 181 := Ent.mk Tryz.func181 (by kernel_rfl) rfl
theorem Tryz.ent198 : Ent Tryz.prog 198 := Ent.mk Tryz.func198 (by kernel_rfl) rfl
theorem Tryz.ent214 : Ent Tryz.prog 214 := Ent.mk Tryz.func214 (by kernel_rfl) rfl
namespace F7
noncomputable def H : Hd := ⟨[Sb], [Sz], .d, ⟨[], Tryz.gl, false⟩, [], Tryz.f7⟩
noncomputable def F (x : LB) := Acv x
theorem rn (x : LB) : H.u P_ x = F x := by kernel_rfl
noncomputable def c : Con := ⟨H.p, H.r, F⟩
theorem ok : ConOk P_ Tryz.gl 7 c := Tryz.co H Tryz.func7 .nil (by kernel_rfl) rn
end F7
namespace F51
noncomputable def H : Hd := ⟨[Sb, Sb], [Sz], .d, ⟨[], Tryz.gl, false⟩, [], Tryz.f51⟩
noncomputable def F (x : LB × LB) := Gx x.1 x.2
theorem rn (x : LB × LB) : H.u P_ x = F x := by kernel_rfl
noncomputable def c : Con := ⟨H.p, H.r, F⟩
theorem ok : ConOk P_ Tryz.gl 51 c := Tryz.co H Tryz.func51 .nil (by kernel_rfl) rn
end F51
namespace F121
noncomputable def H : Hd := ⟨[Sb, Sb], [Sz], .d, ⟨[(51, F51.c)], Tryz.gl, false⟩, [], Tryz.f121⟩
noncomputable def F (x : LB × LB) := Ke x.1 x.2
theorem rn (x : LB × LB) : H.u P_ x = F x := by kernel_rfl
noncomputable def c : Con := ⟨H.p, H.r, F⟩
theorem ok : ConOk P_ Tryz.gl 121 c := Tryz.co H Tryz.func121 (.cons F51.ok .nil) (by kernel_rfl) rn
end F121
namespace F161
abbrev R_ := (Int × Int)
noncomputable def H : Hd := ⟨[Sb], [Si, Si], (.seq .d (.seq .d (.seq .d (.cut [4] [] (.seq .d (.blk (.loop [4, 10, 11, 12] [] .d))) .d)))), ⟨[], Tryz.gl, false⟩, [], Tryz.f161⟩
def t4 (a : LB) (b f : Int) : S := ⟨[(4, vi b), (10, vb a), (11, vi (Ac a)), (12, vi f)], [], []⟩
def z4 : Nat → S → Option R_ := H.i P_ [r,r,r,l,r,d]
def x6 (b : Int) : Option R_ := H.e P_ [r,r,r,r] ⟨[(4, vi b)], [], []⟩
def x4 (a : LB) (b f : Int) : Option R_ := H.e P_ [r,r,r,l,r,d] (t4 a b f)
theorem e6 : x6 = Ak5 := by kernel_rfl
theorem i4 (a : LB) : ∀ (q : Nat) (b f : Int), z4 q (t4 a b f) = Lf a q b f :=
 ind (fun _ _ => by kernel_rfl) fun q ih b f => Eq.trans (b := Xo x6 (fun b f => (z4 q) (t4 a b f)) a b f) (by kernel_rfl) (by simp only [e6, ih] <;> rfl)
theorem e4 : x4 = Ad6 := by funext a b f; exact Eq.trans (by kernel_rfl) ((i4 a Bn b f).trans (by rw [Al]; rfl))
noncomputable def F (x : LB) := Aev x
theorem rn (x : LB) : H.u P_ x = F x := Eq.trans (b := Aee x4 x) (by kernel_rfl) (by simp only [e4] <;> rfl)
noncomputable def c : Con := ⟨H.p, H.r, F⟩
theorem ok : ConOk P_ Tryz.gl 161 c := Tryz.co H Tryz.func161 .nil (by kernel_rfl) rn
end F161
namespace F125
def Aea (j5 : LB → UInt8 → UInt8 → Option (Int × Int)) (a : LB) : Option (Int × Int) :=
(Ke a ([(73 : UInt8), (68 : UInt8), (51 : UInt8)] : LB)).bind fun n =>
if (!n) then
some (0, 6)
else
if (Dh (Ac a) 10) then
some (0, 24)
else
(getI a 3).bind fun f =>
(getI a 5).bind fun b =>
both (
both (
bo (
j5 a f b)) [
both (
j5 a f b) [
bo (
j5 a f b)],
both (
j5 a f b) [
bo (
j5 a f b)]]) [
bo2 (
bo (
j5 a f b)),
both (
both (
j5 a f b) [
bo (
j5 a f b)]) [
bo (
j5 a f b),
both (
bo (
j5 a f b)) [
j5 a f b]],
both (
both (
j5 a f b) [
bo (
j5 a f b)]) [
bo (
j5 a f b),
both (
bo (
j5 a f b)) [
j5 a f b]]]
theorem Aqv : @Aea = @Zo := by
  unfold Aea Zo
  repeat (refine funext fun _ => ?_)
  repeat' first
    | with_reducible rfl
    | with_reducible refine Lk ?_ ?_
    | with_reducible refine Lr ?_ ?_ ?_
    | with_reducible refine Lw ?_ ?_ ?_ ?_
    | ((with_reducible refine Te ?_ ?_); focus (intro h; first | (subst h; rfl) | (simp only [h]; rfl) | (simp [Fz, Ac, h]; done)))
    | with_reducible refine Tk fun x => ?_
    | with_reducible refine Aak (fun _ => ?_) (fun _ => ?_)
    | (refine Gu (fun h => by simp only [h, Ta, Ek, Ej, ite_self]) (fun x h => ?_); (try simp only [h, Ek]))
    | (refine Io (fun h => ?_) (fun h => ?_) <;> simp only [h, if_true, if_false, Bool.false_eq_true])
abbrev R_ := (Int × Int)
noncomputable def H : Hd := ⟨[Sb], [Si, Si], (.seq .d (.seq .d (.seq .d (.cut [0, 4, 5] [] (.mode false) (.seq .d (.seq .d (.cut [0, 5, 6] [] (.cut [0, 5, 6, 43] [] (.keep [0, 5, 6, 7, 8, 31, 32, 33, 34, 35, 36, 37, 38, 39, 40, 41, 42, 43] true) .d) (.seq .d (.cut [0, 5, 6] [] .d .d))))))))), ⟨[(51, F51.c), (121, F121.c), (161, F161.c)], Tryz.gl, false⟩, [(162, .d)], Tryz.f125⟩
def x8 (a : LB) (b : UInt8) (h : Int) : Option R_ := H.e P_ [r,r,r,r,r,r,r,r,r] ⟨[(0, vb a), (5, .ptr 0 []), (6, vi h)], [.box 5 (vc b)], []⟩
def x7 (a : LB) (g : Int) (b : UInt8) : Option R_ := H.e P_ [r,r,r,r,r,r,r] ⟨[(0, vb a), (5, .ptr 0 []), (6, vi g)], [.box 5 (vc b)], []⟩
def x6 (a : LB) (g : Int) (b : UInt8) (m : Bool) : Option R_ := H.e P_ [r,r,r,r,r,r,l,r] ⟨[(0, vb a), (5, .ptr 0 []), (6, vi g), (43, vt m)], [.box 5 (vc b)], []⟩
def x5 (a : LB) (f b : UInt8) : Option R_ := H.e P_ [r,r,r,r] ⟨[(0, vb a), (4, .ptr 0 []), (5, .ptr 1 [])], [.box 5 (vc f), .box 5 (vc b)], []⟩
theorem e8 : x8 = Zp := by kernel_rfl
theorem e7 : x7 = Zn := Eq.trans (b := Agf x8) (by kernel_rfl) (by simp only [e8] <;> rfl)
theorem e6 : x6 = Agn := Eq.trans (b := Af7 x7) (by kernel_rfl) (by simp only [e7] <;> rfl)
theorem e5 : x5 = Agq := Eq.trans (b := Af6 x6) (by kernel_rfl) (by simp only [e6] <;> rfl)
noncomputable def F (x : LB) := Ahb x
theorem rn (x : LB) : H.u P_ x = F x := Eq.trans (b := Aea x5 x) (by kernel_rfl) (by rw [Aqv]; simp only [e5] <;> rfl)
noncomputable def c : Con := ⟨H.p, H.r, F⟩
theorem ok : ConOk P_ Tryz.gl 125 c := Tryz.cr H Tryz.func125 (.cons F51.ok (.cons F121.ok (.cons F161.ok .nil))) (AnsOk.cons Tryz.ent162 AnsOk.nil) (by kernel_rfl) rn
end F125
namespace F86
abbrev R_ := (UInt64 × Int)
noncomputable def H : Hd := ⟨[Sb], [Sq, Si], (.seq .d (.seq .d (.seq .d (.cut [4] [] (.seq .d (.blk (.loop [4, 15, 16, 17] [] .d))) .d)))), ⟨[], Tryz.gl, false⟩, [], Tryz.f86⟩
def t4 (a : LB) (b : UInt64) (f : Int) : S := ⟨[(4, vq b), (15, vb a), (16, vi (Ac a)), (17, vi f)], [], []⟩
def z4 : Nat → S → Option R_ := H.i P_ [r,r,r,l,r,d]
def x6 (b : UInt64) : Option R_ := H.e P_ [r,r,r,r] ⟨[(4, vq b)], [], []⟩
def x4 (a : LB) (b : UInt64) (f : Int) : Option R_ := H.e P_ [r,r,r,l,r,d] (t4 a b f)
theorem e6 : x6 = Avd := by kernel_rfl
theorem i4 (a : LB) : ∀ (q : Nat) (b : UInt64) (f : Int), z4 q (t4 a b f) = Aam a q b f :=
 ind (fun _ _ => by kernel_rfl) fun q ih b f => Eq.trans (b := Ajl x6 (fun b f => (z4 q) (t4 a b f)) a b f) (by kernel_rfl) (by simp only [e6, ih] <;> rfl)
theorem e4 : x4 = Aox := by funext a b f; exact Eq.trans (by kernel_rfl) ((i4 a Bn b f).trans (by rw [Al]; rfl))
noncomputable def F (x : LB) := Aoe x
theorem rn (x : LB) : H.u P_ x = F x := Eq.trans (b := Aop x4 x) (by kernel_rfl) (by simp only [e4] <;> rfl)
noncomputable def c : Con := ⟨H.p, H.r, F⟩
theorem ok : ConOk P_ Tryz.gl 86 c := Tryz.co H Tryz.func86 .nil (by kernel_rfl) rn
end F86
namespace F46
noncomputable def H : Hd := ⟨[Sb, Si, Si], [Sq, Si], .d, ⟨[(86, F86.c)], Tryz.gl, false⟩, [], Tryz.f46⟩
noncomputable def F (x : LB × Int × Int) := Alh x.1 x.2.1 x.2.2
theorem rn (x : LB × Int × Int) : H.u P_ x = F x := by kernel_rfl
noncomputable def c : Con := ⟨H.p, H.r, F⟩
theorem ok : ConOk P_ Tryz.gl 46 c := Tryz.co H Tryz.func46 (.cons F86.ok .nil) (by kernel_rfl) rn
end F46
namespace F128
noncomputable def H : Hd := ⟨[Sq, Si], [Sz], .d, ⟨[], Tryz.gl, false⟩, [], Tryz.f128⟩
noncomputable def F (x : UInt64 × Int) := Awi x.1 x.2
theorem rn (x : UInt64 × Int) : H.u P_ x = F x := by kernel_rfl
noncomputable def c : Con := ⟨H.p, H.r, F⟩
theorem ok : ConOk P_ Tryz.gl 128 c := Tryz.co H Tryz.func128 .nil (by kernel_rfl) rn
end F128
namespace F89
abbrev R_ := (LB × Int)
noncomputable def H : Hd := ⟨[Sq, Si], [Ob 5, Si], (.seq .d (.seq .d (.seq .d (.seq .d (.cut [6] [] (.seq .d (.blk (.loop [0, 6, 21, 22] [] .d))) .d))))), ⟨[(128, F128.c)], Tryz.gl, false⟩, [], Tryz.f89⟩
def t4 (f : UInt64) (g : LB) (b : Int) (a : LB) : S := ⟨[(0, vq f), (6, .own 0), (21, vi (Ac g)), (22, vi b)], [Ab 5 a], []⟩
def z4 : Nat → S → Option R_ := H.i P_ [r,r,r,r,l,r,d]
def x6 (a : LB) : Option R_ := H.e P_ [r,r,r,r,r] ⟨[(6, .own 0)], [Ab 5 a], []⟩
def x4 (f : UInt64) (g : LB) (b : Int) (a : LB) : Option R_ := H.e P_ [r,r,r,r,l,r,d] (t4 f g b a)
theorem e6 : x6 = Apn := by kernel_rfl
theorem i4 (f : UInt64) (g : LB) : ∀ (q : Nat) (b : Int) (a : LB), z4 q (t4 f g b a) = Aa2 f g q b a :=
 ind (fun _ _ => by kernel_rfl) fun q ih b a => Eq.trans (b := Ajs x6 (fun b a => (z4 q) (t4 f g b a)) f g b a) (by kernel_rfl) (by simp only [e6, ih] <;> rfl)
theorem e4 : x4 = Apx := by funext f g b a; exact Eq.trans (by kernel_rfl) ((i4 f g Bn b a).trans (by rw [Al]; rfl))
noncomputable def F (x : UInt64 × Int) := Aoo x.1 x.2
theorem rn (x : UInt64 × Int) : H.u P_ x = F x := Eq.trans (b := Apw x4 x.1 x.2) (by kernel_rfl) (by simp only [e4] <;> rfl)
noncomputable def c : Con := ⟨H.p, H.r, F⟩
theorem ok : ConOk P_ Tryz.gl 89 c := Tryz.co H Tryz.func89 (.cons F128.ok .nil) (by kernel_rfl) rn
end F89
namespace F123
abbrev R_ := LB
noncomputable def H : Hd := ⟨[Si, Si, Sq], [Ob 5], (.seq .d (.seq .d (.cut [7] [] (.seq .d (.blk (.loop [7, 20, 21, 22] [] .d))) .d))), ⟨[(89, F89.c)], Tryz.gl, false⟩, [], Tryz.f123⟩
def t4 (a b : Int) (f : UInt64) (h : Int) (g : LB) : S := ⟨[(7, .own 0), (20, .own 1), (21, vi (Ac ([(2000 : UInt64), (Ad (Ae a (32 : Int)) : UInt64), (Ad b : UInt64), f, (0 : UInt64), (0 : UInt64)] : LQ))), (22, vi h)], [Ab 5 g, .arr 89 (.int .u64) ([(2000 : UInt64), (Ad (Ae a (32 : Int)) : UInt64), (Ad b : UInt64), f, (0 : UInt64), (0 : UInt64)] : LQ)], []⟩
def z4 : Nat → S → Option R_ := H.i P_ [r,r,l,r,d]
def x6 (g : LB) : Option R_ := H.e P_ [r,r,r] ⟨[(7, .own 0)], [Ab 5 g], []⟩
def x4 (a b : Int) (f : UInt64) (h : Int) (g : LB) : Option R_ := H.e P_ [r,r,l,r,d] (t4 a b f h g)
theorem e6 : x6 = Ar2 := by kernel_rfl
theorem i4 (a b : Int) (f : UInt64) : ∀ (q : Nat) (h : Int) (g : LB), z4 q (t4 a b f h g) = Aae a b f q h g :=
 ind (fun _ _ => by kernel_rfl) fun q ih h g => Eq.trans (b := Am8 x6 (fun h g => (z4 q) (t4 a b f h g)) a b f h g) (by kernel_rfl) (by simp only [e6, ih] <;> rfl)
theorem e4 : x4 = Ar1 := by funext a b f h g; exact Eq.trans (by kernel_rfl) ((i4 a b f Bn h g).trans (by rw [Al]; rfl))
noncomputable def F (x : Int × Int × UInt64) := Ap5 x.1 x.2.1 x.2.2
theorem rn (x : Int × Int × UInt64) : H.u P_ x = F x := Eq.trans (b := Ar4 x4 x.1 x.2.1 x.2.2) (by kernel_rfl) (by simp only [e4] <;> rfl)
noncomputable def c : Con := ⟨H.p, H.r, F⟩
theorem ok : ConOk P_ Tryz.gl 123 c := Tryz.co H Tryz.func123 (.cons F89.ok .nil) (by kernel_rfl) rn
end F123
namespace F122
noncomputable def H : Hd := ⟨[Sb, Sq], [.agg [Si, Si], Sz], .d, ⟨[(46, F46.c), (51, F51.c), (123, F123.c)], Tryz.gl, false⟩, [], Tryz.f122⟩
noncomputable def F (x : LB × UInt64) := Aho x.1 x.2
theorem rn (x : LB × UInt64) : H.u P_ x = F x := by kernel_rfl
noncomputable def c : Con := ⟨H.p, H.r, F⟩
theorem ok : ConOk P_ Tryz.gl 122 c := Tryz.co H Tryz.func122 (.cons F46.ok (.cons F51.ok (.cons F123.ok .nil))) (by kernel_rfl) rn
end F122
namespace F126
noncomputable def H : Hd := ⟨[Sb], [Si, Si], .d, ⟨[(51, F51.c), (121, F121.c), (122, F122.c), (123, F123.c)], Tryz.gl, false⟩, [], Tryz.f126⟩
noncomputable def F (x : LB) := Aqq x
theorem rn (x : LB) : H.u P_ x = F x := by kernel_rfl
noncomputable def c : Con := ⟨H.p, H.r, F⟩
theorem ok : ConOk P_ Tryz.gl 126 c := Tryz.co H Tryz.func126 (.cons F51.ok (.cons F121.ok (.cons F122.ok (.cons F123.ok .nil)))) (by kernel_rfl) rn
end F126
namespace F84
noncomputable def H : Hd := ⟨[Sb], [Si, Si], .d, ⟨[(125, F125.c), (126, F126.c)], Tryz.gl, false⟩, [], Tryz.f84⟩
noncomputable def F (x : LB) := Wp x
theorem rn (x : LB) : H.u P_ x = F x := by kernel_rfl
noncomputable def c : Con := ⟨H.p, H.r, F⟩
theorem ok : ConOk P_ Tryz.gl 84 c := Tryz.co H Tryz.func84 (.cons F125.ok (.cons F126.ok .nil)) (by kernel_rfl) rn
end F84
theorem Aor : ConOk Tryz.prog Tryz.gl 23 Aez := Az9 Tryz.ent23 F84.ok
namespace F85
noncomputable def H : Hd := ⟨[Ss, Ss], [Sz], .d, ⟨[], Tryz.gl, false⟩, [], Tryz.f85⟩
noncomputable def F (x : LB × LB) := Is x.1 x.2
theorem rn (x : LB × LB) : H.u P_ x = F x := by kernel_rfl
noncomputable def c : Con := ⟨H.p, H.r, F⟩
theorem ok : ConOk P_ Tryz.gl 85 c := Tryz.co H Tryz.func85 .nil (by kernel_rfl) rn
end F85
namespace F45
noncomputable def H : Hd := ⟨[Ss, Ss], [Sz], .d, ⟨[(85, F85.c)], Tryz.gl, false⟩, [], Tryz.f45⟩
noncomputable def F (x : LB × LB) := Va x.1 x.2
theorem rn (x : LB × LB) : H.u P_ x = F x := by kernel_rfl
noncomputable def c : Con := ⟨H.p, H.r, F⟩
theorem ok : ConOk P_ Tryz.gl 45 c := Tryz.co H Tryz.func45 (.cons F85.ok .nil) (by kernel_rfl) rn
end F45
namespace F87
abbrev R_ := (UInt32 × Int)
abbrev K_ := S → Option R_
noncomputable def H : Hd := ⟨[Su, Sb], [Su, Si], (.seq .d (.seq .d (.cut [0, 1, 6] [] (.keep [0, 1, 6, 12] true) (.cut [0] [] (.seq .d (.blk (.loop [0, 6, 13, 14, 15] [] .d))) .d)))), ⟨[], Tryz.gl, false⟩, [(127, (.seq .d (.seq .d (.cut [1] [] (.seq .d (.blk (.loop [1, 5] [] (.seq .d (.seq .d (.cut [1, 5] [] (.blk (.seq .d (.seq .d (.cut [1, 2, 3, 5] [] (.seq .d (.blk (.loop [1, 2, 3, 5, 10] [] .d))) .d)))) .d)))))) .d))))], Tryz.f87⟩
def t28 (a : LB) (b : LU) (h : UInt32) (m : Int) : S := ⟨[(0, vu h), (6, .ptr 0 []), (13, vb a), (14, vi (Ac a)), (15, vi m)], [.box 234 (.val (.vec 256 (.int .u32)) b)], []⟩
def z28 : Nat → S → Option R_ := H.i P_ [r,r,r,l,r,d]
def t21 (f : UInt32) (a : LB) (g : Int) (b : LU) (k : UInt32) (n : Int) : S := ⟨[(1, .ptr 0 []), (2, vi g), (3, vu k), (5, vi g), (10, vi n)], [.box 234 (.val (.vec 256 (.int .u32)) b)], [[(0, vu f), (1, vb a)]]⟩
def z21 (kn16 : K_) : Nat → S → Option R_ := H.i P_ [r,r,l,(call 0 127),r,r,l,r,d,(lp kn16),r,r,l,d,r,r,l,r,d]
def t16 (f : UInt32) (a : LB) (g : Int) (b : LU) : S := ⟨[(1, .ptr 0 []), (5, vi g)], [.box 234 (.val (.vec 256 (.int .u32)) b)], [[(0, vu f), (1, vb a)]]⟩
def z16 : Nat → S → Option R_ := H.i P_ [r,r,l,(call 0 127),r,r,l,r,d]
def x30 (h : UInt32) : Option R_ := H.e P_ [r,r,r,r] ⟨[(0, vu h)], [], []⟩
def x28 (a : LB) (b : LU) (h : UInt32) (m : Int) : Option R_ := H.e P_ [r,r,r,l,r,d] (t28 a b h m)
def x27 (f : UInt32) (a : LB) (b : LU) : Option R_ := H.e P_ [r,r,r] ⟨[(0, vu f), (1, vb a), (6, .ptr 0 [])], [.box 234 (.val (.vec 256 (.int .u32)) b)], []⟩
def x26 (f : UInt32) (a : LB) (b : LU) : Option R_ := H.e P_ [r,r,l,(call 0 127),r,r,r] ⟨[(1, .ptr 0 [])], [.box 234 (.val (.vec 256 (.int .u32)) b)], [[(0, vu f), (1, vb a)]]⟩
def x24 (kn16 : K_) (f : UInt32) (a : LB) (g : Int) (o : LU) : Option R_ := H.e P_ [r,r,l,(call 0 127),r,r,l,r,d,(lp kn16),r,r,r] ⟨[(1, .ptr 0 []), (5, vi g)], [.box 234 (.val (.vec 256 (.int .u32)) o)], [[(0, vu f), (1, vb a)]]⟩
def x23 (kn16 : K_) (f : UInt32) (a : LB) (g : Int) (k : UInt32) (b : LU) : Option R_ := H.e P_ [r,r,l,(call 0 127),r,r,l,r,d,(lp kn16),r,r,l,d,r,r,r] ⟨[(1, .ptr 0 []), (2, vi g), (3, vu k), (5, vi g)], [.box 234 (.val (.vec 256 (.int .u32)) b)], [[(0, vu f), (1, vb a)]]⟩
def x21 (kn16 : K_) (f : UInt32) (a : LB) (g : Int) (b : LU) (k : UInt32) (n : Int) : Option R_ := H.e P_ [r,r,l,(call 0 127),r,r,l,r,d,(lp kn16),r,r,l,d,r,r,l,r,d] (t21 f a g b k n)
def x16 (f : UInt32) (a : LB) (g : Int) (b : LU) : Option R_ := H.e P_ [r,r,l,(call 0 127),r,r,l,r,d] (t16 f a g b)
theorem e30 : x30 = Ah9 := by kernel_rfl
theorem i28 (a : LB) (b : LU) : ∀ (q : Nat) (h : UInt32) (m : Int), z28 q (t28 a b h m) = Qg a b q h m :=
 ind (fun _ _ => by kernel_rfl) fun q ih h m => Eq.trans (b := Acr x30 (fun h m => (z28 q) (t28 a b h m)) a b h m) (by kernel_rfl) (by simp only [e30, ih] <;> rfl)
theorem e28 : x28 = Air := by funext a b h m; exact Eq.trans (by kernel_rfl) ((i28 a b Bn h m).trans (by rw [Al]; rfl))
theorem e27 : x27 = Ahw := Eq.trans (b := Ai3 x28) (by kernel_rfl) (by simp only [e28] <;> rfl)
theorem e26 : x26 = Ab0 := Eq.trans (b := Ahz x27) (by kernel_rfl) (by simp only [e27] <;> rfl)
theorem e24 (kn16 : K_) (f : UInt32) (a : LB) : x24 kn16 f a = Ah8 (fun g b => kn16 (t16 f a g b)) f a := by kernel_rfl
theorem e23 (kn16 : K_) (f : UInt32) (a : LB) : x23 kn16 f a = Ab1 (fun g b => kn16 (t16 f a g b)) f a := Eq.trans (b := Ai5 (x24 kn16 f a) f a) (by kernel_rfl) (by simp only [e24] <;> rfl)
theorem i21 (kn16 : K_) (f : UInt32) (a : LB) (g : Int) (b : LU) : ∀ (q : Nat) (k : UInt32) (n : Int), z21 kn16 q (t21 f a g b k n) = Qs (fun g b => kn16 (t16 f a g b)) f a g b q k n :=
 ind (fun _ _ => by kernel_rfl) fun q ih k n => Eq.trans (b := Abv (x23 kn16 f a) (fun k n => (z21 kn16 q) (t21 f a g b k n)) f a g b k n) (by kernel_rfl) (by simp only [e23, ih] <;> rfl)
theorem e21 (kn16 : K_) (f : UInt32) (a : LB) : x21 kn16 f a = Ahu (fun g b => kn16 (t16 f a g b)) f a := by funext g b k n; exact Eq.trans (by kernel_rfl) ((i21 kn16 f a g b Bn k n).trans (by rw [Al]; rfl))
theorem i16 (f : UInt32) (a : LB) : ∀ (q : Nat) (g : Int) (b : LU), z16 q (t16 f a g b) = Mc f a q g b :=
 ind (fun _ _ => by kernel_rfl) fun q ih g b => Eq.trans (b := Abo (x21 (z16 q) f a) x26 f a g b) (by kernel_rfl) (by simp only [e21, e26, ih] <;> rfl)
theorem e16 : x16 = Ah7 := by funext f a g b; exact Eq.trans (by kernel_rfl) ((i16 f a Bn g b).trans (by rw [Al]; rfl))
noncomputable def F (x : UInt32 × LB) := Anb x.1 x.2
theorem rn (x : UInt32 × LB) : H.u P_ x = F x := Eq.trans (b := Aj7 x16 x.1 x.2) (by kernel_rfl) (by simp only [e16] <;> rfl)
noncomputable def c : Con := ⟨H.p, H.r, F⟩
theorem ok : ConOk P_ Tryz.gl 87 c := Tryz.cr H Tryz.func87 .nil (AnsOk.cons Tryz.ent127 AnsOk.nil) (by kernel_rfl) rn
end F87
namespace F47
noncomputable def H : Hd := ⟨[Sb], [Su, Si], .d, ⟨[(87, F87.c)], Tryz.gl, false⟩, [], Tryz.f47⟩
noncomputable def F (x : LB) := Ahj x
theorem rn (x : LB) : H.u P_ x = F x := by kernel_rfl
noncomputable def c : Con := ⟨H.p, H.r, F⟩
theorem ok : ConOk P_ Tryz.gl 47 c := Tryz.co H Tryz.func47 (.cons F87.ok .nil) (by kernel_rfl) rn
end F47
namespace F48
abbrev R_ := Bool
noncomputable def H : Hd := ⟨[.agg [Si, Si, Si, Si, Si]], [Sz], (.seq .d (.cut [1] [] .d .d)), ⟨[], Tryz.gl, false⟩, [], Tryz.f48⟩
def x2 (b f a g h : Int) : Option R_ := H.e P_ [r,r] ⟨[(1, .ptr 0 [])], [.box 25 (.agg [vi b, vi f, vi a, vi g, vi h])], []⟩
theorem e2 : x2 = Xn := by kernel_rfl
noncomputable def F (x : Int × Int × Int × Int × Int) := Ys x.1 x.2.1 x.2.2.1 x.2.2.2.1 x.2.2.2.2
theorem rn (x : Int × Int × Int × Int × Int) : H.u P_ x = F x := Eq.trans (b := Ad4 x2 x.1 x.2.1 x.2.2.1 x.2.2.2.1 x.2.2.2.2) (by kernel_rfl) (by simp only [e2] <;> rfl)
noncomputable def c : Con := ⟨H.p, H.r, F⟩
theorem ok : ConOk P_ Tryz.gl 48 c := Tryz.co H Tryz.func48 .nil (by kernel_rfl) rn
end F48
namespace F74
noncomputable def H : Hd := ⟨[Si], [Si, Si], .d, ⟨[], Tryz.gl, false⟩, [], Tryz.f74⟩
noncomputable def F (x : Int) := Abz x
theorem rn (x : Int) : H.u P_ x = F x := by kernel_rfl
noncomputable def c : Con := ⟨H.p, H.r, F⟩
theorem ok : ConOk P_ Tryz.gl 74 c := Tryz.co H Tryz.func74 .nil (by kernel_rfl) rn
end F74
namespace F73
noncomputable def H : Hd := ⟨[Si, Si], [Si, Si], .d, ⟨[(74, F74.c)], Tryz.gl, false⟩, [], Tryz.f73⟩
noncomputable def F (x : Int × Int) := Yv x.1 x.2
theorem rn (x : Int × Int) : H.u P_ x = F x := by kernel_rfl
noncomputable def c : Con := ⟨H.p, H.r, F⟩
theorem ok : ConOk P_ Tryz.gl 73 c := Tryz.co H Tryz.func73 (.cons F74.ok .nil) (by kernel_rfl) rn
end F73
namespace F49
noncomputable def H : Hd := ⟨[.agg [Si, Si, Si, Si, Si]], [Sz], .d, ⟨[(73, F73.c)], Tryz.gl, false⟩, [], Tryz.f49⟩
noncomputable def F (x : Int × Int × Int × Int × Int) := Ae5 x.1 x.2.1 x.2.2.1 x.2.2.2.1 x.2.2.2.2
theorem rn (x : Int × Int × Int × Int × Int) : H.u P_ x = F x := by kernel_rfl
noncomputable def c : Con := ⟨H.p, H.r, F⟩
theorem ok : ConOk P_ Tryz.gl 49 c := Tryz.co H Tryz.func49 (.cons F73.ok .nil) (by kernel_rfl) rn
end F49
namespace F24
abbrev R_ := (Int × Int × Int × Int × Int × Int)
noncomputable def H : Hd := ⟨[Sb], [.agg [Si, Si, Si, Si, Si], Si], (.seq .d (.seq .d (.seq .d (.seq .d (.seq .d (.seq .d (.seq .d (.cut [2, 8] [] (.seq .d (.blk (.loop [0, 2, 8, 9, 44, 45] [] .d))) .d)))))))), ⟨[(45, F45.c), (46, F46.c), (47, F47.c), (48, F48.c), (49, F49.c)], Tryz.Blm, false⟩, [], Tryz.f24⟩
def t4 (b : LB) (g f : Int) (a : LI) : S := ⟨[(0, vb b), (2, .ptr 0 []), (8, .ptr 1 []), (9, vi g), (44, .val (.vec 5 (.int .i64)) ([(2 : Int), (2 : Int), (2 : Int), (4 : Int), (4 : Int)] : LI)), (45, vi f)], [.box 25 (.agg [vi 0, vi 0, vi 0, vi 0, vi 0]), .box 95 (.val (.vec 5 (.int .i64)) a)], []⟩
def z4 : Nat → S → Option R_ := H.i P_ [r,r,r,r,r,r,r,l,r,d]
def x6 (a : LI) : Option R_ := H.e P_ [r,r,r,r,r,r,r,r] ⟨[(2, .ptr 0 []), (8, .ptr 1 [])], [.box 25 (.agg [vi 0, vi 0, vi 0, vi 0, vi 0]), .box 95 (.val (.vec 5 (.int .i64)) a)], []⟩
def x4 (b : LB) (g f : Int) (a : LI) : Option R_ := H.e P_ [r,r,r,r,r,r,r,l,r,d] (t4 b g f a)
theorem e6 : x6 = Abj := by kernel_rfl
theorem i4 (b : LB) : ∀ (q : Nat) (g f : Int) (a : LI), z4 q (t4 b g f a) = Lu b q g f a :=
 ind (fun _ _ _ => by kernel_rfl) fun q ih g f a => Eq.trans (b := Acy x6 (fun g f a => (z4 q) (t4 b g f a)) b g f a) (by kernel_rfl) (by simp only [e6, ih] <;> rfl)
theorem e4 : x4 = Abi := by funext b g f a; exact Eq.trans (by kernel_rfl) ((i4 b Bn g f a).trans (by rw [Al]; rfl))
noncomputable def F (x : LB) := Afp x
theorem rn (x : LB) : H.u P_ x = F x := Eq.trans (b := Aiu x4 x) (by kernel_rfl) (by simp only [e4] <;> rfl)
noncomputable def c : Con := ⟨H.p, H.r, F⟩
theorem ok : ConOk P_ Tryz.Blm 24 c := Tryz.co H Tryz.func24 (.cons (F45.ok.mono (.cons _ .slnil)) (.cons (F46.ok.mono (.cons _ .slnil)) (.cons (F47.ok.mono (.cons _ .slnil)) (.cons (F48.ok.mono (.cons _ .slnil)) (.cons (F49.ok.mono (.cons _ .slnil)) .nil))))) (by kernel_rfl) rn
end F24
namespace F52
noncomputable def H : Hd := ⟨[.agg [Si, Si, Si, Si, Si]], [Si], .d, ⟨[(48, F48.c), (49, F49.c)], Tryz.gl, false⟩, [], Tryz.f52⟩
noncomputable def F (x : Int × Int × Int × Int × Int) := Ag9 x.1 x.2.1 x.2.2.1 x.2.2.2.1 x.2.2.2.2
theorem rn (x : Int × Int × Int × Int × Int) : H.u P_ x = F x := by kernel_rfl
noncomputable def c : Con := ⟨H.p, H.r, F⟩
theorem ok : ConOk P_ Tryz.gl 52 c := Tryz.co H Tryz.func52 (.cons F48.ok (.cons F49.ok .nil)) (by kernel_rfl) rn
end F52
namespace F164
noncomputable def H : Hd := ⟨[Sq, Sq], [Sq, Sq], .d, ⟨[], Tryz.gl, false⟩, [], Tryz.f164⟩
noncomputable def F (x : UInt64 × UInt64) := Agg x.1 x.2
theorem rn (x : UInt64 × UInt64) : H.u P_ x = F x := by kernel_rfl
noncomputable def c : Con := ⟨H.p, H.r, F⟩
theorem ok : ConOk P_ Tryz.gl 164 c := Tryz.co H Tryz.func164 .nil (by kernel_rfl) rn
end F164
namespace F129
noncomputable def H : Hd := ⟨[Sq, Sq], [Sq, Sq], .d, ⟨[(164, F164.c)], Tryz.gl, false⟩, [], Tryz.f129⟩
noncomputable def F (x : UInt64 × UInt64) := Aew x.1 x.2
theorem rn (x : UInt64 × UInt64) : H.u P_ x = F x := by kernel_rfl
noncomputable def c : Con := ⟨H.p, H.r, F⟩
theorem ok : ConOk P_ Tryz.gl 129 c := Tryz.co H Tryz.func129 (.cons F164.ok .nil) (by kernel_rfl) rn
end F129
namespace F90
def Mx (j10 : LI → Option (LI)) (bk8 : Int → LI → Option (LI)) (b : Int) (a : LI) : Option (LI) :=
if (Dh b (Ac a)) then
both (
(vwI (Ac a) b (Ac a)).bind fun _ =>
(vwI (Ac a) 0 b).bind fun _ =>
bk8 (Ae b (Ais ((Ac a) - b) (Ak3 a 0 (b - (0 : Int))).length)) (Uc a b ((Ac a) - b) (Ak3 a 0 (b - (0 : Int))))) [
(vwI (Ac a) 0 b).bind fun _ =>
(vwI (Ac a) b (Ac a)).bind fun _ =>
bk8 (Ae b (Ais ((Ac a) - b) (Ak3 a 0 (b - (0 : Int))).length)) (Uc a b ((Ac a) - b) (Ak3 a 0 (b - (0 : Int))))]
else
j10 a
theorem Agc : @Mx = @Gn := by
  unfold Mx Gn
  repeat (refine funext fun _ => ?_)
  repeat' first
    | with_reducible rfl
    | with_reducible refine Lk ?_ ?_
    | with_reducible refine Lr ?_ ?_ ?_
    | with_reducible refine Lw ?_ ?_ ?_ ?_
    | ((with_reducible refine Te ?_ ?_); focus (intro h; first | (subst h; rfl) | (simp only [h]; rfl) | (simp [Fz, Ac, h]; done)))
    | with_reducible refine Tk fun x => ?_
    | with_reducible refine Aak (fun _ => ?_) (fun _ => ?_)
    | (refine Gu (fun h => by simp only [h, Ta, Ek, Ej, ite_self]) (fun x h => ?_); (try simp only [h, Ek]))
    | (refine Io (fun h => ?_) (fun h => ?_) <;> simp only [h, if_true, if_false, Bool.false_eq_true])
abbrev R_ := LI
noncomputable def H : Hd := ⟨[Sl, Si], [Ol 3], (.seq .d (.cut [0, 1] [] .d (.seq .d (.cut [0, 6] [] .d (.seq .d (.seq .d (.cut [7] [] (.blk (.loop [7, 8] [] (.seq .d (.blk (.mode false))))) .d))))))), ⟨[(129, F129.c)], Tryz.gl, true⟩, [], Tryz.f90⟩
def t8 (b : Int) (a : LI) : S := ⟨[(7, .own 0), (8, vi b)], [Ai 3 a], []⟩
def z8 : Nat → S → Option R_ := H.i P_ [r,r,r,r,r,r,l,d]
def x10 (a : LI) : Option R_ := H.e P_ [r,r,r,r,r,r,r] ⟨[(7, .own 0)], [Ai 3 a], []⟩
def x8 (b : Int) (a : LI) : Option R_ := H.e P_ [r,r,r,r,r,r,l,d] (t8 b a)
def x7 (f : LI) (g : UInt64) : Option R_ := H.e P_ [r,r,r,r] ⟨[(0, vl f), (6, vq g)], [], []⟩
def x6 (f : LI) (h : Int) : Option R_ := H.e P_ [r,r] ⟨[(0, vl f), (1, vi h)], [], []⟩
theorem e10 : x10 = Ig := by kernel_rfl
theorem i8 : ∀ (q : Nat) (b : Int) (a : LI), z8 q (t8 b a) = El q b a :=
 ind (fun _ _ => by kernel_rfl) fun q ih b a => Eq.trans (b := Mx x10 (fun b a => (z8 q) (t8 b a)) b a) (by kernel_rfl) (by rw [Agc]; simp only [e10, ih] <;> rfl)
theorem e8 : x8 = Ph := by funext b a; exact Eq.trans (by kernel_rfl) ((i8 Bn b a).trans (by rw [Al]; rfl))
theorem e7 : x7 = Om := Eq.trans (b := Pm x8) (by kernel_rfl) (by simp only [e8] <;> rfl)
theorem e6 : x6 = Pd := Eq.trans (b := Pb x7) (by kernel_rfl) (by simp only [e7] <;> rfl)
noncomputable def F (x : LI × Int) := Mh x.1 x.2
theorem rn (x : LI × Int) : H.u P_ x = F x := Eq.trans (b := Pj x6 x.1 x.2) (by kernel_rfl) (by simp only [e6] <;> rfl)
noncomputable def c : Con := ⟨H.p, H.r, F⟩
theorem ok : ConOk P_ Tryz.gl 90 c := Tryz.co H Tryz.func90 (.cons F129.ok .nil) (by kernel_rfl) rn
end F90
namespace F130
abbrev R_ := LI
noncomputable def H : Hd := ⟨[.lf (.list (.list (.int .i64))) none], [Ol 3], (.seq .d (.seq .d (.cut [0, 3] [] (.seq .d (.blk (.loop [0, 3, 9, 10, 11] [] .d))) (.cut [0, 6] [⟨6, [], .own 3 (.int .i64)⟩] (.keep [0, 3, 6, 23, 24] true) (.cut [6] [] (.seq .d (.blk (.loop [6, 25, 26, 27] [] .d))) .d))))), ⟨[], Tryz.gl, true⟩, [(165, (.seq .d (.cut [0, 1] [] .d .d)))], Tryz.f130⟩
def t14 (a : List LI) (g : Int) (f : LI) : S := ⟨[(6, .own 0), (25, .val (.list (.list (.int .i64))) a), (26, vi (Ac a)), (27, vi g)], [Ai 3 f], []⟩
def z14 : Nat → S → Option R_ := H.i P_ [r,r,r,r,l,r,d]
def t9 (a : List LI) (b h : Int) : S := ⟨[(0, .val (.list (.list (.int .i64))) a), (3, vi b), (9, .val (.list (.list (.int .i64))) a), (10, vi (Ac a)), (11, vi h)], [], []⟩
def z9 : Nat → S → Option R_ := H.i P_ [r,r,l,r,d]
def x16 (f : LI) : Option R_ := H.e P_ [r,r,r,r,r] ⟨[(6, .own 0)], [Ai 3 f], []⟩
def x14 (a : List LI) (g : Int) (f : LI) : Option R_ := H.e P_ [r,r,r,r,l,r,d] (t14 a g f)
def x13 (a : List LI) (k : LI) : Option R_ := H.e P_ [r,r,r,r] ⟨[(0, .val (.list (.list (.int .i64))) a), (6, .own 0)], [Ai 3 k], []⟩
def x12 (b : Int) (a : List LI) : Option R_ := H.e P_ [r,r,r,l,(call 1 165),r,r] ⟨[(0, .nils), (1, vi b)], [], [[(0, .val (.list (.list (.int .i64))) a), (3, vi b), (23, vi b)]]⟩
def x11 (a : List LI) (b : Int) : Option R_ := H.e P_ [r,r,r] ⟨[(0, .val (.list (.list (.int .i64))) a), (3, vi b)], [], []⟩
def x9 (a : List LI) (b h : Int) : Option R_ := H.e P_ [r,r,l,r,d] (t9 a b h)
theorem e16 : x16 = Xz := by kernel_rfl
theorem i14 (a : List LI) : ∀ (q : Nat) (g : Int) (f : LI), z14 q (t14 a g f) = Eg a q g f :=
 ind (fun _ _ => by kernel_rfl) fun q ih g f => Eq.trans (b := Fu x16 (fun g f => (z14 q) (t14 a g f)) a g f) (by kernel_rfl) (by simp only [e16, ih] <;> rfl)
theorem e14 : x14 = Nd := by funext a g f; exact Eq.trans (by kernel_rfl) ((i14 a Bn g f).trans (by rw [Al]; rfl))
theorem e13 : x13 = Ie := Eq.trans (b := Nb x14) (by kernel_rfl) (by simp only [e14] <;> rfl)
theorem e12 : x12 = Mu := Eq.trans (b := Nc x13) (by kernel_rfl) (by simp only [e13] <;> rfl)
theorem e11 : x11 = Mw := Eq.trans (b := Mv x12) (by kernel_rfl) (by simp only [e12] <;> rfl)
theorem i9 (a : List LI) : ∀ (q : Nat) (b h : Int), z9 q (t9 a b h) = En a q b h :=
 ind (fun _ _ => by kernel_rfl) fun q ih b h => Eq.trans (b := Gk x11 (fun b h => (z9 q) (t9 a b h)) a b h) (by kernel_rfl) (by simp only [e11, ih] <;> rfl)
theorem e9 : x9 = Pf := by funext a b h; exact Eq.trans (by kernel_rfl) ((i9 a Bn b h).trans (by rw [Al]; rfl))
noncomputable def F (x : List LI) := Ms x
theorem rn (x : List LI) : H.u P_ x = F x := Eq.trans (b := Pa x9 x) (by kernel_rfl) (by simp only [e9] <;> rfl)
noncomputable def c : Con := ⟨H.p, H.r, F⟩
theorem ok : ConOk P_ Tryz.gl 130 c := Tryz.cr H Tryz.func130 .nil (AnsOk.cons Tryz.ent165 AnsOk.nil) (by kernel_rfl) rn
end F130
namespace F91
noncomputable def H : Hd := ⟨[Sl, Sl], [Ol 3], .d, ⟨[(130, F130.c)], Tryz.gl, false⟩, [], Tryz.f91⟩
noncomputable def F (x : LI × LI) := Ah1 x.1 x.2
theorem rn (x : LI × LI) : H.u P_ x = F x := by kernel_rfl
noncomputable def c : Con := ⟨H.p, H.r, F⟩
theorem ok : ConOk P_ Tryz.gl 91 c := Tryz.co H Tryz.func91 (.cons F130.ok .nil) (by kernel_rfl) rn
end F91
namespace F53
noncomputable def H : Hd := ⟨[Si, Si], [Ol 3, Si], .d, ⟨[(73, F73.c), (74, F74.c), (90, F90.c), (91, F91.c)], Tryz.gl, false⟩, [], Tryz.f53⟩
noncomputable def F (x : Int × Int) := Ajp x.1 x.2
theorem rn (x : Int × Int) : H.u P_ x = F x := by kernel_rfl
noncomputable def c : Con := ⟨H.p, H.r, F⟩
theorem ok : ConOk P_ Tryz.gl 53 c := Tryz.co H Tryz.func53 (.cons F73.ok (.cons F74.ok (.cons F90.ok (.cons F91.ok .nil)))) (by kernel_rfl) rn
end F53
namespace F26
noncomputable def H : Hd := ⟨[.agg [Si, Si, Si, Si, Si]], [Ol 3, Si], .d, ⟨[(52, F52.c), (53, F53.c)], Tryz.gl, false⟩, [], Tryz.f26⟩
noncomputable def F (x : Int × Int × Int × Int × Int) := Oq x.1 x.2.1 x.2.2.1 x.2.2.2.1 x.2.2.2.2
theorem rn (x : Int × Int × Int × Int × Int) : H.u P_ x = F x := by kernel_rfl
noncomputable def c : Con := ⟨H.p, H.r, F⟩
theorem ok : ConOk P_ Tryz.gl 26 c := Tryz.co H Tryz.func26 (.cons F52.ok (.cons F53.ok .nil)) (by kernel_rfl) rn
end F26
namespace F76
noncomputable def H : Hd := ⟨[Sb], [.agg [.agg [Si, Si, Si, Si, Si], .agg [Si, Si, Si, Si, Si], Ol 3], Si], .d, ⟨[(23, Aez), (24, F24.c), (26, F26.c)], Tryz.Blm, false⟩, [], Tryz.f76⟩
noncomputable def F (x : LB) := Apg x
theorem rn (x : LB) : H.u P_ x = F x := by kernel_rfl
noncomputable def c : Con := ⟨H.p, H.r, F⟩
theorem ok : ConOk P_ Tryz.Blm 76 c := Tryz.co H Tryz.func76 (.cons (Aor.mono (.cons _ .slnil)) (.cons F24.ok (.cons (F26.ok.mono (.cons _ .slnil)) .nil))) (by kernel_rfl) rn
end F76
namespace F135
abbrev R_ := (UInt64 × Int)
abbrev K_ := S → Option R_
noncomputable def H : Hd := ⟨[Sq, Sb], [Sq, Si], (.seq .d (.seq .d (.cut [4, 5] [] (.keep [0, 1, 4, 5, 9, 10, 11, 12] true) .d))), ⟨[], Tryz.gl, false⟩, [(169, (.seq .d (.cut [1] [] (.seq .d (.blk (.loop [0, 1, 9, 10, 11] [] .d))) .d))), (170, (.seq .d (.seq .d (.cut [1] [] (.seq .d (.blk (.loop [1, 5] [] (.seq .d (.seq .d (.cut [1, 5] [] (.blk (.seq .d (.seq .d (.cut [1, 2, 3, 5] [] (.seq .d (.blk (.loop [1, 2, 3, 5, 11] [] .d))) .d)))) .d)))))) .d))))], Tryz.f135⟩
def t27 (a : LB) (b : UInt64) (f : LQ) (h : UInt64) (m : Int) : S := ⟨[(0, .ptr 0 []), (1, vq h), (9, vb a), (10, vi (Ac a)), (11, vi m)], [.box 273 (.val (.vec 256 (.int .u64)) f)], [[(0, vq b), (1, vb a), (4, vq 0), (5, vi 0), (9, .ptr 0 []), (10, vq b), (11, vb a)]]⟩
def z27 : Nat → S → Option R_ := H.i P_ [r,r,l,(call 3 169),r,l,r,d]
def t21 (b : UInt64) (a : LB) (g : Int) (f : LQ) (k : UInt64) (n : Int) : S := ⟨[(1, .ptr 0 []), (2, vi g), (3, vq k), (5, vi g), (11, vi n)], [.box 273 (.val (.vec 256 (.int .u64)) f)], [[(0, vq b), (1, vb a), (4, vq 0), (5, vi 0)]]⟩
def z21 (kn16 : K_) : Nat → S → Option R_ := H.i P_ [r,r,l,(call 0 170),r,r,l,r,d,(lp kn16),r,r,l,d,r,r,l,r,d]
def t16 (b : UInt64) (a : LB) (g : Int) (f : LQ) : S := ⟨[(1, .ptr 0 []), (5, vi g)], [.box 273 (.val (.vec 256 (.int .u64)) f)], [[(0, vq b), (1, vb a), (4, vq 0), (5, vi 0)]]⟩
def z16 : Nat → S → Option R_ := H.i P_ [r,r,l,(call 0 170),r,r,l,r,d]
def x30 (h : UInt64) : Option R_ := H.e P_ [r,r,r] ⟨[(4, vq h), (5, vi 0)], [], []⟩
def x29 (h b : UInt64) (a : LB) (f : LQ) : Option R_ := H.e P_ [r,r,l,(call 3 169),r,r] ⟨[(1, vq h)], [.box 273 (.val (.vec 256 (.int .u64)) f)], [[(0, vq b), (1, vb a), (4, vq 0), (5, vi 0), (9, .ptr 0 []), (10, vq b), (11, vb a)]]⟩
def x27 (a : LB) (b : UInt64) (f : LQ) (h : UInt64) (m : Int) : Option R_ := H.e P_ [r,r,l,(call 3 169),r,l,r,d] (t27 a b f h m)
def x26 (b : UInt64) (a : LB) (f : LQ) : Option R_ := H.e P_ [r,r,l,(call 0 170),r,r,r] ⟨[(1, .ptr 0 [])], [.box 273 (.val (.vec 256 (.int .u64)) f)], [[(0, vq b), (1, vb a), (4, vq 0), (5, vi 0)]]⟩
def x24 (kn16 : K_) (b : UInt64) (a : LB) (g : Int) (o : LQ) : Option R_ := H.e P_ [r,r,l,(call 0 170),r,r,l,r,d,(lp kn16),r,r,r] ⟨[(1, .ptr 0 []), (5, vi g)], [.box 273 (.val (.vec 256 (.int .u64)) o)], [[(0, vq b), (1, vb a), (4, vq 0), (5, vi 0)]]⟩
def x23 (kn16 : K_) (b : UInt64) (a : LB) (g : Int) (k : UInt64) (f : LQ) : Option R_ := H.e P_ [r,r,l,(call 0 170),r,r,l,r,d,(lp kn16),r,r,l,d,r,r,r] ⟨[(1, .ptr 0 []), (2, vi g), (3, vq k), (5, vi g)], [.box 273 (.val (.vec 256 (.int .u64)) f)], [[(0, vq b), (1, vb a), (4, vq 0), (5, vi 0)]]⟩
def x21 (kn16 : K_) (b : UInt64) (a : LB) (g : Int) (f : LQ) (k : UInt64) (n : Int) : Option R_ := H.e P_ [r,r,l,(call 0 170),r,r,l,r,d,(lp kn16),r,r,l,d,r,r,l,r,d] (t21 b a g f k n)
def x16 (b : UInt64) (a : LB) (g : Int) (f : LQ) : Option R_ := H.e P_ [r,r,l,(call 0 170),r,r,l,r,d] (t16 b a g f)
theorem e30 : x30 = Ai1 := by kernel_rfl
theorem e29 : x29 = Ahx := Eq.trans (b := Aif x30) (by kernel_rfl) (by simp only [e30] <;> rfl)
theorem i27 (a : LB) (b : UInt64) (f : LQ) : ∀ (q : Nat) (h : UInt64) (m : Int), z27 q (t27 a b f h m) = Ql a b f q h m :=
 ind (fun _ _ => by kernel_rfl) fun q ih h m => Eq.trans (b := Ab8 x29 (fun h m => (z27 q) (t27 a b f h m)) a b f h m) (by kernel_rfl) (by simp only [e29, ih] <;> rfl)
theorem e27 : x27 = Ai9 := by funext a b f h m; exact Eq.trans (by kernel_rfl) ((i27 a b f Bn h m).trans (by rw [Al]; rfl))
theorem e26 : x26 = Abk := Eq.trans (b := Ai8 x27) (by kernel_rfl) (by simp only [e27] <;> rfl)
theorem e24 (kn16 : K_) (b : UInt64) (a : LB) : x24 kn16 b a = Ajb (fun g f => kn16 (t16 b a g f)) b a := by kernel_rfl
theorem e23 (kn16 : K_) (b : UInt64) (a : LB) : x23 kn16 b a = Ac2 (fun g f => kn16 (t16 b a g f)) b a := Eq.trans (b := Aiy (x24 kn16 b a) b a) (by kernel_rfl) (by simp only [e24] <;> rfl)
theorem i21 (kn16 : K_) (b : UInt64) (a : LB) (g : Int) (f : LQ) : ∀ (q : Nat) (k : UInt64) (n : Int), z21 kn16 q (t21 b a g f k n) = Qi (fun g f => kn16 (t16 b a g f)) b a g f q k n :=
 ind (fun _ _ => by kernel_rfl) fun q ih k n => Eq.trans (b := Acz (x23 kn16 b a) (fun k n => (z21 kn16 q) (t21 b a g f k n)) b a g f k n) (by kernel_rfl) (by simp only [e23, ih] <;> rfl)
theorem e21 (kn16 : K_) (b : UInt64) (a : LB) : x21 kn16 b a = Ah2 (fun g f => kn16 (t16 b a g f)) b a := by funext g f k n; exact Eq.trans (by kernel_rfl) ((i21 kn16 b a g f Bn k n).trans (by rw [Al]; rfl))
theorem i16 (b : UInt64) (a : LB) : ∀ (q : Nat) (g : Int) (f : LQ), z16 q (t16 b a g f) = Lp b a q g f :=
 ind (fun _ _ => by kernel_rfl) fun q ih g f => Eq.trans (b := Acg (x21 (z16 q) b a) x26 b a g f) (by kernel_rfl) (by simp only [e21, e26, ih] <;> rfl)
theorem e16 : x16 = Aig := by funext b a g f; exact Eq.trans (by kernel_rfl) ((i16 b a Bn g f).trans (by rw [Al]; rfl))
noncomputable def F (x : UInt64 × LB) := Anl x.1 x.2
theorem rn (x : UInt64 × LB) : H.u P_ x = F x := Eq.trans (b := Akr x16 x.1 x.2) (by kernel_rfl) (by simp only [e16] <;> rfl)
noncomputable def c : Con := ⟨H.p, H.r, F⟩
theorem ok : ConOk P_ Tryz.gl 135 c := Tryz.cr H Tryz.func135 .nil (AnsOk.cons Tryz.ent169 (AnsOk.cons Tryz.ent170 AnsOk.nil)) (by kernel_rfl) rn
end F135
namespace F101
noncomputable def H : Hd := ⟨[Sb], [Sq, Si], .d, ⟨[(135, F135.c)], Tryz.gl, false⟩, [], Tryz.f101⟩
noncomputable def F (x : LB) := Al6 x
theorem rn (x : LB) : H.u P_ x = F x := by kernel_rfl
noncomputable def c : Con := ⟨H.p, H.r, F⟩
theorem ok : ConOk P_ Tryz.gl 101 c := Tryz.co H Tryz.func101 (.cons F135.ok .nil) (by kernel_rfl) rn
end F101
namespace F88
noncomputable def H : Hd := ⟨[Ss], [Sq, Si], .d, ⟨[(101, F101.c)], Tryz.gl, false⟩, [], Tryz.f88⟩
noncomputable def F (x : LB) := Auf x
theorem rn (x : LB) : H.u P_ x = F x := by kernel_rfl
noncomputable def c : Con := ⟨H.p, H.r, F⟩
theorem ok : ConOk P_ Tryz.gl 88 c := Tryz.co H Tryz.func88 (.cons F101.ok .nil) (by kernel_rfl) rn
end F88
namespace F50
noncomputable def H : Hd := ⟨[Ss], [Ob 5, Si], .d, ⟨[(88, F88.c), (89, F89.c)], Tryz.gl, false⟩, [], Tryz.f50⟩
noncomputable def F (x : LB) := Aha x
theorem rn (x : LB) : H.u P_ x = F x := by kernel_rfl
noncomputable def c : Con := ⟨H.p, H.r, F⟩
theorem ok : ConOk P_ Tryz.gl 50 c := Tryz.co H Tryz.func50 (.cons F88.ok (.cons F89.ok .nil)) (by kernel_rfl) rn
end F50
namespace F25
noncomputable def H : Hd := ⟨[Sb, Ss], [Sz, Si], .d, ⟨[(50, F50.c), (51, F51.c)], Tryz.gl, false⟩, [], Tryz.f25⟩
noncomputable def F (x : LB × LB) := Xx x.1 x.2
theorem rn (x : LB × LB) : H.u P_ x = F x := by kernel_rfl
noncomputable def c : Con := ⟨H.p, H.r, F⟩
theorem ok : ConOk P_ Tryz.gl 25 c := Tryz.co H Tryz.func25 (.cons F50.ok (.cons F51.ok .nil)) (by kernel_rfl) rn
end F25
namespace F54
abbrev R_ := Int
noncomputable def H : Hd := ⟨[Sl], [Si], (.seq .d (.seq .d (.seq .d (.cut [] [] (.seq .d (.blk (.loop [3, 14, 15, 16] [] .d))) .d)))), ⟨[], Tryz.gl, false⟩, [], Tryz.f54⟩
def t4 (a : LI) (f b : Int) : S := ⟨[(3, vi f), (14, vl a), (15, vi (Ac a)), (16, vi b)], [], []⟩
def z4 : Nat → S → Option R_ := H.i P_ [r,r,r,l,r,d]
def x6 : Option R_ := H.e P_ [r,r,r,r] ⟨[], [], []⟩
def x4 (a : LI) (f b : Int) : Option R_ := H.e P_ [r,r,r,l,r,d] (t4 a f b)
theorem e6 : x6 = Aoh := by kernel_rfl
theorem i4 (a : LI) : ∀ (q : Nat) (f b : Int), z4 q (t4 a f b) = Rh a q f b :=
 ind (fun _ _ => by kernel_rfl) fun q ih f b => Eq.trans (b := Aco x6 (fun f b => (z4 q) (t4 a f b)) a f b) (by kernel_rfl) (by simp only [e6, ih] <;> rfl)
theorem e4 : x4 = Aja := by funext a f b; exact Eq.trans (by kernel_rfl) ((i4 a Bn f b).trans (by rw [Al]; rfl))
noncomputable def F (x : LI) := Afc x
theorem rn (x : LI) : H.u P_ x = F x := Eq.trans (b := Ahv x4 x) (by kernel_rfl) (by simp only [e4] <;> rfl)
noncomputable def c : Con := ⟨H.p, H.r, F⟩
theorem ok : ConOk P_ Tryz.gl 54 c := Tryz.co H Tryz.func54 .nil (by kernel_rfl) rn
end F54
namespace F27
abbrev R_ := (LI × Int)
noncomputable def H : Hd := ⟨[Sb, Si], [Ol 3, Si], (.seq .d (.seq .d (.seq .d (.seq .d (.seq .d (.seq .d (.cut [10] [] (.seq .d (.blk (.loop [0, 10, 48, 49] [] .d))) .d))))))), ⟨[(46, F46.c), (47, F47.c), (54, F54.c)], Tryz.gl, false⟩, [], Tryz.f27⟩
def t4 (b : LB) (f : LI) (g : Int) (a : LI) : S := ⟨[(0, vb b), (10, .own 0), (48, vi (Ac f)), (49, vi g)], [Ai 3 a], []⟩
def z4 : Nat → S → Option R_ := H.i P_ [r,r,r,r,r,r,l,r,d]
def x6 (a : LI) : Option R_ := H.e P_ [r,r,r,r,r,r,r] ⟨[(10, .own 0)], [Ai 3 a], []⟩
def x4 (b : LB) (f : LI) (g : Int) (a : LI) : Option R_ := H.e P_ [r,r,r,r,r,r,l,r,d] (t4 b f g a)
theorem e6 : x6 = Ae0 := by kernel_rfl
theorem i4 (b : LB) (f : LI) : ∀ (q : Nat) (g : Int) (a : LI), z4 q (t4 b f g a) = Tv b f q g a :=
 ind (fun _ _ => by kernel_rfl) fun q ih g a => Eq.trans (b := Aet x6 (fun g a => (z4 q) (t4 b f g a)) b f g a) (by kernel_rfl) (by simp only [e6, ih] <;> rfl)
theorem e4 : x4 = Aks := by funext b f g a; exact Eq.trans (by kernel_rfl) ((i4 b f Bn g a).trans (by rw [Al]; rfl))
noncomputable def F (x : LB × Int) := Aik x.1 x.2
theorem rn (x : LB × Int) : H.u P_ x = F x := Eq.trans (b := Aj9 x4 x.1 x.2) (by kernel_rfl) (by simp only [e4] <;> rfl)
noncomputable def c : Con := ⟨H.p, H.r, F⟩
theorem ok : ConOk P_ Tryz.gl 27 c := Tryz.co H Tryz.func27 (.cons F46.ok (.cons F47.ok (.cons F54.ok .nil))) (by kernel_rfl) rn
end F27
namespace F102
abbrev R_ := LX
noncomputable def H : Hd := ⟨[Sq], [.lf (.vec 16 (.int .i32)) none], (.seq .d (.seq .d (.cut [2, 3] [] (.seq .d (.blk (.loop [0, 2, 3, 5] [] .d))) .d))), ⟨[], Tryz.gl, false⟩, [], Tryz.f102⟩
def t4 (f : UInt64) (b : Int) (a : LX) : S := ⟨[(0, vq f), (2, .ptr 0 []), (3, .ptr 1 []), (5, vi b)], [.box 109 (.val (.vec 16 (.int .i32)) (List.replicate 16 (0 : Int32))), .box 109 (.val (.vec 16 (.int .i32)) a)], []⟩
def z4 : Nat → S → Option R_ := H.i P_ [r,r,l,r,d]
def x6 (a : LX) : Option R_ := H.e P_ [r,r,r] ⟨[(2, .ptr 0 []), (3, .ptr 1 [])], [.box 109 (.val (.vec 16 (.int .i32)) (List.replicate 16 (0 : Int32))), .box 109 (.val (.vec 16 (.int .i32)) a)], []⟩
def x4 (f : UInt64) (b : Int) (a : LX) : Option R_ := H.e P_ [r,r,l,r,d] (t4 f b a)
theorem e6 : x6 = Az6 := by kernel_rfl
theorem i4 (f : UInt64) : ∀ (q : Nat) (b : Int) (a : LX), z4 q (t4 f b a) = Aed f q b a :=
 ind (fun _ _ => by kernel_rfl) fun q ih b a => Eq.trans (b := Amc x6 (fun b a => (z4 q) (t4 f b a)) f b a) (by kernel_rfl) (by simp only [e6, ih] <;> rfl)
theorem e4 : x4 = Aw4 := by funext f b a; exact Eq.trans (by kernel_rfl) ((i4 f Bn b a).trans (by rw [Al]; rfl))
noncomputable def F (x : UInt64) := Bc7 x
theorem rn (x : UInt64) : H.u P_ x = F x := Eq.trans (b := Ayr x4 x) (by kernel_rfl) (by simp only [e4] <;> rfl)
noncomputable def c : Con := ⟨H.p, H.r, F⟩
theorem ok : ConOk P_ Tryz.gl 102 c := Tryz.co H Tryz.func102 .nil (by kernel_rfl) rn
end F102
namespace F60
noncomputable def H : Hd := ⟨[Ss], [.lf (.vec 16 (.int .i32)) none, Si], .d, ⟨[(101, F101.c), (102, F102.c)], Tryz.gl, false⟩, [], Tryz.f60⟩
noncomputable def F (x : LB) := Alw x
theorem rn (x : LB) : H.u P_ x = F x := by kernel_rfl
noncomputable def c : Con := ⟨H.p, H.r, F⟩
theorem ok : ConOk P_ Tryz.gl 60 c := Tryz.co H Tryz.func60 (.cons F101.ok (.cons F102.ok .nil)) (by kernel_rfl) rn
end F60
namespace F119
abbrev R_ := (Int32 × Int32 × Int)
noncomputable def H : Hd := ⟨[Si], [Sx, Sx, Si], (.seq .d (.seq (.seq .d (.blk (.cut [0, 7] [] .d .d))) .d)), ⟨[], Tryz.gl, false⟩, [], Tryz.f119⟩
def x2 (a : Int) (b : Bool) : Option R_ := H.e P_ [r,l,r,d,r] ⟨[(0, vi a), (7, vt b)], [], []⟩
theorem e2 : x2 = Ape := by kernel_rfl
noncomputable def F (x : Int) := Xf x
theorem rn (x : Int) : H.u P_ x = F x := Eq.trans (b := Ap1 x2 x) (by kernel_rfl) (by simp only [e2] <;> rfl)
noncomputable def c : Con := ⟨H.p, H.r, F⟩
theorem ok : ConOk P_ Tryz.gl 119 c := Tryz.co H Tryz.func119 .nil (by kernel_rfl) rn
end F119
namespace F103
noncomputable def H : Hd := ⟨[.agg [Si, Si]], [Si], .d, ⟨[(119, F119.c)], Tryz.gl, false⟩, [], Tryz.f103⟩
noncomputable def F (x : Int × Int) := Oz x.1 x.2
theorem rn (x : Int × Int) : H.u P_ x = F x := by kernel_rfl
noncomputable def c : Con := ⟨H.p, H.r, F⟩
theorem ok : ConOk P_ Tryz.gl 103 c := Tryz.co H Tryz.func103 (.cons F119.ok .nil) (by kernel_rfl) rn
end F103
namespace F104
noncomputable def H : Hd := ⟨[Sb], [Sb, Si], .d, ⟨[(47, F47.c), (86, F86.c)], Tryz.gl, false⟩, [], Tryz.f104⟩
noncomputable def F (x : LB) := Abw x
theorem rn (x : LB) : H.u P_ x = F x := by kernel_rfl
noncomputable def c : Con := ⟨H.p, H.r, F⟩
theorem ok : ConOk P_ Tryz.gl 104 c := Tryz.co H Tryz.func104 (.cons F47.ok (.cons F86.ok .nil)) (by kernel_rfl) rn
end F104
namespace F136
def Ll (a : LB) : Option (LB) :=
Bd8 a (
some ([] : LB)) (
(Fz ([] : LB) a).bind fun b =>
some b)
theorem Afx : @Ll = @Hj := by
  unfold Ll Hj
  repeat (refine funext fun _ => ?_)
  repeat' first
    | with_reducible rfl
    | with_reducible refine Lk ?_ ?_
    | with_reducible refine Lr ?_ ?_ ?_
    | with_reducible refine Lw ?_ ?_ ?_ ?_
    | ((with_reducible refine Te ?_ ?_); focus (intro h; first | (subst h; rfl) | (simp only [h]; rfl) | (simp [Fz, Ac, h]; done)))
    | with_reducible refine Tk fun x => ?_
    | with_reducible refine Aak (fun _ => ?_) (fun _ => ?_)
    | (refine Gu (fun h => by simp only [h, Ta, Ek, Ej, ite_self]) (fun x h => ?_); (try simp only [h, Ek]))
    | (refine Io (fun h => ?_) (fun h => ?_) <;> simp only [h, if_true, if_false, Bool.false_eq_true])
noncomputable def H : Hd := ⟨[Sb], [Ob 5], .d, ⟨[], Tryz.gl, false⟩, [], Tryz.f136⟩
noncomputable def F (x : LB) := Hj x
theorem rn (x : LB) : H.u P_ x = F x := Eq.trans (b := Ll x) (by kernel_rfl) (by rw [Afx]; rfl)
noncomputable def c : Con := ⟨H.p, H.r, F⟩
theorem ok : ConOk P_ Tryz.gl 136 c := Tryz.co H Tryz.func136 .nil (by kernel_rfl) rn
end F136
namespace F105
noncomputable def H : Hd := ⟨[Sb], [.agg [Ob 5, Si], Si], .d, ⟨[(136, F136.c)], Tryz.gl, false⟩, [], Tryz.f105⟩
noncomputable def F (x : LB) := Bde x
theorem rn (x : LB) : H.u P_ x = F x := by kernel_rfl
noncomputable def c : Con := ⟨H.p, H.r, F⟩
theorem ok : ConOk P_ Tryz.gl 105 c := Tryz.co H Tryz.func105 (.cons F136.ok .nil) (by kernel_rfl) rn
end F105
namespace F137
noncomputable def H : Hd := ⟨[], [.agg [Si, Si, Sq, Sq]], .d, ⟨[], Tryz.gl, false⟩, [], Tryz.f137⟩
noncomputable def F (x : Unit) := Azf
theorem rn (x : Unit) : H.u P_ x = F x := by kernel_rfl
noncomputable def c : Con := ⟨H.p, H.r, F⟩
theorem ok : ConOk P_ Tryz.gl 137 c := Tryz.co H Tryz.func137 .nil (by kernel_rfl) rn
end F137
namespace F140
noncomputable def H : Hd := ⟨[.agg [Sb, Si]], [Si], .d, ⟨[], Tryz.gl, false⟩, [], Tryz.f140⟩
noncomputable def F (x : LB × Int) := Sp x.1 x.2
theorem rn (x : LB × Int) : H.u P_ x = F x := by kernel_rfl
noncomputable def c : Con := ⟨H.p, H.r, F⟩
theorem ok : ConOk P_ Tryz.gl 140 c := Tryz.co H Tryz.func140 .nil (by kernel_rfl) rn
end F140
namespace F141
abbrev R_ := UInt64
noncomputable def H : Hd := ⟨[.agg [Sb, Si], Si, Si], [Sq], (.seq .d (.seq .d (.cut [7] [] (.blk (.loop [1, 2, 3, 7, 8] [] .d)) .d))), ⟨[], Tryz.gl, false⟩, [], Tryz.f141⟩
def t4 (b f : Int) (h : LB) (k : Int) (g : UInt64) (a : Int) : S := ⟨[(1, vi b), (2, vi f), (3, .ptr 0 []), (7, vq g), (8, vi a)], [.box 156 (.agg [vb h, vi k])], []⟩
def z4 : Nat → S → Option R_ := H.i P_ [r,r,l,d]
def x6 (g : UInt64) : Option R_ := H.e P_ [r,r,r] ⟨[(7, vq g)], [], []⟩
def x4 (b f : Int) (h : LB) (k : Int) (g : UInt64) (a : Int) : Option R_ := H.e P_ [r,r,l,d] (t4 b f h k g a)
theorem e6 : x6 = Au9 := by kernel_rfl
theorem i4 (b f : Int) (h : LB) (k : Int) : ∀ (q : Nat) (g : UInt64) (a : Int), z4 q (t4 b f h k g a) = Aft b f h k q g a :=
 ind (fun _ _ => by kernel_rfl) fun q ih g a => Eq.trans (b := Aoi x6 (fun g a => (z4 q) (t4 b f h k g a)) b f h k g a) (by kernel_rfl) (by simp only [e6, ih] <;> rfl)
theorem e4 : x4 = Avr := by funext b f h k g a; exact Eq.trans (by kernel_rfl) ((i4 b f h k Bn g a).trans (by rw [Al]; rfl))
noncomputable def F (x : LB × Int × Int × Int) := Asq x.1 x.2.1 x.2.2.1 x.2.2.2
theorem rn (x : LB × Int × Int × Int) : H.u P_ x = F x := Eq.trans (b := Ave x4 x.1 x.2.1 x.2.2.1 x.2.2.2) (by kernel_rfl) (by simp only [e4] <;> rfl)
noncomputable def c : Con := ⟨H.p, H.r, F⟩
theorem ok : ConOk P_ Tryz.gl 141 c := Tryz.co H Tryz.func141 .nil (by kernel_rfl) rn
end F141
namespace F138
abbrev R_ := (LB × Int × Int)
abbrev K_ := S → Option R_
noncomputable def H : Hd := ⟨[.agg [Sb, Si], Si, Si], [.agg [Ob 5, Si], Si], (.seq .d (.seq .d (.seq .d (.seq .d (.cut [6, 8] [] (.seq .d (.blk (.loop [2, 3, 6, 8, 9] [⟨8, [0], .own 5 (.int .u8)⟩] (.seq .d (.cut [2, 3, 6, 8, 9] [] (.blk (.seq .d (.keep [2, 3, 6, 8, 9, 10, 39, 40, 41, 42, 43] true))) .d))))) .d))))), ⟨[(140, F140.c), (141, F141.c)], Tryz.gl, false⟩, [(171, (.blk (.loop [0, 1, 2] [] (.seq .d (.blk (.cut [0, 1, 2] [] .d (.seq .d (.cut [0, 1, 2, 7] [] .d .d))))))))], Tryz.f138⟩
def t44 (a : Int) (g : LB) (f b : Int) (k n : UInt64) (m h : Int) (u : LB) : S := ⟨[(0, .ptr 0 []), (1, vq n), (2, vi m)], [.box 156 (.agg [.own 3, vi h]), .box 156 (.agg [vb g, vi f]), .box 156 (.agg [.nils, vi 0]), Ab 5 u], [[(2, vi a), (3, .ptr 1 []), (6, .ptr 2 []), (8, .ptr 0 []), (9, vi b), (10, vi (Hf (64 : Int) (Am a b))), (39, .agg [vb g, vi f]), (40, vi b), (41, vi (Hf (64 : Int) (Am a b))), (42, vq k), (43, vi (Hf (64 : Int) (Am a b)))]]⟩
def z44 (kn27 : K_) : Nat → S → Option R_ := H.i P_ [r,r,r,r,l,r,d,(lp kn27),r,l,d,r,(call 5 171),d]
def t27 (a : Int) (g : LB) (f b o : Int) (p : LB) : S := ⟨[(2, vi a), (3, .ptr 0 []), (6, .ptr 1 []), (8, .ptr 2 []), (9, vi b)], [.box 156 (.agg [vb g, vi f]), .box 156 (.agg [.nils, vi 0]), .box 156 (.agg [.own 3, vi o]), Ab 5 p], []⟩
def z27 : Nat → S → Option R_ := H.i P_ [r,r,r,r,l,r,d]
def x52 (o : Int) (p : LB) : Option R_ := H.e P_ [r,r,r,r,r] ⟨[(6, .ptr 0 []), (8, .ptr 1 [])], [.box 156 (.agg [.nils, vi 0]), .box 156 (.agg [.own 2, vi o]), Ab 5 p], []⟩
def x50 (kn27 : K_) (a : Int) (g : LB) (f b h : Int) (u : LB) : Option R_ := H.e P_ [r,r,r,r,l,r,d,(lp kn27),r,r] ⟨[(2, vi a), (3, .ptr 0 []), (6, .ptr 1 []), (8, .ptr 2 []), (9, vi b)], [.box 156 (.agg [vb g, vi f]), .box 156 (.agg [.nils, vi 0]), .box 156 (.agg [.own 3, vi h]), Ab 5 u], []⟩
def x48 (kn27 kn44 : K_) (a b : Int) (g : LB) (f : Int) (k n : UInt64) (m h : Int) (w : LB) : Option R_ := H.e P_ [r,r,r,r,l,r,d,(lp kn27),r,l,d,r,(call 5 171),d,(lp kn44),r,d,r,r,r] ⟨[(0, .ptr 0 []), (1, vq n), (2, vi m), (7, vi (Hf m (Am (8 : Int) (Iu h (7 : Int)))))], [.box 156 (.agg [.own 3, vi h]), .box 156 (.agg [vb g, vi f]), .box 156 (.agg [.nils, vi 0]), Ab 5 w], [[(2, vi a), (3, .ptr 1 []), (6, .ptr 2 []), (8, .ptr 0 []), (9, vi b), (10, vi (Hf (64 : Int) (Am a b))), (39, .agg [vb g, vi f]), (40, vi b), (41, vi (Hf (64 : Int) (Am a b))), (42, vq k), (43, vi (Hf (64 : Int) (Am a b)))]]⟩
def x47 (kn27 kn44 : K_) (a b : Int) (g : LB) (f : Int) (k n : UInt64) (m h : Int) (v : LB) : Option R_ := H.e P_ [r,r,r,r,l,r,d,(lp kn27),r,l,d,r,(call 5 171),d,(lp kn44),r,d,r] ⟨[(0, .ptr 0 []), (1, vq n), (2, vi m)], [.box 156 (.agg [.own 3, vi h]), .box 156 (.agg [vb g, vi f]), .box 156 (.agg [.nils, vi 0]), Ab 5 v], [[(2, vi a), (3, .ptr 1 []), (6, .ptr 2 []), (8, .ptr 0 []), (9, vi b), (10, vi (Hf (64 : Int) (Am a b))), (39, .agg [vb g, vi f]), (40, vi b), (41, vi (Hf (64 : Int) (Am a b))), (42, vq k), (43, vi (Hf (64 : Int) (Am a b)))]]⟩
def x44 (kn27 : K_) (a : Int) (g : LB) (f b : Int) (k n : UInt64) (m h : Int) (u : LB) : Option R_ := H.e P_ [r,r,r,r,l,r,d,(lp kn27),r,l,d,r,(call 5 171),d] (t44 a g f b k n m h u)
def x27 (a : Int) (g : LB) (f b o : Int) (p : LB) : Option R_ := H.e P_ [r,r,r,r,l,r,d] (t27 a g f b o p)
theorem e52 : x52 = Amx := by kernel_rfl
theorem e50 (kn27 : K_) (a : Int) (g : LB) (f : Int) : x50 kn27 a g f = Ag4 (fun b o p => kn27 (t27 a g f b o p)) a g f := by kernel_rfl
theorem e48 (kn27 kn44 : K_) (a : Int) (g : LB) (f b : Int) (k : UInt64) : x48 kn27 kn44 a b g f k = Amg (fun n m h u => kn44 (t44 a g f b k n m h u)) a b g f k := by kernel_rfl
theorem e47 (kn27 kn44 : K_) (a : Int) (g : LB) (f b : Int) (k : UInt64) : x47 kn27 kn44 a b g f k = Ag7 (fun n m h u => kn44 (t44 a g f b k n m h u)) a b g f k := Eq.trans (b := Al9 (x48 kn27 kn44 a b g f k) a b g f k) (by kernel_rfl) (by simp only [e48] <;> rfl)
theorem i44 (kn27 : K_) (a : Int) (g : LB) (f b : Int) (k : UInt64) : ∀ (q : Nat) (n : UInt64) (m h : Int) (u : LB), z44 kn27 q (t44 a g f b k n m h u) = Oi (fun b o p => kn27 (t27 a g f b o p)) a g f b k q n m h u :=
 ind (fun _ _ _ _ => by kernel_rfl) fun q ih n m h u => Eq.trans (b := Ag6 (x47 kn27 (z44 kn27 q) a b g f k) (x50 kn27 a g f) a g f b k n m h u) (by kernel_rfl) (by simp only [e47, e50, ih] <;> rfl)
theorem e44 (kn27 : K_) (a : Int) (g : LB) (f : Int) : x44 kn27 a g f = Amr (fun b o p => kn27 (t27 a g f b o p)) a g f := by funext b k n m h u; exact Eq.trans (by kernel_rfl) ((i44 kn27 a g f b k Bn n m h u).trans (by rw [Al]; rfl))
theorem i27 (a : Int) (g : LB) (f : Int) : ∀ (q : Nat) (b o : Int) (p : LB), z27 q (t27 a g f b o p) = Xu a g f q b o p :=
 ind (fun _ _ _ => by kernel_rfl) fun q ih b o p => Eq.trans (b := Amf (x44 (z27 q) a g f) x52 a g f b o p) (by kernel_rfl) (by simp only [e44, e52, ih] <;> rfl)
theorem e27 : x27 = Ami := by funext a g f b o p; exact Eq.trans (by kernel_rfl) ((i27 a g f Bn b o p).trans (by rw [Al]; rfl))
noncomputable def F (x : LB × Int × Int × Int) := Aoz x.1 x.2.1 x.2.2.1 x.2.2.2
theorem rn (x : LB × Int × Int × Int) : H.u P_ x = F x := Eq.trans (b := Apa x27 x.1 x.2.1 x.2.2.1 x.2.2.2) (by kernel_rfl) (by simp only [e27] <;> rfl)
noncomputable def c : Con := ⟨H.p, H.r, F⟩
theorem ok : ConOk P_ Tryz.gl 138 c := Tryz.cr H Tryz.func138 (.cons F140.ok (.cons F141.ok .nil)) (AnsOk.cons Tryz.ent171 AnsOk.nil) (by kernel_rfl) rn
end F138
namespace F172
def Aix (j4 : Int → Int → UInt64 → UInt64 → Option Int) (a b : Int) (f g : UInt64) : Option Int :=
both (
bo (
j4 a b f g)) [
j4 a b f g]
theorem Atg : @Aix = @Aeq := by
  unfold Aix Aeq
  repeat (refine funext fun _ => ?_)
  repeat' first
    | with_reducible rfl
    | with_reducible refine Lk ?_ ?_
    | with_reducible refine Lr ?_ ?_ ?_
    | with_reducible refine Lw ?_ ?_ ?_ ?_
    | ((with_reducible refine Te ?_ ?_); focus (intro h; first | (subst h; rfl) | (simp only [h]; rfl) | (simp [Fz, Ac, h]; done)))
    | with_reducible refine Tk fun x => ?_
    | with_reducible refine Aak (fun _ => ?_) (fun _ => ?_)
    | (refine Gu (fun h => by simp only [h, Ta, Ek, Ej, ite_self]) (fun x h => ?_); (try simp only [h, Ek]))
    | (refine Io (fun h => ?_) (fun h => ?_) <;> simp only [h, if_true, if_false, Bool.false_eq_true])
def Aih (j3 : Int → Int → UInt64 → UInt64 → Option Int) (a b : Int) (f g : UInt64) : Option Int :=
both (
bo (
j3 a b f g)) [
j3 a b f g]
theorem Asz : @Aih = @Aex := by
  unfold Aih Aex
  repeat (refine funext fun _ => ?_)
  repeat' first
    | with_reducible rfl
    | with_reducible refine Lk ?_ ?_
    | with_reducible refine Lr ?_ ?_ ?_
    | with_reducible refine Lw ?_ ?_ ?_ ?_
    | ((with_reducible refine Te ?_ ?_); focus (intro h; first | (subst h; rfl) | (simp only [h]; rfl) | (simp [Fz, Ac, h]; done)))
    | with_reducible refine Tk fun x => ?_
    | with_reducible refine Aak (fun _ => ?_) (fun _ => ?_)
    | (refine Gu (fun h => by simp only [h, Ta, Ek, Ej, ite_self]) (fun x h => ?_); (try simp only [h, Ek]))
    | (refine Io (fun h => ?_) (fun h => ?_) <;> simp only [h, if_true, if_false, Bool.false_eq_true])
abbrev R_ := Int
noncomputable def H : Hd := ⟨[.agg [Si, Si, Sq, Sq]], [Si], (.seq .d (.seq .d (.cut [1, 3] [] (.mode false) (.cut [1, 3] [] (.mode false) .d)))), ⟨[], Tryz.gl, false⟩, [], Tryz.f172⟩
def x4 (a b : Int) (f g : UInt64) : Option R_ := H.e P_ [r,r,r,r] ⟨[(1, .ptr 0 []), (3, .ptr 1 [])], [.box 197 (.agg [vi a, vi b, vq f, vq g]), .box 197 (.agg [vi (Hf (Aqs a (0 : Int)) (24 : Int)), vi (Hf (Aqs b (0 : Int)) (24 : Int)), vq (Hf f (68719476735 : UInt64)), vq (Hf g (68719476735 : UInt64))])], []⟩
def x3 (a b : Int) (f g : UInt64) : Option R_ := H.e P_ [r,r,r] ⟨[(1, .ptr 0 []), (3, .ptr 1 [])], [.box 197 (.agg [vi a, vi b, vq f, vq g]), .box 197 (.agg [vi (Hf (Aqs a (0 : Int)) (24 : Int)), vi (Hf (Aqs b (0 : Int)) (24 : Int)), vq f, vq g])], []⟩
theorem e4 : x4 = Ak1 := by kernel_rfl
theorem e3 : x3 = Akc := Eq.trans (b := Aix x4) (by kernel_rfl) (by rw [Atg]; simp only [e4] <;> rfl)
noncomputable def F (x : Int × Int × UInt64 × UInt64) := Amn x.1 x.2.1 x.2.2.1 x.2.2.2
theorem rn (x : Int × Int × UInt64 × UInt64) : H.u P_ x = F x := Eq.trans (b := Aih x3 x.1 x.2.1 x.2.2.1 x.2.2.2) (by kernel_rfl) (by rw [Asz]; simp only [e3] <;> rfl)
noncomputable def c : Con := ⟨H.p, H.r, F⟩
theorem ok : ConOk P_ Tryz.gl 172 c := Tryz.co H Tryz.func172 .nil (by kernel_rfl) rn
end F172
namespace F107
noncomputable def H : Hd := ⟨[.agg [Sb, Si], Si, Si], [Sq, Si], .d, ⟨[(140, F140.c), (141, F141.c)], Tryz.gl, false⟩, [], Tryz.f107⟩
noncomputable def F (x : LB × Int × Int × Int) := Aca x.1 x.2.1 x.2.2.1 x.2.2.2
theorem rn (x : LB × Int × Int × Int) : H.u P_ x = F x := by kernel_rfl
noncomputable def c : Con := ⟨H.p, H.r, F⟩
theorem ok : ConOk P_ Tryz.gl 107 c := Tryz.co H Tryz.func107 (.cons F140.ok (.cons F141.ok .nil)) (by kernel_rfl) rn
end F107
namespace F215
noncomputable def H : Hd := ⟨[Sq], [Si], .d, ⟨[], Tryz.Av4, false⟩, [], Tryz.f215⟩
noncomputable def F (x : UInt64) := Fv x
theorem rn (x : UInt64) : H.u P_ x = F x := by kernel_rfl
noncomputable def c : Con := ⟨H.p, H.r, F⟩
theorem ok : ConOk P_ Tryz.Av4 215 c := Tryz.co H Tryz.func215 .nil (by kernel_rfl) rn
end F215
namespace F196
def Ail (j6 : Int → UInt64 → Int → LB → Int → Option (Int × Int × Int)) (g : LB) (b a : Int) : Option (Int × Int × Int) :=
(Sp g b).bind fun m =>
if (Cl m 0) then
some (0, 0, m)
else
if (Dh a 0) then
some (0, 0, 2)
else
if (Tm a b) then
some (0, 0, 24)
else
bo2 (
bo (
(Aca g b a (Hf 48 (Am b a))).bind fun (k, h) =>
j6 h k a g b))
theorem Asf : @Ail = @Za := by
  unfold Ail Za
  simp only [Bjk, Bcr, Bcn]
abbrev R_ := (Int × Int × Int)
noncomputable def H : Hd := ⟨[.agg [Sb, Si], Si], [Si, Si, Si], (.seq .d (.seq .d (.seq .d (.seq .d (.seq .d (.cut [3, 5, 6, 8, 9] [] (.keep [2, 3, 5, 6, 8, 9, 22, 23, 24, 25, 26, 27, 28, 29] false) (.seq .d (.seq .d (.cut [] [] (.blk (.seq (.blk (.seq (.blk (.cut [] [] (.cut [3, 4, 5] [] (.cut [3, 4, 5, 36] [] (.keep [3, 4, 5, 8, 36, 37, 38, 39, 40] true) .d) .d) .d)) .d)) .d)) .d))))))))), ⟨[(107, F107.c), (140, F140.c), (215, F215.c)], Tryz.Av4, false⟩, [(214, .d)], Tryz.f196⟩
def x10 : Option R_ := H.e P_ [r,r,r,r,r,r,r,r,r] ⟨[], [], []⟩
def x9 : Option R_ := H.e P_ [r,r,r,r,r,r,r,r,l,d,l,d,l,d,r] ⟨[], [], []⟩
def x8 (f a : Int) : Option R_ := H.e P_ [r,r,r,r,r,r,r,r,l,d,l,d,l,d,l,r] ⟨[(3, .ptr 0 []), (4, vi f), (5, vi 0)], [.box 3 (vi a)], []⟩
def x7 (f b a : Int) : Option R_ := H.e P_ [r,r,r,r,r,r,r,r,l,d,l,d,l,d,l,l,r] ⟨[(3, .ptr 0 []), (4, vi f), (5, vi 0), (36, vt (Dh f (Hf (48 : Int) (Am b a))))], [.box 3 (vi a)], []⟩
def x6 (h : Int) (k : UInt64) (a : Int) (g : LB) (b : Int) : Option R_ := H.e P_ [r,r,r,r,r,r] ⟨[(3, .ptr 0 []), (5, vi 0), (6, vi h), (8, .fn 214 [.ptr 1 [], .ptr 0 []]), (9, vq k)], [.box 3 (vi a), .box 156 (.agg [vb g, vi b])], []⟩
theorem e10 : x10 = Ao9 := by kernel_rfl
theorem e9 : x9 = Ara := Eq.trans (b := Aq9 x10) (by kernel_rfl) (by simp only [e10] <;> rfl)
theorem e8 : x8 = Akh := Eq.trans (b := Aj5 x9) (by kernel_rfl) (by simp only [e9] <;> rfl)
theorem e7 : x7 = Aj6 := Eq.trans (b := Aka x8) (by kernel_rfl) (by simp only [e8] <;> rfl)
theorem e6 : x6 = Akb := Eq.trans (b := Akw x7) (by kernel_rfl) (by simp only [e7] <;> rfl)
noncomputable def F (x : LB × Int × Int) := Ady x.1 x.2.1 x.2.2
theorem rn (x : LB × Int × Int) : H.u P_ x = F x := Eq.trans (b := Ail x6 x.1 x.2.1 x.2.2) (by kernel_rfl) (by rw [Asf]; simp only [e6] <;> rfl)
noncomputable def c : Con := ⟨H.p, H.r, F⟩
theorem ok : ConOk P_ Tryz.Av4 196 c := Tryz.cr H Tryz.func196 (.cons (F107.ok.mono (.cons _ .slnil)) (.cons (F140.ok.mono (.cons _ .slnil)) (.cons F215.ok .nil))) (AnsOk.cons Tryz.ent214 AnsOk.nil) (by kernel_rfl) rn
end F196
namespace F197
noncomputable def H : Hd := ⟨[Su, Si], [Sz], .d, ⟨[], Tryz.gl, false⟩, [], Tryz.f197⟩
noncomputable def F (x : UInt32 × Int) := Amt x.1 x.2
theorem rn (x : UInt32 × Int) : H.u P_ x = F x := by kernel_rfl
noncomputable def c : Con := ⟨H.p, H.r, F⟩
theorem ok : ConOk P_ Tryz.gl 197 c := Tryz.co H Tryz.func197 .nil (by kernel_rfl) rn
end F197
namespace F173
abbrev R_ := (UInt32 × Int × Int)
noncomputable def H : Hd := ⟨[.agg [Sb, Si], Si, Si], [Su, Si, Si], (.seq .d (.seq .d (.seq .d (.seq .d (.seq .d (.seq .d (.cut [2, 3, 7, 10, 11] [] .d .d))))))), ⟨[(107, F107.c), (140, F140.c), (196, F196.c), (197, F197.c)], Tryz.Av4, false⟩, [], Tryz.f173⟩
def x2 (a b f : Int) (g : LB) (h k : Int) : Option R_ := H.e P_ [r,r,r,r,r,r,r] ⟨[(2, vi a), (3, .ptr 0 []), (7, vi b), (10, vi f), (11, vi k)], [.box 156 (.agg [vb g, vi h])], []⟩
theorem e2 : x2 = Ahe := by kernel_rfl
noncomputable def F (x : LB × Int × Int × Int) := Aqb x.1 x.2.1 x.2.2.1 x.2.2.2
theorem rn (x : LB × Int × Int × Int) : H.u P_ x = F x := Eq.trans (b := Amh x2 x.1 x.2.1 x.2.2.1 x.2.2.2) (by kernel_rfl) (by simp only [e2] <;> rfl)
noncomputable def c : Con := ⟨H.p, H.r, F⟩
theorem ok : ConOk P_ Tryz.Av4 173 c := Tryz.co H Tryz.func173 (.cons (F107.ok.mono (.cons _ .slnil)) (.cons (F140.ok.mono (.cons _ .slnil)) (.cons F196.ok (.cons (F197.ok.mono (.cons _ .slnil)) .nil)))) (by kernel_rfl) rn
end F173
namespace F199
noncomputable def H : Hd := ⟨[.agg [Si, Si, Sq, Sq], Su], [Si, Su], .d, ⟨[], Tryz.gl, false⟩, [], Tryz.f199⟩
noncomputable def F (x : Int × Int × UInt64 × UInt64 × UInt32) := Anf x.1 x.2.1 x.2.2.1 x.2.2.2.1 x.2.2.2.2
theorem rn (x : Int × Int × UInt64 × UInt64 × UInt32) : H.u P_ x = F x := by kernel_rfl
noncomputable def c : Con := ⟨H.p, H.r, F⟩
theorem ok : ConOk P_ Tryz.gl 199 c := Tryz.co H Tryz.func199 .nil (by kernel_rfl) rn
end F199
namespace F139
abbrev R_ := (UInt32 × Int × Int × Int × UInt64 × UInt64 × Int)
noncomputable def H : Hd := ⟨[.agg [Sb, Si], Si, .agg [Si, Si, Sq, Sq]], [Su, Si, .agg [Si, Si, Sq, Sq], Si], (.seq .d (.cut [1, 3, 5, 8] [] .d (.seq .d (.seq .d (.cut [5, 6, 7, 8] [] .d (.cut [5, 6, 7, 8] [] (.keep [5, 6, 7, 8, 81] true) .d)))))), ⟨[(107, F107.c), (140, F140.c), (172, F172.c), (173, F173.c), (199, F199.c)], Tryz.Av4, false⟩, [(174, (.seq .d (.seq .d (.seq .d (.blk (.cut [0, 1, 4] [] (.blk (.seq .d (.keep [0, 1, 4, 6, 18, 19, 20, 21, 22, 23, 24, 25] true))) (.cut [] [] (.keep [0, 1, 4, 27, 28, 29, 30, 31, 32, 33, 34] true) .d))))))), (198, .d)], Tryz.f139⟩
def x10 (f : UInt32) (k w m : Int) (a n : UInt64) : Option R_ := H.e P_ [r,r,r,r,r,r] ⟨[(5, .ptr 0 []), (6, vu f), (7, vi k), (8, .ptr 1 [])], [.box 197 (.agg [vi w, vi m, vq (Ae a (Am (Ad f : UInt64) (Db a (GI.toZ (4 : UInt64)).toNat))), vq n]), .box 197 (.agg [vi 0, vi 0, vq 0, vq 0])], []⟩
def x9 (f : UInt32) (k m : Int) (a n : UInt64) (w : Int) : Option R_ := H.e P_ [r,r,r,r,r,l,(call 1 174),r,r,r,d,r,r] ⟨[], [.box 197 (.agg [vi w, vi m, vq (Ae a (Am (Ad f : UInt64) (Db a (GI.toZ (4 : UInt64)).toNat))), vq n]), .box 197 (.agg [vi 0, vi 0, vq 0, vq 0])], [[(5, .ptr 0 []), (6, vu f), (7, vi k), (8, .ptr 1 []), (81, vu f)]]⟩
def x8 (f : UInt32) (k b : Int) (a : UInt64) (m : Int) (n : UInt64) : Option R_ := H.e P_ [r,r,r,r,r,l,(call 1 174),r,r,r,d,r] ⟨[(0, .ptr 0 []), (1, vu f), (4, .fn 198 [])], [.box 197 (.agg [vi b, vi m, vq a, vq n]), .box 197 (.agg [vi 0, vi 0, vq 0, vq 0])], [[(5, .ptr 0 []), (6, vu f), (7, vi k), (8, .ptr 1 []), (81, vu f)]]⟩
def x7 (b h : Int) (a g : UInt64) (f : UInt32) (k : Int) : Option R_ := H.e P_ [r,r,r,r,r] ⟨[(5, .ptr 0 []), (6, vu f), (7, vi k), (8, .ptr 1 [])], [.box 197 (.agg [vi b, vi h, vq a, vq g]), .box 197 (.agg [vi 0, vi 0, vq 0, vq 0])], []⟩
def x6 (p : Int) (u : LB) (v b h : Int) (a g : UInt64) : Option R_ := H.e P_ [r,r] ⟨[(1, vi p), (3, .ptr 0 []), (5, .ptr 1 []), (8, .ptr 2 [])], [.box 156 (.agg [vb u, vi v]), .box 197 (.agg [vi b, vi h, vq a, vq g]), .box 197 (.agg [vi 0, vi 0, vq 0, vq 0])], []⟩
theorem e10 : x10 = Akp := by kernel_rfl
theorem e9 : x9 = Anc := Eq.trans (b := Anp x10) (by kernel_rfl) (by simp only [e10] <;> rfl)
theorem e8 : x8 = Abe := Eq.trans (b := Amq x9) (by kernel_rfl) (by simp only [e9] <;> rfl)
theorem e7 : x7 = Ahg := Eq.trans (b := Ane x8) (by kernel_rfl) (by simp only [e8] <;> rfl)
theorem e6 : x6 = Amb := Eq.trans (b := Ani x7) (by kernel_rfl) (by simp only [e7] <;> rfl)
noncomputable def F (x : LB × Int × Int × Int × Int × UInt64 × UInt64) := Xv x.1 x.2.1 x.2.2.1 x.2.2.2.1 x.2.2.2.2.1 x.2.2.2.2.2.1 x.2.2.2.2.2.2
theorem rn (x : LB × Int × Int × Int × Int × UInt64 × UInt64) : H.u P_ x = F x := Eq.trans (b := Am9 x6 x.1 x.2.1 x.2.2.1 x.2.2.2.1 x.2.2.2.2.1 x.2.2.2.2.2.1 x.2.2.2.2.2.2) (by kernel_rfl) (by simp only [e6] <;> rfl)
noncomputable def c : Con := ⟨H.p, H.r, F⟩
theorem ok : ConOk P_ Tryz.Av4 139 c := Tryz.cr H Tryz.func139 (.cons (F107.ok.mono (.cons _ .slnil)) (.cons (F140.ok.mono (.cons _ .slnil)) (.cons (F172.ok.mono (.cons _ .slnil)) (.cons F173.ok (.cons (F199.ok.mono (.cons _ .slnil)) .nil))))) (AnsOk.cons Tryz.ent174 (AnsOk.cons Tryz.ent198 AnsOk.nil)) (by kernel_rfl) rn
end F139
namespace F106
def Ya (j21 : Int → Int → Int → UInt32 → Int → (List (Int × Int × UInt64 × UInt64 × Unit)) → LU → Int → Int → UInt64 → UInt64 → Option (LU × Int × Int)) (j24 : Int → LU → Option (LU × Int × Int)) (a f : Int) (g : LB) (b k h : Int) (n : List (Int × Int × UInt64 × UInt64 × Unit)) (m : LU) : Option (LU × Int × Int) :=
if (Dh h (Bj f a)) then
(Aoz g b k (Hf (Ae k 81) b)).bind fun (af, ae, ag) =>
if (Cl ag 0) then
some (([] : LU), 0, ag)
else
(Qx (Cl a 0)).bind fun _ =>
(getI n (Jd h a)).bind fun _ =>
both (
both (
(getI n (Jd h a)).bind fun o =>
bo (
(Xv af ae 0 o.1 o.2.1 o.2.2.1 o.2.2.2.1).bind fun (v, u, aa, ab, ac, ad, y) =>
j21 k h y v u n m aa ab ac ad)) [
(getI n (Jd h a)).bind fun o =>
(Xv af ae 0 o.1 o.2.1 o.2.2.1 o.2.2.2.1).bind fun (v, u, aa, ab, ac, ad, y) =>
j21 k h y v u n m aa ab ac ad]) [
(getI n (Jd h a)).bind fun o =>
both (
bo (
(Xv af ae 0 o.1 o.2.1 o.2.2.1 o.2.2.2.1).bind fun (v, u, aa, ab, ac, ad, y) =>
j21 k h y v u n m aa ab ac ad)) [
(Xv af ae 0 o.1 o.2.1 o.2.2.1 o.2.2.2.1).bind fun (v, u, aa, ab, ac, ad, y) =>
j21 k h y v u n m aa ab ac ad],
bo (
(getI n (Jd h a)).bind fun o =>
(Xv af ae 0 o.1 o.2.1 o.2.2.1 o.2.2.2.1).bind fun (v, u, aa, ab, ac, ad, y) =>
j21 k h y v u n m aa ab ac ad)]
else
j24 k m
theorem Ame : @Ya = @Tg := by
  unfold Ya Tg
  repeat (refine funext fun _ => ?_)
  repeat' first
    | with_reducible rfl
    | with_reducible refine Lk ?_ ?_
    | with_reducible refine Lr ?_ ?_ ?_
    | with_reducible refine Lw ?_ ?_ ?_ ?_
    | ((with_reducible refine Te ?_ ?_); focus (intro h; first | (subst h; rfl) | (simp only [h]; rfl) | (simp [Fz, Ac, h]; done)))
    | with_reducible refine Tk fun x => ?_
    | with_reducible refine Aak (fun _ => ?_) (fun _ => ?_)
    | (refine Gu (fun h => by simp only [h, Ta, Ek, Ej, ite_self]) (fun x h => ?_); (try simp only [h, Ek]))
    | (refine Io (fun h => ?_) (fun h => ?_) <;> simp only [h, if_true, if_false, Bool.false_eq_true])
abbrev R_ := (LU × Int × Int)
abbrev K_ := S → Option R_
noncomputable def H : Hd := ⟨[Si, Si, .agg [Sb, Si]], [Ov 92, Si, Si], (.seq .d (.seq .d (.cut [0, 1, 5, 9] [] (.seq .d (.blk (.loop [0, 1, 5, 9, 19] [] .d))) (.seq .d (.seq .d (.cut [11, 12] [] (.seq .d (.blk (.loop [0, 5, 9, 11, 12, 28, 29] [⟨11, [], .own 92 (.int .u32)⟩] (.seq .d (.seq .d (.seq (.blk (.seq .d (.seq .d (.seq .d (.cut [0, 5, 9, 11, 12, 13, 15, 16, 17, 18, 28, 29] [] (.mode false) (.seq .d (.cut [0, 5, 9, 11, 12, 16, 28, 29] [] .d .d))))))) .d)))))) .d)))))), ⟨[(137, F137.c), (138, F138.c), (139, F139.c)], Tryz.Av4, false⟩, [], Tryz.f106⟩
def t16 (a f : Int) (g : LB) (b k h : Int) (n : List (Int × Int × UInt64 × UInt64 × Unit)) (m : LU) : S := ⟨[(0, vi a), (5, .ptr 0 []), (9, .ptr 1 []), (11, .own 2), (12, vi k), (28, vi (Bj f a)), (29, vi h)], [.box 156 (.agg [vb g, vi b]), .box 198 (.val (.vec 6 (.cons (.int .i64) (.cons (.int .i64) (.cons (.int .u64) (.cons (.int .u64) .nil))))) n), Av 92 m], []⟩
def z16 : Nat → S → Option R_ := H.i P_ [r,r,r,r,r,l,r,d]
def t13 (a f : Int) (g : LB) (b w : Int) (p : List (Int × Int × UInt64 × UInt64 × Unit)) : S := ⟨[(0, vi a), (1, vi f), (5, .ptr 0 []), (9, .ptr 1 []), (19, vi w)], [.box 156 (.agg [vb g, vi b]), .box 198 (.val (.vec 6 (.cons (.int .i64) (.cons (.int .i64) (.cons (.int .u64) (.cons (.int .u64) .nil))))) p)], []⟩
def z13 : Nat → S → Option R_ := H.i P_ [r,r,l,r,d]
def x24 (k : Int) (m : LU) : Option R_ := H.e P_ [r,r,r,r,r,r] ⟨[(11, .own 0), (12, vi k)], [Av 92 m], []⟩
def x22 (kn16 : K_) (a f : Int) (g : LB) (b k u : Int) (v : UInt32) (h : Int) (ah : List (Int × Int × UInt64 × UInt64 × Unit)) (m : LU) : Option R_ := H.e P_ [r,r,r,r,r,l,r,d,(lp kn16),r,r,l,d,r,r,r,r,r,r] ⟨[(0, vi a), (5, .ptr 0 []), (9, .ptr 1 []), (11, .own 2), (12, vi (Ae k u)), (16, vu v), (28, vi (Bj f a)), (29, vi h)], [.box 156 (.agg [vb g, vi b]), .box 198 (.val (.vec 6 (.cons (.int .i64) (.cons (.int .i64) (.cons (.int .u64) (.cons (.int .u64) .nil))))) ah), Av 92 m], []⟩
def x21 (kn16 : K_) (a f : Int) (g : LB) (b k h y : Int) (v : UInt32) (u : Int) (n : List (Int × Int × UInt64 × UInt64 × Unit)) (m : LU) (aa ab : Int) (ac ad : UInt64) : Option R_ := H.e P_ [r,r,r,r,r,l,r,d,(lp kn16),r,r,l,d,r,r,r,r] ⟨[(0, vi a), (5, .ptr 0 []), (9, .ptr 1 []), (11, .own 2), (12, vi k), (13, vi h), (15, vi y), (16, vu v), (17, vi u), (18, .ptr 3 []), (28, vi (Bj f a)), (29, vi h)], [.box 156 (.agg [vb g, vi b]), .box 198 (.val (.vec 6 (.cons (.int .i64) (.cons (.int .i64) (.cons (.int .u64) (.cons (.int .u64) .nil))))) n), Av 92 m, .box 197 (.agg [vi aa, vi ab, vq ac, vq ad])], []⟩
def x16 (a f : Int) (g : LB) (b k h : Int) (n : List (Int × Int × UInt64 × UInt64 × Unit)) (m : LU) : Option R_ := H.e P_ [r,r,r,r,r,l,r,d] (t16 a f g b k h n m)
def x15 (a f : Int) (g : LB) (b : Int) (p : List (Int × Int × UInt64 × UInt64 × Unit)) : Option R_ := H.e P_ [r,r,r] ⟨[(0, vi a), (1, vi f), (5, .ptr 0 []), (9, .ptr 1 [])], [.box 156 (.agg [vb g, vi b]), .box 198 (.val (.vec 6 (.cons (.int .i64) (.cons (.int .i64) (.cons (.int .u64) (.cons (.int .u64) .nil))))) p)], []⟩
def x13 (a f : Int) (g : LB) (b w : Int) (p : List (Int × Int × UInt64 × UInt64 × Unit)) : Option R_ := H.e P_ [r,r,l,r,d] (t13 a f g b w p)
theorem e24 : x24 = Ai2 := by kernel_rfl
theorem e22 (kn16 : K_) (a f : Int) (g : LB) (b : Int) : x22 kn16 a f g b = Aaf (fun k h n m => kn16 (t16 a f g b k h n m)) a f g b := by kernel_rfl
theorem e21 (kn16 : K_) (a f : Int) (g : LB) (b : Int) : x21 kn16 a f g b = Sg (fun k h n m => kn16 (t16 a f g b k h n m)) a f g b := Eq.trans (b := Sf (x22 kn16 a f g b) a f g b) (by kernel_rfl) (by simp only [e22] <;> rfl)
theorem i16 (a f : Int) (g : LB) (b : Int) : ∀ (q : Nat) (k h : Int) (n : List (Int × Int × UInt64 × UInt64 × Unit)) (m : LU), z16 q (t16 a f g b k h n m) = Ln a f g b q k h n m :=
 ind (fun _ _ _ _ => by kernel_rfl) fun q ih k h n m => Eq.trans (b := Ya (x21 (z16 q) a f g b) x24 a f g b k h n m) (by kernel_rfl) (by rw [Ame]; simp only [e21, e24, ih] <;> rfl)
theorem e16 : x16 = Aip := by funext a f g b k h n m; exact Eq.trans (by kernel_rfl) ((i16 a f g b Bn k h n m).trans (by rw [Al]; rfl))
theorem e15 : x15 = Zv := Eq.trans (b := Aiv x16) (by kernel_rfl) (by simp only [e16] <;> rfl)
theorem i13 (a f : Int) (g : LB) (b : Int) : ∀ (q : Nat) (w : Int) (p : List (Int × Int × UInt64 × UInt64 × Unit)), z13 q (t13 a f g b w p) = Zx a f g b q w p :=
 ind (fun _ _ => by kernel_rfl) fun q ih w p => Eq.trans (b := Ajc x15 (fun w p => (z13 q) (t13 a f g b w p)) a f g b w p) (by kernel_rfl) (by simp only [e15, ih] <;> rfl)
theorem e13 : x13 = Tf := by funext a f g b w p; exact Eq.trans (by kernel_rfl) ((i13 a f g b Bn w p).trans (by rw [Al]; rfl))
noncomputable def F (x : Int × Int × LB × Int) := Acw x.1 x.2.1 x.2.2.1 x.2.2.2
theorem rn (x : Int × Int × LB × Int) : H.u P_ x = F x := Eq.trans (b := Ac4 x13 x.1 x.2.1 x.2.2.1 x.2.2.2) (by kernel_rfl) (by simp only [e13] <;> rfl)
noncomputable def c : Con := ⟨H.p, H.r, F⟩
theorem ok : ConOk P_ Tryz.Av4 106 c := Tryz.co H Tryz.func106 (.cons (F137.ok.mono (.cons _ .slnil)) (.cons (F138.ok.mono (.cons _ .slnil)) (.cons F139.ok .nil))) (by kernel_rfl) rn
end F106
namespace F175
abbrev R_ := (Int × LX × LX × Int)
noncomputable def H : Hd := ⟨[Si, .lf (.vec 16 (.int .i32)) none], [.agg [Si, .lf (.vec 16 (.int .i32)) none, .lf (.vec 16 (.int .i32)) none], Si], (.seq .d (.seq .d (.seq (.seq .d (.blk (.cut [4, 6, 9, 11] [] .d .d))) .d))), ⟨[], Tryz.gl, false⟩, [], Tryz.f175⟩
def x2 (a : Int) (b : LX) (f : Bool) : Option R_ := H.e P_ [r,r,l,r,d,r] ⟨[(4, .ptr 0 []), (6, .ptr 1 []), (9, vi a), (11, vt f)], [.box 206 (.agg [vi 0, .val (.vec 16 (.int .i32)) (List.replicate 16 (0 : Int32)), .val (.vec 16 (.int .i32)) (List.replicate 16 (0 : Int32))]), .box 206 (.agg [vi 10, .val (.vec 16 (.int .i32)) b, .val (.vec 16 (.int .i32)) (List.replicate 16 (0 : Int32))])], []⟩
theorem e2 : x2 = Avp := by kernel_rfl
noncomputable def F (x : Int × LX) := Ath x.1 x.2
theorem rn (x : Int × LX) : H.u P_ x = F x := Eq.trans (b := Au3 x2 x.1 x.2) (by kernel_rfl) (by simp only [e2] <;> rfl)
noncomputable def c : Con := ⟨H.p, H.r, F⟩
theorem ok : ConOk P_ Tryz.gl 175 c := Tryz.co H Tryz.func175 .nil (by kernel_rfl) rn
end F175
namespace F142
noncomputable def H : Hd := ⟨[Si, .lf (.vec 16 (.int .i32)) none], [.agg [Si, Sx, .agg [Si, .lf (.vec 16 (.int .i32)) none, .lf (.vec 16 (.int .i32)) none]], Si], .d, ⟨[(175, F175.c)], Tryz.gl, false⟩, [], Tryz.f142⟩
noncomputable def F (x : Int × LX) := Bam x.1 x.2
theorem rn (x : Int × LX) : H.u P_ x = F x := by kernel_rfl
noncomputable def c : Con := ⟨H.p, H.r, F⟩
theorem ok : ConOk P_ Tryz.gl 142 c := Tryz.co H Tryz.func142 (.cons F175.ok .nil) (by kernel_rfl) rn
end F142
namespace F144
noncomputable def H : Hd := ⟨[Su], [Sx], .d, ⟨[], Tryz.gl, false⟩, [], Tryz.f144⟩
noncomputable def F (x : UInt32) := Xr x
theorem rn (x : UInt32) : H.u P_ x = F x := by kernel_rfl
noncomputable def c : Con := ⟨H.p, H.r, F⟩
theorem ok : ConOk P_ Tryz.gl 144 c := Tryz.co H Tryz.func144 .nil (by kernel_rfl) rn
end F144
namespace F176
noncomputable def H : Hd := ⟨[.agg [Si, Sx, .agg [Si, .lf (.vec 16 (.int .i32)) none, .lf (.vec 16 (.int .i32)) none]]], [Si], .d, ⟨[(175, F175.c)], Tryz.gl, false⟩, [], Tryz.f176⟩
noncomputable def F (x : Int × Int32 × Int × LX × LX) := Afr x.1 x.2.1 x.2.2.1 x.2.2.2.1 x.2.2.2.2
theorem rn (x : Int × Int32 × Int × LX × LX) : H.u P_ x = F x := by kernel_rfl
noncomputable def c : Con := ⟨H.p, H.r, F⟩
theorem ok : ConOk P_ Tryz.gl 176 c := Tryz.co H Tryz.func176 (.cons F175.ok .nil) (by kernel_rfl) rn
end F176
namespace F200
noncomputable def H : Hd := ⟨[Si], [Si, Si], .d, ⟨[], Tryz.gl, false⟩, [], Tryz.f200⟩
noncomputable def F (x : Int) := Apd x
theorem rn (x : Int) : H.u P_ x = F x := by kernel_rfl
noncomputable def c : Con := ⟨H.p, H.r, F⟩
theorem ok : ConOk P_ Tryz.gl 200 c := Tryz.co H Tryz.func200 .nil (by kernel_rfl) rn
end F200
namespace F201
noncomputable def H : Hd := ⟨[Si, Sx], [Sx], .d, ⟨[], Tryz.gl, false⟩, [], Tryz.f201⟩
noncomputable def F (x : Int × Int32) := Ajv x.1 x.2
theorem rn (x : Int × Int32) : H.u P_ x = F x := by kernel_rfl
noncomputable def c : Con := ⟨H.p, H.r, F⟩
theorem ok : ConOk P_ Tryz.gl 201 c := Tryz.co H Tryz.func201 .nil (by kernel_rfl) rn
end F201
namespace F177
noncomputable def H : Hd := ⟨[Si, Sx], [Sx, Si], .d, ⟨[(200, F200.c), (201, F201.c)], Tryz.gl, false⟩, [], Tryz.f177⟩
noncomputable def F (x : Int × Int32) := Afb x.1 x.2
theorem rn (x : Int × Int32) : H.u P_ x = F x := by kernel_rfl
noncomputable def c : Con := ⟨H.p, H.r, F⟩
theorem ok : ConOk P_ Tryz.gl 177 c := Tryz.co H Tryz.func177 (.cons F200.ok (.cons F201.ok .nil)) (by kernel_rfl) rn
end F177
namespace F216
noncomputable def H : Hd := ⟨[.agg [Si, .lf (.vec 16 (.int .i32)) none, .lf (.vec 16 (.int .i32)) none]], [Si], .d, ⟨[], Tryz.gl, false⟩, [], Tryz.f216⟩
noncomputable def F (x : Int × LX × LX) := Ad9 x.1 x.2.1 x.2.2
theorem rn (x : Int × LX × LX) : H.u P_ x = F x := by kernel_rfl
noncomputable def c : Con := ⟨H.p, H.r, F⟩
theorem ok : ConOk P_ Tryz.gl 216 c := Tryz.co H Tryz.func216 .nil (by kernel_rfl) rn
end F216
namespace F202
abbrev R_ := (Int32 × Int)
noncomputable def H : Hd := ⟨[.agg [Si, .lf (.vec 16 (.int .i32)) none, .lf (.vec 16 (.int .i32)) none]], [Sx, Si], (.seq .d (.seq .d (.seq .d (.cut [1, 5] [] (.seq .d (.blk (.loop [1, 5, 18, 19] [] .d))) .d)))), ⟨[(216, F216.c)], Tryz.gl, false⟩, [], Tryz.f202⟩
def t4 (b : LX) (a : Int) (f : LX) (g : Int32) (h : Int) : S := ⟨[(1, .ptr 0 []), (5, vx g), (18, .val (.vec 16 (.int .i32)) b), (19, vi h)], [.box 206 (.agg [vi a, .val (.vec 16 (.int .i32)) b, .val (.vec 16 (.int .i32)) f])], []⟩
def z4 : Nat → S → Option R_ := H.i P_ [r,r,r,l,r,d]
def x6 (g : Int32) (a : Int) (b f : LX) : Option R_ := H.e P_ [r,r,r,r] ⟨[(1, .ptr 0 []), (5, vx g)], [.box 206 (.agg [vi a, .val (.vec 16 (.int .i32)) b, .val (.vec 16 (.int .i32)) f])], []⟩
def x4 (b : LX) (a : Int) (f : LX) (g : Int32) (h : Int) : Option R_ := H.e P_ [r,r,r,l,r,d] (t4 b a f g h)
theorem e6 : x6 = Akm := by kernel_rfl
theorem i4 (b : LX) (a : Int) (f : LX) : ∀ (q : Nat) (g : Int32) (h : Int), z4 q (t4 b a f g h) = Tu b a f q g h :=
 ind (fun _ _ => by kernel_rfl) fun q ih g h => Eq.trans (b := Aer x6 (fun g h => (z4 q) (t4 b a f g h)) b a f g h) (by kernel_rfl) (by simp only [e6, ih] <;> rfl)
theorem e4 : x4 = Akf := by funext b a f g h; exact Eq.trans (by kernel_rfl) ((i4 b a f Bn g h).trans (by rw [Al]; rfl))
noncomputable def F (x : Int × LX × LX) := Amk x.1 x.2.1 x.2.2
theorem rn (x : Int × LX × LX) : H.u P_ x = F x := Eq.trans (b := Aki x4 x.1 x.2.1 x.2.2) (by kernel_rfl) (by simp only [e4] <;> rfl)
noncomputable def c : Con := ⟨H.p, H.r, F⟩
theorem ok : ConOk P_ Tryz.gl 202 c := Tryz.co H Tryz.func202 (.cons F216.ok .nil) (by kernel_rfl) rn
end F202
namespace F222
noncomputable def H : Hd := ⟨[Si], [Sx], .d, ⟨[], Tryz.gl, false⟩, [], Tryz.f222⟩
noncomputable def F (x : Int) := Aln x
theorem rn (x : Int) : H.u P_ x = F x := by kernel_rfl
noncomputable def c : Con := ⟨H.p, H.r, F⟩
theorem ok : ConOk P_ Tryz.gl 222 c := Tryz.co H Tryz.func222 .nil (by kernel_rfl) rn
end F222
namespace F217
abbrev R_ := (Int × LX × LX × Int)
noncomputable def H : Hd := ⟨[.agg [Si, .lf (.vec 16 (.int .i32)) none, .lf (.vec 16 (.int .i32)) none], Sx], [.agg [Si, .lf (.vec 16 (.int .i32)) none, .lf (.vec 16 (.int .i32)) none], Si], (.seq .d (.seq .d (.seq .d (.cut [2, 4] [] (.seq .d (.blk (.loop [1, 2, 4, 19, 20] [] .d))) .d)))), ⟨[(216, F216.c), (222, F222.c)], Tryz.gl, false⟩, [], Tryz.f217⟩
def t4 (h : Int32) (f : LX) (g a : Int) (b : LX) : S := ⟨[(1, vx h), (2, .ptr 0 []), (4, .ptr 1 []), (19, .val (.vec 16 (.int .i32)) f), (20, vi a)], [.box 206 (.agg [vi g, .val (.vec 16 (.int .i32)) b, .val (.vec 16 (.int .i32)) f]), .box 206 (.agg [vi 0, .val (.vec 16 (.int .i32)) (List.replicate 16 (0 : Int32)), .val (.vec 16 (.int .i32)) (List.replicate 16 (0 : Int32))])], []⟩
def z4 : Nat → S → Option R_ := H.i P_ [r,r,r,l,r,d]
def x6 (g : Int) (b f : LX) : Option R_ := H.e P_ [r,r,r,r] ⟨[(2, .ptr 0 []), (4, .ptr 1 [])], [.box 206 (.agg [vi g, .val (.vec 16 (.int .i32)) b, .val (.vec 16 (.int .i32)) f]), .box 206 (.agg [vi 0, .val (.vec 16 (.int .i32)) (List.replicate 16 (0 : Int32)), .val (.vec 16 (.int .i32)) (List.replicate 16 (0 : Int32))])], []⟩
def x4 (h : Int32) (f : LX) (g a : Int) (b : LX) : Option R_ := H.e P_ [r,r,r,l,r,d] (t4 h f g a b)
theorem e6 : x6 = Aq2 := by kernel_rfl
theorem i4 (h : Int32) (f : LX) (g : Int) : ∀ (q : Nat) (a : Int) (b : LX), z4 q (t4 h f g a b) = Tx h f g q a b :=
 ind (fun _ _ => by kernel_rfl) fun q ih a b => Eq.trans (b := Aes x6 (fun a b => (z4 q) (t4 h f g a b)) h f g a b) (by kernel_rfl) (by simp only [e6, ih] <;> rfl)
theorem e4 : x4 = Aqz := by funext h f g a b; exact Eq.trans (by kernel_rfl) ((i4 h f g Bn a b).trans (by rw [Al]; rfl))
noncomputable def F (x : Int × LX × LX × Int32) := Amp x.1 x.2.1 x.2.2.1 x.2.2.2
theorem rn (x : Int × LX × LX × Int32) : H.u P_ x = F x := Eq.trans (b := Akn x4 x.1 x.2.1 x.2.2.1 x.2.2.2) (by kernel_rfl) (by simp only [e4] <;> rfl)
noncomputable def c : Con := ⟨H.p, H.r, F⟩
theorem ok : ConOk P_ Tryz.gl 217 c := Tryz.co H Tryz.func217 (.cons F216.ok (.cons F222.ok .nil)) (by kernel_rfl) rn
end F217
namespace F218
def Akz (j2 : Int32 → Int → LX → LX → Option (Int × LX × LX × Int)) (b : Int) (f a : LX) (g : Int32) : Option (Int × LX × LX × Int) :=
(Ad9 b f a).bind fun h =>
if (Cl h 0) then
some (0, (List.replicate 16 (0 : Int32)), (List.replicate 16 (0 : Int32)), h)
else
both (
(vwI 16 1 16).bind fun _ =>
(vwI 16 0 16).bind fun _ =>
j2 g b f a) [
(vwI 16 0 16).bind fun _ =>
(vwI 16 1 16).bind fun _ =>
j2 g b f a]
theorem Aty : @Akz = @Ahh := by
  unfold Akz Ahh
  repeat (refine funext fun _ => ?_)
  repeat' first
    | with_reducible rfl
    | with_reducible refine Lk ?_ ?_
    | with_reducible refine Lr ?_ ?_ ?_
    | with_reducible refine Lw ?_ ?_ ?_ ?_
    | ((with_reducible refine Te ?_ ?_); focus (intro h; first | (subst h; rfl) | (simp only [h]; rfl) | (simp [Fz, Ac, h]; done)))
    | with_reducible refine Tk fun x => ?_
    | with_reducible refine Aak (fun _ => ?_) (fun _ => ?_)
    | (refine Gu (fun h => by simp only [h, Ta, Ek, Ej, ite_self]) (fun x h => ?_); (try simp only [h, Ek]))
    | (refine Io (fun h => ?_) (fun h => ?_) <;> simp only [h, if_true, if_false, Bool.false_eq_true])
abbrev R_ := (Int × LX × LX × Int)
noncomputable def H : Hd := ⟨[.agg [Si, .lf (.vec 16 (.int .i32)) none, .lf (.vec 16 (.int .i32)) none], Sx], [.agg [Si, .lf (.vec 16 (.int .i32)) none, .lf (.vec 16 (.int .i32)) none], Si], (.seq .d (.seq .d (.cut [1, 2, 4] [] .d .d))), ⟨[(216, F216.c)], Tryz.gl, false⟩, [], Tryz.f218⟩
def x2 (g : Int32) (b : Int) (f a : LX) : Option R_ := H.e P_ [r,r,r] ⟨[(1, vx g), (2, .ptr 0 []), (4, .ptr 1 [])], [.box 206 (.agg [vi b, .val (.vec 16 (.int .i32)) f, .val (.vec 16 (.int .i32)) (Uc a (1 : Int) ((16 : Int) - (1 : Int)) (Ak3 a (0 : Int) ((16 : Int) - (0 : Int))))]), .box 206 (.agg [vi 0, .val (.vec 16 (.int .i32)) (List.replicate 16 (0 : Int32)), .val (.vec 16 (.int .i32)) (List.replicate 16 (0 : Int32))])], []⟩
theorem e2 : x2 = Ann := by kernel_rfl
noncomputable def F (x : Int × LX × LX × Int32) := Aqm x.1 x.2.1 x.2.2.1 x.2.2.2
theorem rn (x : Int × LX × LX × Int32) : H.u P_ x = F x := Eq.trans (b := Akz x2 x.1 x.2.1 x.2.2.1 x.2.2.2) (by kernel_rfl) (by rw [Aty]; simp only [e2] <;> rfl)
noncomputable def c : Con := ⟨H.p, H.r, F⟩
theorem ok : ConOk P_ Tryz.gl 218 c := Tryz.co H Tryz.func218 (.cons F216.ok .nil) (by kernel_rfl) rn
end F218
namespace F203
noncomputable def H : Hd := ⟨[.agg [Si, .lf (.vec 16 (.int .i32)) none, .lf (.vec 16 (.int .i32)) none], Sx, Sx], [.agg [Si, .lf (.vec 16 (.int .i32)) none, .lf (.vec 16 (.int .i32)) none]], .d, ⟨[(217, F217.c), (218, F218.c)], Tryz.gl, false⟩, [], Tryz.f203⟩
noncomputable def F (x : Int × LX × LX × Int32 × Int32) := Aro x.1 x.2.1 x.2.2.1 x.2.2.2.1 x.2.2.2.2
theorem rn (x : Int × LX × LX × Int32 × Int32) : H.u P_ x = F x := by kernel_rfl
noncomputable def c : Con := ⟨H.p, H.r, F⟩
theorem ok : ConOk P_ Tryz.gl 203 c := Tryz.co H Tryz.func203 (.cons F217.ok (.cons F218.ok .nil)) (by kernel_rfl) rn
end F203
namespace F178
noncomputable def H : Hd := ⟨[.agg [Si, .lf (.vec 16 (.int .i32)) none, .lf (.vec 16 (.int .i32)) none], Sx], [Sx, .agg [Si, .lf (.vec 16 (.int .i32)) none, .lf (.vec 16 (.int .i32)) none], Si], .d, ⟨[(202, F202.c), (203, F203.c)], Tryz.gl, false⟩, [], Tryz.f178⟩
noncomputable def F (x : Int × LX × LX × Int32) := Apf x.1 x.2.1 x.2.2.1 x.2.2.2
theorem rn (x : Int × LX × LX × Int32) : H.u P_ x = F x := by kernel_rfl
noncomputable def c : Con := ⟨H.p, H.r, F⟩
theorem ok : ConOk P_ Tryz.gl 178 c := Tryz.co H Tryz.func178 (.cons F202.ok (.cons F203.ok .nil)) (by kernel_rfl) rn
end F178
namespace F143
def Ajf (a : Int) (b : Int32) (f : Int) (g h : LX) (o : Int32) : Option (Int32 × Int × Int32 × Int × LX × LX × Int) :=
(Afr a b f g h).bind fun k =>
if (Cl k 0) then
some (0, 0, 0, 0, (List.replicate 16 (0 : Int32)), (List.replicate 16 (0 : Int32)), k)
else
(Afb a b).bind fun (m, y) =>
(Apf f g h o).bind fun (n, p, u, v, w) =>
bo (
some ((Ae n m), a, (Ae n m), p, u, v, w))
theorem As0 : @Ajf = @Kc := by
  unfold Ajf Kc
  simp only [Bjk, Bcr, Bcn]
noncomputable def H : Hd := ⟨[.agg [Si, Sx, .agg [Si, .lf (.vec 16 (.int .i32)) none, .lf (.vec 16 (.int .i32)) none]], Sx], [Sx, .agg [Si, Sx, .agg [Si, .lf (.vec 16 (.int .i32)) none, .lf (.vec 16 (.int .i32)) none]], Si], (.seq .d (.seq .d (.seq .d (.seq .d (.seq (.mode false) .d))))), ⟨[(176, F176.c), (177, F177.c), (178, F178.c)], Tryz.gl, false⟩, [], Tryz.f143⟩
noncomputable def F (x : Int × Int32 × Int × LX × LX × Int32) := Kc x.1 x.2.1 x.2.2.1 x.2.2.2.1 x.2.2.2.2.1 x.2.2.2.2.2
theorem rn (x : Int × Int32 × Int × LX × LX × Int32) : H.u P_ x = F x := Eq.trans (b := Ajf x.1 x.2.1 x.2.2.1 x.2.2.2.1 x.2.2.2.2.1 x.2.2.2.2.2) (by kernel_rfl) (by rw [As0]; rfl)
noncomputable def c : Con := ⟨H.p, H.r, F⟩
theorem ok : ConOk P_ Tryz.gl 143 c := Tryz.co H Tryz.func143 (.cons F176.ok (.cons F177.ok (.cons F178.ok .nil))) (by kernel_rfl) rn
end F143
namespace F179
noncomputable def H : Hd := ⟨[Si, Sw], [Si], .d, ⟨[], Tryz.gl, false⟩, [], Tryz.f179⟩
noncomputable def F (x : Int × LX) := Aqn x.1 x.2
theorem rn (x : Int × LX) : H.u P_ x = F x := by kernel_rfl
noncomputable def c : Con := ⟨H.p, H.r, F⟩
theorem ok : ConOk P_ Tryz.gl 179 c := Tryz.co H Tryz.func179 .nil (by kernel_rfl) rn
end F179
namespace F180
def Kh (a : LX) : Option (LX) :=
Bd8 a (
some ([] : LX)) (
(Fz ([] : LX) a).bind fun b =>
some b)
theorem Ac7 : @Kh = @Gm := by
  unfold Kh Gm
  repeat (refine funext fun _ => ?_)
  repeat' first
    | with_reducible rfl
    | with_reducible refine Lk ?_ ?_
    | with_reducible refine Lr ?_ ?_ ?_
    | with_reducible refine Lw ?_ ?_ ?_ ?_
    | ((with_reducible refine Te ?_ ?_); focus (intro h; first | (subst h; rfl) | (simp only [h]; rfl) | (simp [Fz, Ac, h]; done)))
    | with_reducible refine Tk fun x => ?_
    | with_reducible refine Aak (fun _ => ?_) (fun _ => ?_)
    | (refine Gu (fun h => by simp only [h, Ta, Ek, Ej, ite_self]) (fun x h => ?_); (try simp only [h, Ek]))
    | (refine Io (fun h => ?_) (fun h => ?_) <;> simp only [h, if_true, if_false, Bool.false_eq_true])
noncomputable def H : Hd := ⟨[Sw], [Ow 21], .d, ⟨[], Tryz.gl, false⟩, [], Tryz.f180⟩
noncomputable def F (x : LX) := Gm x
theorem rn (x : LX) : H.u P_ x = F x := Eq.trans (b := Kh x) (by kernel_rfl) (by rw [Ac7]; rfl)
noncomputable def c : Con := ⟨H.p, H.r, F⟩
theorem ok : ConOk P_ Tryz.gl 180 c := Tryz.co H Tryz.func180 .nil (by kernel_rfl) rn
end F180
namespace F145
abbrev R_ := (LX × Int)
abbrev K_ := S → Option R_
noncomputable def H : Hd := ⟨[Si, Sw], [Ow 21, Si], (.seq .d (.seq .d (.seq .d (.cut [7] [] (.seq .d (.blk (.loop [0, 7, 8] [] (.seq .d (.cut [0, 7, 8] [] (.blk (.keep [0, 7, 8, 24, 25, 26, 27, 28, 29] true)) .d))))) .d)))), ⟨[(179, F179.c), (180, F180.c)], Tryz.gl, true⟩, [(181, (.seq .d (.cut [0, 2] [] .d (.seq .d (.blk (.loop [0, 3] [] .d))))))], Tryz.f145⟩
def t18 (b a g : Int) (h : LX) : S := ⟨[(0, .view true 0 [] (.int .i32) a ((Ae a b) - a)), (3, vi g)], [Aw 21 h], [[(0, vi b), (7, .own 0), (8, vi a), (24, .own 0), (25, vi a), (26, vi a), (27, vi b), (28, vi (Ae a b)), (29, .view true 0 [] (.int .i32) a ((Ae a b) - a))]]⟩
def z18 (kn12 : K_) : Nat → S → Option R_ := H.i P_ [r,r,r,l,r,d,(lp kn12),r,l,d,(call 6 181),r,r,r,d]
def t12 (b a : Int) (f : LX) : S := ⟨[(0, vi b), (7, .own 0), (8, vi a)], [Aw 21 f], []⟩
def z12 : Nat → S → Option R_ := H.i P_ [r,r,r,l,r,d]
def x22 (f : LX) : Option R_ := H.e P_ [r,r,r,r] ⟨[(7, .own 0)], [Aw 21 f], []⟩
def x20 (kn12 : K_) (b a : Int) (h : LX) : Option R_ := H.e P_ [r,r,r,l,r,d,(lp kn12),r,r] ⟨[(0, vi b), (7, .own 0), (8, vi a)], [Aw 21 h], []⟩
def x18 (kn12 : K_) (b a g : Int) (h : LX) : Option R_ := H.e P_ [r,r,r,l,r,d,(lp kn12),r,l,d,(call 6 181),r,r,r,d] (t18 b a g h)
def x17 (kn12 : K_) (b a : Int) (k : LX) : Option R_ := H.e P_ [r,r,r,l,r,d,(lp kn12),r,l,d,(call 6 181),r,r] ⟨[(0, .view true 0 [] (.int .i32) a ((Ae a b) - a)), (2, vi (Am ((Ae a b) - a) (1 : Int)))], [Aw 21 k], [[(0, vi b), (7, .own 0), (8, vi a), (24, .own 0), (25, vi a), (26, vi a), (27, vi b), (28, vi (Ae a b)), (29, .view true 0 [] (.int .i32) a ((Ae a b) - a))]]⟩
def x12 (b a : Int) (f : LX) : Option R_ := H.e P_ [r,r,r,l,r,d] (t12 b a f)
theorem e22 : x22 = Att := by kernel_rfl
theorem e20 (kn12 : K_) (b : Int) : x20 kn12 b = Amw (fun a f => kn12 (t12 b a f)) b := by kernel_rfl
theorem i18 (kn12 : K_) (b a : Int) : ∀ (q : Nat) (g : Int) (h : LX), z18 kn12 q (t18 b a g h) = Xm (fun a f => kn12 (t12 b a f)) b a q g h :=
 ind (fun _ _ => by kernel_rfl) fun q ih g h => Eq.trans (b := Ahf (x20 kn12 b) (fun g h => (z18 kn12 q) (t18 b a g h)) b a g h) (by kernel_rfl) (by simp only [e20, ih] <;> rfl)
theorem e18 (kn12 : K_) (b : Int) : x18 kn12 b = Anm (fun a f => kn12 (t12 b a f)) b := by funext a g h; exact Eq.trans (by kernel_rfl) ((i18 kn12 b a Bn g h).trans (by rw [Al]; rfl))
theorem e17 (kn12 : K_) (b : Int) : x17 kn12 b = Ag5 (fun a f => kn12 (t12 b a f)) b := Eq.trans (b := Am4 (x18 kn12 b) b) (by kernel_rfl) (by simp only [e18] <;> rfl)
theorem i12 (b : Int) : ∀ (q : Nat) (a : Int) (f : LX), z12 q (t12 b a f) = Tl b q a f :=
 ind (fun _ _ => by kernel_rfl) fun q ih a f => Eq.trans (b := Ang (x17 (z12 q) b) x22 b a f) (by kernel_rfl) (by simp only [e17, e22, ih] <;> rfl)
theorem e12 : x12 = Ama := by funext b a f; exact Eq.trans (by kernel_rfl) ((i12 b Bn a f).trans (by rw [Al]; rfl))
noncomputable def F (x : Int × LX) := Ato x.1 x.2
theorem rn (x : Int × LX) : H.u P_ x = F x := Eq.trans (b := Aph x12 x.1 x.2) (by kernel_rfl) (by simp only [e12] <;> rfl)
noncomputable def c : Con := ⟨H.p, H.r, F⟩
theorem ok : ConOk P_ Tryz.gl 145 c := Tryz.cr H Tryz.func145 (.cons F179.ok (.cons F180.ok .nil)) (AnsOk.cons Tryz.ent181 AnsOk.nil) (by kernel_rfl) rn
end F145
namespace F109
abbrev R_ := Int
noncomputable def H : Hd := ⟨[Si, Sw], [Si], (.seq .d (.seq .d (.seq .d (.seq .d (.cut [] [] (.seq .d (.blk (.loop [5, 6, 22, 23, 24] [] .d))) .d))))), ⟨[(119, F119.c)], Tryz.gl, false⟩, [], Tryz.f109⟩
def t4 (b f : Int32) (a : LX) (g : Int) : S := ⟨[(5, vx b), (6, vx f), (22, vw a), (23, vi (Ac a)), (24, vi g)], [], []⟩
def z4 : Nat → S → Option R_ := H.i P_ [r,r,r,r,l,r,d]
def x6 : Option R_ := H.e P_ [r,r,r,r,r] ⟨[], [], []⟩
def x4 (b f : Int32) (a : LX) (g : Int) : Option R_ := H.e P_ [r,r,r,r,l,r,d] (t4 b f a g)
theorem e6 : x6 = Apo := by kernel_rfl
theorem i4 (b f : Int32) (a : LX) : ∀ (q : Nat) (g : Int), z4 q (t4 b f a g) = Re b f a q g :=
 ind (fun _ => by kernel_rfl) fun q ih g => Eq.trans (b := Abt x6 (fun g => (z4 q) (t4 b f a g)) b f a g) (by kernel_rfl) (by simp only [e6, ih] <;> rfl)
theorem e4 : x4 = Aom := by funext b f a g; exact Eq.trans (by kernel_rfl) ((i4 b f a Bn g).trans (by rw [Al]; rfl))
noncomputable def F (x : Int × LX) := Ae6 x.1 x.2
theorem rn (x : Int × LX) : H.u P_ x = F x := Eq.trans (b := Aiw x4 x.1 x.2) (by kernel_rfl) (by simp only [e4] <;> rfl)
noncomputable def c : Con := ⟨H.p, H.r, F⟩
theorem ok : ConOk P_ Tryz.gl 109 c := Tryz.co H Tryz.func109 (.cons F119.ok .nil) (by kernel_rfl) rn
end F109
namespace F108
def Xh (j16 : Int → Int32 → Int → (List (Int × Int32 × (Int × LX × LX × Unit) × Unit)) → LX → Int → Int32 → Int → LX → LX → Option (LX × Int)) (j18 : Int → Int → LX → Option (LX × Int)) (f : LU) (a b g : Int) (h : List (Int × Int32 × (Int × LX × LX × Unit) × Unit)) (k : LX) : Option (LX × Int) :=
if (Dh g (Ac f)) then
(getI f g).bind fun ag =>
(Qx (Cl a 0)).bind fun _ =>
(getI h (Jd g a)).bind fun _ =>
both (
(getI h (Jd g a)).bind fun m =>
both (
(Xr ag).bind fun ae =>
bo (
(Kc m.1 m.2.1 m.2.2.1.1 m.2.2.1.2.1 m.2.2.1.2.2.1 ae).bind fun (w, y, v, aa, ab, ac, u) =>
j16 g w u h k y v aa ab ac)) [
(Xr ag).bind fun ae =>
(Kc m.1 m.2.1 m.2.2.1.1 m.2.2.1.2.1 m.2.2.1.2.2.1 ae).bind fun (w, y, v, aa, ab, ac, u) =>
j16 g w u h k y v aa ab ac]) [
(Xr ag).bind fun af =>
both (
(getI h (Jd g a)).bind fun ad =>
bo (
(Kc ad.1 ad.2.1 ad.2.2.1.1 ad.2.2.1.2.1 ad.2.2.1.2.2.1 af).bind fun (w, y, v, aa, ab, ac, u) =>
j16 g w u h k y v aa ab ac)) [
(getI h (Jd g a)).bind fun ad =>
(Kc ad.1 ad.2.1 ad.2.2.1.1 ad.2.2.1.2.1 ad.2.2.1.2.2.1 af).bind fun (w, y, v, aa, ab, ac, u) =>
j16 g w u h k y v aa ab ac],
both (
(getI h (Jd g a)).bind fun m =>
(Xr ag).bind fun ae =>
(Kc m.1 m.2.1 m.2.2.1.1 m.2.2.1.2.1 m.2.2.1.2.2.1 ae).bind fun (w, y, v, aa, ab, ac, u) =>
j16 g w u h k y v aa ab ac) [
(Xr ag).bind fun af =>
(getI h (Jd g a)).bind fun ad =>
(Kc ad.1 ad.2.1 ad.2.2.1.1 ad.2.2.1.2.1 ad.2.2.1.2.2.1 af).bind fun (w, y, v, aa, ab, ac, u) =>
j16 g w u h k y v aa ab ac]]
else
j18 a b k
theorem Aly : @Xh = @Kk := by
  unfold Xh Kk
  repeat (refine funext fun _ => ?_)
  repeat' first
    | with_reducible rfl
    | with_reducible refine Lk ?_ ?_
    | with_reducible refine Lr ?_ ?_ ?_
    | with_reducible refine Lw ?_ ?_ ?_ ?_
    | ((with_reducible refine Te ?_ ?_); focus (intro h; first | (subst h; rfl) | (simp only [h]; rfl) | (simp [Fz, Ac, h]; done)))
    | with_reducible refine Tk fun x => ?_
    | with_reducible refine Aak (fun _ => ?_) (fun _ => ?_)
    | (refine Gu (fun h => by simp only [h, Ta, Ek, Ej, ite_self]) (fun x h => ?_); (try simp only [h, Ek]))
    | (refine Io (fun h => ?_) (fun h => ?_) <;> simp only [h, if_true, if_false, Bool.false_eq_true])
abbrev R_ := (LX × Int)
abbrev K_ := S → Option R_
noncomputable def H : Hd := ⟨[.agg [Si, Si], .lf (.vec 16 (.int .i32)) none, Sv], [Ow 21, Si], (.seq .d (.seq .d (.cut [2, 3, 8] [] (.seq .d (.blk (.loop [2, 3, 4, 8, 20] [] .d))) (.seq .d (.cut [3, 10] [] (.seq .d (.blk (.loop [3, 8, 10, 33, 34, 35] [⟨10, [], .own 21 (.int .i32)⟩] (.seq .d (.seq .d (.seq (.blk (.seq .d (.seq .d (.cut [3, 8, 10, 13, 14, 15, 16, 33, 34, 35] [] (.mode false) .d)))) .d)))))) .d))))), ⟨[(109, F109.c), (142, F142.c), (143, F143.c), (144, F144.c), (145, F145.c)], Tryz.gl, false⟩, [], Tryz.f108⟩
def t13 (f : LU) (a b g : Int) (h : List (Int × Int32 × (Int × LX × LX × Unit) × Unit)) (k : LX) : S := ⟨[(3, .ptr 0 []), (8, .ptr 1 []), (10, .own 2), (33, vv f), (34, vi (Ac f)), (35, vi g)], [.box 77 (.agg [vi a, vi b]), .box 209 (.val (.vec 6 (.cons (.int .i64) (.cons (.int .i32) (.cons (.cons (.int .i64) (.cons (.vec 16 (.int .i32)) (.cons (.vec 16 (.int .i32)) .nil))) .nil)))) h), Aw 21 k], []⟩
def z13 : Nat → S → Option R_ := H.i P_ [r,r,r,r,l,r,d]
def t10 (f : LU) (a b : Int) (o : LX) (p : Int) (n : List (Int × Int32 × (Int × LX × LX × Unit) × Unit)) : S := ⟨[(2, vv f), (3, .ptr 0 []), (4, .ptr 1 []), (8, .ptr 2 []), (20, vi p)], [.box 77 (.agg [vi a, vi b]), .box 109 (.val (.vec 16 (.int .i32)) o), .box 209 (.val (.vec 6 (.cons (.int .i64) (.cons (.int .i32) (.cons (.cons (.int .i64) (.cons (.vec 16 (.int .i32)) (.cons (.vec 16 (.int .i32)) .nil))) .nil)))) n)], []⟩
def z10 : Nat → S → Option R_ := H.i P_ [r,r,l,r,d]
def x18 (a b : Int) (k : LX) : Option R_ := H.e P_ [r,r,r,r,r] ⟨[(3, .ptr 0 []), (10, .own 1)], [.box 77 (.agg [vi a, vi b]), Aw 21 k], []⟩
def x16 (kn13 : K_) (a : Int) (f : LU) (b g : Int) (w : Int32) (u : Int) (h : List (Int × Int32 × (Int × LX × LX × Unit) × Unit)) (k : LX) (y : Int) (v : Int32) (aa : Int) (ab ac : LX) : Option R_ := H.e P_ [r,r,r,r,l,r,d,(lp kn13),r,r,l,d,r,r,r] ⟨[(3, .ptr 0 []), (8, .ptr 1 []), (10, .own 2), (13, .ptr 1 [.idx (Jd g a) 35]), (14, vx w), (15, .ptr 3 []), (16, vi u), (33, vv f), (34, vi (Ac f)), (35, vi g)], [.box 77 (.agg [vi a, vi b]), .box 209 (.val (.vec 6 (.cons (.int .i64) (.cons (.int .i32) (.cons (.cons (.int .i64) (.cons (.vec 16 (.int .i32)) (.cons (.vec 16 (.int .i32)) .nil))) .nil)))) h), Aw 21 k, .box 208 (.agg [vi y, vx v, .agg [vi aa, .val (.vec 16 (.int .i32)) ab, .val (.vec 16 (.int .i32)) ac]])], []⟩
def x13 (f : LU) (a b g : Int) (h : List (Int × Int32 × (Int × LX × LX × Unit) × Unit)) (k : LX) : Option R_ := H.e P_ [r,r,r,r,l,r,d] (t13 f a b g h k)
def x12 (f : LU) (a b : Int) (n : List (Int × Int32 × (Int × LX × LX × Unit) × Unit)) : Option R_ := H.e P_ [r,r,r] ⟨[(2, vv f), (3, .ptr 0 []), (8, .ptr 1 [])], [.box 77 (.agg [vi a, vi b]), .box 209 (.val (.vec 6 (.cons (.int .i64) (.cons (.int .i32) (.cons (.cons (.int .i64) (.cons (.vec 16 (.int .i32)) (.cons (.vec 16 (.int .i32)) .nil))) .nil)))) n)], []⟩
def x10 (f : LU) (a b : Int) (o : LX) (p : Int) (n : List (Int × Int32 × (Int × LX × LX × Unit) × Unit)) : Option R_ := H.e P_ [r,r,l,r,d] (t10 f a b o p n)
theorem e18 : x18 = Ko := by kernel_rfl
theorem e16 (kn13 : K_) (f : LU) (a b : Int) : x16 kn13 a f b = Yn (fun g h k => kn13 (t13 f a b g h k)) a f b := by kernel_rfl
theorem i13 (f : LU) (a b : Int) : ∀ (q : Nat) (g : Int) (h : List (Int × Int32 × (Int × LX × LX × Unit) × Unit)) (k : LX), z13 q (t13 f a b g h k) = Hw f a b q g h k :=
 ind (fun _ _ _ => by kernel_rfl) fun q ih g h k => Eq.trans (b := Xh (x16 (z13 q) a f b) x18 f a b g h k) (by kernel_rfl) (by rw [Aly]; simp only [e16, e18, ih] <;> rfl)
theorem e13 : x13 = Agr := by funext f a b g h k; exact Eq.trans (by kernel_rfl) ((i13 f a b Bn g h k).trans (by rw [Al]; rfl))
theorem e12 : x12 = Yp := Eq.trans (b := Agy x13) (by kernel_rfl) (by simp only [e13] <;> rfl)
theorem i10 (f : LU) (a b : Int) (o : LX) : ∀ (q : Nat) (p : Int) (n : List (Int × Int32 × (Int × LX × LX × Unit) × Unit)), z10 q (t10 f a b o p n) = Yc f a b o q p n :=
 ind (fun _ _ => by kernel_rfl) fun q ih p n => Eq.trans (b := Ag0 x12 (fun p n => (z10 q) (t10 f a b o p n)) f a b o p n) (by kernel_rfl) (by simp only [e12, ih] <;> rfl)
theorem e10 : x10 = Pr := by funext f a b o p n; exact Eq.trans (by kernel_rfl) ((i10 f a b o Bn p n).trans (by rw [Al]; rfl))
noncomputable def F (x : Int × Int × LX × LU) := Tq x.1 x.2.1 x.2.2.1 x.2.2.2
theorem rn (x : Int × Int × LX × LU) : H.u P_ x = F x := Eq.trans (b := Zy x10 x.1 x.2.1 x.2.2.1 x.2.2.2) (by kernel_rfl) (by simp only [e10] <;> rfl)
noncomputable def c : Con := ⟨H.p, H.r, F⟩
theorem ok : ConOk P_ Tryz.gl 108 c := Tryz.co H Tryz.func108 (.cons F109.ok (.cons F142.ok (.cons F143.ok (.cons F144.ok (.cons F145.ok .nil))))) (by kernel_rfl) rn
end F108
namespace F62
noncomputable def H : Hd := ⟨[.agg [Si, Si], .lf (.vec 16 (.int .i32)) none, Si, Sb], [Ow 21, Si], .d, ⟨[(103, F103.c), (104, F104.c), (105, F105.c), (106, F106.c), (107, F107.c), (108, F108.c)], Tryz.Av4, false⟩, [], Tryz.f62⟩
noncomputable def F (x : Int × Int × LX × Int × LB) := deframe_Decode x.1 x.2.1 x.2.2.1 x.2.2.2.1 x.2.2.2.2
theorem rn (x : Int × Int × LX × Int × LB) : H.u P_ x = F x := by kernel_rfl
noncomputable def c : Con := ⟨H.p, H.r, F⟩
theorem ok : ConOk P_ Tryz.Av4 62 c := Tryz.co H Tryz.func62 (.cons (F103.ok.mono (.cons _ .slnil)) (.cons (F104.ok.mono (.cons _ .slnil)) (.cons (F105.ok.mono (.cons _ .slnil)) (.cons F106.ok (.cons (F107.ok.mono (.cons _ .slnil)) (.cons (F108.ok.mono (.cons _ .slnil)) .nil)))))) (by kernel_rfl) rn
end F62
namespace F71
abbrev R_ := (Int × Int)
noncomputable def H : Hd := ⟨[Sb], [Si, Si], (.seq .d (.seq .d (.cut [0, 4] [] .d .d))), ⟨[(51, F51.c), (121, F121.c), (122, F122.c), (123, F123.c)], Tryz.gl, false⟩, [], Tryz.f71⟩
def x2 (a : LB) : Option R_ := H.e P_ [r,r,r] ⟨[(0, vb a), (4, vi (Am (Ac a) (32 : Int)))], [], []⟩
theorem e2 : x2 = Apc := by kernel_rfl
noncomputable def F (x : LB) := Asj x
theorem rn (x : LB) : H.u P_ x = F x := Eq.trans (b := Ao2 x2 x) (by kernel_rfl) (by simp only [e2] <;> rfl)
noncomputable def c : Con := ⟨H.p, H.r, F⟩
theorem ok : ConOk P_ Tryz.gl 71 c := Tryz.co H Tryz.func71 (.cons F51.ok (.cons F121.ok (.cons F122.ok (.cons F123.ok .nil)))) (by kernel_rfl) rn
end F71
namespace F34
abbrev R_ := (Int × Int)
abbrev K_ := S → Option R_
noncomputable def H : Hd := ⟨[Sb], [Si, Si], (.seq .d (.seq .d (.seq .d (.seq .d (.cut [5] [] (.blk (.loop [1, 4, 5] [] (.seq .d (.cut [1, 4, 5] [] (.blk (.cut [1, 4, 5, 6] [] (.keep [1, 4, 5, 6, 16, 17] true) .d)) .d)))) .d))))), ⟨[(71, F71.c)], Tryz.gl, false⟩, [(70, .d)], Tryz.f34⟩
def t8 (a : Int) (b : LB) : S := ⟨[(1, .ptr 0 []), (4, .fn 70 [.ptr 0 []]), (5, vi a)], [.box 22 (vb b)], []⟩
def z8 : Nat → S → Option R_ := H.i P_ [r,r,r,r,l,d]
def x14 (a : Int) : Option R_ := H.e P_ [r,r,r,r,r] ⟨[(5, vi a)], [], []⟩
def x12 (kn8 : K_) (a : Int) (g : LB) : Option R_ := H.e P_ [r,r,r,r,l,d,(lp kn8),r,r] ⟨[(1, .ptr 0 []), (4, .fn 70 [.ptr 0 []]), (5, vi a)], [.box 22 (vb g)], []⟩
def x11 (kn8 : K_) (a f : Int) (b : LB) : Option R_ := H.e P_ [r,r,r,r,l,d,(lp kn8),r,l,d,r] ⟨[(1, .ptr 0 []), (4, .fn 70 [.ptr 0 []]), (5, vi a), (6, vi f)], [.box 22 (vb b)], []⟩
def x8 (a : Int) (b : LB) : Option R_ := H.e P_ [r,r,r,r,l,d] (t8 a b)
theorem e14 : x14 = Ald := by kernel_rfl
theorem e12 (kn8 : K_) : x12 kn8 = Ael (fun a b => kn8 (t8 a b)) := by kernel_rfl
theorem e11 (kn8 : K_) : x11 kn8 = Ad0 (fun a b => kn8 (t8 a b)) := Eq.trans (b := Aeb (x12 kn8)) (by kernel_rfl) (by simp only [e12] <;> rfl)
theorem i8 : ∀ (q : Nat) (a : Int) (b : LB), z8 q (t8 a b) = To q a b :=
 ind (fun _ _ => by kernel_rfl) fun q ih a b => Eq.trans (b := Agd (x11 (z8 q)) x14 a b) (by kernel_rfl) (by simp only [e11, e14, ih] <;> rfl)
theorem e8 : x8 = Anz := by funext a b; exact Eq.trans (by kernel_rfl) ((i8 Bn a b).trans (by rw [Al]; rfl))
noncomputable def F (x : LB) := Ahd x
theorem rn (x : LB) : H.u P_ x = F x := Eq.trans (b := Agj x8 x) (by kernel_rfl) (by simp only [e8] <;> rfl)
noncomputable def c : Con := ⟨H.p, H.r, F⟩
theorem ok : ConOk P_ Tryz.gl 34 c := Tryz.cr H Tryz.func34 (.cons F71.ok .nil) (AnsOk.cons Tryz.ent70 AnsOk.nil) (by kernel_rfl) rn
end F34
namespace F39
abbrev R_ := (Int × Int × Int × LX × Int)
abbrev K_ := S → Option R_
noncomputable def H : Hd := ⟨[Sb, Ss], [.agg [Si, Si, Si, Ow 21], Si], (.seq .d (.seq .d (.seq .d (.seq .d (.cut [0, 1, 4, 6] [] (.cut [0, 1, 4, 6, 8] [] (.keep [0, 1, 4, 6, 8, 34, 35, 36] true) .d) (.cut [0, 1, 4, 6, 7, 9] [⟨9, [], .own 3 (.int .i64)⟩] (.keep [0, 1, 4, 6, 7, 9, 41, 42, 43, 44, 45] true) (.seq .d (.seq .d (.seq .d (.seq .d (.seq .d (.cut [0, 4, 10, 14] [] (.seq .d (.blk (.loop [0, 4, 6, 10, 11, 12, 14, 75, 76, 77] [⟨10, [3], .own 21 (.int .i32)⟩] (.seq .d (.seq .d (.seq (.blk (.seq .d (.seq .d (.cut [0, 4, 6, 10, 11, 12, 14, 16, 17, 18, 75, 76, 77] [] .d .d)))) .d)))))) .d)))))))))))), ⟨[(25, F25.c), (27, F27.c), (34, F34.c), (60, F60.c), (62, F62.c), (76, F76.c)], Tryz.gl_0_1, false⟩, [(77, .d), (78, (.seq .d (.seq .d (.cut [0, 6, 7] [] .d (.seq .d (.seq .d (.seq .d (.cut [6] [] (.seq .d (.blk (.loop [0, 6, 60, 61, 62] [] .d))) .d))))))))], Tryz.f39⟩
def t21 (a : LB) (w : LI) (m b f h o p n g y ab : Int) (ac : LX) (k : LI) (aa ae : Int) (ad : LX) : S := ⟨[(0, vb a), (4, .ptr 0 []), (6, .ptr 1 []), (10, .ptr 2 []), (11, .ptr 3 []), (12, .ptr 4 []), (14, vi aa), (75, .own 5), (76, vi (Ac w)), (77, vi ae)], [.box 49 (.agg [vi 0, vi 0, vi 0, .nils]), .box 129 (.agg [.agg [vi m, vi b, vi f, vi h, vi o], .agg [vi p, vi n, vi g, vi y, vi ab], .own 6]), .box 49 (.agg [vi b, vi f, vi h, .own 7]), .box 77 (.agg [vi b, vi f]), .box 109 (.val (.vec 16 (.int .i32)) ac), Ai 3 w, Ai 3 k, Aw 21 ad], []⟩
def z21 : Nat → S → Option R_ := H.i P_ [r,r,r,r,r,r,r,r,r,r,r,l,r,d]
def t17 (v : LI) (a u : LB) (m b f h o p n g : Int) (k : LI) (ag af : Int) : S := ⟨[(0, .ptr 0 []), (6, .own 1), (60, .own 1), (61, vi (Ac v)), (62, vi ag)], [.box 129 (.agg [.agg [vi m, vi b, vi f, vi h, vi o], .agg [vi p, vi n, vi g, vi (Ae (Ae g (Bj (4 : Int) (Ac v))) (4 : Int)), vi af], .own 3]), Ai 3 v, .box 49 (.agg [vi 0, vi 0, vi 0, .nils]), Ai 3 k], [[(0, vb a), (1, vs u), (4, .ptr 2 []), (6, .ptr 0 []), (42, vb a)]]⟩
def z17 : Nat → S → Option R_ := H.i P_ [r,r,r,r,r,l,(call 1 78),r,r,r,r,r,r,l,r,d]
def x26 (a : LB) (aa b f h : Int) (ad : LX) : Option R_ := H.e P_ [r,r,r,r,r,r,r,r,r,r,r,r] ⟨[(0, vb a), (4, .ptr 0 []), (10, .ptr 1 []), (14, vi aa)], [.box 49 (.agg [vi 0, vi 0, vi 0, .nils]), .box 49 (.agg [vi b, vi f, vi h, .own 2]), Aw 21 ad], []⟩
def x24 (kn21 : K_) (a : LB) (w : LI) (m b f h o p n g y ab : Int) (ac : LX) (k : LI) (aa aj ak ae : Int) (am ad : LX) : Option R_ := H.e P_ [r,r,r,r,r,r,r,r,r,r,r,l,r,d,(lp kn21),r,r,l,d,r,r,r] ⟨[(0, vb a), (4, .ptr 0 []), (6, .ptr 1 []), (10, .ptr 2 []), (11, .ptr 3 []), (12, .ptr 4 []), (14, vi aa), (16, vi aj), (17, .own 5), (18, vi ak), (75, .own 6), (76, vi (Ac w)), (77, vi ae)], [.box 49 (.agg [vi 0, vi 0, vi 0, .nils]), .box 129 (.agg [.agg [vi m, vi b, vi f, vi h, vi o], .agg [vi p, vi n, vi g, vi y, vi ab], .own 7]), .box 49 (.agg [vi b, vi f, vi h, .own 8]), .box 77 (.agg [vi b, vi f]), .box 109 (.val (.vec 16 (.int .i32)) ac), Aw 21 am, Ai 3 w, Ai 3 k, Aw 21 ad], []⟩
def x21 (a : LB) (w : LI) (m b f h o p n g y ab : Int) (ac : LX) (k : LI) (aa ae : Int) (ad : LX) : Option R_ := H.e P_ [r,r,r,r,r,r,r,r,r,r,r,l,r,d] (t21 a w m b f h o p n g y ab ac k aa ae ad)
def x20 (a u : LB) (m b f h o p n g : Int) (k : LI) (an y ab : Int) (w : LI) : Option R_ := H.e P_ [r,r,r,r,r,r] ⟨[(0, vb a), (1, vs u), (4, .ptr 0 []), (6, .ptr 1 []), (7, vi an), (9, .own 2)], [.box 49 (.agg [vi 0, vi 0, vi 0, .nils]), .box 129 (.agg [.agg [vi m, vi b, vi f, vi h, vi o], .agg [vi p, vi n, vi g, vi y, vi ab], .own 3]), Ai 3 w, Ai 3 k], []⟩
def x19 (a u : LB) (v : LI) (m b f h o p n g af : Int) (k : LI) : Option R_ := H.e P_ [r,r,r,r,r,l,(call 1 78),r,r,r,r,r,r,r] ⟨[(6, .own 0)], [Ai 3 v, .box 49 (.agg [vi 0, vi 0, vi 0, .nils]), .box 129 (.agg [.agg [vi m, vi b, vi f, vi h, vi o], .agg [vi p, vi n, vi g, vi (Ae (Ae g (Bj (4 : Int) (Ac v))) (4 : Int)), vi af], .own 3]), Ai 3 k], [[(0, vb a), (1, vs u), (4, .ptr 1 []), (6, .ptr 2 []), (42, vb a)]]⟩
def x17 (v : LI) (a u : LB) (m b f h o p n g : Int) (k : LI) (ag af : Int) : Option R_ := H.e P_ [r,r,r,r,r,l,(call 1 78),r,r,r,r,r,r,l,r,d] (t17 v a u m b f h o p n g k ag af)
def x16 (al : Int) (a u : LB) (m b f h o p n g ah ai : Int) (v k : LI) : Option R_ := H.e P_ [r,r,r,r,r,l,(call 1 78),r,r,r] ⟨[(0, .ptr 0 []), (6, .own 1), (7, vi al)], [.box 129 (.agg [.agg [vi m, vi b, vi f, vi h, vi o], .agg [vi p, vi n, vi g, vi ah, vi ai], .own 3]), Ai 3 v, .box 49 (.agg [vi 0, vi 0, vi 0, .nils]), Ai 3 k], [[(0, vb a), (1, vs u), (4, .ptr 2 []), (6, .ptr 0 []), (42, vb a)]]⟩
def x15 (a u : LB) (m b f h o p n g ah ai : Int) (k : LI) : Option R_ := H.e P_ [r,r,r,r,r] ⟨[(0, vb a), (1, vs u), (4, .ptr 0 []), (6, .ptr 1 [])], [.box 49 (.agg [vi 0, vi 0, vi 0, .nils]), .box 129 (.agg [.agg [vi m, vi b, vi f, vi h, vi o], .agg [vi p, vi n, vi g, vi ah, vi ai], .own 2]), Ai 3 k], []⟩
def x14 (a u : LB) (m b f h o p n g ah ai : Int) (k : LI) (ao : Int) : Option R_ := H.e P_ [r,r,r,r,l,r] ⟨[(0, vb a), (1, vs u), (4, .ptr 0 []), (6, .ptr 1 []), (8, vi ao)], [.box 49 (.agg [vi 0, vi 0, vi 0, .nils]), .box 129 (.agg [.agg [vi m, vi b, vi f, vi h, vi o], .agg [vi p, vi n, vi g, vi ah, vi ai], .own 2]), Ai 3 k], []⟩
theorem e26 : x26 = Aht := by kernel_rfl
theorem e24 (kn21 : K_) (a : LB) (w : LI) (m b f h o p n g y ab : Int) (ac : LX) (k : LI) : x24 kn21 a w m b f h o p n g y ab ac k = Ah6 (fun aa ae ad => kn21 (t21 a w m b f h o p n g y ab ac k aa ae ad)) a w m b f h o p n g y ab ac k := by kernel_rfl
theorem i21 (a : LB) (w : LI) (m b f h o p n g y ab : Int) (ac : LX) (k : LI) : ∀ (q : Nat) (aa ae : Int) (ad : LX), z21 q (t21 a w m b f h o p n g y ab ac k aa ae ad) = Rf a w m b f h o p n g y ab ac k q aa ae ad :=
 ind (fun _ _ _ => by kernel_rfl) fun q ih aa ae ad => Eq.trans (b := Ack (x24 (z21 q) a w m b f h o p n g y ab ac k) x26 a w m b f h o p n g y ab ac k aa ae ad) (by kernel_rfl) (by simp only [e24, e26, ih] <;> rfl)
theorem e21 : x21 = Aof := by funext a w m b f h o p n g y ab ac k aa ae ad; exact Eq.trans (by kernel_rfl) ((i21 a w m b f h o p n g y ab ac k Bn aa ae ad).trans (by rw [Al]; rfl))
theorem e20 : x20 = Lm := Eq.trans (b := Ac5 x21) (by kernel_rfl) (by simp only [e21] <;> rfl)
theorem e19 : x19 = Abs := Eq.trans (b := Ai4 x20) (by kernel_rfl) (by simp only [e20] <;> rfl)
theorem i17 (v : LI) (a u : LB) (m b f h o p n g : Int) (k : LI) : ∀ (q : Nat) (ag af : Int), z17 q (t17 v a u m b f h o p n g k ag af) = Qr v a u m b f h o p n g k q ag af :=
 ind (fun _ _ => by kernel_rfl) fun q ih ag af => Eq.trans (b := Acf x19 (fun ag af => (z17 q) (t17 v a u m b f h o p n g k ag af)) v a u m b f h o p n g k ag af) (by kernel_rfl) (by simp only [e19, ih] <;> rfl)
theorem e17 : x17 = Aje := by funext v a u m b f h o p n g k ag af; exact Eq.trans (by kernel_rfl) ((i17 v a u m b f h o p n g k Bn ag af).trans (by rw [Al]; rfl))
theorem e16 : x16 = Abl := Eq.trans (b := Ab7 x20 x17) (by kernel_rfl) (by simp only [e20, e17] <;> rfl)
theorem e15 : x15 = Wn := Eq.trans (b := Ahq x20 x16) (by kernel_rfl) (by simp only [e20, e16] <;> rfl)
theorem e14 : x14 = Ri := Eq.trans (b := Acn x15) (by kernel_rfl) (by simp only [e15] <;> rfl)
noncomputable def F (x : LB × LB) := Ki x.1 x.2
theorem rn (x : LB × LB) : H.u P_ x = F x := Eq.trans (b := Zk x14 x.1 x.2) (by kernel_rfl) (by simp only [e14] <;> rfl)
noncomputable def c : Con := ⟨H.p, H.r, F⟩
theorem ok : ConOk P_ Tryz.gl_0_1 39 c := Tryz.cr H Tryz.func39 (.cons (F25.ok.mono (.cons _ (.cons _ .slnil))) (.cons (F27.ok.mono (.cons _ (.cons _ .slnil))) (.cons (F34.ok.mono (.cons _ (.cons _ .slnil))) (.cons (F60.ok.mono (.cons _ (.cons _ .slnil))) (.cons (F62.ok.mono (.cons _ (.cons_cons _ .slnil))) (.cons (F76.ok.mono (.cons_cons _ (.cons _ .slnil))) .nil)))))) (AnsOk.cons Tryz.ent77 (AnsOk.cons Tryz.ent78 AnsOk.nil)) (by kernel_rfl) rn
end F39
namespace F8
abbrev R_ := (Int × Int × Int × Int × Int × Int × LI × Int)
noncomputable def H : Hd := ⟨[Sb, Ss], [.agg [.agg [Si, Si, Si, Si, Si], Si, Ol 3], Si], (.seq .d (.seq .d (.seq .d (.seq .d (.seq .d (.seq .d (.seq .d (.seq .d (.seq .d (.cut [0, 4, 6, 8] [] .d .d)))))))))), ⟨[(23, Aez), (24, F24.c), (25, F25.c), (26, F26.c), (27, F27.c)], Tryz.Blm, false⟩, [], Tryz.f8⟩
def x2 (a : LB) (b f g h k n : Int) : Option R_ := H.e P_ [r,r,r,r,r,r,r,r,r,r] ⟨[(0, vb a), (4, .ptr 0 []), (6, vi n), (8, .ptr 1 [])], [.box 28 (.agg [.agg [vi 0, vi 0, vi 0, vi 0, vi 0], vi 0, .nils]), .box 25 (.agg [vi b, vi f, vi g, vi h, vi k])], []⟩
theorem e2 : x2 = Qu := by kernel_rfl
noncomputable def F (x : LB × LB) := seekto_Open x.1 x.2
theorem rn (x : LB × LB) : H.u P_ x = F x := Eq.trans (b := Ra x2 x.1 x.2) (by kernel_rfl) (by simp only [e2] <;> rfl)
noncomputable def c : Con := ⟨H.p, H.r, F⟩
theorem ok : ConOk P_ Tryz.Blm 8 c := Tryz.co H Tryz.func8 (.cons (Aor.mono (.cons _ .slnil)) (.cons F24.ok (.cons (F25.ok.mono (.cons _ .slnil)) (.cons (F26.ok.mono (.cons _ .slnil)) (.cons (F27.ok.mono (.cons _ .slnil)) .nil))))) (by kernel_rfl) rn
end F8
namespace F59
abbrev R_ := (LI × Int)
abbrev K_ := S → Option R_
noncomputable def H : Hd := ⟨[Sl], [Ol 3, Si], (.seq .d (.seq .d (.seq .d (.seq .d (.seq .d (.cut [7] [] (.seq .d (.blk (.loop [6, 7, 17, 18, 19] [] (.seq .d (.seq .d (.cut [6, 7, 17, 18, 19] [] (.blk (.seq .d (.keep [6, 7, 9, 17, 18, 19, 23, 24, 25, 26, 27, 28] true))) .d)))))) .d)))))), ⟨[(54, F54.c)], Tryz.gl, false⟩, [(100, .d)], Tryz.f59⟩
def t6 (a : LI) (b g : Int) (f : LI) : S := ⟨[(6, .fn 100 [.ptr 0 []]), (7, .own 1), (17, vl a), (18, vi (Ac a)), (19, vi b)], [.box 3 (vi g), Ai 3 f], []⟩
def z6 : Nat → S → Option R_ := H.i P_ [r,r,r,r,r,l,r,d]
def x10 (f : LI) : Option R_ := H.e P_ [r,r,r,r,r,r] ⟨[(7, .own 0)], [Ai 3 f], []⟩
def x8 (kn6 : K_) (a : LI) (b g h : Int) (k : LI) : Option R_ := H.e P_ [r,r,r,r,r,l,r,d,(lp kn6),r,r,r] ⟨[(6, .fn 100 [.ptr 0 []]), (7, .own 1), (17, vl a), (18, vi (Ac a)), (19, vi b)], [.box 3 (vi (Ae g h)), Ai 3 k], []⟩
def x6 (a : LI) (b g : Int) (f : LI) : Option R_ := H.e P_ [r,r,r,r,r,l,r,d] (t6 a b g f)
theorem e10 : x10 = Ajt := by kernel_rfl
theorem e8 (kn6 : K_) (a : LI) : x8 kn6 a = Aei (fun b g f => kn6 (t6 a b g f)) a := by kernel_rfl
theorem i6 (a : LI) : ∀ (q : Nat) (b g : Int) (f : LI), z6 q (t6 a b g f) = Lj a q b g f :=
 ind (fun _ _ _ => by kernel_rfl) fun q ih b g f => Eq.trans (b := Xt (x8 (z6 q) a) x10 a b g f) (by kernel_rfl) (by simp only [e8, e10, ih] <;> rfl)
theorem e6 : x6 = Alk := by funext a b g f; exact Eq.trans (by kernel_rfl) ((i6 a Bn b g f).trans (by rw [Al]; rfl))
noncomputable def F (x : LI) := Aey x
theorem rn (x : LI) : H.u P_ x = F x := Eq.trans (b := Ad1 x6 x) (by kernel_rfl) (by simp only [e6] <;> rfl)
noncomputable def c : Con := ⟨H.p, H.r, F⟩
theorem ok : ConOk P_ Tryz.gl 59 c := Tryz.cr H Tryz.func59 (.cons F54.ok .nil) (AnsOk.cons Tryz.ent100 AnsOk.nil) (by kernel_rfl) rn
end F59
namespace F63
abbrev R_ := (LB × Int)
abbrev K_ := S → Option R_
noncomputable def H : Hd := ⟨[Si, Sw], [Ob 5, Si], (.seq .d (.seq .d (.seq .d (.cut [7] [] (.seq .d (.blk (.loop [0, 7, 17, 18, 19] [⟨7, [], .own 5 (.int .u8)⟩] (.seq .d (.seq .d (.cut [0, 7, 17, 18, 19] [] (.blk (.seq .d (.cut [0, 7, 9, 17, 18, 19] [] .d (.seq .d (.blk (.loop [0, 7, 9, 17, 18, 19, 28, 29] [] .d)))))) .d)))))) .d)))), ⟨[(109, F109.c)], Tryz.gl, false⟩, [], Tryz.f63⟩
def t26 (b : Int) (a : LX) (k : Int32) (f m : Int) (h : LB) : S := ⟨[(0, vi b), (7, .own 0), (9, vx k), (17, vw a), (18, vi (Ac a)), (19, vi f), (28, vi (Bs b (8 : Int))), (29, vi m)], [Ab 5 h], []⟩
def z26 (kn16 : K_) : Nat → S → Option R_ := H.i P_ [r,r,r,l,r,d,(lp kn16),r,r,l,d,r,r,r,d]
def t16 (b : Int) (a : LX) (f : Int) (g : LB) : S := ⟨[(0, vi b), (7, .own 0), (17, vw a), (18, vi (Ac a)), (19, vi f)], [Ab 5 g], []⟩
def z16 : Nat → S → Option R_ := H.i P_ [r,r,r,l,r,d]
def x30 (g : LB) : Option R_ := H.e P_ [r,r,r,r] ⟨[(7, .own 0)], [Ab 5 g], []⟩
def x28 (kn16 : K_) (b : Int) (a : LX) (f : Int) (h : LB) : Option R_ := H.e P_ [r,r,r,l,r,d,(lp kn16),r,r,r] ⟨[(0, vi b), (7, .own 0), (17, vw a), (18, vi (Ac a)), (19, vi f)], [Ab 5 h], []⟩
def x26 (kn16 : K_) (b : Int) (a : LX) (k : Int32) (f m : Int) (h : LB) : Option R_ := H.e P_ [r,r,r,l,r,d,(lp kn16),r,r,l,d,r,r,r,d] (t26 b a k f m h)
def x25 (kn16 : K_) (b : Int) (a : LX) (f : Int) (g : LB) (k : Int32) : Option R_ := H.e P_ [r,r,r,l,r,d,(lp kn16),r,r,l,d,r,r] ⟨[(0, vi b), (7, .own 0), (9, vx k), (17, vw a), (18, vi (Ac a)), (19, vi f)], [Ab 5 g], []⟩
def x16 (b : Int) (a : LX) (f : Int) (g : LB) : Option R_ := H.e P_ [r,r,r,l,r,d] (t16 b a f g)
theorem e30 : x30 = Ans := by kernel_rfl
theorem e28 (kn16 : K_) (b : Int) (a : LX) : x28 kn16 b a = Agi (fun f g => kn16 (t16 b a f g)) b a := by kernel_rfl
theorem i26 (kn16 : K_) (b : Int) (a : LX) (k : Int32) (f : Int) : ∀ (q : Nat) (m : Int) (h : LB), z26 kn16 q (t26 b a k f m h) = Ib (fun f g => kn16 (t16 b a f g)) b a k f q m h :=
 ind (fun _ _ => by kernel_rfl) fun q ih m h => Eq.trans (b := Zr (x28 kn16 b a) (fun m h => (z26 kn16 q) (t26 b a k f m h)) b a k f m h) (by kernel_rfl) (by simp only [e28, ih] <;> rfl)
theorem e26 (kn16 : K_) (b : Int) (a : LX) : x26 kn16 b a = Af9 (fun f g => kn16 (t16 b a f g)) b a := by funext k f m h; exact Eq.trans (by kernel_rfl) ((i26 kn16 b a k f Bn m h).trans (by rw [Al]; rfl))
theorem e25 (kn16 : K_) (b : Int) (a : LX) : x25 kn16 b a = Kg (fun f g => kn16 (t16 b a f g)) b a := Eq.trans (b := Agp (x26 kn16 b a) b a) (by kernel_rfl) (by simp only [e26] <;> rfl)
theorem i16 (b : Int) (a : LX) : ∀ (q : Nat) (f : Int) (g : LB), z16 q (t16 b a f g) = Fl b a q f g :=
 ind (fun _ _ => by kernel_rfl) fun q ih f g => Eq.trans (b := Zl (x25 (z16 q) b a) x30 b a f g) (by kernel_rfl) (by simp only [e25, e30, ih] <;> rfl)
theorem e16 : x16 = Anw := by funext b a f g; exact Eq.trans (by kernel_rfl) ((i16 b a Bn f g).trans (by rw [Al]; rfl))
noncomputable def F (x : Int × LX) := width_Bytes x.1 x.2
theorem rn (x : Int × LX) : H.u P_ x = F x := Eq.trans (b := Ahp x16 x.1 x.2) (by kernel_rfl) (by simp only [e16] <;> rfl)
noncomputable def c : Con := ⟨H.p, H.r, F⟩
theorem ok : ConOk P_ Tryz.gl 63 c := Tryz.co H Tryz.func63 (.cons F109.ok .nil) (by kernel_rfl) rn
end F63
namespace F10
abbrev R_ := (LB × Int)
noncomputable def H : Hd := ⟨[Sb, Ss, Si], [Ob 5, Si], (.seq .d (.cut [2, 8, 9, 11] [] (.keep [0, 1, 2, 8, 9, 11, 12, 13, 14, 15, 16, 17, 18, 19] true) (.seq .d (.seq .d (.cut [6, 7] [⟨6, [], .own 5 (.int .u8)⟩] (.keep [2, 6, 7, 8, 30, 31, 32, 33, 34] true) .d))))), ⟨[(8, F8.c), (26, F26.c), (59, F59.c), (60, F60.c), (62, F62.c), (63, F63.c)], Tryz.gl_0_1, false⟩, [(29, .d), (61, (.seq .d (.cut [0, 3, 4, 5, 6, 10, 11] [] .d (.seq .d (.cut [4, 12, 13] [] .d .d)))))], Tryz.f10⟩
def x6 (a ac : Int) : Option R_ := H.e P_ [r,r] ⟨[(2, vi a), (8, .cst .nilFunc), (9, vi 0), (11, vi ac)], [], []⟩
def x10 (ad : Int) (ae : LB) : Option R_ := H.e P_ [r,r,r,r,r] ⟨[(6, .own 0), (7, vi ad)], [Ab 5 ae], []⟩
def x9 (w a h b : Int) (aa : LX) (n o p k : Int) (m : LB) (u : LX) (v f g : LI) : Option R_ := H.e P_ [r,r,r,r,l,(call 2 61),r,r,r,r] ⟨[(4, .ptr 0 []), (12, .own 1), (13, vi w)], [.box 77 (.agg [vi h, vi b]), Aw 21 aa, .box 28 (.agg [.agg [vi n, vi h, vi b, vi o, vi p], vi k, .own 7]), .box 26 (.own 8), .box 22 (vb m), .box 109 (.val (.vec 16 (.int .i32)) u), .box 26 (.own 9), Ai 3 v, Ai 3 f, Ai 3 g], [[(2, vi a), (8, .fn 61 [.ptr 2 [], .ptr 3 [], .ptr 4 [], .ptr 0 [], .ptr 5 [], .ptr 6 []]), (30, .fn 61 [.ptr 2 [], .ptr 3 [], .ptr 4 [], .ptr 0 [], .ptr 5 [], .ptr 6 []]), (31, vi a)]]⟩
def x8 (a k ab y : Int) (m : LB) (h b : Int) (u : LX) (n o p : Int) (g v f : LI) : Option R_ := H.e P_ [r,r,r,r,l,(call 2 61),r,r] ⟨[(0, vi a), (3, .ptr 0 []), (4, .ptr 1 []), (5, .ptr 2 []), (6, .ptr 3 []), (10, vi (Ae k ab)), (11, vi (Ae k y))], [.box 22 (vb m), .box 77 (.agg [vi h, vi b]), .box 109 (.val (.vec 16 (.int .i32)) u), .box 26 (.own 6), .box 28 (.agg [.agg [vi n, vi h, vi b, vi o, vi p], vi k, .own 7]), .box 26 (.own 8), Ai 3 g, Ai 3 v, Ai 3 f], [[(2, vi a), (8, .fn 61 [.ptr 4 [], .ptr 5 [], .ptr 0 [], .ptr 1 [], .ptr 2 [], .ptr 3 []]), (30, .fn 61 [.ptr 4 [], .ptr 5 [], .ptr 0 [], .ptr 1 [], .ptr 2 [], .ptr 3 []]), (31, vi a)]]⟩
def x7 (a : Int) (g : LI) (n h b o p k : Int) (m : LB) (u : LX) (v f : LI) : Option R_ := H.e P_ [r,r] ⟨[(2, vi a), (8, .fn 61 [.ptr 0 [], .ptr 1 [], .ptr 2 [], .ptr 3 [], .ptr 4 [], .ptr 5 []]), (9, vi (Ac g)), (11, vi 0)], [.box 28 (.agg [.agg [vi n, vi h, vi b, vi o, vi p], vi k, .own 6]), .box 26 (.own 7), .box 22 (vb m), .box 77 (.agg [vi h, vi b]), .box 109 (.val (.vec 16 (.int .i32)) u), .box 26 (.own 8), Ai 3 v, Ai 3 f, Ai 3 g], []⟩
theorem e6 : x6 = Anu := by kernel_rfl
theorem e10 : x10 = Ad3 := by kernel_rfl
theorem e9 : x9 = Agk := Eq.trans (b := Age x10) (by kernel_rfl) (by simp only [e10] <;> rfl)
theorem e8 : x8 = Agb := Eq.trans (b := Agm x10 x9) (by kernel_rfl) (by simp only [e10, e9] <;> rfl)
theorem e7 : x7 = Tn := Eq.trans (b := Agl x8) (by kernel_rfl) (by simp only [e8] <;> rfl)
noncomputable def F (x : LB × LB × Int) := Abu x.1 x.2.1 x.2.2
theorem rn (x : LB × LB × Int) : H.u P_ x = F x := Eq.trans (b := Agh x6 x7 x.1 x.2.1 x.2.2) (by kernel_rfl) (by simp only [e6, e7] <;> rfl)
noncomputable def c : Con := ⟨H.p, H.r, F⟩
theorem ok : ConOk P_ Tryz.gl_0_1 10 c := Tryz.cr H Tryz.func10 (.cons (F8.ok.mono (.cons_cons _ (.cons _ .slnil))) (.cons (F26.ok.mono (.cons _ (.cons _ .slnil))) (.cons (F59.ok.mono (.cons _ (.cons _ .slnil))) (.cons (F60.ok.mono (.cons _ (.cons _ .slnil))) (.cons (F62.ok.mono (.cons _ (.cons_cons _ .slnil))) (.cons (F63.ok.mono (.cons _ (.cons _ .slnil))) .nil)))))) (AnsOk.cons Tryz.ent29 (AnsOk.cons Tryz.ent61 AnsOk.nil)) (by kernel_rfl) rn
end F10
namespace F68
abbrev R_ := (LX × Int)
abbrev K_ := S → Option R_
noncomputable def H : Hd := ⟨[Si, Sb], [Ow 21, Si], (.seq .d (.seq .d (.seq .d (.seq .d (.seq .d (.seq .d (.cut [10] [] (.seq .d (.blk (.loop [0, 1, 9, 10, 11] [⟨10, [], .own 21 (.int .i32)⟩] (.seq .d (.cut [0, 1, 9, 10, 11] [] (.blk (.seq .d (.seq .d (.cut [0, 1, 9, 10, 11, 12] [] (.seq .d (.blk (.loop [0, 1, 9, 10, 11, 12, 53, 54] [] .d))) .d)))) .d))))) .d))))))), ⟨[(119, F119.c)], Tryz.gl, false⟩, [], Tryz.f68⟩
def t25 (a : Int) (b : LB) (f : Int) (g : LX) (h : Int32) (k : Int) : S := ⟨[(0, vi a), (1, vb b), (9, vi (Bs a (8 : Int))), (10, .own 0), (11, vi f), (12, vx h), (53, vi (Bs a (8 : Int))), (54, vi k)], [Aw 21 g], []⟩
def z25 (kn16 : K_) : Nat → S → Option R_ := H.i P_ [r,r,r,r,r,r,l,r,d,(lp kn16),r,l,d,r,r,l,r,d]
def t16 (a : Int) (b : LB) (f : Int) (g : LX) : S := ⟨[(0, vi a), (1, vb b), (9, vi (Bs a (8 : Int))), (10, .own 0), (11, vi f)], [Aw 21 g], []⟩
def z16 : Nat → S → Option R_ := H.i P_ [r,r,r,r,r,r,l,r,d]
def x30 (g : LX) : Option R_ := H.e P_ [r,r,r,r,r,r,r] ⟨[(10, .own 0)], [Aw 21 g], []⟩
def x28 (kn16 : K_) (a : Int) (b : LB) (f : Int) (m : LX) : Option R_ := H.e P_ [r,r,r,r,r,r,l,r,d,(lp kn16),r,r] ⟨[(0, vi a), (1, vb b), (9, vi (Bs a (8 : Int))), (10, .own 0), (11, vi f)], [Aw 21 m], []⟩
def x27 (kn16 : K_) (a : Int) (b : LB) (f : Int) (h : Int32) (g : LX) : Option R_ := H.e P_ [r,r,r,r,r,r,l,r,d,(lp kn16),r,l,d,r,r,r] ⟨[(0, vi a), (1, vb b), (9, vi (Bs a (8 : Int))), (10, .own 0), (11, vi f), (12, vx h)], [Aw 21 g], []⟩
def x25 (kn16 : K_) (a : Int) (b : LB) (f : Int) (g : LX) (h : Int32) (k : Int) : Option R_ := H.e P_ [r,r,r,r,r,r,l,r,d,(lp kn16),r,l,d,r,r,l,r,d] (t25 a b f g h k)
def x16 (a : Int) (b : LB) (f : Int) (g : LX) : Option R_ := H.e P_ [r,r,r,r,r,r,l,r,d] (t16 a b f g)
theorem e30 : x30 = Ajk := by kernel_rfl
theorem e28 (kn16 : K_) (a : Int) (b : LB) : x28 kn16 a b = Hl (fun f g => kn16 (t16 a b f g)) a b := by kernel_rfl
theorem e27 (kn16 : K_) (a : Int) (b : LB) : x27 kn16 a b = Vi (fun f g => kn16 (t16 a b f g)) a b := Eq.trans (b := Vf (x28 kn16 a b) a b) (by kernel_rfl) (by simp only [e28] <;> rfl)
theorem i25 (kn16 : K_) (a : Int) (b : LB) (f : Int) (g : LX) : ∀ (q : Nat) (h : Int32) (k : Int), z25 kn16 q (t25 a b f g h k) = Ea (fun f g => kn16 (t16 a b f g)) a b f g q h k :=
 ind (fun _ _ => by kernel_rfl) fun q ih h k => Eq.trans (b := Ex (x27 kn16 a b) (fun h k => (z25 kn16 q) (t25 a b f g h k)) a b f g h k) (by kernel_rfl) (by simp only [e27, ih] <;> rfl)
theorem e25 (kn16 : K_) (a : Int) (b : LB) : x25 kn16 a b = Jv (fun f g => kn16 (t16 a b f g)) a b := by funext f g h k; exact Eq.trans (by kernel_rfl) ((i25 kn16 a b f g Bn h k).trans (by rw [Al]; rfl))
theorem i16 (a : Int) (b : LB) : ∀ (q : Nat) (f : Int) (g : LX), z16 q (t16 a b f g) = Di a b q f g :=
 ind (fun _ _ => by kernel_rfl) fun q ih f g => Eq.trans (b := Eu (x28 (z16 q) a b) (x25 (z16 q) a b) x30 a b f g) (by kernel_rfl) (by simp only [e28, e25, e30, ih] <;> rfl)
theorem e16 : x16 = Abq := by funext a b f g; exact Eq.trans (by kernel_rfl) ((i16 a b Bn f g).trans (by rw [Al]; rfl))
noncomputable def F (x : Int × LB) := Zi x.1 x.2
theorem rn (x : Int × LB) : H.u P_ x = F x := Eq.trans (b := Ad8 x16 x.1 x.2) (by kernel_rfl) (by simp only [e16] <;> rfl)
noncomputable def c : Con := ⟨H.p, H.r, F⟩
theorem ok : ConOk P_ Tryz.gl 68 c := Tryz.co H Tryz.func68 (.cons F119.ok .nil) (by kernel_rfl) rn
end F68
namespace F79
noncomputable def H : Hd := ⟨[.agg [Si, Si], Si], [Si], .d, ⟨[(103, F103.c)], Tryz.gl, false⟩, [], Tryz.f79⟩
noncomputable def F (x : Int × Int × Int) := Akv x.1 x.2.1 x.2.2
theorem rn (x : Int × Int × Int) : H.u P_ x = F x := by kernel_rfl
noncomputable def c : Con := ⟨H.p, H.r, F⟩
theorem ok : ConOk P_ Tryz.gl 79 c := Tryz.co H Tryz.func79 (.cons F103.ok .nil) (by kernel_rfl) rn
end F79
namespace F41
noncomputable def H : Hd := ⟨[.agg [Si, Si], Si], [Ow 21, Si], .d, ⟨[(79, F79.c)], Tryz.gl, false⟩, [], Tryz.f41⟩
noncomputable def F (x : Int × Int × Int) := Zm x.1 x.2.1 x.2.2
theorem rn (x : Int × Int × Int) : H.u P_ x = F x := by kernel_rfl
noncomputable def c : Con := ⟨H.p, H.r, F⟩
theorem ok : ConOk P_ Tryz.gl 41 c := Tryz.co H Tryz.func41 (.cons F79.ok .nil) (by kernel_rfl) rn
end F41
namespace F20
def Aaj (a b h ak : Int) (an : LI) (ah : LX) : Option (Int × Int × Int × LX × LI × Int) :=
if (Cl ak 0) then
some (0, 0, 0, ([] : LX), ([] : LI), ak)
else
if (geq (Ac ah) 0) then
some (0, 0, 0, ([] : LX), ([] : LI), 6)
else
both (
bo (
some (a, b, h, ah, an, 0))) [
some (a, b, h, ah, an, 0)]
theorem An6 : @Aaj = @Vm := by
  unfold Aaj Vm
  repeat (refine funext fun _ => ?_)
  repeat' first
    | with_reducible rfl
    | with_reducible refine Lk ?_ ?_
    | with_reducible refine Lr ?_ ?_ ?_
    | with_reducible refine Lw ?_ ?_ ?_ ?_
    | ((with_reducible refine Te ?_ ?_); focus (intro h; first | (subst h; rfl) | (simp only [h]; rfl) | (simp [Fz, Ac, h]; done)))
    | with_reducible refine Tk fun x => ?_
    | with_reducible refine Aak (fun _ => ?_) (fun _ => ?_)
    | (refine Gu (fun h => by simp only [h, Ta, Ek, Ej, ite_self]) (fun x h => ?_); (try simp only [h, Ek]))
    | (refine Io (fun h => ?_) (fun h => ?_) <;> simp only [h, if_true, if_false, Bool.false_eq_true])
abbrev R_ := (Int × Int × Int × LX × LI × Int)
abbrev K_ := S → Option R_
noncomputable def H : Hd := ⟨[Sb, Ss, Si], [.agg [Si, Si, Si, Ow 21], Ol 3, Si], (.seq .d (.seq .d (.seq .d (.seq .d (.seq .d (.seq .d (.seq .d (.cut [6, 12, 14, 15] [⟨14, [], .own 3 (.int .i64)⟩, ⟨15, [3], .own 21 (.int .i32)⟩] (.keep [0, 1, 5, 6, 12, 13, 14, 15, 60, 61, 62, 63, 64, 66] true) (.seq .d (.seq .d (.seq (.mode false) .d))))))))))), ⟨[(8, F8.c), (10, F10.c), (26, F26.c), (39, F39.c), (41, F41.c), (68, F68.c)], Tryz.gl_0_1, false⟩, [(31, (.seq .d (.seq .d (.seq .d (.seq .d (.seq .d (.cut [6, 8] [] (.seq .d (.blk (.loop [0, 1, 2, 6, 8, 37, 38, 39] [⟨2, [0], .own 3 (.int .i64)⟩, ⟨2, [3, 3], .own 21 (.int .i32)⟩] (.seq .d (.seq .d (.cut [0, 1, 2, 6, 8, 37, 38, 39] [] (.blk (.seq .d (.seq .d (.seq .d (.cut [0, 1, 2, 6, 8, 11, 12, 14, 15, 37, 38, 39] [⟨15, [], .own 21 (.int .i32)⟩] .d (.cut [0, 1, 2, 6, 8, 16, 37, 38, 39] [] (.keep [0, 1, 2, 6, 8, 11, 12, 14, 15, 16, 37, 38, 39, 65, 66, 67, 68, 69, 70, 71] true) .d)))))) .d)))))) .d))))))), (40, (.seq .d (.cut [2, 7] [] .d .d)))], Tryz.f20⟩
def t21 (f g : LB) (k : LI) (n m a b h p u o v w y : Int) (aa : LI) (ab : Int) (ad : LI) (ac : LX) : S := ⟨[(0, vb f), (1, vs g), (2, .fn 40 [.ptr 0 [], .ptr 1 [], .ptr 2 [], .ptr 3 []]), (6, .ptr 4 []), (8, .ptr 5 []), (37, .own 6), (38, vi (Ac k)), (39, vi ab)], [.box 26 (.own 8), .box 3 (vi m), .box 77 (.agg [vi a, vi b]), .box 49 (.agg [vi a, vi b, vi h, .own 9]), .box 25 (.agg [vi 0, vi 0, vi 0, vi 0, vi 0]), .box 28 (.agg [.agg [vi p, vi u, vi o, vi v, vi w], vi y, .own 10]), Ai 3 k, .box 49 (.agg [vi 0, vi 0, vi 0, .nils]), Ai 3 ad, Aw 21 ac, Ai 3 aa], [[(0, vb f), (1, vs g), (5, .ptr 1 []), (6, .ptr 7 []), (12, vi n), (13, .ptr 2 []), (14, .ptr 0 []), (15, .ptr 3 []), (61, vb f), (62, vs g), (63, .fn 40 [.ptr 0 [], .ptr 1 [], .ptr 2 [], .ptr 3 []])]]⟩
def z21 : Nat → S → Option R_ := H.i P_ [r,r,r,r,r,r,r,l,(call 3 31),r,r,r,r,r,l,r,d]
def x40 (a b h ak : Int) (an : LI) (ah : LX) : Option R_ := H.e P_ [r,r,r,r,r,r,r,r] ⟨[(6, .ptr 0 []), (12, vi ak), (14, .ptr 1 []), (15, .ptr 2 [])], [.box 49 (.agg [vi 0, vi 0, vi 0, .nils]), .box 26 (.own 3), .box 49 (.agg [vi a, vi b, vi h, .own 4]), Ai 3 an, Aw 21 ah], []⟩
def x39 (f g : LB) (n p u o v w y m a b h : Int) (aa ad : LI) (ac : LX) : Option R_ := H.e P_ [r,r,r,r,r,r,r,l,(call 3 31),r,r,r,r,r,r] ⟨[(6, .ptr 0 []), (8, .ptr 1 [])], [.box 25 (.agg [vi 0, vi 0, vi 0, vi 0, vi 0]), .box 28 (.agg [.agg [vi p, vi u, vi o, vi v, vi w], vi y, .own 7]), .box 3 (vi m), .box 49 (.agg [vi 0, vi 0, vi 0, .nils]), .box 77 (.agg [vi a, vi b]), .box 26 (.own 8), .box 49 (.agg [vi a, vi b, vi h, .own 9]), Ai 3 aa, Ai 3 ad, Aw 21 ac], [[(0, vb f), (1, vs g), (5, .ptr 2 []), (6, .ptr 3 []), (12, vi n), (13, .ptr 4 []), (14, .ptr 5 []), (15, .ptr 6 []), (61, vb f), (62, vs g), (63, .fn 40 [.ptr 5 [], .ptr 2 [], .ptr 4 [], .ptr 6 []])]]⟩
def x37 (kn21 : K_) (f g : LB) (k : LI) (n m a b h p u o v w y : Int) (aa : LI) (ab : Int) (ai : LI) (aj : LX) : Option R_ := H.e P_ [r,r,r,r,r,r,r,l,(call 3 31),r,r,r,r,r,l,r,d,(lp kn21),r,r,r] ⟨[(0, vb f), (1, vs g), (2, .fn 40 [.ptr 0 [], .ptr 1 [], .ptr 2 [], .ptr 3 []]), (6, .ptr 4 []), (8, .ptr 5 []), (37, .own 6), (38, vi (Ac k)), (39, vi ab)], [.box 26 (.own 8), .box 3 (vi m), .box 77 (.agg [vi a, vi b]), .box 49 (.agg [vi a, vi b, vi h, .own 9]), .box 25 (.agg [vi 0, vi 0, vi 0, vi 0, vi 0]), .box 28 (.agg [.agg [vi p, vi u, vi o, vi v, vi w], vi y, .own 10]), Ai 3 k, .box 49 (.agg [vi 0, vi 0, vi 0, .nils]), Ai 3 ai, Aw 21 aj, Ai 3 aa], [[(0, vb f), (1, vs g), (5, .ptr 1 []), (6, .ptr 7 []), (12, vi n), (13, .ptr 2 []), (14, .ptr 0 []), (15, .ptr 3 []), (61, vb f), (62, vs g), (63, .fn 40 [.ptr 0 [], .ptr 1 [], .ptr 2 [], .ptr 3 []])]]⟩
def x36 (kn21 : K_) (f g : LB) (k : LI) (n m a b h p u o v w y : Int) (aa : LI) (ab ao : Int) (ai : LI) (aj : LX) : Option R_ := H.e P_ [r,r,r,r,r,r,r,l,(call 3 31),r,r,r,r,r,l,r,d,(lp kn21),r,r,l,d,r,r,r,r,r] ⟨[(0, vb f), (1, vs g), (2, .fn 40 [.ptr 0 [], .ptr 1 [], .ptr 2 [], .ptr 3 []]), (6, .ptr 4 []), (8, .ptr 5 []), (16, vi ao), (37, .own 6), (38, vi (Ac k)), (39, vi ab)], [.box 26 (.own 8), .box 3 (vi m), .box 77 (.agg [vi a, vi b]), .box 49 (.agg [vi a, vi b, vi h, .own 9]), .box 25 (.agg [vi 0, vi 0, vi 0, vi 0, vi 0]), .box 28 (.agg [.agg [vi p, vi u, vi o, vi v, vi w], vi y, .own 10]), Ai 3 k, .box 49 (.agg [vi 0, vi 0, vi 0, .nils]), Ai 3 ai, Aw 21 aj, Ai 3 aa], [[(0, vb f), (1, vs g), (5, .ptr 1 []), (6, .ptr 7 []), (12, vi n), (13, .ptr 2 []), (14, .ptr 0 []), (15, .ptr 3 []), (61, vb f), (62, vs g), (63, .fn 40 [.ptr 0 [], .ptr 1 [], .ptr 2 [], .ptr 3 []])]]⟩
def x34 (kn21 : K_) (f g : LB) (k : LI) (n a b h m p u o v w y : Int) (aa : LI) (ab af ae : Int) (al ag ac : LX) (am : LI) : Option R_ := H.e P_ [r,r,r,r,r,r,r,l,(call 3 31),r,r,r,r,r,l,r,d,(lp kn21),r,r,l,d,r,r,r,r,l,(call 6 40),r,r] ⟨[(2, .own 0), (7, .ptr 1 [])], [Aw 21 al, .box 49 (.agg [vi a, vi b, vi h, .own 10]), .box 26 (.own 11), .box 3 (vi m), .box 77 (.agg [vi a, vi b]), .box 25 (.agg [vi 0, vi 0, vi 0, vi 0, vi 0]), .box 28 (.agg [.agg [vi p, vi u, vi o, vi v, vi w], vi y, .own 12]), Aw 21 ag, Ai 3 k, .box 49 (.agg [vi 0, vi 0, vi 0, .nils]), Aw 21 ac, Ai 3 am, Ai 3 aa], [[(0, vb f), (1, vs g), (2, .fn 40 [.ptr 2 [], .ptr 3 [], .ptr 4 [], .ptr 1 []]), (6, .ptr 5 []), (8, .ptr 6 []), (11, vi ab), (12, vi af), (14, vi ae), (15, .own 7), (37, .own 8), (38, vi (Ac k)), (39, vi ab), (65, .fn 40 [.ptr 2 [], .ptr 3 [], .ptr 4 [], .ptr 1 []]), (66, vi ab), (67, vi af), (68, .own 7), (69, vi ae), (70, vt (geq ae (0 : Int)))], [(0, vb f), (1, vs g), (5, .ptr 3 []), (6, .ptr 9 []), (12, vi n), (13, .ptr 4 []), (14, .ptr 2 []), (15, .ptr 1 []), (61, vb f), (62, vs g), (63, .fn 40 [.ptr 2 [], .ptr 3 [], .ptr 4 [], .ptr 1 []])]]⟩
def x35 (kn21 : K_) (f g : LB) (k : LI) (n a b h m p u o v w y : Int) (aa : LI) (ab af ae : Int) (ag ac : LX) (ap : LI) : Option R_ := H.e P_ [r,r,r,r,r,r,r,l,(call 3 31),r,r,r,r,r,l,r,d,(lp kn21),r,r,l,d,r,r,r,r,l,(call 6 40),r,r] ⟨[(2, .own 0), (7, .ptr 1 [])], [Aw 21 ag, .box 49 (.agg [vi a, vi b, vi h, .own 9]), .box 26 (.own 10), .box 3 (vi m), .box 77 (.agg [vi a, vi b]), .box 25 (.agg [vi 0, vi 0, vi 0, vi 0, vi 0]), .box 28 (.agg [.agg [vi p, vi u, vi o, vi v, vi w], vi y, .own 11]), Ai 3 k, .box 49 (.agg [vi 0, vi 0, vi 0, .nils]), Aw 21 ac, Ai 3 ap, Ai 3 aa], [[(0, vb f), (1, vs g), (2, .fn 40 [.ptr 2 [], .ptr 3 [], .ptr 4 [], .ptr 1 []]), (6, .ptr 5 []), (8, .ptr 6 []), (11, vi ab), (12, vi af), (14, vi ae), (15, .own 0), (37, .own 7), (38, vi (Ac k)), (39, vi ab), (65, .fn 40 [.ptr 2 [], .ptr 3 [], .ptr 4 [], .ptr 1 []]), (66, vi ab), (67, vi af), (68, .own 0), (69, vi ae), (70, vt (geq ae (0 : Int)))], [(0, vb f), (1, vs g), (5, .ptr 3 []), (6, .ptr 8 []), (12, vi n), (13, .ptr 4 []), (14, .ptr 2 []), (15, .ptr 1 []), (61, vb f), (62, vs g), (63, .fn 40 [.ptr 2 [], .ptr 3 [], .ptr 4 [], .ptr 1 []])]]⟩
def x33 (kn21 : K_) (f g : LB) (k : LI) (n m a b h p u o v w y : Int) (aa : LI) (ab af ae : Int) (ad : LI) (ac ag : LX) : Option R_ := H.e P_ [r,r,r,r,r,r,r,l,(call 3 31),r,r,r,r,r,l,r,d,(lp kn21),r,r,l,d,r,r,r,r] ⟨[(0, vb f), (1, vs g), (2, .fn 40 [.ptr 0 [], .ptr 1 [], .ptr 2 [], .ptr 3 []]), (6, .ptr 4 []), (8, .ptr 5 []), (11, vi ab), (12, vi af), (14, vi ae), (15, .own 6), (37, .own 7), (38, vi (Ac k)), (39, vi ab)], [.box 26 (.own 9), .box 3 (vi m), .box 77 (.agg [vi a, vi b]), .box 49 (.agg [vi a, vi b, vi h, .own 10]), .box 25 (.agg [vi 0, vi 0, vi 0, vi 0, vi 0]), .box 28 (.agg [.agg [vi p, vi u, vi o, vi v, vi w], vi y, .own 11]), Aw 21 ag, Ai 3 k, .box 49 (.agg [vi 0, vi 0, vi 0, .nils]), Ai 3 ad, Aw 21 ac, Ai 3 aa], [[(0, vb f), (1, vs g), (5, .ptr 1 []), (6, .ptr 8 []), (12, vi n), (13, .ptr 2 []), (14, .ptr 0 []), (15, .ptr 3 []), (61, vb f), (62, vs g), (63, .fn 40 [.ptr 0 [], .ptr 1 [], .ptr 2 [], .ptr 3 []])]]⟩
def x21 (f g : LB) (k : LI) (n m a b h p u o v w y : Int) (aa : LI) (ab : Int) (ad : LI) (ac : LX) : Option R_ := H.e P_ [r,r,r,r,r,r,r,l,(call 3 31),r,r,r,r,r,l,r,d] (t21 f g k n m a b h p u o v w y aa ab ad ac)
theorem e40 : x40 = Fx := Eq.trans (b := Aaj) (by kernel_rfl) (by rw [An6]; rfl)
theorem e39 : x39 = Aj0 := Eq.trans (b := Ajx x40) (by kernel_rfl) (by simp only [e40] <;> rfl)
theorem e37 (kn21 : K_) (f g : LB) (k : LI) (n m a b h p u o v w y : Int) (aa : LI) : x37 kn21 f g k n m a b h p u o v w y aa = Abr (fun ab ad ac => kn21 (t21 f g k n m a b h p u o v w y aa ab ad ac)) f g k n m a b h p u o v w y aa := by kernel_rfl
theorem e36 (kn21 : K_) (f g : LB) (k : LI) (n m a b h p u o v w y : Int) (aa : LI) : x36 kn21 f g k n m a b h p u o v w y aa = Jn (fun ab ad ac => kn21 (t21 f g k n m a b h p u o v w y aa ab ad ac)) f g k n m a b h p u o v w y aa := Eq.trans (b := Aby x40 (x37 kn21 f g k n m a b h p u o v w y aa) f g k n m a b h p u o v w y aa) (by kernel_rfl) (by simp only [e40, e37] <;> rfl)
theorem e34 (kn21 : K_) (f g : LB) (k : LI) (n m a b h p u o v w y : Int) (aa : LI) : x34 kn21 f g k n a b h m p u o v w y aa = Ach (fun ab ad ac => kn21 (t21 f g k n m a b h p u o v w y aa ab ad ac)) f g k n a b h m p u o v w y aa := Eq.trans (b := Acx (x36 kn21 f g k n m a b h p u o v w y aa) f g k n a b h m p u o v w y aa) (by kernel_rfl) (by simp only [e36] <;> rfl)
theorem e35 (kn21 : K_) (f g : LB) (k : LI) (n m a b h p u o v w y : Int) (aa : LI) : x35 kn21 f g k n a b h m p u o v w y aa = Vr (fun ab ad ac => kn21 (t21 f g k n m a b h p u o v w y aa ab ad ac)) f g k n a b h m p u o v w y aa := Eq.trans (b := Vl (x36 kn21 f g k n m a b h p u o v w y aa) f g k n a b h m p u o v w y aa) (by kernel_rfl) (by simp only [e36] <;> rfl)
theorem e33 (kn21 : K_) (f g : LB) (k : LI) (n m a b h p u o v w y : Int) (aa : LI) : x33 kn21 f g k n m a b h p u o v w y aa = Vv (fun ab ad ac => kn21 (t21 f g k n m a b h p u o v w y aa ab ad ac)) f g k n m a b h p u o v w y aa := Eq.trans (b := Vu (x36 kn21 f g k n m a b h p u o v w y aa) (x34 kn21 f g k n a b h m p u o v w y aa) (x35 kn21 f g k n a b h m p u o v w y aa) f g k n m a b h p u o v w y aa) (by kernel_rfl) (by simp only [e36, e34, e35] <;> rfl)
theorem i21 (f g : LB) (k : LI) (n m a b h p u o v w y : Int) (aa : LI) : ∀ (q : Nat) (ab : Int) (ad : LI) (ac : LX), z21 q (t21 f g k n m a b h p u o v w y aa ab ad ac) = Ho f g k n m a b h p u o v w y aa q ab ad ac :=
 ind (fun _ _ _ => by kernel_rfl) fun q ih ab ad ac => Eq.trans (b := Ve x40 (x33 (z21 q) f g k n m a b h p u o v w y aa) x39 f g k n m a b h p u o v w y aa ab ad ac) (by kernel_rfl) (by simp only [e40, e33, e39, ih] <;> rfl)
theorem e21 : x21 = Abd := by funext f g k n m a b h p u o v w y aa ab ad ac; exact Eq.trans (by kernel_rfl) ((i21 f g k n m a b h p u o v w y aa Bn ab ad ac).trans (by rw [Al]; rfl))
noncomputable def F (x : LB × LB × Int) := Ec x.1 x.2.1 x.2.2
theorem rn (x : LB × LB × Int) : H.u P_ x = F x := Eq.trans (b := Em x40 x21 x.1 x.2.1 x.2.2) (by kernel_rfl) (by simp only [e40, e21] <;> rfl)
noncomputable def c : Con := ⟨H.p, H.r, F⟩
theorem ok : ConOk P_ Tryz.gl_0_1 20 c := Tryz.cr H Tryz.func20 (.cons (F8.ok.mono (.cons_cons _ (.cons _ .slnil))) (.cons F10.ok (.cons (F26.ok.mono (.cons _ (.cons _ .slnil))) (.cons F39.ok (.cons (F41.ok.mono (.cons _ (.cons _ .slnil))) (.cons (F68.ok.mono (.cons _ (.cons _ .slnil))) .nil)))))) (AnsOk.cons Tryz.ent31 (AnsOk.cons Tryz.ent40 AnsOk.nil)) (by kernel_rfl) rn
end F20
namespace F166
abbrev R_ := (Int × Int)
noncomputable def H : Hd := ⟨[Sb], [Si, Si], (.seq .d (.seq .d (.seq .d (.cut [4] [] (.seq .d (.blk (.loop [0, 4, 5] [] .d))) .d)))), ⟨[], Tryz.gl, false⟩, [], Tryz.f166⟩
def t4 (b : LB) (a f : Int) : S := ⟨[(0, vb b), (4, vi a), (5, vi f)], [], []⟩
def z4 : Nat → S → Option R_ := H.i P_ [r,r,r,l,r,d]
def x6 (a : Int) : Option R_ := H.e P_ [r,r,r,r] ⟨[(4, vi a)], [], []⟩
def x4 (b : LB) (a f : Int) : Option R_ := H.e P_ [r,r,r,l,r,d] (t4 b a f)
theorem e6 : x6 = Adi := by kernel_rfl
theorem i4 (b : LB) : ∀ (q : Nat) (a f : Int), z4 q (t4 b a f) = Gi b q a f :=
 ind (fun _ _ => by kernel_rfl) fun q ih a f => Eq.trans (b := Me x6 (fun a f => (z4 q) (t4 b a f)) b a f) (by kernel_rfl) (by simp only [e6, ih] <;> rfl)
theorem e4 : x4 = Ut := by funext b a f; exact Eq.trans (by kernel_rfl) ((i4 b Bn a f).trans (by rw [Al]; rfl))
noncomputable def F (x : LB) := Rp x
theorem rn (x : LB) : H.u P_ x = F x := Eq.trans (b := Uz x4 x) (by kernel_rfl) (by simp only [e4] <;> rfl)
noncomputable def c : Con := ⟨H.p, H.r, F⟩
theorem ok : ConOk P_ Tryz.gl 166 c := Tryz.co H Tryz.func166 .nil (by kernel_rfl) rn
end F166
namespace F131
abbrev R_ := (Int × Int)
noncomputable def H : Hd := ⟨[Sb], [Si, Si], (.seq .d (.cut [0] [] .d (.seq .d (.seq .d (.cut [0, 4] [] .d (.seq .d (.cut [0, 6] [] .d .d))))))), ⟨[(166, F166.c)], Tryz.gl, false⟩, [], Tryz.f131⟩
def x6 (a : LB) (g : Int) : Option R_ := H.e P_ [r,r,r,r,r,r,r] ⟨[(0, vb a), (6, vi g)], [], []⟩
def x5 (a : LB) (b : Int) : Option R_ := H.e P_ [r,r,r,r,r] ⟨[(0, vb a), (4, vi b)], [], []⟩
def x4 (a : LB) : Option R_ := H.e P_ [r,r] ⟨[(0, vb a)], [], []⟩
theorem e6 : x6 = Oe := by kernel_rfl
theorem e5 : x5 = Ns := Eq.trans (b := Ws x6) (by kernel_rfl) (by simp only [e6] <;> rfl)
theorem e4 : x4 = Xi := Eq.trans (b := Wu x5) (by kernel_rfl) (by simp only [e5] <;> rfl)
noncomputable def F (x : LB) := Vc x
theorem rn (x : LB) : H.u P_ x = F x := Eq.trans (b := Wo x4 x) (by kernel_rfl) (by simp only [e4] <;> rfl)
noncomputable def c : Con := ⟨H.p, H.r, F⟩
theorem ok : ConOk P_ Tryz.gl 131 c := Tryz.co H Tryz.func131 (.cons F166.ok .nil) (by kernel_rfl) rn
end F131
namespace F93
abbrev R_ := UInt64
noncomputable def H : Hd := ⟨[Sb], [Sq], (.seq .d (.seq .d (.cut [3] [] (.seq .d (.blk (.loop [0, 3, 4] [] .d))) .d))), ⟨[], Tryz.gl, false⟩, [], Tryz.f93⟩
def t4 (b : LB) (a : UInt64) (f : Int) : S := ⟨[(0, vb b), (3, vq a), (4, vi f)], [], []⟩
def z4 : Nat → S → Option R_ := H.i P_ [r,r,l,r,d]
def x6 (a : UInt64) : Option R_ := H.e P_ [r,r,r] ⟨[(3, vq a)], [], []⟩
def x4 (b : LB) (a : UInt64) (f : Int) : Option R_ := H.e P_ [r,r,l,r,d] (t4 b a f)
theorem e6 : x6 = Zt := by kernel_rfl
theorem i4 (b : LB) : ∀ (q : Nat) (a : UInt64) (f : Int), z4 q (t4 b a f) = It b q a f :=
 ind (fun _ _ => by kernel_rfl) fun q ih a f => Eq.trans (b := Rr x6 (fun a f => (z4 q) (t4 b a f)) b a f) (by kernel_rfl) (by simp only [e6, ih] <;> rfl)
theorem e4 : x4 = Zw := by funext b a f; exact Eq.trans (by kernel_rfl) ((i4 b Bn a f).trans (by rw [Al]; rfl))
noncomputable def F (x : LB) := Ao x
theorem rn (x : LB) : H.u P_ x = F x := Eq.trans (b := Aah x4 x) (by kernel_rfl) (by simp only [e4] <;> rfl)
noncomputable def c : Con := ⟨H.p, H.r, F⟩
theorem ok : ConOk P_ Tryz.gl 93 c := Tryz.co H Tryz.func93 .nil (by kernel_rfl) rn
end F93
namespace F158
noncomputable def H : Hd := ⟨[Sb], [Si, Si, Sz], .d, ⟨[(93, F93.c)], Tryz.gl, false⟩, [], Tryz.f158⟩
noncomputable def F (x : LB) := Jp x
theorem rn (x : LB) : H.u P_ x = F x := by kernel_rfl
noncomputable def c : Con := ⟨H.p, H.r, F⟩
theorem ok : ConOk P_ Tryz.gl 158 c := Tryz.co H Tryz.func158 (.cons F93.ok .nil) (by kernel_rfl) rn
end F158
namespace F97
abbrev R_ := LB
noncomputable def H : Hd := ⟨[Sq, Si], [Ob 5], (.seq .d (.seq .d (.cut [5] [] (.seq .d (.blk (.loop [0, 1, 5, 6] [⟨5, [], .own 5 (.int .u8)⟩] .d))) .d))), ⟨[], Tryz.gl, false⟩, [], Tryz.f97⟩
def t4 (b : Int) (f : UInt64) (g : Int) (a : LB) : S := ⟨[(0, vq f), (1, vi b), (5, .own 0), (6, vi g)], [Ab 5 a], []⟩
def z4 : Nat → S → Option R_ := H.i P_ [r,r,l,r,d]
def x6 (a : LB) : Option R_ := H.e P_ [r,r,r] ⟨[(5, .own 0)], [Ab 5 a], []⟩
def x4 (b : Int) (f : UInt64) (g : Int) (a : LB) : Option R_ := H.e P_ [r,r,l,r,d] (t4 b f g a)
theorem e6 : x6 = Rc := by kernel_rfl
theorem i4 (b : Int) : ∀ (q : Nat) (f : UInt64) (g : Int) (a : LB), z4 q (t4 b f g a) = Fb b q f g a :=
 ind (fun _ _ _ => by kernel_rfl) fun q ih f g a => Eq.trans (b := Jm x6 (fun f g a => (z4 q) (t4 b f g a)) b f g a) (by kernel_rfl) (by simp only [e6, ih] <;> rfl)
theorem e4 : x4 = Rg := by funext b f g a; exact Eq.trans (by kernel_rfl) ((i4 b Bn f g a).trans (by rw [Al]; rfl))
noncomputable def F (x : UInt64 × Int) := Dl x.1 x.2
theorem rn (x : UInt64 × Int) : H.u P_ x = F x := Eq.trans (b := Qq x4 x.1 x.2) (by kernel_rfl) (by simp only [e4] <;> rfl)
noncomputable def c : Con := ⟨H.p, H.r, F⟩
theorem ok : ConOk P_ Tryz.gl 97 c := Tryz.co H Tryz.func97 .nil (by kernel_rfl) rn
end F97
namespace F193
noncomputable def H : Hd := ⟨[Si, Si, Sq], [Ob 5], .d, ⟨[(97, F97.c)], Tryz.gl, false⟩, [], Tryz.f193⟩
noncomputable def F (x : Int × Int × UInt64) := Lh x.1 x.2.1 x.2.2
theorem rn (x : Int × Int × UInt64) : H.u P_ x = F x := by kernel_rfl
noncomputable def c : Con := ⟨H.p, H.r, F⟩
theorem ok : ConOk P_ Tryz.gl 193 c := Tryz.co H Tryz.func193 (.cons F97.ok .nil) (by kernel_rfl) rn
end F193
namespace F160
noncomputable def H : Hd := ⟨[Si, Si], [Ob 5], .d, ⟨[(193, F193.c)], Tryz.gl, false⟩, [], Tryz.f160⟩
noncomputable def F (x : Int × Int) := Oj x.1 x.2
theorem rn (x : Int × Int) : H.u P_ x = F x := by kernel_rfl
noncomputable def c : Con := ⟨H.p, H.r, F⟩
theorem ok : ConOk P_ Tryz.gl 160 c := Tryz.co H Tryz.func160 (.cons F193.ok .nil) (by kernel_rfl) rn
end F160
namespace F159
noncomputable def H : Hd := ⟨[Si, Si, Sz], [Ob 5], .d, ⟨[(193, F193.c)], Tryz.gl, false⟩, [], Tryz.f159⟩
noncomputable def F (x : Int × Int × Bool) := Eb x.1 x.2.1 x.2.2
theorem rn (x : Int × Int × Bool) : H.u P_ x = F x := by kernel_rfl
noncomputable def c : Con := ⟨H.p, H.r, F⟩
theorem ok : ConOk P_ Tryz.gl 159 c := Tryz.co H Tryz.func159 (.cons F193.ok .nil) (by kernel_rfl) rn
end F159
namespace F132
abbrev R_ := (Int × Int)
noncomputable def H : Hd := ⟨[Sb], [Si, Si], (.seq .d (.cut [0] [] .d (.seq .d (.seq .d (.cut [0, 4, 5] [] .d .d))))), ⟨[(158, F158.c), (159, F159.c), (160, F160.c)], Tryz.gl, false⟩, [], Tryz.f132⟩
def x4 (a : LB) (b f : Int) : Option R_ := H.e P_ [r,r,r,r,r] ⟨[(0, vb a), (4, vi b), (5, vi f)], [], []⟩
def x3 (a : LB) : Option R_ := H.e P_ [r,r] ⟨[(0, vb a)], [], []⟩
theorem e4 : x4 = Ur := by kernel_rfl
theorem e3 : x3 = Ud := Eq.trans (b := Ue x4) (by kernel_rfl) (by simp only [e4] <;> rfl)
noncomputable def F (x : LB) := Rt x
theorem rn (x : LB) : H.u P_ x = F x := Eq.trans (b := Uo x3 x) (by kernel_rfl) (by simp only [e3] <;> rfl)
noncomputable def c : Con := ⟨H.p, H.r, F⟩
theorem ok : ConOk P_ Tryz.gl 132 c := Tryz.co H Tryz.func132 (.cons F158.ok (.cons F159.ok (.cons F160.ok .nil))) (by kernel_rfl) rn
end F132
namespace F92
abbrev R_ := (LI × Int)
abbrev K_ := S → Option R_
noncomputable def H : Hd := ⟨[Sb], [Ol 3, Si], (.seq .d (.seq .d (.seq .d (.blk (.loop [0, 4, 5] [⟨4, [], .own 3 (.int .i64)⟩] (.blk (.seq .d (.cut [0, 4, 5, 6, 7] [] .d .d)))))))), ⟨[(131, F131.c), (132, F132.c)], Tryz.gl, false⟩, [], Tryz.f92⟩
def t6 (a : LB) (b : Int) (f : LI) : S := ⟨[(0, vb a), (4, .own 0), (5, vi b)], [Ai 3 f], []⟩
def z6 : Nat → S → Option R_ := H.i P_ [r,r,r,d]
def x9 (kn6 : K_) (a : LB) (b : Int) (f : LI) (g h : Int) : Option R_ := H.e P_ [r,r,r,d,(lp kn6),d,r,r] ⟨[(0, vb a), (4, .own 0), (5, vi b), (6, vi g), (7, vi h)], [Ai 3 f], []⟩
def x6 (a : LB) (b : Int) (f : LI) : Option R_ := H.e P_ [r,r,r,d] (t6 a b f)
theorem e9 (kn6 : K_) (a : LB) : x9 kn6 a = Ih (fun b f => kn6 (t6 a b f)) a := by kernel_rfl
theorem i6 (a : LB) : ∀ (q : Nat) (b : Int) (f : LI), z6 q (t6 a b f) = Ik a q b f :=
 ind (fun _ _ => by kernel_rfl) fun q ih b f => Eq.trans (b := Mp (x9 (z6 q) a) a b f) (by kernel_rfl) (by simp only [e9, ih] <;> rfl)
theorem e6 : x6 = Adn := by funext a b f; exact Eq.trans (by kernel_rfl) ((i6 a Bn b f).trans (by rw [Al]; rfl))
noncomputable def F (x : LB) := Aal x
theorem rn (x : LB) : H.u P_ x = F x := Eq.trans (b := Adm x6 x) (by kernel_rfl) (by simp only [e6] <;> rfl)
noncomputable def c : Con := ⟨H.p, H.r, F⟩
theorem ok : ConOk P_ Tryz.gl 92 c := Tryz.co H Tryz.func92 (.cons F131.ok (.cons F132.ok .nil)) (by kernel_rfl) rn
end F92
namespace F55
abbrev R_ := (Int × Int)
noncomputable def H : Hd := ⟨[Sb], [Si, Si], (.seq .d (.seq .d (.seq .d (.cut [5, 6] [] (.seq .d (.blk (.loop [4, 5, 6, 7] [] .d))) .d)))), ⟨[(92, F92.c)], Tryz.gl, false⟩, [], Tryz.f55⟩
def t4 (a : Int) (f : LI) (b g : Int) : S := ⟨[(4, .own 0), (5, vi a), (6, vi b), (7, vi g)], [Ai 3 f], []⟩
def z4 : Nat → S → Option R_ := H.i P_ [r,r,r,l,r,d]
def x6 (a b : Int) : Option R_ := H.e P_ [r,r,r,r] ⟨[(5, vi a), (6, vi b)], [], []⟩
def x4 (a : Int) (f : LI) (b g : Int) : Option R_ := H.e P_ [r,r,r,l,r,d] (t4 a f b g)
theorem e6 : x6 = Tz := by kernel_rfl
theorem i4 (a : Int) (f : LI) : ∀ (q : Nat) (b g : Int), z4 q (t4 a f b g) = Gc a f q b g :=
 ind (fun _ _ => by kernel_rfl) fun q ih b g => Eq.trans (b := Mm x6 (fun b g => (z4 q) (t4 a f b g)) a f b g) (by kernel_rfl) (by simp only [e6, ih] <;> rfl)
theorem e4 : x4 = Mf := by funext a f b g; exact Eq.trans (by kernel_rfl) ((i4 a f Bn b g).trans (by rw [Al]; rfl))
noncomputable def F (x : LB) := Lo x
theorem rn (x : LB) : H.u P_ x = F x := Eq.trans (b := Uh x4 x) (by kernel_rfl) (by simp only [e4] <;> rfl)
noncomputable def c : Con := ⟨H.p, H.r, F⟩
theorem ok : ConOk P_ Tryz.gl 55 c := Tryz.co H Tryz.func55 (.cons F92.ok .nil) (by kernel_rfl) rn
end F55
namespace F194
abbrev R_ := UInt32
noncomputable def H : Hd := ⟨[Su, Si], [Su], (.seq .d (.seq .d (.cut [0, 5] [] .d .d))), ⟨[], Tryz.gl, false⟩, [], Tryz.f194⟩
def x2 (a : UInt32) (b : Bool) : Option R_ := H.e P_ [r,r,r] ⟨[(0, vu a), (5, vt b)], [], []⟩
theorem e2 : x2 = Wd := by kernel_rfl
noncomputable def F (x : UInt32 × Int) := Vd x.1 x.2
theorem rn (x : UInt32 × Int) : H.u P_ x = F x := Eq.trans (b := Xb x2 x.1 x.2) (by kernel_rfl) (by simp only [e2] <;> rfl)
noncomputable def c : Con := ⟨H.p, H.r, F⟩
theorem ok : ConOk P_ Tryz.gl 194 c := Tryz.co H Tryz.func194 .nil (by kernel_rfl) rn
end F194
namespace F167
abbrev R_ := UInt32
noncomputable def H : Hd := ⟨[Su, Sc], [Su], (.seq .d (.cut [0] [] (.seq .d (.blk (.loop [0, 1, 5] [] .d))) .d)), ⟨[(194, F194.c)], Tryz.gl, false⟩, [], Tryz.f167⟩
def t4 (a : UInt32) (b : UInt8) (f : Int) : S := ⟨[(0, vu a), (1, vc b), (5, vi f)], [], []⟩
def z4 : Nat → S → Option R_ := H.i P_ [r,l,r,d]
def x6 (a : UInt32) : Option R_ := H.e P_ [r,r] ⟨[(0, vu a)], [], []⟩
def x4 (a : UInt32) (b : UInt8) (f : Int) : Option R_ := H.e P_ [r,l,r,d] (t4 a b f)
theorem e6 : x6 = Vw := by kernel_rfl
theorem i4 : ∀ (q : Nat) (a : UInt32) (b : UInt8) (f : Int), z4 q (t4 a b f) = Ha q a b f :=
 ind (fun _ _ _ => by kernel_rfl) fun q ih a b f => Eq.trans (b := Ok x6 (fun a b f => (z4 q) (t4 a b f)) a b f) (by kernel_rfl) (by simp only [e6, ih] <;> rfl)
theorem e4 : x4 = Afh := by funext a b f; exact Eq.trans (by kernel_rfl) ((i4 Bn a b f).trans (by rw [Al]; rfl))
noncomputable def F (x : UInt32 × UInt8) := Abg x.1 x.2
theorem rn (x : UInt32 × UInt8) : H.u P_ x = F x := Eq.trans (b := Afd x4 x.1 x.2) (by kernel_rfl) (by simp only [e4] <;> rfl)
noncomputable def c : Con := ⟨H.p, H.r, F⟩
theorem ok : ConOk P_ Tryz.gl 167 c := Tryz.co H Tryz.func167 (.cons F194.ok .nil) (by kernel_rfl) rn
end F167
namespace F133
abbrev R_ := UInt32
noncomputable def H : Hd := ⟨[Su, Sb], [Su], (.seq .d (.cut [0] [] (.seq .d (.blk (.loop [0, 1, 5] [] .d))) .d)), ⟨[(167, F167.c)], Tryz.gl, false⟩, [], Tryz.f133⟩
def t4 (b : LB) (a : UInt32) (f : Int) : S := ⟨[(0, vu a), (1, vb b), (5, vi f)], [], []⟩
def z4 : Nat → S → Option R_ := H.i P_ [r,l,r,d]
def x6 (a : UInt32) : Option R_ := H.e P_ [r,r] ⟨[(0, vu a)], [], []⟩
def x4 (b : LB) (a : UInt32) (f : Int) : Option R_ := H.e P_ [r,l,r,d] (t4 b a f)
theorem e6 : x6 = Ru := by kernel_rfl
theorem i4 (b : LB) : ∀ (q : Nat) (a : UInt32) (f : Int), z4 q (t4 b a f) = Ft b q a f :=
 ind (fun _ _ => by kernel_rfl) fun q ih a f => Eq.trans (b := Kx x6 (fun a f => (z4 q) (t4 b a f)) b a f) (by kernel_rfl) (by simp only [e6, ih] <;> rfl)
theorem e4 : x4 = Se := by funext b a f; exact Eq.trans (by kernel_rfl) ((i4 b Bn a f).trans (by rw [Al]; rfl))
noncomputable def F (x : UInt32 × LB) := Yb x.1 x.2
theorem rn (x : UInt32 × LB) : H.u P_ x = F x := Eq.trans (b := Td x4 x.1 x.2) (by kernel_rfl) (by simp only [e4] <;> rfl)
noncomputable def c : Con := ⟨H.p, H.r, F⟩
theorem ok : ConOk P_ Tryz.gl 133 c := Tryz.co H Tryz.func133 (.cons F167.ok .nil) (by kernel_rfl) rn
end F133
namespace F94
noncomputable def H : Hd := ⟨[Sb], [Su], .d, ⟨[(133, F133.c)], Tryz.gl, false⟩, [], Tryz.f94⟩
noncomputable def F (x : LB) := Nf x
theorem rn (x : LB) : H.u P_ x = F x := by kernel_rfl
noncomputable def c : Con := ⟨H.p, H.r, F⟩
theorem ok : ConOk P_ Tryz.gl 94 c := Tryz.co H Tryz.func94 (.cons F133.ok .nil) (by kernel_rfl) rn
end F94
namespace F95
noncomputable def H : Hd := ⟨[.agg [Si, Si, Si, Si, Si]], [Sz], .d, ⟨[], Tryz.gl, false⟩, [], Tryz.f95⟩
noncomputable def F (x : Int × Int × Int × Int × Int) := Pw x.1 x.2.1 x.2.2.1 x.2.2.2.1 x.2.2.2.2
theorem rn (x : Int × Int × Int × Int × Int) : H.u P_ x = F x := by kernel_rfl
noncomputable def c : Con := ⟨H.p, H.r, F⟩
theorem ok : ConOk P_ Tryz.gl 95 c := Tryz.co H Tryz.func95 .nil (by kernel_rfl) rn
end F95
namespace F75
noncomputable def H : Hd := ⟨[Si], [Si], .d, ⟨[], Tryz.gl, false⟩, [], Tryz.f75⟩
noncomputable def F (x : Int) := Nn x
theorem rn (x : Int) : H.u P_ x = F x := by kernel_rfl
noncomputable def c : Con := ⟨H.p, H.r, F⟩
theorem ok : ConOk P_ Tryz.gl 75 c := Tryz.co H Tryz.func75 .nil (by kernel_rfl) rn
end F75
namespace F37
abbrev R_ := LI
noncomputable def H : Hd := ⟨[Si, Si], [Ol 3], (.seq .d (.seq .d (.cut [5] [] (.seq .d (.blk (.loop [0, 5, 6] [⟨5, [], .own 3 (.int .i64)⟩] .d))) .d))), ⟨[(75, F75.c)], Tryz.gl, false⟩, [], Tryz.f37⟩
def t4 (b f : Int) (a : LI) : S := ⟨[(0, vi b), (5, .own 0), (6, vi f)], [Ai 3 a], []⟩
def z4 : Nat → S → Option R_ := H.i P_ [r,r,l,r,d]
def x6 (a : LI) : Option R_ := H.e P_ [r,r,r] ⟨[(5, .own 0)], [Ai 3 a], []⟩
def x4 (b f : Int) (a : LI) : Option R_ := H.e P_ [r,r,l,r,d] (t4 b f a)
theorem e6 : x6 = Il := by kernel_rfl
theorem i4 (b : Int) : ∀ (q : Nat) (f : Int) (a : LI), z4 q (t4 b f a) = Dw b q f a :=
 ind (fun _ _ => by kernel_rfl) fun q ih f a => Eq.trans (b := Gg x6 (fun f a => (z4 q) (t4 b f a)) b f a) (by kernel_rfl) (by simp only [e6, ih] <;> rfl)
theorem e4 : x4 = Uk := by funext b f a; exact Eq.trans (by kernel_rfl) ((i4 b Bn f a).trans (by rw [Al]; rfl))
noncomputable def F (x : Int × Int) := Cn x.1 x.2
theorem rn (x : Int × Int) : H.u P_ x = F x := Eq.trans (b := Uf x4 x.1 x.2) (by kernel_rfl) (by simp only [e4] <;> rfl)
noncomputable def c : Con := ⟨H.p, H.r, F⟩
theorem ok : ConOk P_ Tryz.gl 37 c := Tryz.co H Tryz.func37 (.cons F75.ok .nil) (by kernel_rfl) rn
end F37
namespace F96
def Uu (h a k f b : Int) : Option Bool :=
bo (
(Qx (Cl a 0)).bind fun _ =>
bo (
if (Hh b (Bs 4000 a)) then
some true
else
(Cn f b).bind fun g =>
some (Hh (Ac g) 1000)))
theorem Akg : @Uu = @Jz := by
  unfold Uu Jz
  simp only [Bjk, Bcr, Bcn]
noncomputable def H : Hd := ⟨[.agg [Si, Si, Si, Si, Si]], [Sz], (.seq .d (.seq (.mode false) .d)), ⟨[(37, F37.c)], Tryz.gl, false⟩, [], Tryz.f96⟩
noncomputable def F (x : Int × Int × Int × Int × Int) := Jz x.1 x.2.1 x.2.2.1 x.2.2.2.1 x.2.2.2.2
theorem rn (x : Int × Int × Int × Int × Int) : H.u P_ x = F x := Eq.trans (b := Uu x.1 x.2.1 x.2.2.1 x.2.2.2.1 x.2.2.2.2) (by kernel_rfl) (by rw [Akg]; rfl)
noncomputable def c : Con := ⟨H.p, H.r, F⟩
theorem ok : ConOk P_ Tryz.gl 96 c := Tryz.co H Tryz.func96 (.cons F37.ok .nil) (by kernel_rfl) rn
end F96
namespace F56
def Uv (j6 : UInt64 → UInt64 → UInt64 → UInt64 → UInt64 → Option (Int × Int × Int × Int × Int × Int)) (a : LB) : Option (Int × Int × Int × Int × Int × Int) :=
(Ce a 4 6).bind fun u =>
(Ce a 6 8).bind fun p =>
(Ce a 8 10).bind fun o =>
(Ce a 10 14).bind fun n =>
(Ce a 14 18).bind fun m =>
both (
(Ao u).bind fun k =>
both (
(Ao p).bind fun h =>
both (
(Ao o).bind fun g =>
both (
(Ao n).bind fun f =>
both (
(Ao m).bind fun b =>
bo (
j6 k h g f b)) [
(Ao m).bind fun b =>
j6 k h g f b]) [
(Ao n).bind fun f =>
(Ao m).bind fun b =>
j6 k h g f b]) [
(Ao o).bind fun g =>
(Ao n).bind fun f =>
(Ao m).bind fun b =>
j6 k h g f b]) [
(Ao p).bind fun h =>
(Ao o).bind fun g =>
(Ao n).bind fun f =>
(Ao m).bind fun b =>
j6 k h g f b]) [
(Ao u).bind fun k =>
(Ao p).bind fun h =>
(Ao o).bind fun g =>
(Ao n).bind fun f =>
(Ao m).bind fun b =>
j6 k h g f b]
theorem Ak0 : @Uv = @Od := by
  unfold Uv Od
  repeat (refine funext fun _ => ?_)
  repeat' first
    | with_reducible rfl
    | with_reducible refine Lk ?_ ?_
    | with_reducible refine Lr ?_ ?_ ?_
    | with_reducible refine Lw ?_ ?_ ?_ ?_
    | ((with_reducible refine Te ?_ ?_); focus (intro h; first | (subst h; rfl) | (simp only [h]; rfl) | (simp [Fz, Ac, h]; done)))
    | with_reducible refine Tk fun x => ?_
    | with_reducible refine Aak (fun _ => ?_) (fun _ => ?_)
    | (refine Gu (fun h => by simp only [h, Ta, Ek, Ej, ite_self]) (fun x h => ?_); (try simp only [h, Ek]))
    | (refine Io (fun h => ?_) (fun h => ?_) <;> simp only [h, if_true, if_false, Bool.false_eq_true])
abbrev R_ := (Int × Int × Int × Int × Int × Int)
noncomputable def H : Hd := ⟨[Sb], [.agg [Si, Si, Si, Si, Si], Si], (.seq .d (.seq .d (.cut [0, 2] [] .d (.seq .d (.cut [0, 2] [] .d (.cut [2, 5] [] .d .d)))))), ⟨[(93, F93.c), (94, F94.c), (95, F95.c), (96, F96.c)], Tryz.gl, false⟩, [], Tryz.f56⟩
def x6 (k h g f b : UInt64) : Option R_ := H.e P_ [r,r,r,r,r,r] ⟨[(2, .ptr 0 []), (5, .ptr 1 [])], [.box 25 (.agg [vi 0, vi 0, vi 0, vi 0, vi 0]), .box 25 (.agg [vi (Ad k : Int), vi (Ad h : Int), vi (Ad g : Int), vi (Ad f : Int), vi (Ad b : Int)])], []⟩
def x5 (a : LB) : Option R_ := H.e P_ [r,r,r,r,r] ⟨[(0, vb a), (2, .ptr 0 [])], [.box 25 (.agg [vi 0, vi 0, vi 0, vi 0, vi 0])], []⟩
def x4 (a : LB) : Option R_ := H.e P_ [r,r,r] ⟨[(0, vb a), (2, .ptr 0 [])], [.box 25 (.agg [vi 0, vi 0, vi 0, vi 0, vi 0])], []⟩
theorem e6 : x6 = Xk := by kernel_rfl
theorem e5 : x5 = Wq := Eq.trans (b := Uv x6) (by kernel_rfl) (by rw [Ak0]; simp only [e6] <;> rfl)
theorem e4 : x4 = Wm := Eq.trans (b := Wc x5) (by kernel_rfl) (by simp only [e5] <;> rfl)
noncomputable def F (x : LB) := Nj x
theorem rn (x : LB) : H.u P_ x = F x := Eq.trans (b := Wz x4 x) (by kernel_rfl) (by simp only [e4] <;> rfl)
noncomputable def c : Con := ⟨H.p, H.r, F⟩
theorem ok : ConOk P_ Tryz.gl 56 c := Tryz.co H Tryz.func56 (.cons F93.ok (.cons F94.ok (.cons F95.ok (.cons F96.ok .nil)))) (by kernel_rfl) rn
end F56
namespace F80
noncomputable def H : Hd := ⟨[Sb], [Si, .agg [Si, Si, Si, Si, Si], Si], (.seq .d (.seq .d (.seq .d (.seq .d (.seq .d (.seq (.mode false) .d)))))), ⟨[(55, F55.c), (56, F56.c)], Tryz.gl, false⟩, [], Tryz.f80⟩
noncomputable def F (x : LB) := Aaa x
theorem rn (x : LB) : H.u P_ x = F x := by kernel_rfl
noncomputable def c : Con := ⟨H.p, H.r, F⟩
theorem ok : ConOk P_ Tryz.gl 80 c := Tryz.co H Tryz.func80 (.cons F55.ok (.cons F56.ok .nil)) (by kernel_rfl) rn
end F80
namespace F195
abbrev R_ := UInt64
noncomputable def H : Hd := ⟨[Sq, Si], [Sq], (.seq .d (.seq .d (.cut [0, 5] [] .d .d))), ⟨[], Tryz.gl, false⟩, [], Tryz.f195⟩
def x2 (a : UInt64) (b : Bool) : Option R_ := H.e P_ [r,r,r] ⟨[(0, vq a), (5, vt b)], [], []⟩
theorem e2 : x2 = Nk := by kernel_rfl
noncomputable def F (x : UInt64 × Int) := Vs x.1 x.2
theorem rn (x : UInt64 × Int) : H.u P_ x = F x := Eq.trans (b := Xg x2 x.1 x.2) (by kernel_rfl) (by simp only [e2] <;> rfl)
noncomputable def c : Con := ⟨H.p, H.r, F⟩
theorem ok : ConOk P_ Tryz.gl 195 c := Tryz.co H Tryz.func195 .nil (by kernel_rfl) rn
end F195
namespace F168
abbrev R_ := UInt64
noncomputable def H : Hd := ⟨[Sq, Sc], [Sq], (.seq .d (.cut [0] [] (.seq .d (.blk (.loop [0, 1, 5] [] .d))) .d)), ⟨[(195, F195.c)], Tryz.gl, false⟩, [], Tryz.f168⟩
def t4 (b : UInt8) (a : UInt64) (f : Int) : S := ⟨[(0, vq a), (1, vc b), (5, vi f)], [], []⟩
def z4 : Nat → S → Option R_ := H.i P_ [r,l,r,d]
def x6 (a : UInt64) : Option R_ := H.e P_ [r,r] ⟨[(0, vq a)], [], []⟩
def x4 (b : UInt8) (a : UInt64) (f : Int) : Option R_ := H.e P_ [r,l,r,d] (t4 b a f)
theorem e6 : x6 = Vy := by kernel_rfl
theorem i4 (b : UInt8) : ∀ (q : Nat) (a : UInt64) (f : Int), z4 q (t4 b a f) = Hc b q a f :=
 ind (fun _ _ => by kernel_rfl) fun q ih a f => Eq.trans (b := Np x6 (fun a f => (z4 q) (t4 b a f)) b a f) (by kernel_rfl) (by simp only [e6, ih] <;> rfl)
theorem e4 : x4 = Afq := by funext b a f; exact Eq.trans (by kernel_rfl) ((i4 b Bn a f).trans (by rw [Al]; rfl))
noncomputable def F (x : UInt64 × UInt8) := Acp x.1 x.2
theorem rn (x : UInt64 × UInt8) : H.u P_ x = F x := Eq.trans (b := Afy x4 x.1 x.2) (by kernel_rfl) (by simp only [e4] <;> rfl)
noncomputable def c : Con := ⟨H.p, H.r, F⟩
theorem ok : ConOk P_ Tryz.gl 168 c := Tryz.co H Tryz.func168 (.cons F195.ok .nil) (by kernel_rfl) rn
end F168
namespace F134
abbrev R_ := UInt64
noncomputable def H : Hd := ⟨[Sq, Sb], [Sq], (.seq .d (.cut [0] [] (.seq .d (.blk (.loop [0, 1, 5] [] .d))) .d)), ⟨[(168, F168.c)], Tryz.gl, false⟩, [], Tryz.f134⟩
def t4 (b : LB) (a : UInt64) (f : Int) : S := ⟨[(0, vq a), (1, vb b), (5, vi f)], [], []⟩
def z4 : Nat → S → Option R_ := H.i P_ [r,l,r,d]
def x6 (a : UInt64) : Option R_ := H.e P_ [r,r] ⟨[(0, vq a)], [], []⟩
def x4 (b : LB) (a : UInt64) (f : Int) : Option R_ := H.e P_ [r,l,r,d] (t4 b a f)
theorem e6 : x6 = Rs := by kernel_rfl
theorem i4 (b : LB) : ∀ (q : Nat) (a : UInt64) (f : Int), z4 q (t4 b a f) = Fp b q a f :=
 ind (fun _ _ => by kernel_rfl) fun q ih a f => Eq.trans (b := Ks x6 (fun a f => (z4 q) (t4 b a f)) b a f) (by kernel_rfl) (by simp only [e6, ih] <;> rfl)
theorem e4 : x4 = Ab3 := by funext b a f; exact Eq.trans (by kernel_rfl) ((i4 b Bn a f).trans (by rw [Al]; rfl))
noncomputable def F (x : UInt64 × LB) := Qc x.1 x.2
theorem rn (x : UInt64 × LB) : H.u P_ x = F x := Eq.trans (b := Abn x4 x.1 x.2) (by kernel_rfl) (by simp only [e4] <;> rfl)
noncomputable def c : Con := ⟨H.p, H.r, F⟩
theorem ok : ConOk P_ Tryz.gl 134 c := Tryz.co H Tryz.func134 (.cons F168.ok .nil) (by kernel_rfl) rn
end F134
namespace F98
noncomputable def H : Hd := ⟨[Ss], [Sq], .d, ⟨[(134, F134.c)], Tryz.gl, false⟩, [], Tryz.f98⟩
noncomputable def F (x : LB) := Abm x
theorem rn (x : LB) : H.u P_ x = F x := by kernel_rfl
noncomputable def c : Con := ⟨H.p, H.r, F⟩
theorem ok : ConOk P_ Tryz.gl 98 c := Tryz.co H Tryz.func98 (.cons F134.ok .nil) (by kernel_rfl) rn
end F98
namespace F57
noncomputable def H : Hd := ⟨[Ss], [Ob 5], .d, ⟨[(97, F97.c), (98, F98.c)], Tryz.gl, false⟩, [], Tryz.f57⟩
noncomputable def F (x : LB) := Jh x
theorem rn (x : LB) : H.u P_ x = F x := by kernel_rfl
noncomputable def c : Con := ⟨H.p, H.r, F⟩
theorem ok : ConOk P_ Tryz.gl 57 c := Tryz.co H Tryz.func57 (.cons F97.ok (.cons F98.ok .nil)) (by kernel_rfl) rn
end F57
namespace F81
noncomputable def H : Hd := ⟨[Sb, Si, .agg [Si, Si, Si, Si, Si], Ss], [Si, Si], .d, ⟨[(57, F57.c)], Tryz.gl, false⟩, [], Tryz.f81⟩
noncomputable def F (x : LB × Int × Int × Int × Int × Int × Int × LB) := Ym x.1 x.2.1 x.2.2.1 x.2.2.2.1 x.2.2.2.2.1 x.2.2.2.2.2.1 x.2.2.2.2.2.2.1 x.2.2.2.2.2.2.2
theorem rn (x : LB × Int × Int × Int × Int × Int × Int × LB) : H.u P_ x = F x := by kernel_rfl
noncomputable def c : Con := ⟨H.p, H.r, F⟩
theorem ok : ConOk P_ Tryz.gl 81 c := Tryz.co H Tryz.func81 (.cons F57.ok .nil) (by kernel_rfl) rn
end F81
namespace F99
abbrev R_ := Int
abbrev K_ := S → Option R_
noncomputable def H : Hd := ⟨[Sl], [Si], (.seq .d (.seq .d (.seq .d (.cut [3] [] (.seq .d (.blk (.loop [0, 3, 4] [] (.seq .d (.seq (.blk (.cut [0, 3, 4] [] .d .d)) .d))))) .d)))), ⟨[], Tryz.gl, false⟩, [], Tryz.f99⟩
def t6 (a : LI) (b f : Int) : S := ⟨[(0, vl a), (3, vi b), (4, vi f)], [], []⟩
def z6 : Nat → S → Option R_ := H.i P_ [r,r,r,l,r,d]
def x10 (b : Int) : Option R_ := H.e P_ [r,r,r,r] ⟨[(3, vi b)], [], []⟩
def x8 (kn6 : K_) (a : LI) (b f : Int) : Option R_ := H.e P_ [r,r,r,l,r,d,(lp kn6),r,l,d,r] ⟨[(0, vl a), (3, vi b), (4, vi f)], [], []⟩
def x6 (a : LI) (b f : Int) : Option R_ := H.e P_ [r,r,r,l,r,d] (t6 a b f)
theorem e10 : x10 = Sr := by kernel_rfl
theorem e8 (kn6 : K_) (a : LI) : x8 kn6 a = Uq (fun b f => kn6 (t6 a b f)) a := by kernel_rfl
theorem i6 (a : LI) : ∀ (q : Nat) (b f : Int), z6 q (t6 a b f) = Gh a q b f :=
 ind (fun _ _ => by kernel_rfl) fun q ih b f => Eq.trans (b := Mj (x8 (z6 q) a) x10 a b f) (by kernel_rfl) (by simp only [e8, e10, ih] <;> rfl)
theorem e6 : x6 = Uy := by funext a b f; exact Eq.trans (by kernel_rfl) ((i6 a Bn b f).trans (by rw [Al]; rfl))
noncomputable def F (x : LI) := Rl x
theorem rn (x : LI) : H.u P_ x = F x := Eq.trans (b := Um x6 x) (by kernel_rfl) (by simp only [e6] <;> rfl)
noncomputable def c : Con := ⟨H.p, H.r, F⟩
theorem ok : ConOk P_ Tryz.gl 99 c := Tryz.co H Tryz.func99 .nil (by kernel_rfl) rn
end F99
namespace F58
abbrev R_ := (LI × Int)
noncomputable def H : Hd := ⟨[Sb, Si], [Ol 3, Si], (.seq .d (.seq .d (.seq .d (.cut [0, 1] [] .d (.seq .d (.cut [6] [] (.seq .d (.blk (.loop [0, 1, 6, 7] [⟨6, [], .own 3 (.int .i64)⟩] .d))) .d)))))), ⟨[(93, F93.c), (94, F94.c), (99, F99.c)], Tryz.gl, false⟩, [], Tryz.f58⟩
def t6 (b : LB) (a g : Int) (f : LI) : S := ⟨[(0, vb b), (1, vi a), (6, .own 0), (7, vi g)], [Ai 3 f], []⟩
def z6 : Nat → S → Option R_ := H.i P_ [r,r,r,r,r,l,r,d]
def x8 (f : LI) : Option R_ := H.e P_ [r,r,r,r,r,r] ⟨[(6, .own 0)], [Ai 3 f], []⟩
def x6 (b : LB) (a g : Int) (f : LI) : Option R_ := H.e P_ [r,r,r,r,r,l,r,d] (t6 b a g f)
def x5 (b : LB) (a : Int) : Option R_ := H.e P_ [r,r,r,r] ⟨[(0, vb b), (1, vi a)], [], []⟩
theorem e8 : x8 = Nm := by kernel_rfl
theorem i6 (b : LB) (a : Int) : ∀ (q : Nat) (g : Int) (f : LI), z6 q (t6 b a g f) = Gz b a q g f :=
 ind (fun _ _ => by kernel_rfl) fun q ih g f => Eq.trans (b := Og x8 (fun g f => (z6 q) (t6 b a g f)) b a g f) (by kernel_rfl) (by simp only [e8, ih] <;> rfl)
theorem e6 : x6 = Wt := by funext b a g f; exact Eq.trans (by kernel_rfl) ((i6 b a Bn g f).trans (by rw [Al]; rfl))
theorem e5 : x5 = Xa := Eq.trans (b := Wa x6) (by kernel_rfl) (by simp only [e6] <;> rfl)
noncomputable def F (x : LB × Int) := Oa x.1 x.2
theorem rn (x : LB × Int) : H.u P_ x = F x := Eq.trans (b := Wr x5 x.1 x.2) (by kernel_rfl) (by simp only [e5] <;> rfl)
noncomputable def c : Con := ⟨H.p, H.r, F⟩
theorem ok : ConOk P_ Tryz.gl 58 c := Tryz.co H Tryz.func58 (.cons F93.ok (.cons F94.ok (.cons F99.ok .nil))) (by kernel_rfl) rn
end F58
namespace F82
noncomputable def H : Hd := ⟨[Sb, Si, .agg [Si, Si, Si, Si, Si]], [Ol 3, Si], .d, ⟨[(37, F37.c), (58, F58.c)], Tryz.gl, false⟩, [], Tryz.f82⟩
noncomputable def F (x : LB × Int × Int × Int × Int × Int × Int) := Tj x.1 x.2.1 x.2.2.1 x.2.2.2.1 x.2.2.2.2.1 x.2.2.2.2.2.1 x.2.2.2.2.2.2
theorem rn (x : LB × Int × Int × Int × Int × Int × Int) : H.u P_ x = F x := by kernel_rfl
noncomputable def c : Con := ⟨H.p, H.r, F⟩
theorem ok : ConOk P_ Tryz.gl 82 c := Tryz.co H Tryz.func82 (.cons F37.ok (.cons F58.ok .nil)) (by kernel_rfl) rn
end F82
namespace F146
noncomputable def H : Hd := ⟨[Sq, Sb], [Sq, Si], .d, ⟨[(134, F134.c)], Tryz.gl, false⟩, [], Tryz.f146⟩
noncomputable def F (x : UInt64 × LB) := Acm x.1 x.2
theorem rn (x : UInt64 × LB) : H.u P_ x = F x := by kernel_rfl
noncomputable def c : Con := ⟨H.p, H.r, F⟩
theorem ok : ConOk P_ Tryz.gl 146 c := Tryz.co H Tryz.func146 (.cons F134.ok .nil) (by kernel_rfl) rn
end F146
namespace F110
noncomputable def H : Hd := ⟨[Sb], [Sq, Si], .d, ⟨[(146, F146.c)], Tryz.gl, false⟩, [], Tryz.f110⟩
noncomputable def F (x : LB) := Aef x
theorem rn (x : LB) : H.u P_ x = F x := by kernel_rfl
noncomputable def c : Con := ⟨H.p, H.r, F⟩
theorem ok : ConOk P_ Tryz.gl 110 c := Tryz.co H Tryz.func110 (.cons F146.ok .nil) (by kernel_rfl) rn
end F110
namespace F111
abbrev R_ := LX
abbrev K_ := S → Option R_
noncomputable def H : Hd := ⟨[Sq], [.lf (.vec 16 (.int .i32)) none], (.seq .d (.seq .d (.cut [2, 3] [] (.seq .d (.blk (.loop [0, 2, 3, 4] [] (.seq .d (.seq (.blk (.seq .d (.cut [0, 2, 3, 4, 5] [] .d .d))) .d))))) .d))), ⟨[], Tryz.gl, false⟩, [], Tryz.f111⟩
def t6 (b : UInt64) (f : Int) (a : LX) : S := ⟨[(0, vq b), (2, .ptr 0 []), (3, .ptr 1 []), (4, vi f)], [.box 109 (.val (.vec 16 (.int .i32)) (List.replicate 16 (0 : Int32))), .box 109 (.val (.vec 16 (.int .i32)) a)], []⟩
def z6 : Nat → S → Option R_ := H.i P_ [r,r,l,r,d]
def x10 (a : LX) : Option R_ := H.e P_ [r,r,r] ⟨[(2, .ptr 0 []), (3, .ptr 1 [])], [.box 109 (.val (.vec 16 (.int .i32)) (List.replicate 16 (0 : Int32))), .box 109 (.val (.vec 16 (.int .i32)) a)], []⟩
def x8 (kn6 : K_) (b : UInt64) (f : Int) (a : LX) (g : Int32) : Option R_ := H.e P_ [r,r,l,r,d,(lp kn6),r,l,d,r,r] ⟨[(0, vq b), (2, .ptr 0 []), (3, .ptr 1 []), (4, vi f), (5, vx g)], [.box 109 (.val (.vec 16 (.int .i32)) (List.replicate 16 (0 : Int32))), .box 109 (.val (.vec 16 (.int .i32)) a)], []⟩
def x6 (b : UInt64) (f : Int) (a : LX) : Option R_ := H.e P_ [r,r,l,r,d] (t6 b f a)
theorem e10 : x10 = Agv := by kernel_rfl
theorem e8 (kn6 : K_) : x8 kn6 = Rw (fun b f a => kn6 (t6 b f a)) := by kernel_rfl
theorem i6 : ∀ (q : Nat) (b : UInt64) (f : Int) (a : LX), z6 q (t6 b f a) = Gq q b f a :=
 ind (fun _ _ _ => by kernel_rfl) fun q ih b f a => Eq.trans (b := Sj (x8 (z6 q)) x10 b f a) (by kernel_rfl) (by simp only [e8, e10, ih] <;> rfl)
theorem e6 : x6 = Aie := by funext b f a; exact Eq.trans (by kernel_rfl) ((i6 Bn b f a).trans (by rw [Al]; rfl))
noncomputable def F (x : UInt64) := Aga x
theorem rn (x : UInt64) : H.u P_ x = F x := Eq.trans (b := Ajd x6 x) (by kernel_rfl) (by simp only [e6] <;> rfl)
noncomputable def c : Con := ⟨H.p, H.r, F⟩
theorem ok : ConOk P_ Tryz.gl 111 c := Tryz.co H Tryz.func111 .nil (by kernel_rfl) rn
end F111
namespace F65
noncomputable def H : Hd := ⟨[Ss], [.lf (.vec 16 (.int .i32)) none, Si], .d, ⟨[(110, F110.c), (111, F111.c)], Tryz.gl, false⟩, [], Tryz.f65⟩
noncomputable def F (x : LB) := Hq x
theorem rn (x : LB) : H.u P_ x = F x := by kernel_rfl
noncomputable def c : Con := ⟨H.p, H.r, F⟩
theorem ok : ConOk P_ Tryz.gl 65 c := Tryz.co H Tryz.func65 (.cons F110.ok (.cons F111.ok .nil)) (by kernel_rfl) rn
end F65
namespace F120
noncomputable def H : Hd := ⟨[Si], [Si], .d, ⟨[], Tryz.gl, false⟩, [], Tryz.f120⟩
noncomputable def F (x : Int) := Jo x
theorem rn (x : Int) : H.u P_ x = F x := by kernel_rfl
noncomputable def c : Con := ⟨H.p, H.r, F⟩
theorem ok : ConOk P_ Tryz.gl 120 c := Tryz.co H Tryz.func120 .nil (by kernel_rfl) rn
end F120
namespace F147
noncomputable def H : Hd := ⟨[.agg [Si, Si]], [Si], .d, ⟨[(120, F120.c)], Tryz.gl, false⟩, [], Tryz.f147⟩
noncomputable def F (x : Int × Int) := Zz x.1 x.2
theorem rn (x : Int × Int) : H.u P_ x = F x := by kernel_rfl
noncomputable def c : Con := ⟨H.p, H.r, F⟩
theorem ok : ConOk P_ Tryz.gl 147 c := Tryz.co H Tryz.func147 (.cons F120.ok .nil) (by kernel_rfl) rn
end F147
namespace F112
noncomputable def H : Hd := ⟨[.agg [Si, Si], Si], [Si], .d, ⟨[(147, F147.c)], Tryz.gl, false⟩, [], Tryz.f112⟩
noncomputable def F (x : Int × Int × Int) := Ro x.1 x.2.1 x.2.2
theorem rn (x : Int × Int × Int) : H.u P_ x = F x := by kernel_rfl
noncomputable def c : Con := ⟨H.p, H.r, F⟩
theorem ok : ConOk P_ Tryz.gl 112 c := Tryz.co H Tryz.func112 (.cons F147.ok .nil) (by kernel_rfl) rn
end F112
namespace F148
noncomputable def H : Hd := ⟨[Sb], [Ob 5], .d, ⟨[(94, F94.c)], Tryz.gl, false⟩, [], Tryz.f148⟩
noncomputable def F (x : LB) := Py x
theorem rn (x : LB) : H.u P_ x = F x := by kernel_rfl
noncomputable def c : Con := ⟨H.p, H.r, F⟩
theorem ok : ConOk P_ Tryz.gl 148 c := Tryz.co H Tryz.func148 (.cons F94.ok .nil) (by kernel_rfl) rn
end F148
namespace F113
noncomputable def H : Hd := ⟨[Sb], [Si], .d, ⟨[(148, F148.c)], Tryz.gl, false⟩, [], Tryz.f113⟩
noncomputable def F (x : LB) := Kj x
theorem rn (x : LB) : H.u P_ x = F x := by kernel_rfl
noncomputable def c : Con := ⟨H.p, H.r, F⟩
theorem ok : ConOk P_ Tryz.gl 113 c := Tryz.co H Tryz.func113 (.cons F148.ok .nil) (by kernel_rfl) rn
end F113
namespace F149
noncomputable def H : Hd := ⟨[], [.agg [Si, Si, Sq, Sq]], .d, ⟨[], Tryz.gl, false⟩, [], Tryz.f149⟩
noncomputable def F (x : Unit) := Ip
theorem rn (x : Unit) : H.u P_ x = F x := by kernel_rfl
noncomputable def c : Con := ⟨H.p, H.r, F⟩
theorem ok : ConOk P_ Tryz.gl 149 c := Tryz.co H Tryz.func149 .nil (by kernel_rfl) rn
end F149
namespace F186
abbrev R_ := UInt64
noncomputable def H : Hd := ⟨[Si], [Sq], (.seq .d (.seq .d (.cut [3] [] (.seq .d (.blk (.loop [0, 3, 4] [] .d))) .d))), ⟨[], Tryz.gl, false⟩, [], Tryz.f186⟩
def t4 (b : Int) (a : UInt64) (f : Int) : S := ⟨[(0, vi b), (3, vq a), (4, vi f)], [], []⟩
def z4 : Nat → S → Option R_ := H.i P_ [r,r,l,r,d]
def x6 (a : UInt64) : Option R_ := H.e P_ [r,r,r] ⟨[(3, vq a)], [], []⟩
def x4 (b : Int) (a : UInt64) (f : Int) : Option R_ := H.e P_ [r,r,l,r,d] (t4 b a f)
theorem e6 : x6 = Ads := by kernel_rfl
theorem i4 (b : Int) : ∀ (q : Nat) (a : UInt64) (f : Int), z4 q (t4 b a f) = Gb b q a f :=
 ind (fun _ _ => by kernel_rfl) fun q ih a f => Eq.trans (b := Ml x6 (fun a f => (z4 q) (t4 b a f)) b a f) (by kernel_rfl) (by simp only [e6, ih] <;> rfl)
theorem e4 : x4 = Adc := by funext b a f; exact Eq.trans (by kernel_rfl) ((i4 b Bn a f).trans (by rw [Al]; rfl))
noncomputable def F (x : Int) := Ei x
theorem rn (x : Int) : H.u P_ x = F x := Eq.trans (b := Adl x4 x) (by kernel_rfl) (by simp only [e4] <;> rfl)
noncomputable def c : Con := ⟨H.p, H.r, F⟩
theorem ok : ConOk P_ Tryz.gl 186 c := Tryz.co H Tryz.func186 .nil (by kernel_rfl) rn
end F186
namespace F204
noncomputable def H : Hd := ⟨[.agg [Si, Si, Sq, Sq], Su], [Sz], .d, ⟨[(186, F186.c)], Tryz.gl, false⟩, [], Tryz.f204⟩
noncomputable def F (x : Int × Int × UInt64 × UInt64 × UInt32) := Rb x.1 x.2.1 x.2.2.1 x.2.2.2.1 x.2.2.2.2
theorem rn (x : Int × Int × UInt64 × UInt64 × UInt32) : H.u P_ x = F x := by kernel_rfl
noncomputable def c : Con := ⟨H.p, H.r, F⟩
theorem ok : ConOk P_ Tryz.gl 204 c := Tryz.co H Tryz.func204 (.cons F186.ok .nil) (by kernel_rfl) rn
end F204
namespace F206
noncomputable def H : Hd := ⟨[.agg [Si, Si, Sq, Sq], Su], [Su], .d, ⟨[(186, F186.c)], Tryz.gl, false⟩, [], Tryz.f206⟩
noncomputable def F (x : Int × Int × UInt64 × UInt64 × UInt32) := Dj x.1 x.2.1 x.2.2.1 x.2.2.2.1 x.2.2.2.2
theorem rn (x : Int × Int × UInt64 × UInt64 × UInt32) : H.u P_ x = F x := by kernel_rfl
noncomputable def c : Con := ⟨H.p, H.r, F⟩
theorem ok : ConOk P_ Tryz.gl 206 c := Tryz.co H Tryz.func206 (.cons F186.ok .nil) (by kernel_rfl) rn
end F206
namespace F205
abbrev R_ := (Int × UInt64)
noncomputable def H : Hd := ⟨[Si, Sq, Sq], [Si, Sq], (.seq .d (.seq .d (.cut [0, 1] [] .d .d))), ⟨[(186, F186.c)], Tryz.gl, false⟩, [], Tryz.f205⟩
def x2 (b : Int) (a f : UInt64) : Option R_ := H.e P_ [r,r,r] ⟨[(0, vi b), (1, vq (Am (Ae a f) (Bs a (16 : UInt64))))], [], []⟩
theorem e2 : x2 = Nt := by kernel_rfl
noncomputable def F (x : Int × UInt64 × UInt64) := Cz x.1 x.2.1 x.2.2
theorem rn (x : Int × UInt64 × UInt64) : H.u P_ x = F x := Eq.trans (b := Wx x2 x.1 x.2.1 x.2.2) (by kernel_rfl) (by simp only [e2] <;> rfl)
noncomputable def c : Con := ⟨H.p, H.r, F⟩
theorem ok : ConOk P_ Tryz.gl 205 c := Tryz.co H Tryz.func205 (.cons F186.ok .nil) (by kernel_rfl) rn
end F205
namespace F182
def Qz (j2 : UInt32 → Int → Int → UInt64 → UInt64 → Int → UInt64 → Option (Int × Int × UInt64 × UInt64)) (f a : Int) (g b : UInt64) (h : UInt32) : Option (Int × Int × UInt64 × UInt64) :=
(Rb f a g b h).bind fun u =>
if (!u) then
both (
both (
(Dj f a g b h).bind fun k =>
(Cz a b (Ad k : UInt64)).bind fun (m, n) =>
j2 h f a g b m n) [
bo (
(Dj f a g b h).bind fun k =>
(Cz a b (Ad k : UInt64)).bind fun (m, n) =>
j2 h f a g b m n)]) [
both (
(Dj f a g b h).bind fun k =>
(Cz a b (Ad k : UInt64)).bind fun (m, n) =>
j2 h f a g b m n) [
bo (
(Dj f a g b h).bind fun k =>
(Cz a b (Ad k : UInt64)).bind fun (m, n) =>
j2 h f a g b m n)],
both (
bo (
(Dj f a g b h).bind fun k =>
(Cz a b (Ad k : UInt64)).bind fun (m, n) =>
j2 h f a g b m n)) [
bo (
(Dj f a g b h).bind fun k =>
(Cz a b (Ad k : UInt64)).bind fun (m, n) =>
j2 h f a g b m n),
(Dj f a g b h).bind fun k =>
bo (
(Cz a b (Ad k : UInt64)).bind fun (m, n) =>
j2 h f a g b m n)]]
else
j2 h f a g b a b
theorem Aij : @Qz = @Ku := by
  unfold Qz Ku
  repeat (refine funext fun _ => ?_)
  repeat' first
    | with_reducible rfl
    | with_reducible refine Lk ?_ ?_
    | with_reducible refine Lr ?_ ?_ ?_
    | with_reducible refine Lw ?_ ?_ ?_ ?_
    | ((with_reducible refine Te ?_ ?_); focus (intro h; first | (subst h; rfl) | (simp only [h]; rfl) | (simp [Fz, Ac, h]; done)))
    | with_reducible refine Tk fun x => ?_
    | with_reducible refine Aak (fun _ => ?_) (fun _ => ?_)
    | (refine Gu (fun h => by simp only [h, Ta, Ek, Ej, ite_self]) (fun x h => ?_); (try simp only [h, Ek]))
    | (refine Io (fun h => ?_) (fun h => ?_) <;> simp only [h, if_true, if_false, Bool.false_eq_true])
abbrev R_ := (Int × Int × UInt64 × UInt64)
noncomputable def H : Hd := ⟨[.agg [Si, Si, Sq, Sq], Su], [.agg [Si, Si, Sq, Sq]], (.seq .d (.seq .d (.cut [1, 2, 4, 5] [] (.seq .d (.cond (.mode false) .d)) .d))), ⟨[(204, F204.c), (205, F205.c), (206, F206.c)], Tryz.gl, false⟩, [], Tryz.f182⟩
def x2 (h : UInt32) (f a : Int) (g b : UInt64) (o : Int) (p : UInt64) : Option R_ := H.e P_ [r,r,r] ⟨[(1, vu h), (2, .ptr 0 []), (4, .ptr 1 []), (5, .ptr 2 [])], [.box 197 (.agg [vi f, vi a, vq g, vq b]), .box 197 (.agg [vi 0, vi 0, vq 0, vq 0]), .box 197 (.agg [vi f, vi o, vq g, vq p])], []⟩
theorem e2 : x2 = Lc := by kernel_rfl
noncomputable def F (x : Int × Int × UInt64 × UInt64 × UInt32) := Px x.1 x.2.1 x.2.2.1 x.2.2.2.1 x.2.2.2.2
theorem rn (x : Int × Int × UInt64 × UInt64 × UInt32) : H.u P_ x = F x := Eq.trans (b := Qz x2 x.1 x.2.1 x.2.2.1 x.2.2.2.1 x.2.2.2.2) (by kernel_rfl) (by rw [Aij]; simp only [e2] <;> rfl)
noncomputable def c : Con := ⟨H.p, H.r, F⟩
theorem ok : ConOk P_ Tryz.gl 182 c := Tryz.co H Tryz.func182 (.cons F204.ok (.cons F205.ok (.cons F206.ok .nil))) (by kernel_rfl) rn
end F182
namespace F150
abbrev R_ := (Int × Int × UInt64 × UInt64)
noncomputable def H : Hd := ⟨[Si, Sv], [.agg [Si, Si, Sq, Sq]], (.seq .d (.seq .d (.cut [4, 5] [] (.seq .d (.blk (.loop [0, 1, 4, 5, 6] [] .d))) .d))), ⟨[(149, F149.c), (182, F182.c)], Tryz.gl, false⟩, [], Tryz.f150⟩
def t4 (h : Int) (k : LU) (m a b : Int) (f g : UInt64) : S := ⟨[(0, vi h), (1, vv k), (4, .ptr 0 []), (5, .ptr 1 []), (6, vi m)], [.box 197 (.agg [vi 0, vi 0, vq 0, vq 0]), .box 197 (.agg [vi a, vi b, vq f, vq g])], []⟩
def z4 : Nat → S → Option R_ := H.i P_ [r,r,l,r,d]
def x6 (a b : Int) (f g : UInt64) : Option R_ := H.e P_ [r,r,r] ⟨[(4, .ptr 0 []), (5, .ptr 1 [])], [.box 197 (.agg [vi 0, vi 0, vq 0, vq 0]), .box 197 (.agg [vi a, vi b, vq f, vq g])], []⟩
def x4 (h : Int) (k : LU) (m a b : Int) (f g : UInt64) : Option R_ := H.e P_ [r,r,l,r,d] (t4 h k m a b f g)
theorem e6 : x6 = Aci := by kernel_rfl
theorem i4 (h : Int) (k : LU) : ∀ (q : Nat) (m a b : Int) (f g : UInt64), z4 q (t4 h k m a b f g) = Hm h k q m a b f g :=
 ind (fun _ _ _ _ _ => by kernel_rfl) fun q ih m a b f g => Eq.trans (b := Sn x6 (fun m a b f g => (z4 q) (t4 h k m a b f g)) h k m a b f g) (by kernel_rfl) (by simp only [e6, ih] <;> rfl)
theorem e4 : x4 = Ab9 := by funext h k m a b f g; exact Eq.trans (by kernel_rfl) ((i4 h k Bn m a b f g).trans (by rw [Al]; rfl))
noncomputable def F (x : Int × LU) := Kl x.1 x.2
theorem rn (x : Int × LU) : H.u P_ x = F x := Eq.trans (b := Rn x4 x.1 x.2) (by kernel_rfl) (by simp only [e4] <;> rfl)
noncomputable def c : Con := ⟨H.p, H.r, F⟩
theorem ok : ConOk P_ Tryz.gl 150 c := Tryz.co H Tryz.func150 (.cons F149.ok (.cons F182.ok .nil)) (by kernel_rfl) rn
end F150
namespace F153
abbrev R_ := Int
noncomputable def H : Hd := ⟨[.agg [Sb, Si], Si], [Si], (.seq .d (.seq .d (.cut [5] [] (.seq .d (.blk (.loop [1, 5, 6] [] .d))) .d))), ⟨[], Tryz.gl, false⟩, [], Tryz.f153⟩
def t4 (b a f : Int) : S := ⟨[(1, vi b), (5, vi a), (6, vi f)], [], []⟩
def z4 : Nat → S → Option R_ := H.i P_ [r,r,l,r,d]
def x6 (a : Int) : Option R_ := H.e P_ [r,r,r] ⟨[(5, vi a)], [], []⟩
def x4 (b a f : Int) : Option R_ := H.e P_ [r,r,l,r,d] (t4 b a f)
theorem e6 : x6 = Aad := by kernel_rfl
theorem i4 (b : Int) : ∀ (q : Nat) (a f : Int), z4 q (t4 b a f) = Ir b q a f :=
 ind (fun _ _ => by kernel_rfl) fun q ih a f => Eq.trans (b := Rv x6 (fun a f => (z4 q) (t4 b a f)) b a f) (by kernel_rfl) (by simp only [e6, ih] <;> rfl)
theorem e4 : x4 = Aab := by funext b a f; exact Eq.trans (by kernel_rfl) ((i4 b Bn a f).trans (by rw [Al]; rfl))
noncomputable def F (x : LB × Int × Int) := Hz x.1 x.2.1 x.2.2
theorem rn (x : LB × Int × Int) : H.u P_ x = F x := Eq.trans (b := Zu x4 x.1 x.2.1 x.2.2) (by kernel_rfl) (by simp only [e4] <;> rfl)
noncomputable def c : Con := ⟨H.p, H.r, F⟩
theorem ok : ConOk P_ Tryz.gl 153 c := Tryz.co H Tryz.func153 .nil (by kernel_rfl) rn
end F153
namespace F183
abbrev R_ := (LB × Int)
noncomputable def H : Hd := ⟨[.agg [Ob 5, Si], Si], [.agg [Ob 5, Si]], (.seq .d (.cut [1, 2, 4] [] .d (.seq .d (.cut [1, 2, 4, 5] [] (.seq .d (.blk (.loop [1, 2, 4, 5, 6] [] .d))) .d)))), ⟨[], Tryz.gl, false⟩, [], Tryz.f183⟩
def t6 (b a : Int) (f : LB) (g h : Int) : S := ⟨[(1, vi b), (2, .ptr 0 []), (4, .ptr 1 []), (5, vi g), (6, vi h)], [.box 156 (.agg [.own 2, vi a]), .box 156 (.agg [.nils, vi 0]), Ab 5 f], []⟩
def z6 : Nat → S → Option R_ := H.i P_ [r,r,r,l,r,d]
def x8 (b g a : Int) (f : LB) : Option R_ := H.e P_ [r,r,r,r] ⟨[(1, vi b), (2, .ptr 0 []), (4, .ptr 1 []), (5, vi g)], [.box 156 (.agg [.own 2, vi a]), .box 156 (.agg [.nils, vi 0]), Ab 5 f], []⟩
def x6 (b a : Int) (f : LB) (g h : Int) : Option R_ := H.e P_ [r,r,r,l,r,d] (t6 b a f g h)
def x5 (b a : Int) (f : LB) : Option R_ := H.e P_ [r,r] ⟨[(1, vi b), (2, .ptr 0 []), (4, .ptr 1 [])], [.box 156 (.agg [.own 2, vi a]), .box 156 (.agg [.nils, vi 0]), Ab 5 f], []⟩
theorem e8 : x8 = Ps := by kernel_rfl
theorem i6 (b a : Int) (f : LB) : ∀ (q : Nat) (g h : Int), z6 q (t6 b a f g h) = Hx b a f q g h :=
 ind (fun _ _ => by kernel_rfl) fun q ih g h => Eq.trans (b := Pp x8 (fun g h => (z6 q) (t6 b a f g h)) b a f g h) (by kernel_rfl) (by simp only [e8, ih] <;> rfl)
theorem e6 : x6 = Yh := by funext b a f g h; exact Eq.trans (by kernel_rfl) ((i6 b a f Bn g h).trans (by rw [Al]; rfl))
theorem e5 : x5 = Po := Eq.trans (b := Yq x6) (by kernel_rfl) (by simp only [e6] <;> rfl)
noncomputable def F (x : LB × Int × Int) := Qt x.1 x.2.1 x.2.2
theorem rn (x : LB × Int × Int) : H.u P_ x = F x := Eq.trans (b := Yj x5 x.1 x.2.1 x.2.2) (by kernel_rfl) (by simp only [e5] <;> rfl)
noncomputable def c : Con := ⟨H.p, H.r, F⟩
theorem ok : ConOk P_ Tryz.gl 183 c := Tryz.co H Tryz.func183 .nil (by kernel_rfl) rn
end F183
namespace F151
abbrev R_ := (LB × Int)
noncomputable def H : Hd := ⟨[.agg [Sb, Si], Si, Si], [.agg [Ob 5, Si]], (.seq .d (.seq .d (.cut [6, 7] [] (.seq .d (.blk (.loop [2, 3, 6, 7, 8] [⟨7, [0], .own 5 (.int .u8)⟩] .d))) .d))), ⟨[(153, F153.c), (183, F183.c)], Tryz.gl, false⟩, [], Tryz.f151⟩
def t4 (f : Int) (g : LB) (h k a : Int) (b : LB) : S := ⟨[(2, vi f), (3, .ptr 0 []), (6, .ptr 1 []), (7, .ptr 2 []), (8, vi k)], [.box 156 (.agg [vb g, vi h]), .box 156 (.agg [.nils, vi 0]), .box 156 (.agg [.own 3, vi a]), Ab 5 b], []⟩
def z4 : Nat → S → Option R_ := H.i P_ [r,r,l,r,d]
def x6 (a : Int) (b : LB) : Option R_ := H.e P_ [r,r,r] ⟨[(6, .ptr 0 []), (7, .ptr 1 [])], [.box 156 (.agg [.nils, vi 0]), .box 156 (.agg [.own 2, vi a]), Ab 5 b], []⟩
def x4 (f : Int) (g : LB) (h k a : Int) (b : LB) : Option R_ := H.e P_ [r,r,l,r,d] (t4 f g h k a b)
theorem e6 : x6 = Aap := by kernel_rfl
theorem i4 (f : Int) (g : LB) (h : Int) : ∀ (q : Nat) (k a : Int) (b : LB), z4 q (t4 f g h k a b) = Fg f g h q k a b :=
 ind (fun _ _ _ => by kernel_rfl) fun q ih k a b => Eq.trans (b := Ka x6 (fun k a b => (z4 q) (t4 f g h k a b)) f g h k a b) (by kernel_rfl) (by simp only [e6, ih] <;> rfl)
theorem e4 : x4 = Aaq := by funext f g h k a b; exact Eq.trans (by kernel_rfl) ((i4 f g h Bn k a b).trans (by rw [Al]; rfl))
noncomputable def F (x : LB × Int × Int × Int) := Wj x.1 x.2.1 x.2.2.1 x.2.2.2
theorem rn (x : LB × Int × Int × Int) : H.u P_ x = F x := Eq.trans (b := Aa5 x4 x.1 x.2.1 x.2.2.1 x.2.2.2) (by kernel_rfl) (by simp only [e4] <;> rfl)
noncomputable def c : Con := ⟨H.p, H.r, F⟩
theorem ok : ConOk P_ Tryz.gl 151 c := Tryz.co H Tryz.func151 (.cons F153.ok (.cons F183.ok .nil)) (by kernel_rfl) rn
end F151
namespace F184
abbrev R_ := UInt64
noncomputable def H : Hd := ⟨[.agg [Sb, Si], Si, Si], [Sq], (.seq .d (.seq .d (.cut [7] [] (.seq .d (.blk (.loop [1, 3, 7, 8] [] .d))) .d))), ⟨[(153, F153.c)], Tryz.gl, false⟩, [], Tryz.f184⟩
def t4 (b : Int) (f : LB) (g : Int) (a : UInt64) (h : Int) : S := ⟨[(1, vi b), (3, .ptr 0 []), (7, vq a), (8, vi h)], [.box 156 (.agg [vb f, vi g])], []⟩
def z4 : Nat → S → Option R_ := H.i P_ [r,r,l,r,d]
def x6 (a : UInt64) : Option R_ := H.e P_ [r,r,r] ⟨[(7, vq a)], [], []⟩
def x4 (b : Int) (f : LB) (g : Int) (a : UInt64) (h : Int) : Option R_ := H.e P_ [r,r,l,r,d] (t4 b f g a h)
theorem e6 : x6 = Adk := by kernel_rfl
theorem i4 (b : Int) (f : LB) (g : Int) : ∀ (q : Nat) (a : UInt64) (h : Int), z4 q (t4 b f g a h) = Ge b f g q a h :=
 ind (fun _ _ => by kernel_rfl) fun q ih a h => Eq.trans (b := Md x6 (fun a h => (z4 q) (t4 b f g a h)) b f g a h) (by kernel_rfl) (by simp only [e6, ih] <;> rfl)
theorem e4 : x4 = Ua := by funext b f g a h; exact Eq.trans (by kernel_rfl) ((i4 b f g Bn a h).trans (by rw [Al]; rfl))
noncomputable def F (x : LB × Int × Int × Int) := Lq x.1 x.2.1 x.2.2.1 x.2.2.2
theorem rn (x : LB × Int × Int × Int) : H.u P_ x = F x := Eq.trans (b := Ul x4 x.1 x.2.1 x.2.2.1 x.2.2.2) (by kernel_rfl) (by simp only [e4] <;> rfl)
noncomputable def c : Con := ⟨H.p, H.r, F⟩
theorem ok : ConOk P_ Tryz.gl 184 c := Tryz.co H Tryz.func184 (.cons F153.ok .nil) (by kernel_rfl) rn
end F184
namespace F207
abbrev R_ := (Int × Int)
noncomputable def H : Hd := ⟨[.agg [Sb, Si], Si], [Si, Si], (.seq .d (.seq .d (.cut [1, 2, 6] [] (.blk (.loop [1, 2, 6] [] .d)) .d))), ⟨[(153, F153.c)], Tryz.gl, false⟩, [], Tryz.f207⟩
def t4 (b : Int) (g : LB) (f a : Int) : S := ⟨[(1, vi b), (2, .ptr 0 []), (6, vi a)], [.box 156 (.agg [vb g, vi f])], []⟩
def z4 : Nat → S → Option R_ := H.i P_ [r,r,l,d]
def x6 (b a : Int) (g : LB) (f : Int) : Option R_ := H.e P_ [r,r,r] ⟨[(1, vi b), (2, .ptr 0 []), (6, vi a)], [.box 156 (.agg [vb g, vi f])], []⟩
def x4 (b : Int) (g : LB) (f a : Int) : Option R_ := H.e P_ [r,r,l,d] (t4 b g f a)
theorem e6 : x6 = Qe := by kernel_rfl
theorem i4 (b : Int) (g : LB) (f : Int) : ∀ (q : Nat) (a : Int), z4 q (t4 b g f a) = Hu b g f q a :=
 ind (fun _ => by kernel_rfl) fun q ih a => Eq.trans (b := Qa x6 (fun a => (z4 q) (t4 b g f a)) b g f a) (by kernel_rfl) (by simp only [e6, ih] <;> rfl)
theorem e4 : x4 = Agt := by funext b g f a; exact Eq.trans (by kernel_rfl) ((i4 b g f Bn a).trans (by rw [Al]; rfl))
noncomputable def F (x : LB × Int × Int) := Aek x.1 x.2.1 x.2.2
theorem rn (x : LB × Int × Int) : H.u P_ x = F x := Eq.trans (b := Agz x4 x.1 x.2.1 x.2.2) (by kernel_rfl) (by simp only [e4] <;> rfl)
noncomputable def c : Con := ⟨H.p, H.r, F⟩
theorem ok : ConOk P_ Tryz.gl 207 c := Tryz.co H Tryz.func207 (.cons F153.ok .nil) (by kernel_rfl) rn
end F207
namespace F208
noncomputable def H : Hd := ⟨[Su, Si], [Si], .d, ⟨[(186, F186.c)], Tryz.gl, false⟩, [], Tryz.f208⟩
noncomputable def F (x : UInt32 × Int) := Vp x.1 x.2
theorem rn (x : UInt32 × Int) : H.u P_ x = F x := by kernel_rfl
noncomputable def c : Con := ⟨H.p, H.r, F⟩
theorem ok : ConOk P_ Tryz.gl 208 c := Tryz.co H Tryz.func208 (.cons F186.ok .nil) (by kernel_rfl) rn
end F208
namespace F185
abbrev R_ := (UInt32 × Int × Int)
noncomputable def H : Hd := ⟨[.agg [Sb, Si], Si, Si], [Su, Si, Si], (.seq .d (.seq .d (.seq .d (.seq .d (.cut [2, 3, 9, 10, 11] [] .d .d))))), ⟨[(184, F184.c), (186, F186.c), (207, F207.c), (208, F208.c)], Tryz.gl, false⟩, [], Tryz.f185⟩
def x2 (g a b : Int) (h : LB) (f k : Int) : Option R_ := H.e P_ [r,r,r,r,r] ⟨[(2, vi g), (3, .ptr 0 []), (9, vi a), (10, vi b), (11, vi k)], [.box 156 (.agg [vb h, vi f])], []⟩
theorem e2 : x2 = Pq := by kernel_rfl
noncomputable def F (x : LB × Int × Int × Int) := Xp x.1 x.2.1 x.2.2.1 x.2.2.2
theorem rn (x : LB × Int × Int × Int) : H.u P_ x = F x := Eq.trans (b := Yg x2 x.1 x.2.1 x.2.2.1 x.2.2.2) (by kernel_rfl) (by simp only [e2] <;> rfl)
noncomputable def c : Con := ⟨H.p, H.r, F⟩
theorem ok : ConOk P_ Tryz.gl 185 c := Tryz.co H Tryz.func185 (.cons F184.ok (.cons F186.ok (.cons F207.ok (.cons F208.ok .nil)))) (by kernel_rfl) rn
end F185
namespace F152
noncomputable def H : Hd := ⟨[.agg [Sb, Si], Si, .agg [Si, Si, Sq, Sq]], [Su, Si, Si], .d, ⟨[(153, F153.c), (184, F184.c), (185, F185.c), (186, F186.c)], Tryz.gl, false⟩, [], Tryz.f152⟩
noncomputable def F (x : LB × Int × Int × Int × Int × UInt64 × UInt64) := Xw x.1 x.2.1 x.2.2.1 x.2.2.2.1 x.2.2.2.2.1 x.2.2.2.2.2.1 x.2.2.2.2.2.2
theorem rn (x : LB × Int × Int × Int × Int × UInt64 × UInt64) : H.u P_ x = F x := by kernel_rfl
noncomputable def c : Con := ⟨H.p, H.r, F⟩
theorem ok : ConOk P_ Tryz.gl 152 c := Tryz.co H Tryz.func152 (.cons F153.ok (.cons F184.ok (.cons F185.ok (.cons F186.ok .nil)))) (by kernel_rfl) rn
end F152
namespace F114
abbrev R_ := (LU × Int)
abbrev K_ := S → Option R_
noncomputable def H : Hd := ⟨[Si, Si, Sb], [Ov 92, Si], (.seq .d (.seq .d (.seq .d (.seq .d (.cut [8, 9, 10] [] (.seq .d (.blk (.loop [0, 1, 8, 9, 10, 11] [⟨9, [], .own 92 (.int .u32)⟩] (.seq .d (.seq (.blk (.seq .d (.cut [0, 1, 8, 9, 10, 11, 12] [] .d .d))) .d))))) (.seq .d (.cut [9] [] (.blk (.loop [8, 9, 10] [] .d)) .d))))))), ⟨[(149, F149.c), (150, F150.c), (151, F151.c), (152, F152.c), (153, F153.c)], Tryz.gl, false⟩, [], Tryz.f114⟩
def t16 (a : LB) (b : LU) (m : Int) : S := ⟨[(8, .ptr 0 []), (9, .own 1), (10, vi m)], [.box 156 (.agg [vb a, vi (Bj (8 : Int) (Ac a))]), Av 92 b], []⟩
def z16 : Nat → S → Option R_ := H.i P_ [r,r,r,r,r,r,l,d]
def t10 (g h : Int) (a : LB) (f k : Int) (b : LU) : S := ⟨[(0, vi g), (1, vi h), (8, .ptr 0 []), (9, .own 1), (10, vi f), (11, vi k)], [.box 156 (.agg [vb a, vi (Bj (8 : Int) (Ac a))]), Av 92 b], []⟩
def z10 : Nat → S → Option R_ := H.i P_ [r,r,r,r,l,r,d]
def x18 (b : LU) : Option R_ := H.e P_ [r,r,r,r,r,r,r] ⟨[(9, .own 0)], [Av 92 b], []⟩
def x16 (a : LB) (b : LU) (m : Int) : Option R_ := H.e P_ [r,r,r,r,r,r,l,d] (t16 a b m)
def x15 (f : Int) (a : LB) (b : LU) : Option R_ := H.e P_ [r,r,r,r,r] ⟨[(8, .ptr 0 []), (9, .own 1), (10, vi f)], [.box 156 (.agg [vb a, vi (Bj (8 : Int) (Ac a))]), Av 92 b], []⟩
def x13 (kn10 : K_) (g h : Int) (a : LB) (f k : Int) (b : LU) (o p : Int) (u v : UInt64) : Option R_ := H.e P_ [r,r,r,r,l,r,d,(lp kn10),r,l,d,r,r] ⟨[(0, vi g), (1, vi h), (8, .ptr 0 []), (9, .own 1), (10, vi f), (11, vi k), (12, .ptr 2 [])], [.box 156 (.agg [vb a, vi (Bj (8 : Int) (Ac a))]), Av 92 b, .box 197 (.agg [vi o, vi p, vq u, vq v])], []⟩
def x10 (g h : Int) (a : LB) (f k : Int) (b : LU) : Option R_ := H.e P_ [r,r,r,r,l,r,d] (t10 g h a f k b)
theorem e18 : x18 = Adj := by kernel_rfl
theorem i16 (a : LB) (b : LU) : ∀ (q : Nat) (m : Int), z16 q (t16 a b m) = Gj a b q m :=
 ind (fun _ => by kernel_rfl) fun q ih m => Eq.trans (b := Mt x18 (fun m => (z16 q) (t16 a b m)) a b m) (by kernel_rfl) (by simp only [e18, ih] <;> rfl)
theorem e16 : x16 = Ui := by funext a b m; exact Eq.trans (by kernel_rfl) ((i16 a b Bn m).trans (by rw [Al]; rfl))
theorem e15 : x15 = Mq := Eq.trans (b := Ux x16) (by kernel_rfl) (by simp only [e16] <;> rfl)
theorem e13 (kn10 : K_) (g h : Int) (a : LB) : x13 kn10 g h a = Gf (fun f k b => kn10 (t10 g h a f k b)) g h a := by kernel_rfl
theorem i10 (g h : Int) (a : LB) : ∀ (q : Nat) (f k : Int) (b : LU), z10 q (t10 g h a f k b) = Du g h a q f k b :=
 ind (fun _ _ _ => by kernel_rfl) fun q ih f k b => Eq.trans (b := Ug (x13 (z10 q) g h a) x15 g h a f k b) (by kernel_rfl) (by simp only [e13, e15, ih] <;> rfl)
theorem e10 : x10 = Ade := by funext g h a f k b; exact Eq.trans (by kernel_rfl) ((i10 g h a Bn f k b).trans (by rw [Al]; rfl))
noncomputable def F (x : Int × Int × LB) := Vh x.1 x.2.1 x.2.2
theorem rn (x : Int × Int × LB) : H.u P_ x = F x := Eq.trans (b := Vz x10 x.1 x.2.1 x.2.2) (by kernel_rfl) (by simp only [e10] <;> rfl)
noncomputable def c : Con := ⟨H.p, H.r, F⟩
theorem ok : ConOk P_ Tryz.gl 114 c := Tryz.co H Tryz.func114 (.cons F149.ok (.cons F150.ok (.cons F151.ok (.cons F152.ok (.cons F153.ok .nil))))) (by kernel_rfl) rn
end F114
namespace F209
noncomputable def H : Hd := ⟨[Si], [Si, Si], .d, ⟨[], Tryz.gl, false⟩, [], Tryz.f209⟩
noncomputable def F (x : Int) := Ai0 x
theorem rn (x : Int) : H.u P_ x = F x := by kernel_rfl
noncomputable def c : Con := ⟨H.p, H.r, F⟩
theorem ok : ConOk P_ Tryz.gl 209 c := Tryz.co H Tryz.func209 .nil (by kernel_rfl) rn
end F209
namespace F187
noncomputable def H : Hd := ⟨[Si, .lf (.vec 16 (.int .i32)) none], [.agg [Si, .lf (.vec 16 (.int .i32)) none, .lf (.vec 16 (.int .i32)) none], Si], .d, ⟨[(209, F209.c)], Tryz.gl, false⟩, [], Tryz.f187⟩
noncomputable def F (x : Int × LX) := All x.1 x.2
theorem rn (x : Int × LX) : H.u P_ x = F x := by kernel_rfl
noncomputable def c : Con := ⟨H.p, H.r, F⟩
theorem ok : ConOk P_ Tryz.gl 187 c := Tryz.co H Tryz.func187 (.cons F209.ok .nil) (by kernel_rfl) rn
end F187
namespace F154
noncomputable def H : Hd := ⟨[Si, .lf (.vec 16 (.int .i32)) none], [.agg [Si, Sx, .agg [Si, .lf (.vec 16 (.int .i32)) none, .lf (.vec 16 (.int .i32)) none]], Si], .d, ⟨[(187, F187.c)], Tryz.gl, false⟩, [], Tryz.f154⟩
noncomputable def F (x : Int × LX) := Ad5 x.1 x.2
theorem rn (x : Int × LX) : H.u P_ x = F x := by kernel_rfl
noncomputable def c : Con := ⟨H.p, H.r, F⟩
theorem ok : ConOk P_ Tryz.gl 154 c := Tryz.co H Tryz.func154 (.cons F187.ok .nil) (by kernel_rfl) rn
end F154
namespace F156
noncomputable def H : Hd := ⟨[Su], [Sx], .d, ⟨[], Tryz.gl, false⟩, [], Tryz.f156⟩
noncomputable def F (x : UInt32) := Jy x
theorem rn (x : UInt32) : H.u P_ x = F x := by kernel_rfl
noncomputable def c : Con := ⟨H.p, H.r, F⟩
theorem ok : ConOk P_ Tryz.gl 156 c := Tryz.co H Tryz.func156 .nil (by kernel_rfl) rn
end F156
namespace F189
noncomputable def H : Hd := ⟨[Si], [Sx], .d, ⟨[], Tryz.gl, false⟩, [], Tryz.f189⟩
noncomputable def F (x : Int) := By x
theorem rn (x : Int) : H.u P_ x = F x := by kernel_rfl
noncomputable def c : Con := ⟨H.p, H.r, F⟩
theorem ok : ConOk P_ Tryz.gl 189 c := Tryz.co H Tryz.func189 .nil (by kernel_rfl) rn
end F189
namespace F219
abbrev R_ := Int32
noncomputable def H : Hd := ⟨[.agg [Si, .lf (.vec 16 (.int .i32)) none, .lf (.vec 16 (.int .i32)) none]], [Sx], (.seq .d (.seq .d (.cut [3] [] (.seq .d (.blk (.loop [1, 3, 4] [] .d))) .d))), ⟨[(189, F189.c)], Tryz.gl, false⟩, [], Tryz.f219⟩
def t4 (h : Int) (f g : LX) (a b : Int) : S := ⟨[(1, .ptr 0 []), (3, vi a), (4, vi b)], [.box 206 (.agg [vi h, .val (.vec 16 (.int .i32)) f, .val (.vec 16 (.int .i32)) g])], []⟩
def z4 : Nat → S → Option R_ := H.i P_ [r,r,l,r,d]
def x6 (a : Int) : Option R_ := H.e P_ [r,r,r] ⟨[(3, vi a)], [], []⟩
def x4 (h : Int) (f g : LX) (a b : Int) : Option R_ := H.e P_ [r,r,l,r,d] (t4 h f g a b)
theorem e6 : x6 = Yo := by kernel_rfl
theorem i4 (h : Int) (f g : LX) : ∀ (q : Nat) (a b : Int), z4 q (t4 h f g a b) = Hv h f g q a b :=
 ind (fun _ _ => by kernel_rfl) fun q ih a b => Eq.trans (b := Pz x6 (fun a b => (z4 q) (t4 h f g a b)) h f g a b) (by kernel_rfl) (by simp only [e6, ih] <;> rfl)
theorem e4 : x4 = Ag2 := by funext h f g a b; exact Eq.trans (by kernel_rfl) ((i4 h f g Bn a b).trans (by rw [Al]; rfl))
noncomputable def F (x : Int × LX × LX) := Aem x.1 x.2.1 x.2.2
theorem rn (x : Int × LX × LX) : H.u P_ x = F x := Eq.trans (b := Agx x4 x.1 x.2.1 x.2.2) (by kernel_rfl) (by simp only [e4] <;> rfl)
noncomputable def c : Con := ⟨H.p, H.r, F⟩
theorem ok : ConOk P_ Tryz.gl 219 c := Tryz.co H Tryz.func219 (.cons F189.ok .nil) (by kernel_rfl) rn
end F219
namespace F210
abbrev R_ := Int32
noncomputable def H : Hd := ⟨[.agg [Si, .lf (.vec 16 (.int .i32)) none, .lf (.vec 16 (.int .i32)) none]], [Sx], (.seq .d (.seq .d (.cut [1, 3] [] .d .d))), ⟨[(189, F189.c), (219, F219.c)], Tryz.gl, false⟩, [], Tryz.f210⟩
def x2 (b : Int) (f g : LX) (a : Int) : Option R_ := H.e P_ [r,r,r] ⟨[(1, .ptr 0 []), (3, vi a)], [.box 206 (.agg [vi b, .val (.vec 16 (.int .i32)) f, .val (.vec 16 (.int .i32)) g])], []⟩
theorem e2 : x2 = Nu := by kernel_rfl
noncomputable def F (x : Int × LX × LX) := Vg x.1 x.2.1 x.2.2
theorem rn (x : Int × LX × LX) : H.u P_ x = F x := Eq.trans (b := Wi x2 x.1 x.2.1 x.2.2) (by kernel_rfl) (by simp only [e2] <;> rfl)
noncomputable def c : Con := ⟨H.p, H.r, F⟩
theorem ok : ConOk P_ Tryz.gl 210 c := Tryz.co H Tryz.func210 (.cons F189.ok (.cons F219.ok .nil)) (by kernel_rfl) rn
end F210
namespace F220
noncomputable def H : Hd := ⟨[Si], [Sx], .d, ⟨[], Tryz.gl, false⟩, [], Tryz.f220⟩
noncomputable def F (x : Int) := Vn x
theorem rn (x : Int) : H.u P_ x = F x := by kernel_rfl
noncomputable def c : Con := ⟨H.p, H.r, F⟩
theorem ok : ConOk P_ Tryz.gl 220 c := Tryz.co H Tryz.func220 .nil (by kernel_rfl) rn
end F220
namespace F221
noncomputable def H : Hd := ⟨[Sx], [Sx], .d, ⟨[], Tryz.gl, false⟩, [], Tryz.f221⟩
noncomputable def F (x : Int32) := Ny x
theorem rn (x : Int32) : H.u P_ x = F x := by kernel_rfl
noncomputable def c : Con := ⟨H.p, H.r, F⟩
theorem ok : ConOk P_ Tryz.gl 221 c := Tryz.co H Tryz.func221 .nil (by kernel_rfl) rn
end F221
namespace F212
abbrev R_ := (Int × LX × LX)
noncomputable def H : Hd := ⟨[.agg [Si, .lf (.vec 16 (.int .i32)) none, .lf (.vec 16 (.int .i32)) none], Sx], [.agg [Si, .lf (.vec 16 (.int .i32)) none, .lf (.vec 16 (.int .i32)) none]], (.seq .d (.cut [2, 4] [] (.seq .d (.blk (.loop [1, 2, 4, 5] [] .d))) .d)), ⟨[(220, F220.c), (221, F221.c)], Tryz.gl, false⟩, [], Tryz.f212⟩
def t4 (h : Int32) (g : Int) (a : LX) (f : Int) (b : LX) : S := ⟨[(1, vx h), (2, .ptr 0 []), (4, .ptr 1 []), (5, vi f)], [.box 206 (.agg [vi g, .val (.vec 16 (.int .i32)) b, .val (.vec 16 (.int .i32)) a]), .box 206 (.agg [vi 0, .val (.vec 16 (.int .i32)) (List.replicate 16 (0 : Int32)), .val (.vec 16 (.int .i32)) (List.replicate 16 (0 : Int32))])], []⟩
def z4 : Nat → S → Option R_ := H.i P_ [r,l,r,d]
def x6 (g : Int) (b a : LX) : Option R_ := H.e P_ [r,r] ⟨[(2, .ptr 0 []), (4, .ptr 1 [])], [.box 206 (.agg [vi g, .val (.vec 16 (.int .i32)) b, .val (.vec 16 (.int .i32)) a]), .box 206 (.agg [vi 0, .val (.vec 16 (.int .i32)) (List.replicate 16 (0 : Int32)), .val (.vec 16 (.int .i32)) (List.replicate 16 (0 : Int32))])], []⟩
def x4 (h : Int32) (g : Int) (a : LX) (f : Int) (b : LX) : Option R_ := H.e P_ [r,l,r,d] (t4 h g a f b)
theorem e6 : x6 = Aa9 := by kernel_rfl
theorem i4 (h : Int32) (g : Int) (a : LX) : ∀ (q : Nat) (f : Int) (b : LX), z4 q (t4 h g a f b) = Fa h g a q f b :=
 ind (fun _ _ => by kernel_rfl) fun q ih f b => Eq.trans (b := Jt x6 (fun f b => (z4 q) (t4 h g a f b)) h g a f b) (by kernel_rfl) (by simp only [e6, ih] <;> rfl)
theorem e4 : x4 = Aa7 := by funext h g a f b; exact Eq.trans (by kernel_rfl) ((i4 h g a Bn f b).trans (by rw [Al]; rfl))
noncomputable def F (x : Int × LX × LX × Int32) := Xe x.1 x.2.1 x.2.2.1 x.2.2.2
theorem rn (x : Int × LX × LX × Int32) : H.u P_ x = F x := Eq.trans (b := Aat x4 x.1 x.2.1 x.2.2.1 x.2.2.2) (by kernel_rfl) (by simp only [e4] <;> rfl)
noncomputable def c : Con := ⟨H.p, H.r, F⟩
theorem ok : ConOk P_ Tryz.gl 212 c := Tryz.co H Tryz.func212 (.cons F220.ok (.cons F221.ok .nil)) (by kernel_rfl) rn
end F212
namespace F211
abbrev R_ := (Int × LX × LX)
noncomputable def H : Hd := ⟨[.agg [Si, .lf (.vec 16 (.int .i32)) none, .lf (.vec 16 (.int .i32)) none], Sx], [.agg [Si, .lf (.vec 16 (.int .i32)) none, .lf (.vec 16 (.int .i32)) none]], (.seq .d (.cut [1, 2, 4] [] (.seq .d (.blk (.loop [1, 2, 4, 5] [] .d))) .d)), ⟨[], Tryz.gl, false⟩, [], Tryz.f211⟩
def t4 (b : Int32) (f : Int) (g : LX) (h : Int) (a : LX) : S := ⟨[(1, vx b), (2, .ptr 0 []), (4, .ptr 1 []), (5, vi h)], [.box 206 (.agg [vi f, .val (.vec 16 (.int .i32)) g, .val (.vec 16 (.int .i32)) a]), .box 206 (.agg [vi 0, .val (.vec 16 (.int .i32)) (List.replicate 16 (0 : Int32)), .val (.vec 16 (.int .i32)) (List.replicate 16 (0 : Int32))])], []⟩
def z4 : Nat → S → Option R_ := H.i P_ [r,l,r,d]
def x6 (b : Int32) (f : Int) (g a : LX) : Option R_ := H.e P_ [r,r] ⟨[(1, vx b), (2, .ptr 0 []), (4, .ptr 1 [])], [.box 206 (.agg [vi f, .val (.vec 16 (.int .i32)) g, .val (.vec 16 (.int .i32)) a]), .box 206 (.agg [vi 0, .val (.vec 16 (.int .i32)) (List.replicate 16 (0 : Int32)), .val (.vec 16 (.int .i32)) (List.replicate 16 (0 : Int32))])], []⟩
def x4 (b : Int32) (f : Int) (g : LX) (h : Int) (a : LX) : Option R_ := H.e P_ [r,l,r,d] (t4 b f g h a)
theorem e6 : x6 = Tb := by kernel_rfl
theorem i4 (b : Int32) (f : Int) (g : LX) : ∀ (q : Nat) (h : Int) (a : LX), z4 q (t4 b f g h a) = Fm b f g q h a :=
 ind (fun _ _ => by kernel_rfl) fun q ih h a => Eq.trans (b := Kw x6 (fun h a => (z4 q) (t4 b f g h a)) b f g h a) (by kernel_rfl) (by simp only [e6, ih] <;> rfl)
theorem e4 : x4 = Acu := by funext b f g h a; exact Eq.trans (by kernel_rfl) ((i4 b f g Bn h a).trans (by rw [Al]; rfl))
noncomputable def F (x : Int × LX × LX × Int32) := Yk x.1 x.2.1 x.2.2.1 x.2.2.2
theorem rn (x : Int × LX × LX × Int32) : H.u P_ x = F x := Eq.trans (b := Ab4 x4 x.1 x.2.1 x.2.2.1 x.2.2.2) (by kernel_rfl) (by simp only [e4] <;> rfl)
noncomputable def c : Con := ⟨H.p, H.r, F⟩
theorem ok : ConOk P_ Tryz.gl 211 c := Tryz.co H Tryz.func211 .nil (by kernel_rfl) rn
end F211
namespace F188
noncomputable def H : Hd := ⟨[.agg [Si, .lf (.vec 16 (.int .i32)) none, .lf (.vec 16 (.int .i32)) none], Sx], [Sx, .agg [Si, .lf (.vec 16 (.int .i32)) none, .lf (.vec 16 (.int .i32)) none]], .d, ⟨[(189, F189.c), (210, F210.c), (211, F211.c), (212, F212.c)], Tryz.gl, false⟩, [], Tryz.f188⟩
noncomputable def F (x : Int × LX × LX × Int32) := Of x.1 x.2.1 x.2.2.1 x.2.2.2
theorem rn (x : Int × LX × LX × Int32) : H.u P_ x = F x := by kernel_rfl
noncomputable def c : Con := ⟨H.p, H.r, F⟩
theorem ok : ConOk P_ Tryz.gl 188 c := Tryz.co H Tryz.func188 (.cons F189.ok (.cons F210.ok (.cons F211.ok (.cons F212.ok .nil)))) (by kernel_rfl) rn
end F188
namespace F213
abbrev R_ := Int32
noncomputable def H : Hd := ⟨[Si, Sx], [Sx], (.seq .d (.seq .d (.cut [1, 5] [] .d .d))), ⟨[], Tryz.gl, false⟩, [], Tryz.f213⟩
def x2 (b : Int32) (a : Int) : Option R_ := H.e P_ [r,r,r] ⟨[(1, vx b), (5, vi a)], [], []⟩
theorem e2 : x2 = Lb := by kernel_rfl
noncomputable def F (x : Int × Int32) := Kn x.1 x.2
theorem rn (x : Int × Int32) : H.u P_ x = F x := Eq.trans (b := Sk x2 x.1 x.2) (by kernel_rfl) (by simp only [e2] <;> rfl)
noncomputable def c : Con := ⟨H.p, H.r, F⟩
theorem ok : ConOk P_ Tryz.gl 213 c := Tryz.co H Tryz.func213 .nil (by kernel_rfl) rn
end F213
namespace F190
noncomputable def H : Hd := ⟨[.agg [Si, Sx, .agg [Si, .lf (.vec 16 (.int .i32)) none, .lf (.vec 16 (.int .i32)) none]]], [Si], .d, ⟨[(213, F213.c)], Tryz.gl, false⟩, [], Tryz.f190⟩
noncomputable def F (x : Int × Int32 × Int × LX × LX) := Qb x.1 x.2.1 x.2.2.1 x.2.2.2.1 x.2.2.2.2
theorem rn (x : Int × Int32 × Int × LX × LX) : H.u P_ x = F x := by kernel_rfl
noncomputable def c : Con := ⟨H.p, H.r, F⟩
theorem ok : ConOk P_ Tryz.gl 190 c := Tryz.co H Tryz.func190 (.cons F213.ok .nil) (by kernel_rfl) rn
end F190
namespace F155
noncomputable def H : Hd := ⟨[.agg [Si, Sx, .agg [Si, .lf (.vec 16 (.int .i32)) none, .lf (.vec 16 (.int .i32)) none]], Sx], [Sx, .agg [Si, Sx, .agg [Si, .lf (.vec 16 (.int .i32)) none, .lf (.vec 16 (.int .i32)) none]]], .d, ⟨[(188, F188.c), (189, F189.c), (190, F190.c)], Tryz.gl, false⟩, [], Tryz.f155⟩
noncomputable def F (x : Int × Int32 × Int × LX × LX × Int32) := He x.1 x.2.1 x.2.2.1 x.2.2.2.1 x.2.2.2.2.1 x.2.2.2.2.2
theorem rn (x : Int × Int32 × Int × LX × LX × Int32) : H.u P_ x = F x := by kernel_rfl
noncomputable def c : Con := ⟨H.p, H.r, F⟩
theorem ok : ConOk P_ Tryz.gl 155 c := Tryz.co H Tryz.func155 (.cons F188.ok (.cons F189.ok (.cons F190.ok .nil))) (by kernel_rfl) rn
end F155
namespace F191
noncomputable def H : Hd := ⟨[Si, Sw], [Si], .d, ⟨[], Tryz.gl, false⟩, [], Tryz.f191⟩
noncomputable def F (x : Int × LX) := Ma x.1 x.2
theorem rn (x : Int × LX) : H.u P_ x = F x := by kernel_rfl
noncomputable def c : Con := ⟨H.p, H.r, F⟩
theorem ok : ConOk P_ Tryz.gl 191 c := Tryz.co H Tryz.func191 .nil (by kernel_rfl) rn
end F191
namespace F192
abbrev R_ := LX
noncomputable def H : Hd := ⟨[Sw], [Ow 21], (.seq .d (.seq .d (.seq .d (.seq .d (.cut [0, 3, 4] [] .d (.cut [4] [] (.seq .d (.blk (.loop [0, 4, 5] [] .d))) .d)))))), ⟨[(189, F189.c)], Tryz.gl, false⟩, [], Tryz.f192⟩
def t6 (a : LX) (f : Int) (b : LX) : S := ⟨[(0, vw a), (4, .own 0), (5, vi f)], [Aw 21 b], []⟩
def z6 : Nat → S → Option R_ := H.i P_ [r,r,r,r,r,l,r,d]
def x8 (b : LX) : Option R_ := H.e P_ [r,r,r,r,r,r] ⟨[(4, .own 0)], [Aw 21 b], []⟩
def x6 (a : LX) (f : Int) (b : LX) : Option R_ := H.e P_ [r,r,r,r,r,l,r,d] (t6 a f b)
def x5 (a g : LX) : Option R_ := H.e P_ [r,r,r,r,r] ⟨[(0, vw a), (3, vi (Ac a)), (4, .own 0)], [Aw 21 g], []⟩
theorem e8 : x8 = Aa6 := by kernel_rfl
theorem i6 (a : LX) : ∀ (q : Nat) (f : Int) (b : LX), z6 q (t6 a f b) = Ey a q f b :=
 ind (fun _ _ => by kernel_rfl) fun q ih f b => Eq.trans (b := Jq x8 (fun f b => (z6 q) (t6 a f b)) a f b) (by kernel_rfl) (by simp only [e8, ih] <;> rfl)
theorem e6 : x6 = Aax := by funext a f b; exact Eq.trans (by kernel_rfl) ((i6 a Bn f b).trans (by rw [Al]; rfl))
theorem e5 : x5 = Js := Eq.trans (b := Qv x6) (by kernel_rfl) (by simp only [e6] <;> rfl)
noncomputable def F (x : LX) := Nz x
theorem rn (x : LX) : H.u P_ x = F x := Eq.trans (b := Qn x5 x) (by kernel_rfl) (by simp only [e5] <;> rfl)
noncomputable def c : Con := ⟨H.p, H.r, F⟩
theorem ok : ConOk P_ Tryz.gl 192 c := Tryz.co H Tryz.func192 (.cons F189.ok .nil) (by kernel_rfl) rn
end F192
namespace F157
abbrev R_ := (LX × Int)
noncomputable def H : Hd := ⟨[Si, Sw], [Ow 21, Si], (.seq .d (.seq .d (.seq .d (.cut [6] [] (.seq .d (.blk (.loop [0, 1, 6, 7] [⟨6, [], .own 21 (.int .i32)⟩] .d))) .d)))), ⟨[(191, F191.c), (192, F192.c)], Tryz.gl, false⟩, [], Tryz.f157⟩
def t4 (a : Int) (b : LX) (g : Int) (f : LX) : S := ⟨[(0, vi a), (1, vw b), (6, .own 0), (7, vi g)], [Aw 21 f], []⟩
def z4 : Nat → S → Option R_ := H.i P_ [r,r,r,l,r,d]
def x6 (f : LX) : Option R_ := H.e P_ [r,r,r,r] ⟨[(6, .own 0)], [Aw 21 f], []⟩
def x4 (a : Int) (b : LX) (g : Int) (f : LX) : Option R_ := H.e P_ [r,r,r,l,r,d] (t4 a b g f)
theorem e6 : x6 = Afa := by kernel_rfl
theorem i4 (a : Int) (b : LX) : ∀ (q : Nat) (g : Int) (f : LX), z4 q (t4 a b g f) = Ji a b q g f :=
 ind (fun _ _ => by kernel_rfl) fun q ih g f => Eq.trans (b := Wf x6 (fun g f => (z4 q) (t4 a b g f)) a b g f) (by kernel_rfl) (by simp only [e6, ih] <;> rfl)
theorem e4 : x4 = Afz := by funext a b g f; exact Eq.trans (by kernel_rfl) ((i4 a b Bn g f).trans (by rw [Al]; rfl))
noncomputable def F (x : Int × LX) := Vk x.1 x.2
theorem rn (x : Int × LX) : H.u P_ x = F x := Eq.trans (b := Wk x4 x.1 x.2) (by kernel_rfl) (by simp only [e4] <;> rfl)
noncomputable def c : Con := ⟨H.p, H.r, F⟩
theorem ok : ConOk P_ Tryz.gl 157 c := Tryz.co H Tryz.func157 (.cons F191.ok (.cons F192.ok .nil)) (by kernel_rfl) rn
end F157
namespace F116
def Pe (j29 : Int → Int32 → LX → Int → Int32 → Int → LX → LX → Int → Int32 → Int → LX → LX → Option (LX)) (j32 : Int → LX → Option (LX)) (b : LU) (a f : Int) (g : LX) (h k : Int) (m : LX) (n : Int) (o : Int32) (p : Int) (u v : LX) : Option (LX) :=
if (Dh k (Ac b)) then
(getI b k).bind fun ah =>
both (
(Jy ah).bind fun ag =>
bo (
(He n o p u v ag).bind fun (ae, y, aa, ab, ac, ad) =>
j29 k ae m n o p u v y aa ab ac ad)) [
(Jy ah).bind fun ag =>
(He n o p u v ag).bind fun (ae, y, aa, ab, ac, ad) =>
j29 k ae m n o p u v y aa ab ac ad]
else
j32 h m
theorem Ag8 : @Pe = @Jk := by
  unfold Pe Jk
  repeat (refine funext fun _ => ?_)
  repeat' first
    | with_reducible rfl
    | with_reducible refine Lk ?_ ?_
    | with_reducible refine Lr ?_ ?_ ?_
    | with_reducible refine Lw ?_ ?_ ?_ ?_
    | ((with_reducible refine Te ?_ ?_); focus (intro h; first | (subst h; rfl) | (simp only [h]; rfl) | (simp [Fz, Ac, h]; done)))
    | with_reducible refine Tk fun x => ?_
    | with_reducible refine Aak (fun _ => ?_) (fun _ => ?_)
    | (refine Gu (fun h => by simp only [h, Ta, Ek, Ej, ite_self]) (fun x h => ?_); (try simp only [h, Ek]))
    | (refine Io (fun h => ?_) (fun h => ?_) <;> simp only [h, if_true, if_false, Bool.false_eq_true])
abbrev R_ := LX
abbrev K_ := S → Option R_
noncomputable def H : Hd := ⟨[.agg [Si, Si], .lf (.vec 16 (.int .i32)) none, Sv], [Ow 21], (.seq .d (.seq .d (.cut [3, 7] [] (.seq .d (.blk (.loop [2, 3, 4, 7, 8] [] (.seq .d (.cut [2, 3, 4, 7, 8] [] (.blk (.seq .d (.seq .d (.blk (.loop [2, 3, 4, 7, 8, 9, 11] [] (.seq .d (.cut [2, 3, 4, 7, 8, 9, 11] [] (.blk (.cut [2, 3, 4, 7, 8, 9, 11, 12, 13] [] .d .d)) .d))))))) .d))))) .d))), ⟨[(154, F154.c), (155, F155.c), (156, F156.c), (157, F157.c)], Tryz.gl, false⟩, [], Tryz.f116⟩
def t26 (b : LU) (a f : Int) (g : LX) (h k : Int) (m : LX) (n : Int) (o : Int32) (p : Int) (u v : LX) : S := ⟨[(2, vv b), (3, .ptr 0 []), (4, .ptr 1 []), (7, .own 2), (8, vi h), (9, .ptr 3 []), (11, vi k)], [.box 77 (.agg [vi a, vi f]), .box 109 (.val (.vec 16 (.int .i32)) g), Aw 21 m, .box 208 (.agg [vi n, vx o, .agg [vi p, .val (.vec 16 (.int .i32)) u, .val (.vec 16 (.int .i32)) v]])], []⟩
def z26 (kn18 : K_) : Nat → S → Option R_ := H.i P_ [r,r,l,r,d,(lp kn18),r,l,d,r,r,d]
def t18 (b : LU) (a f : Int) (g : LX) (h : Int) (w : LX) : S := ⟨[(2, vv b), (3, .ptr 0 []), (4, .ptr 1 []), (7, .own 2), (8, vi h)], [.box 77 (.agg [vi a, vi f]), .box 109 (.val (.vec 16 (.int .i32)) g), Aw 21 w], []⟩
def z18 : Nat → S → Option R_ := H.i P_ [r,r,l,r,d]
def x34 (a f : Int) (w : LX) : Option R_ := H.e P_ [r,r,r] ⟨[(3, .ptr 0 []), (7, .own 1)], [.box 77 (.agg [vi a, vi f]), Aw 21 w], []⟩
def x32 (kn18 : K_) (b : LU) (a f : Int) (g : LX) (h : Int) (m : LX) : Option R_ := H.e P_ [r,r,l,r,d,(lp kn18),r,r] ⟨[(2, vv b), (3, .ptr 0 []), (4, .ptr 1 []), (7, .own 2), (8, vi h)], [.box 77 (.agg [vi a, vi f]), .box 109 (.val (.vec 16 (.int .i32)) g), Aw 21 m], []⟩
def x30 (kn18 kn26 : K_) (b : LU) (h a f : Int) (g : LX) (k : Int) (af : LX) (y : Int) (aa : Int32) (ab : Int) (ac ad : LX) : Option R_ := H.e P_ [r,r,l,r,d,(lp kn18),r,l,d,r,r,d,(lp kn26),r,r] ⟨[(2, vv b), (3, .ptr 0 []), (4, .ptr 1 []), (7, .own 2), (8, vi h), (9, .ptr 3 []), (11, vi k)], [.box 77 (.agg [vi a, vi f]), .box 109 (.val (.vec 16 (.int .i32)) g), Aw 21 af, .box 208 (.agg [vi y, vx aa, .agg [vi ab, .val (.vec 16 (.int .i32)) ac, .val (.vec 16 (.int .i32)) ad]])], []⟩
def x29 (kn18 kn26 : K_) (b : LU) (h a f : Int) (g : LX) (k : Int) (ae : Int32) (m : LX) (n : Int) (o : Int32) (p : Int) (u v : LX) (y : Int) (aa : Int32) (ab : Int) (ac ad : LX) : Option R_ := H.e P_ [r,r,l,r,d,(lp kn18),r,l,d,r,r,d,(lp kn26),r,l,d,r] ⟨[(2, vv b), (3, .ptr 0 []), (4, .ptr 1 []), (7, .own 2), (8, vi h), (9, .ptr 3 []), (11, vi k), (12, vx ae), (13, .ptr 4 [])], [.box 77 (.agg [vi a, vi f]), .box 109 (.val (.vec 16 (.int .i32)) g), Aw 21 m, .box 208 (.agg [vi n, vx o, .agg [vi p, .val (.vec 16 (.int .i32)) u, .val (.vec 16 (.int .i32)) v]]), .box 208 (.agg [vi y, vx aa, .agg [vi ab, .val (.vec 16 (.int .i32)) ac, .val (.vec 16 (.int .i32)) ad]])], []⟩
def x26 (kn18 : K_) (b : LU) (a f : Int) (g : LX) (h k : Int) (m : LX) (n : Int) (o : Int32) (p : Int) (u v : LX) : Option R_ := H.e P_ [r,r,l,r,d,(lp kn18),r,l,d,r,r,d] (t26 b a f g h k m n o p u v)
def x18 (b : LU) (a f : Int) (g : LX) (h : Int) (w : LX) : Option R_ := H.e P_ [r,r,l,r,d] (t18 b a f g h w)
theorem e34 : x34 = Jr := by kernel_rfl
theorem e32 (kn18 : K_) (b : LU) (a f : Int) (g : LX) : x32 kn18 b a f g = Qj (fun h w => kn18 (t18 b a f g h w)) b a f g := by kernel_rfl
theorem e30 (kn18 kn26 : K_) (b : LU) (a f : Int) (g : LX) (h : Int) : x30 kn18 kn26 b h a f g = Qo (fun k m n o p u v => kn26 (t26 b a f g h k m n o p u v)) b h a f g := by kernel_rfl
theorem e29 (kn18 kn26 : K_) (b : LU) (a f : Int) (g : LX) (h : Int) : x29 kn18 kn26 b h a f g = Qy (fun k m n o p u v => kn26 (t26 b a f g h k m n o p u v)) b h a f g := Eq.trans (b := Qw (x30 kn18 kn26 b h a f g) b h a f g) (by kernel_rfl) (by simp only [e30] <;> rfl)
theorem i26 (kn18 : K_) (b : LU) (a f : Int) (g : LX) (h : Int) : ∀ (q : Nat) (k : Int) (m : LX) (n : Int) (o : Int32) (p : Int) (u v : LX), z26 kn18 q (t26 b a f g h k m n o p u v) = Gv (fun h w => kn18 (t18 b a f g h w)) b a f g h q k m n o p u v :=
 ind (fun _ _ _ _ _ _ _ => by kernel_rfl) fun q ih k m n o p u v => Eq.trans (b := Pe (x29 kn18 (z26 kn18 q) b h a f g) (x32 kn18 b a f g) b a f g h k m n o p u v) (by kernel_rfl) (by rw [Ag8]; simp only [e29, e32, ih] <;> rfl)
theorem e26 (kn18 : K_) (b : LU) (a f : Int) (g : LX) : x26 kn18 b a f g = Qm (fun h w => kn18 (t18 b a f g h w)) b a f g := by funext h k m n o p u v; exact Eq.trans (by kernel_rfl) ((i26 kn18 b a f g h Bn k m n o p u v).trans (by rw [Al]; rfl))
theorem i18 (b : LU) (a f : Int) (g : LX) : ∀ (q : Nat) (h : Int) (w : LX), z18 q (t18 b a f g h w) = Dy b a f g q h w :=
 ind (fun _ _ => by kernel_rfl) fun q ih h w => Eq.trans (b := Jl (x26 (z18 q) b a f g) x34 b a f g h w) (by kernel_rfl) (by simp only [e26, e34, ih] <;> rfl)
theorem e18 : x18 = Rj := by funext b a f g h w; exact Eq.trans (by kernel_rfl) ((i18 b a f g Bn h w).trans (by rw [Al]; rfl))
noncomputable def F (x : Int × Int × LX × LU) := Dd x.1 x.2.1 x.2.2.1 x.2.2.2
theorem rn (x : Int × Int × LX × LU) : H.u P_ x = F x := Eq.trans (b := Tc x18 x.1 x.2.1 x.2.2.1 x.2.2.2) (by kernel_rfl) (by simp only [e18] <;> rfl)
noncomputable def c : Con := ⟨H.p, H.r, F⟩
theorem ok : ConOk P_ Tryz.gl 116 c := Tryz.co H Tryz.func116 (.cons F154.ok (.cons F155.ok (.cons F156.ok (.cons F157.ok .nil)))) (by kernel_rfl) rn
end F116
namespace F117
abbrev R_ := Int
noncomputable def H : Hd := ⟨[Si, Sw], [Si], (.seq .d (.seq .d (.seq .d (.seq .d (.cut [] [] (.seq .d (.blk (.loop [1, 5, 6] [] .d))) .d))))), ⟨[(120, F120.c)], Tryz.gl, false⟩, [], Tryz.f117⟩
def t4 (a : LX) (b f : Int) : S := ⟨[(1, vw a), (5, vi b), (6, vi f)], [], []⟩
def z4 : Nat → S → Option R_ := H.i P_ [r,r,r,r,l,r,d]
def x6 : Option R_ := H.e P_ [r,r,r,r,r] ⟨[], [], []⟩
def x4 (a : LX) (b f : Int) : Option R_ := H.e P_ [r,r,r,r,l,r,d] (t4 a b f)
theorem e6 : x6 = Adb := by kernel_rfl
theorem i4 (a : LX) (b : Int) : ∀ (q : Nat) (f : Int), z4 q (t4 a b f) = Bv a b q f :=
 ind (fun _ => by kernel_rfl) fun q ih f => Eq.trans (b := Et x6 (fun f => (z4 q) (t4 a b f)) a b f) (by kernel_rfl) (by simp only [e6, ih] <;> rfl)
theorem e4 : x4 = Ada := by funext a b f; exact Eq.trans (by kernel_rfl) ((i4 a b Bn f).trans (by rw [Al]; rfl))
noncomputable def F (x : Int × LX) := cadenzaref18_Check x.1 x.2
theorem rn (x : Int × LX) : H.u P_ x = F x := Eq.trans (b := Ii x4 x.1 x.2) (by kernel_rfl) (by simp only [e4] <;> rfl)
noncomputable def c : Con := ⟨H.p, H.r, F⟩
theorem ok : ConOk P_ Tryz.gl 117 c := Tryz.co H Tryz.func117 (.cons F120.ok .nil) (by kernel_rfl) rn
end F117
namespace F115
noncomputable def H : Hd := ⟨[.agg [Si, Si], Sw], [Sw, Si], .d, ⟨[(117, F117.c)], Tryz.gl, false⟩, [], Tryz.f115⟩
noncomputable def F (x : Int × Int × LX) := Dx x.1 x.2.1 x.2.2
theorem rn (x : Int × Int × LX) : H.u P_ x = F x := by kernel_rfl
noncomputable def c : Con := ⟨H.p, H.r, F⟩
theorem ok : ConOk P_ Tryz.gl 115 c := Tryz.co H Tryz.func115 (.cons F117.ok .nil) (by kernel_rfl) rn
end F115
namespace F66
def Qf (n a b : Int) (f : LX) (g : LU) : Option (LX × Int) :=
if (Cl n 0) then
some (([] : LX), n)
else
both (
bo (
(Dd a b f g).bind fun h =>
(Dx a b h).bind fun (k, m) =>
some (k, m))) [
both (
(Dd a b f g).bind fun h =>
(Dx a b h).bind fun (k, m) =>
some (k, m)) [
bo (
(Dd a b f g).bind fun h =>
(Dx a b h).bind fun (k, m) =>
some (k, m))],
both (
(Dd a b f g).bind fun h =>
(Dx a b h).bind fun (k, m) =>
some (k, m)) [
bo (
(Dd a b f g).bind fun h =>
(Dx a b h).bind fun (k, m) =>
some (k, m))]]
theorem Aid : @Qf = @Hn := by
  unfold Qf Hn
  repeat (refine funext fun _ => ?_)
  repeat' first
    | with_reducible rfl
    | with_reducible refine Lk ?_ ?_
    | with_reducible refine Lr ?_ ?_ ?_
    | with_reducible refine Lw ?_ ?_ ?_ ?_
    | ((with_reducible refine Te ?_ ?_); focus (intro h; first | (subst h; rfl) | (simp only [h]; rfl) | (simp [Fz, Ac, h]; done)))
    | with_reducible refine Tk fun x => ?_
    | with_reducible refine Aak (fun _ => ?_) (fun _ => ?_)
    | (refine Gu (fun h => by simp only [h, Ta, Ek, Ej, ite_self]) (fun x h => ?_); (try simp only [h, Ek]))
    | (refine Io (fun h => ?_) (fun h => ?_) <;> simp only [h, if_true, if_false, Bool.false_eq_true])
abbrev R_ := (LX × Int)
noncomputable def H : Hd := ⟨[.agg [Si, Si], .lf (.vec 16 (.int .i32)) none, Si, Sb], [Sw, Si], (.seq .d (.seq .d (.seq .d (.cut [4, 5, 10, 11] [] .d (.seq .d (.seq (.mode false) .d)))))), ⟨[(112, F112.c), (113, F113.c), (114, F114.c), (115, F115.c), (116, F116.c)], Tryz.gl, false⟩, [], Tryz.f66⟩
def x2 (n a b : Int) (f : LX) (g : LU) : Option R_ := H.e P_ [r,r,r,r] ⟨[(4, .ptr 0 []), (5, .ptr 1 []), (10, .own 2), (11, vi n)], [.box 77 (.agg [vi a, vi b]), .box 109 (.val (.vec 16 (.int .i32)) f), Av 92 g], []⟩
theorem e2 : x2 = La := Eq.trans (b := Qf) (by kernel_rfl) (by rw [Aid]; rfl)
noncomputable def F (x : Int × Int × LX × Int × LB) := cadenzaref21_Decode x.1 x.2.1 x.2.2.1 x.2.2.2.1 x.2.2.2.2
theorem rn (x : Int × Int × LX × Int × LB) : H.u P_ x = F x := Eq.trans (b := Rz x2 x.1 x.2.1 x.2.2.1 x.2.2.2.1 x.2.2.2.2) (by kernel_rfl) (by simp only [e2] <;> rfl)
noncomputable def c : Con := ⟨H.p, H.r, F⟩
theorem ok : ConOk P_ Tryz.gl 66 c := Tryz.co H Tryz.func66 (.cons F112.ok (.cons F113.ok (.cons F114.ok (.cons F115.ok (.cons F116.ok .nil))))) (by kernel_rfl) rn
end F66
namespace F124
def Ty (j5 : LB → Int → Int → LB → LB → Option (Int × Int)) (a : LB) : Option (Int × Int) :=
(Ce a (Am (Ac a) 32) (Ac a)).bind fun b =>
(Jp b).bind fun (f, g, n) =>
if (!n) then
some (0, 12)
else
(Eb f g true).bind fun h =>
both (
if (!(b == h)) then
(Eb f g false).bind fun m =>
if (b != m) then
some (0, 12)
else
j5 a f g b h
else
j5 a f g b h) [
if (!(b == h)) then
(Eb f g false).bind fun m =>
bo (
if (b != m) then
some (0, 12)
else
j5 a f g b h)
else
j5 a f g b h]
theorem Aj4 : @Ty = @Oh := by
  unfold Ty Oh
  repeat (refine funext fun _ => ?_)
  repeat' first
    | with_reducible rfl
    | with_reducible refine Lk ?_ ?_
    | with_reducible refine Lr ?_ ?_ ?_
    | with_reducible refine Lw ?_ ?_ ?_ ?_
    | ((with_reducible refine Te ?_ ?_); focus (intro h; first | (subst h; rfl) | (simp only [h]; rfl) | (simp [Fz, Ac, h]; done)))
    | with_reducible refine Tk fun x => ?_
    | with_reducible refine Aak (fun _ => ?_) (fun _ => ?_)
    | (refine Gu (fun h => by simp only [h, Ta, Ek, Ej, ite_self]) (fun x h => ?_); (try simp only [h, Ek]))
    | (refine Io (fun h => ?_) (fun h => ?_) <;> simp only [h, if_true, if_false, Bool.false_eq_true])
abbrev R_ := (Int × Int)
noncomputable def H : Hd := ⟨[Sb], [Si, Si], (.seq .d (.cut [0] [] .d (.seq .d (.seq .d (.seq .d (.seq .d (.cut [0, 5, 6, 8] [] (.seq (.mode false) .d) (.seq .d (.cut [0, 5, 6, 8, 9] [] .d .d))))))))), ⟨[(158, F158.c), (159, F159.c), (160, F160.c)], Tryz.gl, false⟩, [], Tryz.f124⟩
def x6 (a : LB) (f g : Int) (b h : LB) (k : Int) : Option R_ := H.e P_ [r,r,r,r,r,r,r,r,r] ⟨[(0, vb a), (5, vi f), (6, vi g), (8, vt (b == h)), (9, vi k)], [], []⟩
def x5 (a : LB) (f g : Int) (b h : LB) : Option R_ := H.e P_ [r,r,r,r,r,r,r] ⟨[(0, vb a), (5, vi f), (6, vi g), (8, vt (b == h))], [], []⟩
def x4 (a : LB) : Option R_ := H.e P_ [r,r] ⟨[(0, vb a)], [], []⟩
theorem e6 : x6 = Oc := by kernel_rfl
theorem e5 : x5 = Ni := Eq.trans (b := Nw x6) (by kernel_rfl) (by simp only [e6] <;> rfl)
theorem e4 : x4 = Wv := Eq.trans (b := Ty x5) (by kernel_rfl) (by rw [Aj4]; simp only [e5] <;> rfl)
noncomputable def F (x : LB) := Vo x
theorem rn (x : LB) : H.u P_ x = F x := Eq.trans (b := Ww x4 x) (by kernel_rfl) (by simp only [e4] <;> rfl)
noncomputable def c : Con := ⟨H.p, H.r, F⟩
theorem ok : ConOk P_ Tryz.gl 124 c := Tryz.co H Tryz.func124 (.cons F158.ok (.cons F159.ok (.cons F160.ok .nil))) (by kernel_rfl) rn
end F124
namespace F72
abbrev R_ := (Int × Int)
noncomputable def H : Hd := ⟨[Sb], [Si, Si], (.seq .d (.seq .d (.seq .d (.cut [4] [] (.blk (.loop [0, 4] [] .d)) .d)))), ⟨[(124, F124.c)], Tryz.gl, false⟩, [], Tryz.f72⟩
def t4 (b : LB) (a : Int) : S := ⟨[(0, vb b), (4, vi a)], [], []⟩
def z4 : Nat → S → Option R_ := H.i P_ [r,r,r,l,d]
def x6 (a : Int) : Option R_ := H.e P_ [r,r,r,r] ⟨[(4, vi a)], [], []⟩
def x4 (b : LB) (a : Int) : Option R_ := H.e P_ [r,r,r,l,d] (t4 b a)
theorem e6 : x6 = Ab2 := by kernel_rfl
theorem i4 : ∀ (q : Nat) (b : LB) (a : Int), z4 q (t4 b a) = Hp q b a :=
 ind (fun _ _ => by kernel_rfl) fun q ih b a => Eq.trans (b := Rm x6 (fun b a => (z4 q) (t4 b a)) b a) (by kernel_rfl) (by simp only [e6, ih] <;> rfl)
theorem e4 : x4 = Ace := by funext b a; exact Eq.trans (by kernel_rfl) ((i4 Bn b a).trans (by rw [Al]; rfl))
noncomputable def F (x : LB) := Qd x
theorem rn (x : LB) : H.u P_ x = F x := Eq.trans (b := Th x4 x) (by kernel_rfl) (by simp only [e4] <;> rfl)
noncomputable def c : Con := ⟨H.p, H.r, F⟩
theorem ok : ConOk P_ Tryz.gl 72 c := Tryz.co H Tryz.func72 (.cons F124.ok .nil) (by kernel_rfl) rn
end F72
namespace F42
abbrev R_ := (Int × Int × Int × LX × Int)
abbrev K_ := S → Option R_
noncomputable def H : Hd := ⟨[Sb, Ss], [.agg [Si, Si, Si, Ow 21], Si], (.seq .d (.seq .d (.seq .d (.seq .d (.seq .d (.seq .d (.seq .d (.seq .d (.seq .d (.seq .d (.seq .d (.seq .d (.cut [0, 4, 6, 13] [] (.seq .d (.blk (.loop [0, 4, 6, 7, 9, 10, 11, 13, 14] [⟨13, [3], .own 21 (.int .i32)⟩] (.seq .d (.seq (.blk (.seq .d (.cut [0, 4, 6, 7, 9, 10, 11, 13, 14, 15, 16] [] .d .d))) .d))))) .d))))))))))))), ⟨[(37, F37.c), (65, F65.c), (66, F66.c), (72, F72.c), (80, F80.c), (81, F81.c), (82, F82.c)], Tryz.gl, false⟩, [], Tryz.f42⟩
def t7 (a : LB) (o b f g k : Int) (h p : LI) (u : LX) (n m : Int) (v : LX) : S := ⟨[(0, vb a), (4, .ptr 0 []), (6, vi n), (7, .ptr 1 []), (9, .own 2), (10, .own 3), (11, .ptr 4 []), (13, .ptr 5 []), (14, vi m)], [.box 49 (.agg [vi 0, vi 0, vi 0, .nils]), .box 25 (.agg [vi o, vi b, vi f, vi g, vi k]), Ai 3 h, Ai 3 p, .box 109 (.val (.vec 16 (.int .i32)) u), .box 49 (.agg [vi b, vi f, vi g, .own 6]), Aw 21 v], []⟩
def z7 : Nat → S → Option R_ := H.i P_ [r,r,r,r,r,r,r,r,r,r,r,r,l,r,d]
def x12 (a : LB) (n b f g : Int) (v : LX) : Option R_ := H.e P_ [r,r,r,r,r,r,r,r,r,r,r,r,r] ⟨[(0, vb a), (4, .ptr 0 []), (6, vi n), (13, .ptr 1 [])], [.box 49 (.agg [vi 0, vi 0, vi 0, .nils]), .box 49 (.agg [vi b, vi f, vi g, .own 2]), Aw 21 v], []⟩
def x10 (kn7 : K_) (a : LB) (o b f g k : Int) (h p : LI) (u : LX) (n m : Int) (y : LX) (w : Int) (v : LX) : Option R_ := H.e P_ [r,r,r,r,r,r,r,r,r,r,r,r,l,r,d,(lp kn7),r,l,d,r,r] ⟨[(0, vb a), (4, .ptr 0 []), (6, vi n), (7, .ptr 1 []), (9, .own 2), (10, .own 3), (11, .ptr 4 []), (13, .ptr 5 []), (14, vi m), (15, vw y), (16, vi w)], [.box 49 (.agg [vi 0, vi 0, vi 0, .nils]), .box 25 (.agg [vi o, vi b, vi f, vi g, vi k]), Ai 3 h, Ai 3 p, .box 109 (.val (.vec 16 (.int .i32)) u), .box 49 (.agg [vi b, vi f, vi g, .own 6]), Aw 21 v], []⟩
def x7 (a : LB) (o b f g k : Int) (h p : LI) (u : LX) (n m : Int) (v : LX) : Option R_ := H.e P_ [r,r,r,r,r,r,r,r,r,r,r,r,l,r,d] (t7 a o b f g k h p u n m v)
theorem e12 : x12 = Uw := by kernel_rfl
theorem e10 (kn7 : K_) (a : LB) (o b f g k : Int) (h p : LI) (u : LX) : x10 kn7 a o b f g k h p u = Ub (fun n m v => kn7 (t7 a o b f g k h p u n m v)) a o b f g k h p u := by kernel_rfl
theorem i7 (a : LB) (o b f g k : Int) (h p : LI) (u : LX) : ∀ (q : Nat) (n m : Int) (v : LX), z7 q (t7 a o b f g k h p u n m v) = Hb a o b f g k h p u q n m v :=
 ind (fun _ _ _ => by kernel_rfl) fun q ih n m v => Eq.trans (b := Nx (x10 (z7 q) a o b f g k h p u) x12 a o b f g k h p u n m v) (by kernel_rfl) (by simp only [e10, e12, ih] <;> rfl)
theorem e7 : x7 = Wy := by funext a o b f g k h p u n m v; exact Eq.trans (by kernel_rfl) ((i7 a o b f g k h p u Bn n m v).trans (by rw [Al]; rfl))
noncomputable def F (x : LB × LB) := Dp x.1 x.2
theorem rn (x : LB × LB) : H.u P_ x = F x := Eq.trans (b := Nl x7 x.1 x.2) (by kernel_rfl) (by simp only [e7] <;> rfl)
noncomputable def c : Con := ⟨H.p, H.r, F⟩
theorem ok : ConOk P_ Tryz.gl 42 c := Tryz.co H Tryz.func42 (.cons F37.ok (.cons F65.ok (.cons F66.ok (.cons F72.ok (.cons F80.ok (.cons F81.ok (.cons F82.ok .nil))))))) (by kernel_rfl) rn
end F42
namespace F28
abbrev R_ := (Int × Int × Int × Int × Int × Int × LI × Int)
noncomputable def H : Hd := ⟨[Sb, Ss], [.agg [.agg [Si, Si, Si, Si, Si], Si, Ol 3], Si], (.seq .d (.seq .d (.seq .d (.seq .d (.seq .d (.seq .d (.seq .d (.seq .d (.cut [0, 4, 6, 8] [] .d (.cut [4, 6, 7, 8, 9] [] .d .d)))))))))), ⟨[(37, F37.c), (55, F55.c), (56, F56.c), (57, F57.c), (58, F58.c)], Tryz.gl, false⟩, [], Tryz.f28⟩
def x4 (m n b h k f g : Int) (o : LI) : Option R_ := H.e P_ [r,r,r,r,r,r,r,r,r,r] ⟨[(4, .ptr 0 []), (6, vi m), (7, vi n), (8, .ptr 1 []), (9, .own 2)], [.box 28 (.agg [.agg [vi 0, vi 0, vi 0, vi 0, vi 0], vi 0, .nils]), .box 25 (.agg [vi b, vi h, vi k, vi f, vi g]), Ai 3 o], []⟩
def x3 (a : LB) (b h k f g m : Int) : Option R_ := H.e P_ [r,r,r,r,r,r,r,r,r] ⟨[(0, vb a), (4, .ptr 0 []), (6, vi m), (8, .ptr 1 [])], [.box 28 (.agg [.agg [vi 0, vi 0, vi 0, vi 0, vi 0], vi 0, .nils]), .box 25 (.agg [vi b, vi h, vi k, vi f, vi g])], []⟩
theorem e4 : x4 = Sm := by kernel_rfl
theorem e3 : x3 = Hr := Eq.trans (b := Sa x4) (by kernel_rfl) (by simp only [e4] <;> rfl)
noncomputable def F (x : LB × LB) := cadenzaref40_Opened x.1 x.2
theorem rn (x : LB × LB) : H.u P_ x = F x := Eq.trans (b := Kz x3 x.1 x.2) (by kernel_rfl) (by simp only [e3] <;> rfl)
noncomputable def c : Con := ⟨H.p, H.r, F⟩
theorem ok : ConOk P_ Tryz.gl 28 c := Tryz.co H Tryz.func28 (.cons F37.ok (.cons F55.ok (.cons F56.ok (.cons F57.ok (.cons F58.ok .nil))))) (by kernel_rfl) rn
end F28
namespace F9
noncomputable def H : Hd := ⟨[Sb, Ss], [.agg [.agg [Si, Si, Si, Si, Si], Si, Ol 3], Si], .d, ⟨[(28, F28.c)], Tryz.gl, false⟩, [], Tryz.f9⟩
noncomputable def F (x : LB × LB) := Hk x.1 x.2
theorem rn (x : LB × LB) : H.u P_ x = F x := by kernel_rfl
noncomputable def c : Con := ⟨H.p, H.r, F⟩
theorem ok : ConOk P_ Tryz.gl 9 c := Tryz.co H Tryz.func9 (.cons F28.ok .nil) (by kernel_rfl) rn
end F9
namespace F64
abbrev R_ := Int
noncomputable def H : Hd := ⟨[.agg [.agg [Si, Si, Si, Si, Si], Si, Sl], Si], [Si], (.seq .d (.seq .d (.cut [5] [] (.seq .d (.blk (.loop [1, 2, 5, 6] [] .d))) .d))), ⟨[], Tryz.gl, false⟩, [], Tryz.f64⟩
def t4 (b h k m n o f : Int) (g : LI) (a p : Int) : S := ⟨[(1, vi b), (2, .ptr 0 []), (5, vi a), (6, vi p)], [.box 28 (.agg [.agg [vi h, vi k, vi m, vi n, vi o], vi f, vl g])], []⟩
def z4 : Nat → S → Option R_ := H.i P_ [r,r,l,r,d]
def x6 (a : Int) : Option R_ := H.e P_ [r,r,r] ⟨[(5, vi a)], [], []⟩
def x4 (b h k m n o f : Int) (g : LI) (a p : Int) : Option R_ := H.e P_ [r,r,l,r,d] (t4 b h k m n o f g a p)
theorem e6 : x6 = Ado := by kernel_rfl
theorem i4 (b h k m n o f : Int) (g : LI) : ∀ (q : Nat) (a p : Int), z4 q (t4 b h k m n o f g a p) = Ga b h k m n o f g q a p :=
 ind (fun _ _ => by kernel_rfl) fun q ih a p => Eq.trans (b := Mo x6 (fun a p => (z4 q) (t4 b h k m n o f g a p)) b h k m n o f g a p) (by kernel_rfl) (by simp only [e6, ih] <;> rfl)
theorem e4 : x4 = Adr := by funext b h k m n o f g a p; exact Eq.trans (by kernel_rfl) ((i4 b h k m n o f g Bn a p).trans (by rw [Al]; rfl))
noncomputable def F (x : Int × Int × Int × Int × Int × Int × LI × Int) := Ti x.1 x.2.1 x.2.2.1 x.2.2.2.1 x.2.2.2.2.1 x.2.2.2.2.2.1 x.2.2.2.2.2.2.1 x.2.2.2.2.2.2.2
theorem rn (x : Int × Int × Int × Int × Int × Int × LI × Int) : H.u P_ x = F x := Eq.trans (b := Adt x4 x.1 x.2.1 x.2.2.1 x.2.2.2.1 x.2.2.2.2.1 x.2.2.2.2.2.1 x.2.2.2.2.2.2.1 x.2.2.2.2.2.2.2) (by kernel_rfl) (by simp only [e4] <;> rfl)
noncomputable def c : Con := ⟨H.p, H.r, F⟩
theorem ok : ConOk P_ Tryz.gl 64 c := Tryz.co H Tryz.func64 .nil (by kernel_rfl) rn
end F64
namespace F118
abbrev R_ := LB
noncomputable def H : Hd := ⟨[Si, Sx], [Ob 5], (.seq .d (.seq .d (.seq .d (.cut [0, 5] [] .d .d)))), ⟨[(120, F120.c)], Tryz.gl, false⟩, [], Tryz.f118⟩
def x2 (a b : Int) : Option R_ := H.e P_ [r,r,r,r] ⟨[(0, vi a), (5, vi b)], [], []⟩
theorem e2 : x2 = Ht := by kernel_rfl
noncomputable def F (x : Int × Int32) := Xq x.1 x.2
theorem rn (x : Int × Int32) : H.u P_ x = F x := Eq.trans (b := Yd x2 x.1 x.2) (by kernel_rfl) (by simp only [e2] <;> rfl)
noncomputable def c : Con := ⟨H.p, H.r, F⟩
theorem ok : ConOk P_ Tryz.gl 118 c := Tryz.co H Tryz.func118 (.cons F120.ok .nil) (by kernel_rfl) rn
end F118
namespace F67
abbrev R_ := (LB × Int)
noncomputable def H : Hd := ⟨[Si, Sw], [Ob 5, Si], (.seq .d (.seq .d (.seq .d (.cut [6] [] (.seq .d (.blk (.loop [0, 1, 6, 7] [⟨6, [], .own 5 (.int .u8)⟩] .d))) .d)))), ⟨[(117, F117.c), (118, F118.c)], Tryz.gl, false⟩, [], Tryz.f67⟩
def t4 (f : Int) (a : LX) (g : Int) (b : LB) : S := ⟨[(0, vi f), (1, vw a), (6, .own 0), (7, vi g)], [Ab 5 b], []⟩
def z4 : Nat → S → Option R_ := H.i P_ [r,r,r,l,r,d]
def x6 (b : LB) : Option R_ := H.e P_ [r,r,r,r] ⟨[(6, .own 0)], [Ab 5 b], []⟩
def x4 (f : Int) (a : LX) (g : Int) (b : LB) : Option R_ := H.e P_ [r,r,r,l,r,d] (t4 f a g b)
theorem e6 : x6 = Adg := by kernel_rfl
theorem i4 (f : Int) (a : LX) : ∀ (q : Nat) (g : Int) (b : LB), z4 q (t4 f a g b) = Gd f a q g b :=
 ind (fun _ _ => by kernel_rfl) fun q ih g b => Eq.trans (b := Mn x6 (fun g b => (z4 q) (t4 f a g b)) f a g b) (by kernel_rfl) (by simp only [e6, ih] <;> rfl)
theorem e4 : x4 = Adh := by funext f a g b; exact Eq.trans (by kernel_rfl) ((i4 f a Bn g b).trans (by rw [Al]; rfl))
noncomputable def F (x : Int × LX) := So x.1 x.2
theorem rn (x : Int × LX) : H.u P_ x = F x := Eq.trans (b := Us x4 x.1 x.2) (by kernel_rfl) (by simp only [e4] <;> rfl)
noncomputable def c : Con := ⟨H.p, H.r, F⟩
theorem ok : ConOk P_ Tryz.gl 67 c := Tryz.co H Tryz.func67 (.cons F117.ok (.cons F118.ok .nil)) (by kernel_rfl) rn
end F67
namespace F30
def Wb (j2 : LX → Int → Int → Int → Int → Int → Int → Int → LI → Option (LB × Int)) (v y : LB) (n g b h k o : Int) (a : LI) (f : Int) : Option (LB × Int) :=
(Ti n g b h k o a f).bind fun u =>
(getI a f).bind fun aa =>
if (Dh (Am (Ac v) u) aa) then
some (([] : LB), 24)
else
(Hq y).bind fun (ab, ag) =>
(getI a f).bind fun ac =>
(Ce v u (Ae u ac)).bind fun ad =>
bo (
(Cn h k).bind fun w =>
(getI w f).bind fun _ =>
(getI w f).bind fun ae =>
(cadenzaref21_Decode g b ab ae ad).bind fun (p, m) =>
j2 p m n g b h k o a)
theorem Alr : @Wb = @Km := by
  unfold Wb Km
  simp only [Bjk, Bcr, Bcn]
abbrev R_ := (LB × Int)
noncomputable def H : Hd := ⟨[Sb, Ss, .agg [.agg [Si, Si, Si, Si, Si], Si, Sl], Si], [Ob 5, Si], (.seq .d (.seq .d (.seq .d (.seq .d (.cut [6, 13, 14] [] .d .d))))), ⟨[(37, F37.c), (64, F64.c), (65, F65.c), (66, F66.c), (67, F67.c)], Tryz.gl, false⟩, [], Tryz.f30⟩
def x2 (p : LX) (m n g b h k o : Int) (a : LI) : Option R_ := H.e P_ [r,r,r,r,r] ⟨[(6, .ptr 0 []), (13, vw p), (14, vi m)], [.box 28 (.agg [.agg [vi n, vi g, vi b, vi h, vi k], vi o, vl a])], []⟩
theorem e2 : x2 = Pu := by kernel_rfl
noncomputable def F (x : LB × LB × Int × Int × Int × Int × Int × Int × LI × Int) := cadenzaref40_Got x.1 x.2.1 x.2.2.1 x.2.2.2.1 x.2.2.2.2.1 x.2.2.2.2.2.1 x.2.2.2.2.2.2.1 x.2.2.2.2.2.2.2.1 x.2.2.2.2.2.2.2.2.1 x.2.2.2.2.2.2.2.2.2
theorem rn (x : LB × LB × Int × Int × Int × Int × Int × Int × LI × Int) : H.u P_ x = F x := Eq.trans (b := Wb x2 x.1 x.2.1 x.2.2.1 x.2.2.2.1 x.2.2.2.2.1 x.2.2.2.2.2.1 x.2.2.2.2.2.2.1 x.2.2.2.2.2.2.2.1 x.2.2.2.2.2.2.2.2.1 x.2.2.2.2.2.2.2.2.2) (by kernel_rfl) (by rw [Alr]; simp only [e2] <;> rfl)
noncomputable def c : Con := ⟨H.p, H.r, F⟩
theorem ok : ConOk P_ Tryz.gl 30 c := Tryz.co H Tryz.func30 (.cons F37.ok (.cons F64.ok (.cons F65.ok (.cons F66.ok (.cons F67.ok .nil))))) (by kernel_rfl) rn
end F30
namespace F69
abbrev R_ := (LX × Int)
abbrev K_ := S → Option R_
noncomputable def H : Hd := ⟨[Si, Sb], [Ow 21, Si], (.seq .d (.seq .d (.seq .d (.seq .d (.seq .d (.seq .d (.seq .d (.cut [8] [] (.seq .d (.blk (.loop [0, 1, 6, 7, 8, 9] [⟨8, [], .own 21 (.int .i32)⟩] (.seq .d (.cut [0, 1, 6, 7, 8, 9] [] (.blk (.seq .d (.cut [0, 1, 6, 7, 8, 9, 10] [] (.seq .d (.blk (.loop [0, 1, 6, 7, 8, 9, 10, 11] [] .d))) .d))) .d))))) .d)))))))), ⟨[(120, F120.c)], Tryz.gl, false⟩, [], Tryz.f69⟩
def t25 (a : Int) (b : LB) (f g : Int) (h : LX) (k m : Int) : S := ⟨[(0, vi a), (1, vb b), (6, vi f), (7, vi (Bs a (8 : Int))), (8, .own 0), (9, vi g), (10, vi k), (11, vi m)], [Aw 21 h], []⟩
def z25 (kn16 : K_) : Nat → S → Option R_ := H.i P_ [r,r,r,r,r,r,r,l,r,d,(lp kn16),r,l,d,r,l,r,d]
def t16 (a : Int) (b : LB) (f g : Int) (h : LX) : S := ⟨[(0, vi a), (1, vb b), (6, vi f), (7, vi (Bs a (8 : Int))), (8, .own 0), (9, vi g)], [Aw 21 h], []⟩
def z16 : Nat → S → Option R_ := H.i P_ [r,r,r,r,r,r,r,l,r,d]
def x30 (h : LX) : Option R_ := H.e P_ [r,r,r,r,r,r,r,r] ⟨[(8, .own 0)], [Aw 21 h], []⟩
def x28 (kn16 : K_) (a : Int) (b : LB) (f g : Int) (n : LX) : Option R_ := H.e P_ [r,r,r,r,r,r,r,l,r,d,(lp kn16),r,r] ⟨[(0, vi a), (1, vb b), (6, vi f), (7, vi (Bs a (8 : Int))), (8, .own 0), (9, vi g)], [Aw 21 n], []⟩
def x27 (kn16 : K_) (a : Int) (b : LB) (f g k : Int) (h : LX) : Option R_ := H.e P_ [r,r,r,r,r,r,r,l,r,d,(lp kn16),r,l,d,r,r] ⟨[(0, vi a), (1, vb b), (6, vi f), (7, vi (Bs a (8 : Int))), (8, .own 0), (9, vi g), (10, vi k)], [Aw 21 h], []⟩
def x25 (kn16 : K_) (a : Int) (b : LB) (f g : Int) (h : LX) (k m : Int) : Option R_ := H.e P_ [r,r,r,r,r,r,r,l,r,d,(lp kn16),r,l,d,r,l,r,d] (t25 a b f g h k m)
def x16 (a : Int) (b : LB) (f g : Int) (h : LX) : Option R_ := H.e P_ [r,r,r,r,r,r,r,l,r,d] (t16 a b f g h)
theorem e30 : x30 = Yu := by kernel_rfl
theorem e28 (kn16 : K_) (a : Int) (b : LB) (f : Int) : x28 kn16 a b f = Iw (fun g h => kn16 (t16 a b f g h)) a b f := by kernel_rfl
theorem e27 (kn16 : K_) (a : Int) (b : LB) (f : Int) : x27 kn16 a b f = Gl (fun g h => kn16 (t16 a b f g h)) a b f := Eq.trans (b := Pg (x28 kn16 a b f) a b f) (by kernel_rfl) (by simp only [e28] <;> rfl)
theorem i25 (kn16 : K_) (a : Int) (b : LB) (f g : Int) (h : LX) : ∀ (q : Nat) (k m : Int), z25 kn16 q (t25 a b f g h k m) = Cy (fun g h => kn16 (t16 a b f g h)) a b f g h q k m :=
 ind (fun _ _ => by kernel_rfl) fun q ih k m => Eq.trans (b := Iz (x27 kn16 a b f) (fun k m => (z25 kn16 q) (t25 a b f g h k m)) a b f g h k m) (by kernel_rfl) (by simp only [e27, ih] <;> rfl)
theorem e25 (kn16 : K_) (a : Int) (b : LB) (f : Int) : x25 kn16 a b f = Pk (fun g h => kn16 (t16 a b f g h)) a b f := by funext g h k m; exact Eq.trans (by kernel_rfl) ((i25 kn16 a b f g h Bn k m).trans (by rw [Al]; rfl))
theorem i16 (a : Int) (b : LB) (f : Int) : ∀ (q : Nat) (g : Int) (h : LX), z16 q (t16 a b f g h) = Cb a b f q g h :=
 ind (fun _ _ => by kernel_rfl) fun q ih g h => Eq.trans (b := Ix (x25 (z16 q) a b f) x30 a b f g h) (by kernel_rfl) (by simp only [e25, e30, ih] <;> rfl)
theorem e16 : x16 = Oo := by funext a b f g h; exact Eq.trans (by kernel_rfl) ((i16 a b f Bn g h).trans (by rw [Al]; rfl))
noncomputable def F (x : Int × LB) := Jg x.1 x.2
theorem rn (x : Int × LB) : H.u P_ x = F x := Eq.trans (b := Qk x16 x.1 x.2) (by kernel_rfl) (by simp only [e16] <;> rfl)
noncomputable def c : Con := ⟨H.p, H.r, F⟩
theorem ok : ConOk P_ Tryz.gl 69 c := Tryz.co H Tryz.func69 (.cons F120.ok .nil) (by kernel_rfl) rn
end F69
namespace F33
abbrev R_ := ((List LX) × LI)
noncomputable def H : Hd := ⟨[Sb, Ss, .agg [.agg [Si, Si, Si, Si, Si], Si, Sl]], [.lf (.list (.list (.int .i32))) (some 47), Ol 3], (.seq .d (.seq .d (.seq .d (.cut [8, 9] [] (.seq .d (.blk (.loop [0, 1, 5, 8, 9, 10] [⟨8, [], .own 47 (.list (.int .i32))⟩, ⟨9, [], .own 3 (.int .i64)⟩] .d))) .d)))), ⟨[(30, F30.c), (69, F69.c)], Tryz.gl, false⟩, [], Tryz.f33⟩
def t4 (k m : LB) (n o f p u v : Int) (g : LI) (h : Int) (a : List LX) (b : LI) : S := ⟨[(0, vb k), (1, vs m), (5, .ptr 0 []), (8, .own 1), (9, .own 2), (10, vi h)], [.box 28 (.agg [.agg [vi n, vi o, vi f, vi p, vi u], vi v, vl g]), .arr 47 (.list (.int .i32)) a, Ai 3 b], []⟩
def z4 : Nat → S → Option R_ := H.i P_ [r,r,r,l,r,d]
def x6 (a : List LX) (b : LI) : Option R_ := H.e P_ [r,r,r,r] ⟨[(8, .own 0), (9, .own 1)], [.arr 47 (.list (.int .i32)) a, Ai 3 b], []⟩
def x4 (k m : LB) (n o f p u v : Int) (g : LI) (h : Int) (a : List LX) (b : LI) : Option R_ := H.e P_ [r,r,r,l,r,d] (t4 k m n o f p u v g h a b)
theorem e6 : x6 = Abp := by kernel_rfl
theorem i4 (k m : LB) (n o f p u v : Int) (g : LI) : ∀ (q : Nat) (h : Int) (a : List LX) (b : LI), z4 q (t4 k m n o f p u v g h a b) = Fs k m n o f p u v g q h a b :=
 ind (fun _ _ _ => by kernel_rfl) fun q ih h a b => Eq.trans (b := Kv x6 (fun h a b => (z4 q) (t4 k m n o f p u v g h a b)) k m n o f p u v g h a b) (by kernel_rfl) (by simp only [e6, ih] <;> rfl)
theorem e4 : x4 = Acb := by funext k m n o f p u v g h a b; exact Eq.trans (by kernel_rfl) ((i4 k m n o f p u v g Bn h a b).trans (by rw [Al]; rfl))
noncomputable def F (x : LB × LB × Int × Int × Int × Int × Int × Int × LI) := Yi x.1 x.2.1 x.2.2.1 x.2.2.2.1 x.2.2.2.2.1 x.2.2.2.2.2.1 x.2.2.2.2.2.2.1 x.2.2.2.2.2.2.2.1 x.2.2.2.2.2.2.2.2
theorem rn (x : LB × LB × Int × Int × Int × Int × Int × Int × LI) : H.u P_ x = F x := Eq.trans (b := Acq x4 x.1 x.2.1 x.2.2.1 x.2.2.2.1 x.2.2.2.2.1 x.2.2.2.2.2.1 x.2.2.2.2.2.2.1 x.2.2.2.2.2.2.2.1 x.2.2.2.2.2.2.2.2) (by kernel_rfl) (by simp only [e4] <;> rfl)
noncomputable def c : Con := ⟨H.p, H.r, F⟩
theorem ok : ConOk P_ Tryz.gl 33 c := Tryz.co H Tryz.func33 (.cons F30.ok (.cons F69.ok .nil)) (by kernel_rfl) rn
end F33
namespace F21
abbrev R_ := (Int × Int × Int × LX × LI × Int)
abbrev K_ := S → Option R_
noncomputable def H : Hd := ⟨[Sb, Ss, Si], [.agg [Si, Si, Si, Ow 21], Ol 3, Si], (.seq .d (.seq .d (.seq .d (.seq .d (.seq .d (.seq .d (.seq .d (.seq .d (.seq .d (.cut [6, 14, 16] [] (.seq .d (.blk (.loop [2, 6, 11, 13, 14, 15, 16, 17] [⟨16, [3], .own 21 (.int .i32)⟩] (.seq .d (.seq (.blk (.cut [2, 6, 11, 13, 14, 15, 16, 17] [] .d .d)) .d))))) .d)))))))))), ⟨[(9, F9.c), (33, F33.c), (37, F37.c), (42, F42.c)], Tryz.gl, false⟩, [], Tryz.f21⟩
def t7 (h o a f b m p : Int) (u g n : LI) (k : Int) (w : List LX) (v : LX) : S := ⟨[(2, vi h), (6, .ptr 0 []), (11, .ptr 1 []), (13, .own 2), (14, .own 3), (15, .own 4), (16, .ptr 5 []), (17, vi k)], [.box 49 (.agg [vi 0, vi 0, vi 0, .nils]), .box 28 (.agg [.agg [vi o, vi a, vi f, vi b, vi m], vi p, vl u]), .arr 47 (.list (.int .i32)) w, Ai 3 g, Ai 3 n, .box 49 (.agg [vi a, vi f, vi b, .own 6]), Aw 21 v], []⟩
def z7 : Nat → S → Option R_ := H.i P_ [r,r,r,r,r,r,r,r,r,l,r,d]
def x12 (g : LI) (a f b : Int) (v : LX) : Option R_ := H.e P_ [r,r,r,r,r,r,r,r,r,r] ⟨[(6, .ptr 0 []), (14, .own 1), (16, .ptr 2 [])], [.box 49 (.agg [vi 0, vi 0, vi 0, .nils]), Ai 3 g, .box 49 (.agg [vi a, vi f, vi b, .own 3]), Aw 21 v], []⟩
def x10 (kn7 : K_) (h o a f b m p : Int) (u g n : LI) (k : Int) (v : LX) (y : List LX) : Option R_ := H.e P_ [r,r,r,r,r,r,r,r,r,l,r,d,(lp kn7),r,l,d,r] ⟨[(2, vi h), (6, .ptr 0 []), (11, .ptr 1 []), (13, .own 2), (14, .own 3), (15, .own 4), (16, .ptr 5 []), (17, vi k)], [.box 49 (.agg [vi 0, vi 0, vi 0, .nils]), .box 28 (.agg [.agg [vi o, vi a, vi f, vi b, vi m], vi p, vl u]), .arr 47 (.list (.int .i32)) y, Ai 3 g, Ai 3 n, .box 49 (.agg [vi a, vi f, vi b, .own 6]), Aw 21 v], []⟩
def x7 (h o a f b m p : Int) (u g n : LI) (k : Int) (w : List LX) (v : LX) : Option R_ := H.e P_ [r,r,r,r,r,r,r,r,r,l,r,d] (t7 h o a f b m p u g n k w v)
theorem e12 : x12 = Aaw := by kernel_rfl
theorem e10 (kn7 : K_) (h o a f b m p : Int) (u g n : LI) : x10 kn7 h o a f b m p u g n = Ju (fun k w v => kn7 (t7 h o a f b m p u g n k w v)) h o a f b m p u g n := by kernel_rfl
theorem i7 (h o a f b m p : Int) (u g n : LI) : ∀ (q : Nat) (k : Int) (w : List LX) (v : LX), z7 q (t7 h o a f b m p u g n k w v) = Eh h o a f b m p u g n q k w v :=
 ind (fun _ _ _ => by kernel_rfl) fun q ih k w v => Eq.trans (b := Kr (x10 (z7 q) h o a f b m p u g n) x12 h o a f b m p u g n k w v) (by kernel_rfl) (by simp only [e10, e12, ih] <;> rfl)
theorem e7 : x7 = Ab6 := by funext h o a f b m p u g n k w v; exact Eq.trans (by kernel_rfl) ((i7 h o a f b m p u g n Bn k w v).trans (by rw [Al]; rfl))
noncomputable def F (x : LB × LB × Int) := De x.1 x.2.1 x.2.2
theorem rn (x : LB × LB × Int) : H.u P_ x = F x := Eq.trans (b := Fq x7 x.1 x.2.1 x.2.2) (by kernel_rfl) (by simp only [e7] <;> rfl)
noncomputable def c : Con := ⟨H.p, H.r, F⟩
theorem ok : ConOk P_ Tryz.gl 21 c := Tryz.co H Tryz.func21 (.cons F9.ok (.cons F33.ok (.cons F37.ok (.cons F42.ok .nil)))) (by kernel_rfl) rn
end F21
namespace F43
abbrev R_ := Bool
noncomputable def H : Hd := ⟨[Sw, Sw], [Sz], (.seq .d (.seq .d (.cut [] [] (.seq .d (.blk (.loop [0, 1, 5] [] .d))) .d))), ⟨[], Tryz.gl, false⟩, [], Tryz.f43⟩
def t4 (a b : LX) (f : Int) : S := ⟨[(0, vw a), (1, vw b), (5, vi f)], [], []⟩
def z4 : Nat → S → Option R_ := H.i P_ [r,r,l,r,d]
def x6 : Option R_ := H.e P_ [r,r,r] ⟨[], [], []⟩
def x4 (a b : LX) (f : Int) : Option R_ := H.e P_ [r,r,l,r,d] (t4 a b f)
theorem e6 : x6 = Af2 := by kernel_rfl
theorem i4 (a b : LX) : ∀ (q : Nat) (f : Int), z4 q (t4 a b f) = Gy a b q f :=
 ind (fun _ => by kernel_rfl) fun q ih f => Eq.trans (b := Nv x6 (fun f => (z4 q) (t4 a b f)) a b f) (by kernel_rfl) (by simp only [e6, ih] <;> rfl)
theorem e4 : x4 = Afk := by funext a b f; exact Eq.trans (by kernel_rfl) ((i4 a b Bn f).trans (by rw [Al]; rfl))
noncomputable def F (x : LX × LX) := Vq x.1 x.2
theorem rn (x : LX × LX) : H.u P_ x = F x := Eq.trans (b := Wg x4 x.1 x.2) (by kernel_rfl) (by simp only [e4] <;> rfl)
noncomputable def c : Con := ⟨H.p, H.r, F⟩
theorem ok : ConOk P_ Tryz.gl 43 c := Tryz.co H Tryz.func43 .nil (by kernel_rfl) rn
end F43
namespace F22
noncomputable def H : Hd := ⟨[.agg [Si, Si, Si, Sw], .agg [Si, Si, Si, Sw]], [Sz], .d, ⟨[(43, F43.c)], Tryz.gl, false⟩, [], Tryz.f22⟩
noncomputable def F (x : Int × Int × Int × LX × Int × Int × Int × LX) := Vb x.1 x.2.1 x.2.2.1 x.2.2.2.1 x.2.2.2.2.1 x.2.2.2.2.2.1 x.2.2.2.2.2.2.1 x.2.2.2.2.2.2.2
theorem rn (x : Int × Int × Int × LX × Int × Int × Int × LX) : H.u P_ x = F x := by kernel_rfl
noncomputable def c : Con := ⟨H.p, H.r, F⟩
theorem ok : ConOk P_ Tryz.gl 22 c := Tryz.co H Tryz.func22 (.cons F43.ok .nil) (by kernel_rfl) rn
end F22
namespace F15
abbrev R_ := Bool
noncomputable def H : Hd := ⟨[Sl, Sl], [Sz], (.seq .d (.seq .d (.cut [] [] (.seq .d (.blk (.loop [0, 1, 5] [] .d))) .d))), ⟨[], Tryz.gl, false⟩, [], Tryz.f15⟩
def t4 (a b : LI) (f : Int) : S := ⟨[(0, vl a), (1, vl b), (5, vi f)], [], []⟩
def z4 : Nat → S → Option R_ := H.i P_ [r,r,l,r,d]
def x6 : Option R_ := H.e P_ [r,r,r] ⟨[], [], []⟩
def x4 (a b : LI) (f : Int) : Option R_ := H.e P_ [r,r,l,r,d] (t4 a b f)
theorem e6 : x6 = Zd := by kernel_rfl
theorem i4 (a b : LI) : ∀ (q : Nat) (f : Int), z4 q (t4 a b f) = Ep a b q f :=
 ind (fun _ => by kernel_rfl) fun q ih f => Eq.trans (b := Jc x6 (fun f => (z4 q) (t4 a b f)) a b f) (by kernel_rfl) (by simp only [e6, ih] <;> rfl)
theorem e4 : x4 = Yr := by funext a b f; exact Eq.trans (by kernel_rfl) ((i4 a b Bn f).trans (by rw [Al]; rfl))
noncomputable def F (x : LI × LI) := Mk x.1 x.2
theorem rn (x : LI × LI) : H.u P_ x = F x := Eq.trans (b := Oy x4 x.1 x.2) (by kernel_rfl) (by simp only [e4] <;> rfl)
noncomputable def c : Con := ⟨H.p, H.r, F⟩
theorem ok : ConOk P_ Tryz.gl 15 c := Tryz.co H Tryz.func15 .nil (by kernel_rfl) rn
end F15
namespace F6
noncomputable def H : Hd := ⟨[Sb, Ss, Si], [Sz], .d, ⟨[(7, F7.c), (15, F15.c), (20, F20.c), (21, F21.c), (22, F22.c)], Tryz.gl_0_1, false⟩, [], Tryz.f6⟩
noncomputable def F (x : LB × LB × Int) := Lt x.1 x.2.1 x.2.2
theorem rn (x : LB × LB × Int) : H.u P_ x = F x := by kernel_rfl
noncomputable def c : Con := ⟨H.p, H.r, F⟩
theorem ok : ConOk P_ Tryz.gl_0_1 6 c := Tryz.co H Tryz.func6 (.cons (F7.ok.mono (.cons _ (.cons _ .slnil))) (.cons (F15.ok.mono (.cons _ (.cons _ .slnil))) (.cons F20.ok (.cons (F21.ok.mono (.cons _ (.cons _ .slnil))) (.cons (F22.ok.mono (.cons _ (.cons _ .slnil))) .nil))))) (by kernel_rfl) rn
end F6
end
end Go.Proofs.YthchpoekjnapnaaGreatDoor
